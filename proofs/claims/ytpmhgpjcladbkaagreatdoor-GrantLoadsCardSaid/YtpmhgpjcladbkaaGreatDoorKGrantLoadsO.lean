/- What the law 'GrantLoads' uses of this prover's engine, facts and walks. No condition. -/
import Derived.Test.YtpmhgpjcladbkaaGreatDoorKGrantLoadsA
import Derived.Test.YtpmhgpjcladbkaaGreatDoorKGrantLoadsB
import Derived.Test.YtpmhgpjcladbkaaGreatDoorKGrantLoadsE
import Derived.Test.YtpmhgpjcladbkaaGreatDoorKGrantLoadsF
set_option linter.unusedVariables false
set_option maxRecDepth 4000
namespace Go.Proofs.YtpmhgpjcladbkaaGreatDoor
instance undUnsafe : Und Tryz.prog 333 .unsafePointer := ⟨Tryz.underlying333⟩
/-- A builder that holds so many bytes. -/
def BI (b : Nat) (xs : List UInt8) (T : Seg) : Prop := ∃ a vs Tb, T = (b, .cells [a, vs].toArray 291 (0, 0)) :: Tb ∧ (a = .pointer none ∨ a = .pointer (some ⟨b, 0, none⟩)) ∧ OS 5 1 encU vs xs Tb ∧ (xs = [] → vs = .slice none 0 0)
theorem BI.new {b : Nat} : BI b [] [(b, .cells [.pointer none, .slice none 0 0].toArray 291 (0, 0))] := ⟨_, _, [], rfl, .inl rfl, OS.nil, fun _ => rfl⟩
theorem bcheck_spec (b : Nat) (a vs : Value) (R : Rds) (ha : a = .pointer none ∨ a = .pointer (some ⟨b, 0, none⟩)) (iv : One vs) :
    Spec Tryz.prog 298 [.pointer (some ⟨b, 0, none⟩)] R [[(b, .cells [a, vs].toArray 291 (0, 0))]] fun u H' => ∃ T', H' = [T'] ∧ u = .tuple #[] ∧ T' = [(b, .cells [.pointer (some ⟨b, 0, none⟩), vs].toArray 291 (0, 0))] := by
  rcases ha with rfl | rfl
  · skip
    refine Spec.body Tryz.func298 rfl Tryz.results298 Tryz.ntmps298 rfl ?_
    refine .seq (.region ?_)
    refine .q .move ?_
    refine .q (.nilCheck rfl) ?_
    refine .q (.fieldAddr rfl) ?_
    refine .q (.load1 rfl) ?_
    refine .q (.eqNilA rfl rfl) ?_
    refine .nil (seqQ_n ?_)
    refine .condT ?_
    refine .region ?_
    refine .q .move ?_
    refine .q .move ?_
    refine .q (.toUnsafe (b := b) (E := 291) (c := [.pointer none, vs].toArray) (fr := (0, 0)) (by simp) (by simp) (by kernel_rfl) rfl) ?_
    refine .q (.noEscape Tryz.func312 (by kernel_rfl) (by kernel_rfl) (by kernel_rfl) (by kernel_rfl) rfl) ?_
    refine .q (.fromUnsafe (b := b) (E := 291) (n := 2) (c := [.pointer none, vs].toArray) (fr := (0, 0)) (by simp) rfl (by kernel_rfl) (by kernel_rfl) rfl) ?_
    refine .q (.nilCheck rfl) ?_
    refine .q (.fieldAddr rfl) ?_
    refine TriOps.store1 rfl rfl ?_
    refine .nil ?_
    refine retQ_n _ .none (.one [0] _) ?_
    · exact ⟨_, by simp [take]; rfl, rfl, rfl⟩
  · skip
    refine Spec.body Tryz.func298 rfl Tryz.results298 Tryz.ntmps298 rfl ?_
    refine .seq (.region ?_)
    refine .q .move ?_
    refine .q (.nilCheck rfl) ?_
    refine .q (.fieldAddr rfl) ?_
    refine .q (.load1 rfl) ?_
    refine .q (.eqNilA rfl rfl) ?_
    refine .nil (seqQ_n ?_)
    refine .condF ?_
    refine .seq (.region ?_)
    refine .q .move ?_
    refine .q (.nilCheck rfl) ?_
    refine .q (.fieldAddr rfl) ?_
    refine .q (.load1 rfl) ?_
    refine .q .move ?_
    refine .q (.nePtr rfl rfl (by kernel_rfl)) ?_
    refine .nil (seqQ_n ?_)
    refine .condF ?_
    refine .skip ?_
    refine retQ_n _ .none (.one [0] _) ?_
    · exact ⟨_, by simp [take], rfl, rfl⟩
theorem bwrite_spec (b : Nat) (xs : List UInt8) (T : Seg) (c : UInt8) (R : Rds) (h : BI b xs T) (hl : xs.length ≤ 1000000000) :
    Spec Tryz.prog 259 [.pointer (some ⟨b, 0, none⟩), .int .u8 (c.toNat : Int)] R [T] fun u H' => ∃ T', H' = [T'] ∧ BI b (xs ++ [c]) T' := by
  obtain ⟨a, vs, Tb, rfl, ha, hO, hn⟩ := h
  have iv := hO.oneCell
  have ia : One a := ⟨by rcases ha with rfl | rfl <;> rfl⟩
  refine Spec.segs (H' := [[(b, .cells [a, vs].toArray 291 (0, 0))], Tb]) (by simp) ?_
  refine Spec.body Tryz.func259 rfl Tryz.results259 Tryz.ntmps259 rfl ?_
  refine .seq (.region ?_)
  refine .q .assign ?_
  refine .nil (seqQ_n ?_)
  refine .seq (.region ?_)
  refine .q .move ?_
  refine TriOps.callM (bcheck_spec b a vs _ ha iv) (fun u T1 hu => ?_)
  obtain ⟨rfl, rfl⟩ := hu
  refine .nil (seqQ_n ?_)
  refine .seq (.region ?_)
  refine .q .move ?_
  refine .q .move ?_
  refine .q (.nilCheck rfl) ?_
  refine .q (.fieldAddr rfl) ?_
  refine .q (.load1 rfl) ?_
  refine .q .move ?_
  refine TriOps.buildSlice11 (fun b13 => ?_)
  refine TriOps.append hO (RS.lits (xs := [c]) rfl (by simp [encU]) (by simp [encU, oneCell])) (by simp; omega) (fun v5 T5 hO5 => ?_)
  have i5 := hO5.oneCell
  refine .q (.nilCheck rfl) ?_
  refine .q (.fieldAddr rfl) ?_
  refine TriOps.store1 rfl rfl ?_
  refine .nil (seqQ_n ?_)
  refine .seq (.region ?_)
  refine .q .assign ?_
  refine .nil (seqQ_n ?_)
  refine .ret (retQ_r _ (.one (.tmp rfl)) ((HLe.pick [1, 1] _).trans (HLe.ofPerm (H' := [(b, .cells [.pointer (some ⟨b, 0, none⟩), v5].toArray 291 (0, 0)) :: T5]) (by simp [take, dropAt]; exact .refl _))) ?_)
  · exact ⟨_, rfl, _, v5, T5, rfl, .inr rfl, hO5, by simp⟩
theorem bstring_spec (b : Nat) (xs : List UInt8) (T : Seg) (R : Rds) (h : BI b xs T) :
    Spec Tryz.prog 260 [.pointer (some ⟨b, 0, none⟩)] R [T] fun u H' => u = .string ⟨xs.toArray⟩ ∧ H' = [] := by
  obtain ⟨a, vs, Tb, rfl, ha, hO, hn⟩ := h
  have iv := hO.oneCell
  have ia : One a := ⟨by rcases ha with rfl | rfl <;> rfl⟩
  have hle := hO.le
  refine Spec.segs (H' := [[(b, .cells [a, vs].toArray 291 (0, 0))], Tb]) (by simp) ?_
  by_cases h0 : xs = []
  · subst h0
    have hv := hn rfl
    subst hv
    refine Spec.body Tryz.func260 rfl Tryz.results260 Tryz.ntmps260 rfl ?_
    refine .seq (.region ?_)
    refine .q .assign ?_
    refine .nil (seqQ_n ?_)
    refine .seq ?_
    refine .region_all [] mixed ?_
    refine .takeO 0 rfl .move (by kernel_rfl) ?_
    refine .takeO 1 rfl (.nilCheck rfl) (by kernel_rfl) ?_
    refine .takeO 2 rfl (.fieldAddr rfl) (by kernel_rfl) ?_
    refine .takeO 3 rfl (.load1 rfl) (by kernel_rfl) ?_
    refine .takeO 5 rfl .move (by kernel_rfl) ?_
    refine .takeO 6 rfl (.nilCheck rfl) (by kernel_rfl) ?_
    refine .takeO 7 rfl (.fieldAddr rfl) (by kernel_rfl) ?_
    refine .takeO 8 rfl (.load1 rfl) (by kernel_rfl) ?_
    refine .takeO 9 rfl (.lenV rfl) (by kernel_rfl) ?_
    refine RA.step 4 rfl (by kernel_rfl) rfl ?_
    refine .q (.sliceDataN rfl) ?_
    refine .nil (Next.sub ?_)
    refine RA.step 10 rfl (by kernel_rfl) rfl ?_
    refine .q (.unsafeStrN rfl rfl) ?_
    refine .nil (Next.sub ?_)
    refine .takeO 11 rfl .assign (by kernel_rfl) ?_
    refine RA.nil (by kernel_rfl) ?_
    refine seqQ_n ?_
    refine .ret (retQ_r _ (.one (.tmp rfl)) (.none _) ?_)
    · exact ⟨rfl, rfl⟩
  · obtain ⟨hlen, hone, hcase⟩ := hO
    rcases hcase with ⟨_, h9, _⟩ | ⟨bb, off, c, cap, rfl, rfl, hc1, hc2, hc3, hr⟩
    · exact absurd h9 h0
    · have hl0 : 0 < xs.length := List.length_pos_iff.2 h0
      refine Spec.body Tryz.func260 rfl Tryz.results260 Tryz.ntmps260 rfl ?_
      refine .seq (.region ?_)
      refine .q .assign ?_
      refine .nil (seqQ_n ?_)
      refine .seq ?_
      refine .region_all [10] mixed ?_
      refine .takeO 0 rfl .move (by kernel_rfl) ?_
      refine .takeO 1 rfl (.nilCheck rfl) (by kernel_rfl) ?_
      refine .takeO 2 rfl (.fieldAddr rfl) (by kernel_rfl) ?_
      refine .takeO 3 rfl (.load1 rfl) (by kernel_rfl) ?_
      refine .takeO 5 rfl .move (by kernel_rfl) ?_
      refine .takeO 6 rfl (.nilCheck rfl) (by kernel_rfl) ?_
      refine .takeO 7 rfl (.fieldAddr rfl) (by kernel_rfl) ?_
      refine .takeO 8 rfl (.load1 rfl) (by kernel_rfl) ?_
      refine .takeO 9 rfl (.lenV rfl) (by kernel_rfl) ?_
      refine RA.step 4 rfl (by kernel_rfl) rfl ?_
      refine .q (.sliceData (by omega) rfl) ?_
      refine .nil (Next.sub ?_)
      refine RA.step 10 rfl (by kernel_rfl) rfl ?_
      refine TriOps.unsafeStr (b := bb) (off := off) (c := c) (xs := xs) h0 hr (by omega) (by kernel_rfl) hle rfl rfl (fun fr => ?_)
      refine .nil (Next.mod rfl ?_)
      refine .take 11 rfl .assign (by kernel_rfl) ?_
      refine RA.nil (by kernel_rfl) ?_
      refine seqQ_n ?_
      refine .ret (retQ_r _ (.one (.tmp rfl)) (.none _) ?_)
      · exact ⟨rfl, rfl⟩
end Go.Proofs.YtpmhgpjcladbkaaGreatDoor
set_option linter.unusedVariables false
set_option maxRecDepth 4000
namespace Go.Proofs.YtpmhgpjcladbkaaGreatDoor
def LBA : ByteArray := ⟨#[65,66,67,68,69,70,71,72,73,74,75,76,77,78,79,80,81,82,83,84,85,86,87,88,89,90,97,98,99,100,101,102,103,104,105,106,107,108,109,110,111,112,113,114,115,116,117,118,119,120,121,122,48,49,50,51,52,53,54,55,56,57,45,95]⟩
theorem LBA_get {n : Nat} (h : n < LBA.size) : LBA[n] = l64 n := by
  have h64 : n < 64 := h
  have : ∀ k : Fin 64, LBA[k.val]'(k.isLt) = l64 k.val := by decide +kernel
  exact this ⟨n, h64⟩
theorem LBA_at (n : Nat) : LBA[n % 2 ^ 6]'(Nat.mod_lt _ (by decide)) = l64 n := (LBA_get _).trans (l64_mod n)
def st64 (l : List UInt8) : Nat × Nat × List UInt8 := l.foldl step64 (0, 0, [])
theorem emit_len : ∀ (n h : Nat), (emit h n).length = n / 6 := by
  intro n
  induction n using Nat.strongRecOn with
  | _ n ih =>
    intro h
    by_cases hn : 6 ≤ n
    · rw [emit_big hn, List.length_cons, ih (n - 6) (by omega)]; omega
    · rw [emit_small hn]; simp; omega
theorem st64_le (l : List UInt8) : (st64 l).2.1 < 6 ∧ (st64 l).1 < 18446744073709551616 ∧ (st64 l).2.2.length ≤ 2 * l.length := by
  unfold st64
  suffices h : ∀ (l : List UInt8) (s : Nat × Nat × List UInt8), s.2.1 < 6 → s.1 < 18446744073709551616 → (l.foldl step64 s).2.1 < 6 ∧ (l.foldl step64 s).1 < 18446744073709551616 ∧ (l.foldl step64 s).2.2.length ≤ s.2.2.length + 2 * l.length by
    have := h l (0, 0, []) (by decide) (by decide)
    simpa using this
  intro l
  induction l with
  | nil => intro s h1 h2; exact ⟨h1, h2, by simp⟩
  | cons c l ih =>
    intro s h1 h2
    have h3 := ih (step64 s c) (by unfold step64; simp only; omega) (by unfold step64 held; simp only; exact Nat.mod_lt _ (by decide))
    rw [List.foldl_cons]
    refine ⟨h3.1, h3.2.1, ?_⟩
    have h4 : (step64 s c).2.2.length ≤ s.2.2.length + 2 := by
      unfold step64
      simp only [List.length_append, emit_len]
      omega
    have := h3.2.2
    simp only [List.length_cons]
    omega
theorem st64_next {l : List UInt8} {i : Nat} {c : UInt8} (h : l[i]? = some c) : st64 (l.take (i + 1)) = step64 (st64 (l.take i)) c := by
  unfold st64
  rw [List.take_add_one, h]
  simp
theorem held_or {h : Nat} {c : UInt8} : h * 2 ^ 8 % M64 ||| c.toNat = held h c := by
  have hc := c.toNat_lt
  have e : h * 2 ^ 8 % M64 = (h % 2 ^ 56) * 2 ^ 8 := by unfold M64; omega
  rw [e, or_low (by omega)]
  unfold held
  omega
theorem benc_spec (v : Value) (xs : List UInt8) (R : Rds) (h : RS R 1 encU v xs) (hl : xs.length ≤ 1000000) :
    Spec Tryz.prog 189 [v] R [] fun u H' => u = .string ⟨(e64 xs).toArray⟩ ∧ H' = [] := by
  obtain ⟨pv, kv_, rfl⟩ := h.val
  refine Spec.body Tryz.func189 rfl Tryz.results189 Tryz.ntmps189 rfl ?_
  refine .seq (.region ?_)
  refine .q .assign ?_
  refine .nil (seqQ_n ?_)
  refine .seq (.region ?_)
  refine TriOps.allocA (fun b3 => ?_)
  refine .nil (seqQ_n ?_)
  refine .seq (.region ?_)
  refine .q .assign ?_
  refine .q .assign ?_
  refine .nil (seqQ_n ?_)
  refine .seq ?_
  refine .seq (.region ?_)
  refine .q .move ?_
  refine .q (.lenR h) ?_
  refine .q .move ?_
  refine .nil (seqQ_n ?_)
  refine .block ?_
  refine .loop (X := Nat × Seg) (fun y => y.1 ≤ xs.length ∧ BI b3 (st64 (xs.take y.1)).2.2 y.2) (fun y => [(3, .pointer (some ⟨b3, 0, none⟩)), (4, .int .u64 ((st64 (xs.take y.1)).1 : Nat)), (5, .int .i64 ((st64 (xs.take y.1)).2.1 : Nat)), (8, .slice pv xs.length kv_), (9, .int .i64 (xs.length : Nat)), (10, .int .i64 (y.1 : Nat))]) (fun y => [y.2]) (fun y => xs.length - y.1) (0, _) ⟨Nat.zero_le _, BI.new⟩ (((((((EnvLe.nil _).cons rfl).cons rfl).cons rfl).cons rfl).cons rfl).cons rfl) (HLe.refl _) ?_
  rintro ⟨i, T⟩ ⟨hi, hB⟩
  simp only at hi hB ⊢
  obtain ⟨hn6, hh64, hol⟩ := st64_le (xs.take i)
  have htl : (xs.take i).length ≤ i := by rw [List.length_take]; omega
  obtain ⟨s, hs⟩ : ∃ s, s = st64 (xs.take i) := ⟨_, rfl⟩
  rw [← hs] at hn6 hh64 hol hB ⊢
  refine .seq (.region ?_)
  refine .q .lss ?_
  refine .nil (seqQ_n ?_)
  refine .seq ?_
  refine .cond rfl (fun h1 => ?_) (fun h1 => ?_)
  have hlt : i < xs.length := by have := of_decide_eq_true h1; omega
  obtain ⟨c, hz⟩ : ∃ c, xs[i]? = some c := ⟨_, List.getElem?_eq_getElem hlt⟩
  have hc8 := c.toNat_lt
  have hnx := st64_next hz
  rw [← hs] at hnx
  have hhl : held s.1 c < M64 := Nat.mod_lt _ (by decide)
  refine .skip ?_
  refine seqQ_n ?_
  refine .seq ?_
  refine .block ?_
  refine .seq (.region ?_)
  refine TriOps.indexR i h hz (fun p12 => ?_)
  refine .q (.load1 rfl) ?_
  refine .q .assign ?_
  refine .nil (seqQ_n ?_)
  refine .seq (.region ?_)
  refine .q .move ?_
  refine .q (.shlU (a := s.1) (n := 8) rfl rfl (by decide)) ?_
  refine .q .move ?_
  refine .q (.toU rfl (by unfold M64; omega)) ?_
  refine .q (.orU rfl rfl (Nat.mod_lt _ (by decide)) (by unfold M64; omega)) ?_
  rw [held_or]
  refine .q .assign ?_
  refine .nil (seqQ_n ?_)
  refine .seq (.region ?_)
  refine .q .move ?_
  refine .q (.i64 ((s.2.1 + 8 : Nat) : Int) .add ⟨by omega, by omega, by omega⟩) ?_
  refine .q .assign ?_
  refine .nil (seqQ_n ?_)
  refine .block ?_
  refine .loop (X := Nat × List UInt8 × Seg) (fun y => y.1 < 14 ∧ y.1 % 6 = (s.2.1 + 8) % 6 ∧ y.2.1 ++ emit (held s.1 c) y.1 = s.2.2 ++ emit (held s.1 c) (s.2.1 + 8) ∧ BI b3 y.2.1 y.2.2) (fun y => [(3, .pointer (some ⟨b3, 0, none⟩)), (4, .int .u64 (held s.1 c : Nat)), (5, .int .i64 (y.1 : Nat)), (8, .slice pv xs.length kv_), (9, .int .i64 (xs.length : Nat)), (10, .int .i64 (i : Nat))]) (fun y => [y.2.2]) (fun y => y.1) (s.2.1 + 8, s.2.2, T) ⟨by simp only; omega, rfl, rfl, hB⟩ (((((((EnvLe.nil _).cons rfl).cons rfl).cons rfl).cons rfl).cons rfl).cons rfl) (HLe.refl _) ?_
  clear hB T
  rintro ⟨n, o, T⟩ ⟨hn, hnm, ho, hB⟩
  simp only at hn hnm ho hB ⊢
  have hol2 : o.length ≤ 2 * i + 4 := by
    have := congrArg List.length ho
    simp only [List.length_append, emit_len] at this
    omega
  refine .seq ?_
  refine .seq (.region ?_)
  refine .q .move ?_
  refine .q .geq ?_
  refine .nil (seqQ_n ?_)
  refine .cond rfl (fun h2 => ?_) (fun h2 => ?_)
  have h6 : 6 ≤ n := by have := of_decide_eq_true h2; omega
  refine .skip ?_
  refine seqQ_n ?_
  refine .seq ?_
  refine .block ?_
  refine .region ?_
  refine .q .move ?_
  refine .q .move ?_
  refine .q (.i64 ((n - 6 : Nat) : Int) .sub ⟨by omega, by omega, by omega⟩) ?_
  refine .q (.shrU rfl rfl (by omega)) ?_
  refine .q (.andU (b := 63) rfl rfl (Nat.lt_of_le_of_lt (Nat.div_le_self _ _) hhl) (by decide)) ?_
  rw [show (63 : Nat) = 2 ^ 6 - 1 from rfl, Nat.and_two_pow_sub_one_eq_mod]
  have hg := LBA_at (held s.1 c / 2 ^ (n - 6))
  refine .q (Quiet.cast (v' := .int .u8 ((l64 (held s.1 c / 2 ^ (n - 6))).toNat : Int)) (.indexS (p := LBA) (held s.1 c / 2 ^ (n - 6) % 2 ^ 6) (Nat.mod_lt _ (by decide))) (by rw [hg])) ?_
  refine TriOps.callM (bwrite_spec b3 o T (l64 (held s.1 c / 2 ^ (n - 6))) _ hB (by omega)) (fun u T2 hB2 => ?_)
  refine .nil ?_
  refine blkQ_n (seqQ_n ?_)
  refine .region ?_
  refine .q .move ?_
  refine .q (.i64 ((n - 6 : Nat) : Int) .sub ⟨by omega, by omega, by omega⟩) ?_
  refine .q .assign ?_
  refine .nil ?_
  · exact loopQ_i (n - 6, o ++ [l64 (held s.1 c / 2 ^ (n - 6))], T2) ⟨by simp only; omega, by simp only; omega, by rw [← ho, emit_big h6]; simp, hB2⟩ (by simp only; omega) (((((((EnvLe.nil _).cons rfl).cons rfl).cons rfl).cons rfl).cons rfl).cons rfl) (HLe.refl _)
  have h6 : ¬ 6 ≤ n := by have := of_decide_eq_false h2; omega
  rw [emit_small h6, List.append_nil] at ho
  have hn9 : n = (s.2.1 + 8) % 6 := by omega
  refine .exit (seqQ_x (loopQ_x (blkQ_x ?_)))
  refine blkQ_n (seqQ_n ?_)
  refine .region ?_
  refine .q (.i64 ((i + 1 : Nat) : Int) .add ⟨by omega, by omega, by omega⟩) ?_
  refine .q .move ?_
  refine .nil ?_
  · exact loopQ_i (i + 1, T) ⟨hlt, by rw [hnx]; unfold step64; simp only; rw [← ho]; exact hB⟩ (by simp only; omega) (by simp only [hnx, step64]; rw [← hn9]; exact ((((((EnvLe.nil _).cons rfl).cons rfl).cons rfl).cons rfl).cons rfl).cons rfl) (HLe.refl _)
  have hi9 : i = xs.length := by have := of_decide_eq_false h1; omega
  have hfin : fin64 s = e64 xs := by
    rw [hs, hi9, List.take_length]
    have := enc_fold xs 0 []
    simpa [st64] using this
  unfold fin64 at hfin
  refine .exit (seqQ_x (loopQ_x (blkQ_x ?_)))
  refine seqQ_n ?_
  refine .seq ?_
  refine .seq (.region ?_)
  refine .q .move ?_
  refine .q .gtr ?_
  refine .nil (seqQ_n ?_)
  refine .cond rfl (fun h3 => ?_) (fun h3 => ?_)
  have h0 : 0 < s.2.1 := by simp at h3; omega
  rw [if_pos h0] at hfin
  refine .region ?_
  refine .q .move ?_
  refine .q .move ?_
  refine .q (.i64 ((6 - s.2.1 : Nat) : Int) .sub ⟨by omega, by omega, by omega⟩) ?_
  refine .q (.shlU rfl rfl (by omega)) ?_
  refine .q (.andU (b := 63) rfl rfl (Nat.mod_lt _ (by decide)) (by decide)) ?_
  rw [show (63 : Nat) = 2 ^ 6 - 1 from rfl, Nat.and_two_pow_sub_one_eq_mod]
  have hg := LBA_at (s.1 * 2 ^ (6 - s.2.1) % M64)
  refine .q (Quiet.cast (v' := .int .u8 ((l64 (s.1 * 2 ^ (6 - s.2.1))).toNat : Int)) (.indexS (p := LBA) (s.1 * 2 ^ (6 - s.2.1) % M64 % 2 ^ 6) (Nat.mod_lt _ (by decide))) (by rw [hg, l64_eq (n := s.1 * 2 ^ (6 - s.2.1) % M64) (m := s.1 * 2 ^ (6 - s.2.1)) (by unfold M64; omega)])) ?_
  refine TriOps.callM (bwrite_spec b3 s.2.2 T _ _ hB (by omega)) (fun u T2 hB2 => ?_)
  rw [hfin] at hB2
  refine .nil (seqQ_n ?_)
  refine .seq (.region ?_)
  first
    | refine TriOps.call [0] (bstring_spec b3 (e64 xs) T _ hB) (fun u H' hu => ?_)
    | refine TriOps.call [0] (bstring_spec b3 (e64 xs) T2 _ hB2) (fun u H' hu => ?_)
  obtain ⟨rfl, rfl⟩ := hu
  refine .q .assign ?_
  refine .nil (seqQ_n ?_)
  refine .ret (retQ_r _ (.one (.tmp rfl)) (.none _) ?_)
  · exact ⟨rfl, rfl⟩
  have h0 : ¬ 0 < s.2.1 := by simp at h3; omega
  rw [if_neg h0, List.append_nil] at hfin
  rw [hfin] at hB
  refine .skip ?_
  refine seqQ_n ?_
  refine .seq (.region ?_)
  first
    | refine TriOps.call [0] (bstring_spec b3 (e64 xs) T _ hB) (fun u H' hu => ?_)
    | refine TriOps.call [0] (bstring_spec b3 (e64 xs) T2 _ hB2) (fun u H' hu => ?_)
  obtain ⟨rfl, rfl⟩ := hu
  refine .q .assign ?_
  refine .nil (seqQ_n ?_)
  refine .ret (retQ_r _ (.one (.tmp rfl)) (.none _) ?_)
  · exact ⟨rfl, rfl⟩
end Go.Proofs.YtpmhgpjcladbkaaGreatDoor
set_option linter.unusedVariables false
set_option linter.unusedSimpArgs false
set_option maxRecDepth 4000
namespace Go.Proofs.YtpmhgpjcladbkaaGreatDoor
theorem letter_spec (n : Nat) (h : n < 64) (R : Rds) : Spec Tryz.prog 173 [.int .i64 (n : Nat)] R [] fun v H' => v = .string ⟨#[l64 n]⟩ ∧ H' = [] := by
  have hx : LBA.extract n (n + 1) = ⟨#[l64 n]⟩ := by
    have e : ∀ k : Fin 64, LBA.extract k.val (k.val + 1) = ⟨#[l64 k.val]⟩ := by decide +kernel
    exact e ⟨n, h⟩
  refine Spec.body Tryz.func173 rfl Tryz.results173 Tryz.ntmps173 rfl ?_
  refine .seq (.region ?_)
  refine .q .assign ?_
  refine .nil (seqQ_n ?_)
  refine .seq (.region ?_)
  refine .q .move ?_
  refine .q .move ?_
  refine .q (.i64 ((n + 1 : Nat) : Int) .add ⟨by omega, by omega, by omega⟩) ?_
  refine .q (.sliceStr (s := LBA) n (n + 1) ⟨_, rfl⟩ ⟨_, rfl⟩ (by omega) h) ?_
  rw [hx]
  refine .q .assign ?_
  refine .nil (seqQ_n ?_)
  refine .ret (retQ_r _ (.one (.tmp rfl)) (.none _) ?_)
  · exact ⟨rfl, rfl⟩
theorem e64_len : ∀ l : List UInt8, (e64 l).length ≤ 2 * l.length
  | a :: b :: c :: r => by have := e64_len r; simp only [e64, List.length_cons]; omega
  | [a, b] => by simp [e64]
  | [a] => by simp [e64]
  | [] => by simp [e64]
theorem size_of (l : List UInt8) : (⟨l.toArray⟩ : ByteArray).size = l.length := by simp [ByteArray.size]
theorem renc_spec (v : Value) (xs : List UInt8) (R : Rds) (h : RS R 1 encU v xs) (hl : xs.length ≤ 1000000) :
    Spec Tryz.prog 109 [v] R [] fun u H' => u = .string ⟨(e64 xs).toArray⟩ ∧ H' = [] := by
  have hel := e64_len xs
  refine Spec.body Tryz.func109 rfl Tryz.results109 Tryz.ntmps109 rfl ?_
  refine .seq (.region ?_)
  refine .q .assign ?_
  refine .nil (seqQ_n ?_)
  refine .seq (.region ?_)
  refine .q .assign ?_
  refine .nil (seqQ_n ?_)
  refine .seq ?_
  refine .block ?_
  refine .loop (X := List UInt8 × Value × List UInt8) (fun y => RS R 1 encU y.2.1 y.1 ∧ y.1.length ≤ xs.length ∧ y.2.2 ++ e64 y.1 = e64 xs) (fun y => [(0, y.2.1), (3, .string ⟨y.2.2.toArray⟩)]) (fun y => []) (fun y => y.1.length) (xs, v, []) ⟨h, Nat.le_refl _, rfl⟩ (((EnvLe.nil _).cons rfl).cons rfl) (HLe.refl _) ?_
  rintro ⟨r, vr, o⟩ ⟨hr, hrl, ho⟩
  simp only at hr hrl ho ⊢
  have iv := hr.oneCell
  obtain ⟨pr, kr, rfl⟩ := hr.val
  have hol : o.length + (e64 r).length ≤ 2 * xs.length := by have := congrArg List.length ho; rw [List.length_append] at this; omega
  refine .seq ?_
  refine .seq (.region ?_)
  refine .q .move ?_
  refine .q (.lenR hr) ?_
  refine .q .geq ?_
  refine .nil (seqQ_n ?_)
  refine .cond rfl (fun h1 => ?_) (fun h1 => ?_)
  obtain ⟨a, b, c, q, rfl⟩ : ∃ a b c q, r = a :: b :: c :: q := by
    have h3 : 3 ≤ r.length := by have := of_decide_eq_true h1; omega
    match r, h3 with
    | a :: b :: c :: q, _ => exact ⟨a, b, c, q, rfl⟩
  have ha := a.toNat_lt
  have hb := b.toNat_lt
  have hc := c.toNat_lt
  simp only [e64, List.length_cons] at hol ho
  refine .skip ?_
  refine seqQ_n ?_
  refine .block ?_
  refine .seq ?_
  refine .region_still mixed (by kernel_rfl) ?_
  refine .q .move ?_
  refine TriOps.indexR 0 hr (show (a :: b :: c :: q)[0]? = some a from rfl) (fun p11 => ?_)
  refine .q (.load1 rfl) ?_
  refine .q (.i64 ((a.toNat : Nat) : Int) .convI ⟨rfl, by omega, by omega⟩) ?_
  refine .q (.i64 ((a.toNat * 65536 : Nat) : Int) .mul ⟨by omega, by omega, by omega⟩) ?_
  refine .q .move ?_
  refine TriOps.indexR 1 hr (show (a :: b :: c :: q)[1]? = some b from rfl) (fun p16 => ?_)
  refine .q (.load1 rfl) ?_
  refine .q (.i64 ((b.toNat : Nat) : Int) .convI ⟨rfl, by omega, by omega⟩) ?_
  refine .q (.i64 ((b.toNat * 256 : Nat) : Int) .mul ⟨by omega, by omega, by omega⟩) ?_
  refine .q (.i64 ((a.toNat * 65536 + b.toNat * 256 : Nat) : Int) .add ⟨by omega, by omega, by omega⟩) ?_
  refine .q .move ?_
  refine TriOps.indexR 2 hr (show (a :: b :: c :: q)[2]? = some c from rfl) (fun p22 => ?_)
  refine .q (.load1 rfl) ?_
  refine .q (.i64 ((c.toNat : Nat) : Int) .convI ⟨rfl, by omega, by omega⟩) ?_
  refine .q (.i64 ((a.toNat * 65536 + b.toNat * 256 + c.toNat : Nat) : Int) .add ⟨by omega, by omega, by omega⟩) ?_
  refine .q .assign ?_
  refine .nil (seqQ_n ?_)
  refine .seq (.region ?_)
  obtain ⟨x, hx⟩ : ∃ x, x = a.toNat * 65536 + b.toNat * 256 + c.toNat := ⟨_, rfl⟩
  rw [← hx]
  have q1 : l64 (x / 262144) = l64 (a.toNat / 4) := l64_eq (by omega)
  have q2 : l64 (x / 4096 % 64) = l64 (a.toNat % 4 * 16 + b.toNat / 16) := l64_eq (by omega)
  have q3 : l64 (x / 64 % 64) = l64 (b.toNat % 16 * 4 + c.toNat / 64) := l64_eq (by omega)
  have q4 : l64 (x % 64) = l64 c.toNat := l64_eq (by omega)
  refine .q .move ?_
  refine .q .move ?_
  refine .q (.quoN (a := x) 262144 rfl rfl (by decide) (by omega)) ?_
  refine TriOps.callR (letter_spec (x / 262144) (by omega) _) (fun u hu => ?_)
  subst hu
  refine .q (.addS (p := ⟨o.toArray⟩) (q := ⟨[l64 (x / 262144)].toArray⟩) (by rw [size_of, size_of]; simp; omega) rfl rfl) ?_
  rw [bs_app, q1]
  refine .q .move ?_
  refine .q (.quoN (a := x) 4096 rfl rfl (by decide) (by omega)) ?_
  refine .q (.remN (a := x / 4096) 64 rfl rfl (by decide)) ?_
  refine TriOps.callR (letter_spec (x / 4096 % 64) (by omega) _) (fun u hu => ?_)
  subst hu
  refine .q (.addS (q := ⟨[l64 (x / 4096 % 64)].toArray⟩) (by rw [size_of, size_of]; simp; omega) rfl rfl) ?_
  rw [bs_app, q2]
  refine .q .move ?_
  refine .q (.quoN (a := x) 64 rfl rfl (by decide) (by omega)) ?_
  refine .q (.remN (a := x / 64) 64 rfl rfl (by decide)) ?_
  refine TriOps.callR (letter_spec (x / 64 % 64) (by omega) _) (fun u hu => ?_)
  subst hu
  refine .q (.addS (q := ⟨[l64 (x / 64 % 64)].toArray⟩) (by rw [size_of, size_of]; simp; omega) rfl rfl) ?_
  rw [bs_app, q3]
  refine .q .move ?_
  refine .q (.remN (a := x) 64 rfl rfl (by decide)) ?_
  refine TriOps.callR (letter_spec (x % 64) (by omega) _) (fun u hu => ?_)
  subst hu
  refine .q (.addS (q := ⟨[l64 (x % 64)].toArray⟩) (by rw [size_of, size_of]; simp; omega) rfl rfl) ?_
  rw [bs_app, q4]
  refine .q .assign ?_
  refine .nil (seqQ_n ?_)
  refine .region ?_
  refine .q .move ?_
  refine TriOps.sliceR 3 (a :: b :: c :: q).length hr ⟨_, rfl⟩ rfl (by simp) (Nat.le_refl _) (fun v46 hp => ?_)
  rw [show ((a :: b :: c :: q).drop 3).take ((a :: b :: c :: q).length - 3) = q by rw [List.take_of_length_le (by simp)]; rfl] at hp
  refine .q .assign ?_
  refine .nil ?_
  refine blkQ_n ?_
  · exact loopQ_i (q, v46, _) ⟨hp, by simp only; simp only [List.length_cons] at hrl; omega, by simp only [List.append_assoc]; exact ho⟩ (by simp only [List.length_cons]; omega) (((EnvLe.nil _).cons rfl).cons rfl) (HLe.refl _)
  have h3 : r.length < 3 := by have := of_decide_eq_false h1; omega
  refine .exit (seqQ_x (loopQ_x (blkQ_x ?_)))
  refine seqQ_n ?_
  refine .seq ?_
  refine .seq (.region ?_)
  refine .q .move ?_
  refine .q (.lenR hr) ?_
  refine .q .eqI ?_
  refine .nil (seqQ_n ?_)
  refine Tri.cut (X := List UInt8) (fun o2 => (r.length = 2 → o2 = o) ∧ (r.length ≠ 2 → o2 = e64 xs)) (fun o2 => [(0, .slice pr r.length kr), (3, .string ⟨o2.toArray⟩)]) (fun _ => []) ?_ ?_
  refine .cond rfl (fun h2 => ?_) (fun h2 => ?_)
  obtain ⟨a, rfl⟩ : ∃ a, r = [a] := List.length_eq_one_iff.1 (by simp at h2; omega)
  have ha := a.toNat_lt
  simp only [e64, List.length_cons, List.length_nil] at hol ho
  refine .seq (.region ?_)
  refine .q .move ?_
  refine TriOps.indexR 0 hr (show [a][0]? = some a from rfl) (fun p51 => ?_)
  refine .q (.load1 rfl) ?_
  refine .q (.i64 ((a.toNat : Nat) : Int) .convI ⟨rfl, by omega, by omega⟩) ?_
  refine .q (.i64 ((a.toNat * 16 : Nat) : Int) .mul ⟨by omega, by omega, by omega⟩) ?_
  refine .q .assign ?_
  refine .nil (seqQ_n ?_)
  refine .region ?_
  obtain ⟨x, hx⟩ : ∃ x, x = a.toNat * 16 := ⟨_, rfl⟩
  rw [← hx]
  have q1 : l64 (x / 64) = l64 (a.toNat / 4) := l64_eq (by omega)
  have q2 : l64 (x % 64) = l64 (a.toNat % 4 * 16) := l64_eq (by omega)
  refine .q .move ?_
  refine .q .move ?_
  refine .q (.quoN (a := x) 64 rfl rfl (by decide) (by omega)) ?_
  refine TriOps.callR (letter_spec (x / 64) (by omega) _) (fun u hu => ?_)
  subst hu
  refine .q (.addS (p := ⟨o.toArray⟩) (q := ⟨[l64 (x / 64)].toArray⟩) (by rw [size_of, size_of]; simp; omega) rfl rfl) ?_
  rw [bs_app, q1]
  refine .q .move ?_
  refine .q (.remN (a := x) 64 rfl rfl (by decide)) ?_
  refine TriOps.callR (letter_spec (x % 64) (by omega) _) (fun u hu => ?_)
  subst hu
  refine .q (.addS (q := ⟨[l64 (x % 64)].toArray⟩) (by rw [size_of, size_of]; simp; omega) rfl rfl) ?_
  rw [bs_app, q2]
  refine .q .assign ?_
  refine .nil ?_
  · first
      | exact joinQ_n _ ⟨fun h9 => by simp at h9, fun _ => by simp only [List.append_assoc]; exact ho⟩ (((EnvLe.nil _).cons rfl).cons rfl) (HLe.refl _)
      | exact joinQ_n o ⟨fun _ => rfl, fun h9 => by
          have h8 : r = [] := by
            have : r.length ≠ 1 := fun e => by simp [e] at h2
            exact List.length_eq_zero_iff.1 (by omega)
          rw [h8] at ho
          simpa [e64] using ho⟩ (((EnvLe.nil _).cons rfl).cons rfl) (HLe.refl _)
  refine .skip ?_
  · first
      | exact joinQ_n _ ⟨fun h9 => by simp at h9, fun _ => by simp only [List.append_assoc]; exact ho⟩ (((EnvLe.nil _).cons rfl).cons rfl) (HLe.refl _)
      | exact joinQ_n o ⟨fun _ => rfl, fun h9 => by
          have h8 : r = [] := by
            have : r.length ≠ 1 := fun e => by simp [e] at h2
            exact List.length_eq_zero_iff.1 (by omega)
          rw [h8] at ho
          simpa [e64] using ho⟩ (((EnvLe.nil _).cons rfl).cons rfl) (HLe.refl _)
  intro x hx
  refine seqQ_n ?_
  refine .seq ?_
  refine .seq (.region ?_)
  refine .q .move ?_
  refine .q (.lenR hr) ?_
  refine .q .eqI ?_
  refine .nil (seqQ_n ?_)
  refine .cond rfl (fun h3 => ?_) (fun h3 => ?_)
  have hr2 : r.length = 2 := by simp at h3; omega
  obtain ⟨a, b, rfl⟩ : ∃ a b, r = [a, b] := by
    match r, hr2 with
    | [a, b], _ => exact ⟨a, b, rfl⟩
  have hxo := hx.1 rfl
  subst hxo
  have ha := a.toNat_lt
  have hb := b.toNat_lt
  simp only [e64, List.length_cons, List.length_nil] at hol ho
  refine .seq ?_
  refine .region_still mixed (by kernel_rfl) ?_
  refine .q .move ?_
  refine TriOps.indexR 0 hr (show [a, b][0]? = some a from rfl) (fun p68 => ?_)
  refine .q (.load1 rfl) ?_
  refine .q (.i64 ((a.toNat : Nat) : Int) .convI ⟨rfl, by omega, by omega⟩) ?_
  refine .q (.i64 ((a.toNat * 1024 : Nat) : Int) .mul ⟨by omega, by omega, by omega⟩) ?_
  refine .q .move ?_
  refine TriOps.indexR 1 hr (show [a, b][1]? = some b from rfl) (fun p73 => ?_)
  refine .q (.load1 rfl) ?_
  refine .q (.i64 ((b.toNat : Nat) : Int) .convI ⟨rfl, by omega, by omega⟩) ?_
  refine .q (.i64 ((b.toNat * 4 : Nat) : Int) .mul ⟨by omega, by omega, by omega⟩) ?_
  refine .q (.i64 ((a.toNat * 1024 + b.toNat * 4 : Nat) : Int) .add ⟨by omega, by omega, by omega⟩) ?_
  refine .q .assign ?_
  refine .nil (seqQ_n ?_)
  refine .region ?_
  obtain ⟨y, hy⟩ : ∃ y, y = a.toNat * 1024 + b.toNat * 4 := ⟨_, rfl⟩
  rw [← hy]
  have q1 : l64 (y / 4096) = l64 (a.toNat / 4) := l64_eq (by omega)
  have q2 : l64 (y / 64 % 64) = l64 (a.toNat % 4 * 16 + b.toNat / 16) := l64_eq (by omega)
  have q3 : l64 (y % 64) = l64 (b.toNat % 16 * 4) := l64_eq (by omega)
  refine .q .move ?_
  refine .q .move ?_
  refine .q (.quoN (a := y) 4096 rfl rfl (by decide) (by omega)) ?_
  refine TriOps.callR (letter_spec (y / 4096) (by omega) _) (fun u hu => ?_)
  subst hu
  refine .q (.addS (p := ⟨x.toArray⟩) (q := ⟨[l64 (y / 4096)].toArray⟩) (by rw [size_of, size_of]; simp; omega) rfl rfl) ?_
  rw [bs_app, q1]
  refine .q .move ?_
  refine .q (.quoN (a := y) 64 rfl rfl (by decide) (by omega)) ?_
  refine .q (.remN (a := y / 64) 64 rfl rfl (by decide)) ?_
  refine TriOps.callR (letter_spec (y / 64 % 64) (by omega) _) (fun u hu => ?_)
  subst hu
  refine .q (.addS (q := ⟨[l64 (y / 64 % 64)].toArray⟩) (by rw [size_of, size_of]; simp; omega) rfl rfl) ?_
  rw [bs_app, q2]
  refine .q .move ?_
  refine .q (.remN (a := y) 64 rfl rfl (by decide)) ?_
  refine TriOps.callR (letter_spec (y % 64) (by omega) _) (fun u hu => ?_)
  subst hu
  refine .q (.addS (q := ⟨[l64 (y % 64)].toArray⟩) (by rw [size_of, size_of]; simp; omega) rfl rfl) ?_
  rw [bs_app, q3]
  refine .q .assign ?_
  refine .nil (seqQ_n ?_)
  refine .seq (.region ?_)
  refine .q .move ?_
  refine .q .assign ?_
  refine .nil (seqQ_n ?_)
  refine .ret (retQ_r _ (.one (.tmp rfl)) (.none _) ?_)
  · first
      | exact ⟨rfl, rfl⟩
      | exact ⟨by rw [← ho]; simp, rfl⟩
  have hxe := hx.2 (by simp at h3; omega)
  subst hxe
  refine .skip ?_
  refine seqQ_n ?_
  refine .seq (.region ?_)
  refine .q .move ?_
  refine .q .assign ?_
  refine .nil (seqQ_n ?_)
  refine .ret (retQ_r _ (.one (.tmp rfl)) (.none _) ?_)
  · first
      | exact ⟨rfl, rfl⟩
      | exact ⟨by rw [← ho]; simp, rfl⟩
end Go.Proofs.YtpmhgpjcladbkaaGreatDoor
set_option linter.unusedVariables false
set_option linter.unusedSimpArgs false
set_option maxRecDepth 4000
namespace Go.Proofs.YtpmhgpjcladbkaaGreatDoor
theorem turn_spec (x : W32) (n : Nat) (hn : n ≤ 32) (R : Rds) : Spec Tryz.prog 248 [.int .u32 (x.toNat : Int), .int .u64 (n : Nat)] R [] fun v H' => v = .int .u32 ((rotr x n).toNat : Int) ∧ H' = [] := by
  refine Spec.body Tryz.func248 rfl Tryz.results248 Tryz.ntmps248 rfl ?_
  refine .seq (.region ?_)
  refine .q .assign ?_
  refine .nil (seqQ_n ?_)
  refine .seq (.region ?_)
  refine .q .move ?_
  refine .q .move ?_
  refine .q (.shrW rfl rfl (by omega)) ?_
  refine .q .move ?_
  refine .q .move ?_
  refine .q (.u64 ((32 - n : Nat) : Int) .sub ⟨by omega, by omega, by omega⟩) ?_
  refine .q (.shlW rfl rfl (by omega)) ?_
  refine .q (.orW rfl rfl) ?_
  refine .q .assign ?_
  refine .nil (seqQ_n ?_)
  refine .ret (retQ_r _ (.one (.tmp rfl)) (.none _) ?_)
  · exact ⟨by rw [turn_rotr], rfl⟩
theorem flat_encW (l : List W32) : l.flatMap encW = wv l := by
  induction l with
  | nil => rfl
  | cons x l ih => rw [List.flatMap_cons, ih]; rfl
theorem wn_lo {b : List UInt8} {l : List W32} {i : Nat} (hl : l.length = i) (h : i < 16) : (((b.getD (4 * i) 0).toBitVec.setWidth 32 * 16777216#32 + (b.getD (4 * i + 1) 0).toBitVec.setWidth 32 * 65536#32) + (b.getD (4 * i + 2) 0).toBitVec.setWidth 32 * 256#32) + (b.getD (4 * i + 3) 0).toBitVec.setWidth 32 = wnext b l := by
  refine (word4_mul (b.getD (4 * i) 0) (b.getD (4 * i + 1) 0) (b.getD (4 * i + 2) 0) (b.getD (4 * i + 3) 0)).trans ?_
  unfold wnext
  rw [hl, if_pos h]
theorem wn_hi {b : List UInt8} {l : List W32} {i : Nat} (hl : l.length = i) (h : ¬ i < 16) : ((l.getD (i - 16) 0 + ((rotr (l.getD (i - 15) 0) 7 ^^^ rotr (l.getD (i - 15) 0) 18) ^^^ l.getD (i - 15) 0 / 8#32)) + l.getD (i - 7) 0) + ((rotr (l.getD (i - 2) 0) 17 ^^^ rotr (l.getD (i - 2) 0) 19) ^^^ l.getD (i - 2) 0 / 1024#32) = wnext b l := by
  rw [show (8#32) = BitVec.ofNat 32 (2 ^ 3) from rfl, show (1024#32) = BitVec.ofNat 32 (2 ^ 10) from rfl, div_shr _ 3 (by decide), div_shr _ 10 (by decide)]
  unfold wnext
  rw [hl, if_neg h]
  rfl
theorem ks_at {i : Nat} (h : i < 64) : (wv ks)[i]? = some (.int .u32 ((ks.getD i 0).toNat : Int)) := by
  have hk : ks.length = 64 := rfl
  refine wv_get ?_
  rw [List.getD_eq_getElem?_getD, List.getElem?_eq_getElem (by omega)]
  rfl
theorem rnext_spec (s : Hst) (vs vb : Value) (b : List UInt8) (R : Rds) (hs : RS R 1 encW vs s.toL) (hb : RS R 1 encU vb b) (hl : 64 ≤ b.length) :
    Spec Tryz.prog 172 [vs, vb] R [] fun u H' => ∃ T, H' = [T] ∧ OS 223 1 encW u (comp s b).toL T := by
  have hg : ∀ j, j < 64 → b[j]? = some (b.getD j 0) := fun j hj => by
    rw [List.getD_eq_getElem?_getD, List.getElem?_eq_getElem (by omega)]; rfl
  obtain ⟨pv, kv_, rfl⟩ := hb.val
  obtain ⟨ps_, ks_, rfl⟩ := hs.val
  refine Spec.body Tryz.func172 rfl Tryz.results172 Tryz.ntmps172 rfl ?_
  refine .seq (.region ?_)
  refine .q .assign ?_
  refine .nil (seqQ_n ?_)
  refine .seq (.region ?_)
  refine .q (.bldA (out := wv ks) rfl (by kernel_rfl) rfl) ?_
  refine TriOps.allocA (fun b5 => ?_)
  refine TriOps.storeA rfl rfl ?_ rfl (Nat.le_of_ble_eq_true rfl)
  rw [setL_all (by rfl)]
  refine .nil (seqQ_n ?_)
  refine .seq (.region ?_)
  refine .q .assign ?_
  refine .nil (seqQ_n ?_)
  refine .seq ?_
  refine .seq (.region ?_)
  refine .q .assign ?_
  refine .nil (seqQ_n ?_)
  refine .block ?_
  refine .loop (X := Nat × Value × Seg) (fun y => y.1 ≤ 16 ∧ OS 223 1 encW y.2.1 (sched b y.1) y.2.2) (fun y => [(0, .slice ps_ s.toL.length ks_), (1, .slice pv b.length kv_), (5, .pointer (some ⟨b5, 0, none⟩)), (6, y.2.1), (7, .int .i64 (y.1 : Nat))]) (fun y => [[(b5, .cells (wv ks).toArray 276 (0, 0))], y.2.2]) (fun y => 16 - y.1) (0, .slice none 0 0, []) ⟨Nat.zero_le _, OS.nil⟩ ((((((EnvLe.nil _).cons rfl).cons rfl).cons rfl).cons rfl).cons rfl) (HLe.ofPerm (by simp)) ?_
  rintro ⟨i, vw, Tw⟩ ⟨hi, hO⟩
  simp only at hi hO ⊢
  have iw := hO.oneCell
  have hsl := sched_len (b := b) i
  refine .seq ?_
  refine .seq (.region ?_)
  refine .q .move ?_
  refine .q .lss ?_
  refine .nil (seqQ_n ?_)
  refine .cond rfl (fun h1 => ?_) (fun h1 => ?_)
  have hlt : i < 16 := by have := of_decide_eq_true h1; omega
  have hwn := wn_lo (b := b) hsl hlt
  have q0 := hb.pc (hg (4 * i) (by omega))
  have q1 := hb.pc (hg (4 * i + 1) (by omega))
  have q2 := hb.pc (hg (4 * i + 2) (by omega))
  have q3 := hb.pc (hg (4 * i + 3) (by omega))
  refine .skip ?_
  refine seqQ_n ?_
  refine .seq ?_
  refine .block ?_
  refine .region_all [35] mixed ?_
  refine .takeO 0 rfl .move (by kernel_rfl) ?_
  refine .takeO 1 rfl .move (by kernel_rfl) ?_
  refine .takeO 2 rfl .move (by kernel_rfl) ?_
  refine .takeO 3 rfl (.i64 ((4 * i : Nat) : Int) .mul ⟨by omega, by omega, by omega⟩) (by kernel_rfl) ?_
  refine .takeO 4 rfl (.indexR (4 * i) hb (hg _ (by omega)) rfl rfl rfl) (by kernel_rfl) ?_
  refine .takeO 5 rfl (.load1 rfl) (by kernel_rfl) ?_
  refine .takeO 6 rfl (.wide rfl) (by kernel_rfl) ?_
  refine .takeO 7 rfl (.mulW (b := 16777216#32) rfl rfl) (by kernel_rfl) ?_
  refine .takeO 8 rfl .move (by kernel_rfl) ?_
  refine .takeO 9 rfl .move (by kernel_rfl) ?_
  refine .takeO 10 rfl (.i64 ((4 * i : Nat) : Int) .mul ⟨by omega, by omega, by omega⟩) (by kernel_rfl) ?_
  refine .takeO 11 rfl (.i64 ((4 * i + 1 : Nat) : Int) .add ⟨by omega, by omega, by omega⟩) (by kernel_rfl) ?_
  refine .takeO 12 rfl (.indexR (4 * i + 1) hb (hg _ (by omega)) rfl rfl rfl) (by kernel_rfl) ?_
  refine .takeO 13 rfl (.load1 rfl) (by kernel_rfl) ?_
  refine .takeO 14 rfl (.wide rfl) (by kernel_rfl) ?_
  refine .takeO 15 rfl (.mulW (b := 65536#32) rfl rfl) (by kernel_rfl) ?_
  refine .takeO 16 rfl (.addW rfl rfl) (by kernel_rfl) ?_
  refine .takeO 17 rfl .move (by kernel_rfl) ?_
  refine .takeO 18 rfl .move (by kernel_rfl) ?_
  refine .takeO 19 rfl (.i64 ((4 * i : Nat) : Int) .mul ⟨by omega, by omega, by omega⟩) (by kernel_rfl) ?_
  refine .takeO 20 rfl (.i64 ((4 * i + 2 : Nat) : Int) .add ⟨by omega, by omega, by omega⟩) (by kernel_rfl) ?_
  refine .takeO 21 rfl (.indexR (4 * i + 2) hb (hg _ (by omega)) rfl rfl rfl) (by kernel_rfl) ?_
  refine .takeO 22 rfl (.load1 rfl) (by kernel_rfl) ?_
  refine .takeO 23 rfl (.wide rfl) (by kernel_rfl) ?_
  refine .takeO 24 rfl (.mulW (b := 256#32) rfl rfl) (by kernel_rfl) ?_
  refine .takeO 25 rfl (.addW rfl rfl) (by kernel_rfl) ?_
  refine .takeO 26 rfl .move (by kernel_rfl) ?_
  refine .takeO 27 rfl .move (by kernel_rfl) ?_
  refine .takeO 28 rfl (.i64 ((4 * i : Nat) : Int) .mul ⟨by omega, by omega, by omega⟩) (by kernel_rfl) ?_
  refine .takeO 29 rfl (.i64 ((4 * i + 3 : Nat) : Int) .add ⟨by omega, by omega, by omega⟩) (by kernel_rfl) ?_
  refine .takeO 30 rfl (.indexR (4 * i + 3) hb (hg _ (by omega)) rfl rfl rfl) (by kernel_rfl) ?_
  refine .takeO 31 rfl (.load1 rfl) (by kernel_rfl) ?_
  refine .takeO 32 rfl (.wide rfl) (by kernel_rfl) ?_
  refine .takeO 33 rfl (.addW rfl rfl) (by kernel_rfl) ?_
  refine RA.step 34 rfl (by kernel_rfl) rfl ?_
  refine TriOps.buildSlice11 (fun b62 => ?_)
  refine .nil (Next.sub ?_)
  refine RA.step 35 rfl (by kernel_rfl) rfl ?_
  rw [hwn]
  refine TriOps.append hO (RS.lits (xs := [wnext b (sched b i)]) rfl (by simp [encW]) (by simp [encW, oneCell])) (by simp [hsl]; omega) (fun v5 T5 hO5 => ?_)
  refine .nil (Next.mod rfl ?_)
  refine .take 36 rfl .assign (by kernel_rfl) ?_
  refine RA.nil (by kernel_rfl) ?_
  refine blkQ_n (seqQ_n ?_)
  refine .region ?_
  refine .q .move ?_
  refine .q (.i64 ((i + 1 : Nat) : Int) .add ⟨by omega, by omega, by omega⟩) ?_
  refine .q .assign ?_
  refine .nil ?_
  · exact loopQ_i (i + 1, v5, T5) ⟨hlt, hO5⟩ (by simp only; omega) ((((((EnvLe.nil _).cons rfl).cons rfl).cons rfl).cons rfl).cons rfl) (HLe.pick [1, 1] _)
  have hi16 : i = 16 := by have := of_decide_eq_false h1; omega
  subst hi16
  refine .exit (seqQ_x (loopQ_x (blkQ_x ?_)))
  refine seqQ_n ?_
  refine .seq ?_
  refine .seq (.region ?_)
  refine .q .assign ?_
  refine .nil (seqQ_n ?_)
  refine .block ?_
  refine .loop (X := Nat × Value × Seg) (fun y => (16 ≤ y.1 ∧ y.1 ≤ 64) ∧ OS 223 1 encW y.2.1 (sched b y.1) y.2.2) (fun y => [(0, .slice ps_ s.toL.length ks_), (5, .pointer (some ⟨b5, 0, none⟩)), (6, y.2.1), (8, .int .i64 (y.1 : Nat))]) (fun y => [[(b5, .cells (wv ks).toArray 276 (0, 0))], y.2.2]) (fun y => 64 - y.1) (16, vw, Tw) ⟨⟨Nat.le_refl _, by simp only; omega⟩, hO⟩ (((((EnvLe.nil _).cons rfl).cons rfl).cons rfl).cons rfl) (HLe.refl _) ?_
  clear hO iw vw Tw
  rintro ⟨i, vw, Tw⟩ ⟨⟨hi, hi2⟩, hO⟩
  simp only at hi hi2 hO ⊢
  have iw := hO.oneCell
  have hsl := sched_len (b := b) i
  refine .seq ?_
  refine .seq (.region ?_)
  refine .q .move ?_
  refine .q .lss ?_
  refine .nil (seqQ_n ?_)
  refine .cond rfl (fun h2 => ?_) (fun h2 => ?_)
  have hlt : i < 64 := by have := of_decide_eq_true h2; omega
  have hwn := wn_hi (b := b) hsl (by omega)
  refine .skip ?_
  refine seqQ_n ?_
  refine .seq ?_
  refine .block ?_
  refine .seq ?_
  refine .region_still mixed (by kernel_rfl) ?_
  refine .q .move ?_
  refine .q .move ?_
  refine .q (.i64 ((i - 15 : Nat) : Int) .sub ⟨by omega, by omega, by omega⟩) ?_
  refine TriOps.indexO (i - 15) hO (sched_get (by omega)) (fun p71 => ?_)
  refine .q (.load1 rfl) ?_
  refine .q .move ?_
  refine .q .move ?_
  refine .q (.i64 ((i - 2 : Nat) : Int) .sub ⟨by omega, by omega, by omega⟩) ?_
  refine TriOps.indexO (i - 2) hO (sched_get (by omega)) (fun p76 => ?_)
  refine .q (.load1 rfl) ?_
  refine .q .assign ?_
  refine .q .assign ?_
  refine .nil (seqQ_n ?_)
  refine .seq ?_
  refine .region_all [] mixed ?_
  refine .takeO 0 rfl .move (by kernel_rfl) ?_
  refine .takeO 1 rfl .move (by kernel_rfl) ?_
  refine .takeO 2 rfl (.i64 ((i - 16 : Nat) : Int) .sub ⟨by omega, by omega, by omega⟩) (by kernel_rfl) ?_
  refine RA.indexO 3 rfl (i - 16) hO (sched_get (by omega)) rfl rfl rfl (by kernel_rfl) (fun p81 => ?_)
  refine .takeO 4 rfl (.load1 rfl) (by kernel_rfl) ?_
  refine .takeO 5 rfl .move (by kernel_rfl) ?_
  refine .takeO 7 rfl .move (by kernel_rfl) ?_
  refine .takeO 10 rfl .move (by kernel_rfl) ?_
  refine .takeO 11 rfl (.quoW (b := 8#32) rfl rfl (by decide)) (by kernel_rfl) ?_
  refine .takeO 14 rfl .move (by kernel_rfl) ?_
  refine .takeO 15 rfl .move (by kernel_rfl) ?_
  refine .takeO 16 rfl (.i64 ((i - 7 : Nat) : Int) .sub ⟨by omega, by omega, by omega⟩) (by kernel_rfl) ?_
  refine RA.indexO 17 rfl (i - 7) hO (sched_get (by omega)) rfl rfl rfl (by kernel_rfl) (fun p95 => ?_)
  refine .takeO 18 rfl (.load1 rfl) (by kernel_rfl) ?_
  refine .takeO 20 rfl .move (by kernel_rfl) ?_
  refine .takeO 22 rfl .move (by kernel_rfl) ?_
  refine .takeO 25 rfl .move (by kernel_rfl) ?_
  refine .takeO 26 rfl (.quoW (b := 1024#32) rfl rfl (by decide)) (by kernel_rfl) ?_
  refine RA.step 6 rfl (by kernel_rfl) rfl ?_
  refine TriOps.callR (turn_spec _ 7 (by decide) _) (fun u hu => ?_)
  subst hu
  refine .nil (Next.sub ?_)
  refine RA.step 8 rfl (by kernel_rfl) rfl ?_
  refine TriOps.callR (turn_spec _ 18 (by decide) _) (fun u hu => ?_)
  subst hu
  refine .nil (Next.sub ?_)
  refine .takeO 9 rfl (.xorW rfl rfl) (by kernel_rfl) ?_
  refine .takeO 12 rfl (.xorW rfl rfl) (by kernel_rfl) ?_
  refine .takeO 13 rfl (.addW rfl rfl) (by kernel_rfl) ?_
  refine .takeO 19 rfl (.addW rfl rfl) (by kernel_rfl) ?_
  refine RA.step 21 rfl (by kernel_rfl) rfl ?_
  refine TriOps.callR (turn_spec _ 17 (by decide) _) (fun u hu => ?_)
  subst hu
  refine .nil (Next.sub ?_)
  refine RA.step 23 rfl (by kernel_rfl) rfl ?_
  refine TriOps.callR (turn_spec _ 19 (by decide) _) (fun u hu => ?_)
  subst hu
  refine .nil (Next.sub ?_)
  refine .takeO 24 rfl (.xorW rfl rfl) (by kernel_rfl) ?_
  refine .takeO 27 rfl (.xorW rfl rfl) (by kernel_rfl) ?_
  refine .takeO 28 rfl (.addW rfl rfl) (by kernel_rfl) ?_
  refine .takeO 29 rfl .assign (by kernel_rfl) ?_
  refine RA.nil (by kernel_rfl) ?_
  refine seqQ_n ?_
  refine .region ?_
  refine .q .move ?_
  refine .q .move ?_
  refine TriOps.buildSlice11 (fun b109 => ?_)
  rw [hwn]
  refine TriOps.append hO (RS.lits (xs := [wnext b (sched b i)]) rfl (by simp [encW]) (by simp [encW, oneCell])) (by simp [hsl]; omega) (fun v5 T5 hO5 => ?_)
  refine .q .assign ?_
  refine .nil ?_
  refine blkQ_n (seqQ_n ?_)
  refine .region ?_
  refine .q .move ?_
  refine .q (.i64 ((i + 1 : Nat) : Int) .add ⟨by omega, by omega, by omega⟩) ?_
  refine .q .assign ?_
  refine .nil ?_
  · exact loopQ_i (i + 1, v5, T5) ⟨⟨by simp only; omega, by simp only; omega⟩, hO5⟩ (by simp only; omega) (((((EnvLe.nil _).cons rfl).cons rfl).cons rfl).cons rfl) (HLe.pick [1, 1] _)
  have hi64 : i = 64 := by have := of_decide_eq_false h2; omega
  subst hi64
  refine .exit (seqQ_x (loopQ_x (blkQ_x ?_)))
  refine seqQ_n ?_
  refine .seq ?_
  refine .region_still mixed (by kernel_rfl) ?_
  refine .q .move ?_
  refine TriOps.indexR 0 hs (show s.toL[0]? = some s.a from rfl) (fun p112 => ?_)
  refine .q (.load1 rfl) ?_
  refine .q .move ?_
  refine TriOps.indexR 1 hs (show s.toL[1]? = some s.b from rfl) (fun p115 => ?_)
  refine .q (.load1 rfl) ?_
  refine .q .move ?_
  refine TriOps.indexR 2 hs (show s.toL[2]? = some s.c from rfl) (fun p118 => ?_)
  refine .q (.load1 rfl) ?_
  refine .q .move ?_
  refine TriOps.indexR 3 hs (show s.toL[3]? = some s.d from rfl) (fun p121 => ?_)
  refine .q (.load1 rfl) ?_
  refine .q .move ?_
  refine TriOps.indexR 4 hs (show s.toL[4]? = some s.e from rfl) (fun p124 => ?_)
  refine .q (.load1 rfl) ?_
  refine .q .move ?_
  refine TriOps.indexR 5 hs (show s.toL[5]? = some s.f from rfl) (fun p127 => ?_)
  refine .q (.load1 rfl) ?_
  refine .q .move ?_
  refine TriOps.indexR 6 hs (show s.toL[6]? = some s.g from rfl) (fun p130 => ?_)
  refine .q (.load1 rfl) ?_
  refine .q .move ?_
  refine TriOps.indexR 7 hs (show s.toL[7]? = some s.h from rfl) (fun p133 => ?_)
  refine .q (.load1 rfl) ?_
  refine .q .assign ?_
  refine .q .assign ?_
  refine .q .assign ?_
  refine .q .assign ?_
  refine .q .assign ?_
  refine .q .assign ?_
  refine .q .assign ?_
  refine .q .assign ?_
  refine .nil (seqQ_n ?_)
  refine .seq ?_
  refine .seq (.region ?_)
  refine .q .assign ?_
  refine .nil (seqQ_n ?_)
  refine .block ?_
  refine .loop (X := Nat) (fun i => i ≤ 64) (fun i => [(0, .slice ps_ s.toL.length ks_), (5, .pointer (some ⟨b5, 0, none⟩)), (6, vw), (12, .int .u32 ((rounds (sched b 64) s i).a.toNat : Int)), (13, .int .u32 ((rounds (sched b 64) s i).b.toNat : Int)), (14, .int .u32 ((rounds (sched b 64) s i).c.toNat : Int)), (15, .int .u32 ((rounds (sched b 64) s i).d.toNat : Int)), (16, .int .u32 ((rounds (sched b 64) s i).e.toNat : Int)), (17, .int .u32 ((rounds (sched b 64) s i).f.toNat : Int)), (18, .int .u32 ((rounds (sched b 64) s i).g.toNat : Int)), (19, .int .u32 ((rounds (sched b 64) s i).h.toNat : Int)), (20, .int .i64 (i : Nat))]) (fun i => [[(b5, .cells (wv ks).toArray 276 (0, 0))], Tw]) (fun i => 64 - i) 0 (Nat.zero_le _) (((((((((((((EnvLe.nil _).cons rfl).cons rfl).cons rfl).cons rfl).cons rfl).cons rfl).cons rfl).cons rfl).cons rfl).cons rfl).cons rfl).cons rfl) (HLe.refl _) ?_
  rintro i hi
  refine .seq ?_
  refine .seq (.region ?_)
  refine .q .move ?_
  refine .q .lss ?_
  refine .nil (seqQ_n ?_)
  refine .cond rfl (fun h3 => ?_) (fun h3 => ?_)
  have hlt : i < 64 := by have := of_decide_eq_true h3; omega
  obtain ⟨x, hx⟩ : ∃ x, x = rounds (sched b 64) s i := ⟨_, rfl⟩
  rw [← hx]
  refine .skip ?_
  refine seqQ_n ?_
  refine .seq ?_
  refine .block ?_
  refine .seq ?_
  refine .region_all [] mixed ?_
  refine .takeO 0 rfl .move (by kernel_rfl) ?_
  refine .takeO 1 rfl .move (by kernel_rfl) ?_
  refine .takeO 3 rfl .move (by kernel_rfl) ?_
  refine .takeO 6 rfl .move (by kernel_rfl) ?_
  refine .takeO 10 rfl .move (by kernel_rfl) ?_
  refine .takeO 11 rfl .move (by kernel_rfl) ?_
  refine .takeO 12 rfl (.andW rfl rfl) (by kernel_rfl) ?_
  refine .takeO 13 rfl .move (by kernel_rfl) ?_
  refine .takeO 14 rfl (.xorW (b := 4294967295#32) rfl rfl) (by kernel_rfl) ?_
  refine .takeO 15 rfl .move (by kernel_rfl) ?_
  refine .takeO 16 rfl (.andW rfl rfl) (by kernel_rfl) ?_
  refine .takeO 17 rfl (.xorW rfl rfl) (by kernel_rfl) ?_
  refine .takeO 19 rfl .move (by kernel_rfl) ?_
  refine .takeO 20 rfl (.indexArr1 i hlt rfl rfl rfl) (by kernel_rfl) ?_
  refine .takeO 21 rfl (.load1 rfl (drop_at (ks_at hlt))) (by kernel_rfl) ?_
  refine .takeO 23 rfl .move (by kernel_rfl) ?_
  refine .takeO 24 rfl .move (by kernel_rfl) ?_
  refine RA.indexO 25 rfl i hO (sched_get hlt) rfl rfl rfl (by kernel_rfl) (fun p164 => ?_)
  refine .takeO 26 rfl (.load1 rfl) (by kernel_rfl) ?_
  refine RA.step 2 rfl (by kernel_rfl) rfl ?_
  refine TriOps.callR (turn_spec _ 6 (by decide) _) (fun u hu => ?_)
  subst hu
  refine .nil (Next.sub ?_)
  refine RA.step 4 rfl (by kernel_rfl) rfl ?_
  refine TriOps.callR (turn_spec _ 11 (by decide) _) (fun u hu => ?_)
  subst hu
  refine .nil (Next.sub ?_)
  refine .takeO 5 rfl (.xorW rfl rfl) (by kernel_rfl) ?_
  refine RA.step 7 rfl (by kernel_rfl) rfl ?_
  refine TriOps.callR (turn_spec _ 25 (by decide) _) (fun u hu => ?_)
  subst hu
  refine .nil (Next.sub ?_)
  refine .takeO 8 rfl (.xorW rfl rfl) (by kernel_rfl) ?_
  refine .takeO 9 rfl (.addW rfl rfl) (by kernel_rfl) ?_
  refine .takeO 18 rfl (.addW rfl rfl) (by kernel_rfl) ?_
  refine .takeO 22 rfl (.addW rfl rfl) (by kernel_rfl) ?_
  refine .takeO 27 rfl (.addW rfl rfl) (by kernel_rfl) ?_
  refine .takeO 28 rfl .assign (by kernel_rfl) ?_
  refine RA.nil (by kernel_rfl) ?_
  refine seqQ_n ?_
  refine .seq (.region ?_)
  rw [xor_ones]
  refine .q .move ?_
  refine TriOps.callR (turn_spec _ 2 (by decide) _) (fun u hu => ?_)
  subst hu
  refine .q .move ?_
  refine TriOps.callR (turn_spec _ 13 (by decide) _) (fun u hu => ?_)
  subst hu
  refine .q (.xorW rfl rfl) ?_
  refine .q .move ?_
  refine TriOps.callR (turn_spec _ 22 (by decide) _) (fun u hu => ?_)
  subst hu
  refine .q (.xorW rfl rfl) ?_
  refine .q .move ?_
  refine .q .move ?_
  refine .q (.andW rfl rfl) ?_
  refine .q .move ?_
  refine .q .move ?_
  refine .q (.andW rfl rfl) ?_
  refine .q (.xorW rfl rfl) ?_
  refine .q .move ?_
  refine .q .move ?_
  refine .q (.andW rfl rfl) ?_
  refine .q (.xorW rfl rfl) ?_
  refine .q (.addW rfl rfl) ?_
  refine .q .assign ?_
  refine .nil (seqQ_n ?_)
  refine .seq (.region ?_)
  refine .q .move ?_
  refine .q .assign ?_
  refine .nil (seqQ_n ?_)
  refine .seq (.region ?_)
  refine .q .move ?_
  refine .q .assign ?_
  refine .nil (seqQ_n ?_)
  refine .seq (.region ?_)
  refine .q .move ?_
  refine .q .assign ?_
  refine .nil (seqQ_n ?_)
  refine .seq (.region ?_)
  refine .q .move ?_
  refine .q .move ?_
  refine .q (.addW rfl rfl) ?_
  refine .q .assign ?_
  refine .nil (seqQ_n ?_)
  refine .seq (.region ?_)
  refine .q .move ?_
  refine .q .assign ?_
  refine .nil (seqQ_n ?_)
  refine .seq (.region ?_)
  refine .q .move ?_
  refine .q .assign ?_
  refine .nil (seqQ_n ?_)
  refine .seq (.region ?_)
  refine .q .move ?_
  refine .q .assign ?_
  refine .nil (seqQ_n ?_)
  refine .region ?_
  refine .q .move ?_
  refine .q .move ?_
  refine .q (.addW rfl rfl) ?_
  refine .q .assign ?_
  refine .nil ?_
  refine blkQ_n (seqQ_n ?_)
  refine .region ?_
  refine .q .move ?_
  refine .q (.i64 ((i + 1 : Nat) : Int) .add ⟨by omega, by omega, by omega⟩) ?_
  refine .q .assign ?_
  refine .nil ?_
  · exact loopQ_i (i + 1) hlt (by omega) (by rw [show rounds (sched b 64) s (i + 1) = rnd x (ks.getD i 0) ((sched b 64).getD i 0) by rw [hx]; rfl]; exact ((((((((((((EnvLe.nil _).cons rfl).cons rfl).cons rfl).cons rfl).cons rfl).cons rfl).cons rfl).cons rfl).cons rfl).cons rfl).cons rfl).cons rfl) (HLe.refl _)
  have hi64 : i = 64 := by have := of_decide_eq_false h3; omega
  subst hi64
  have hc : comp s b = stAdd s (rounds (sched b 64) s 64) := rfl
  generalize rounds (sched b 64) s 64 = x at hc ⊢
  refine .exit (seqQ_x (loopQ_x (blkQ_x ?_)))
  refine seqQ_n ?_
  refine .seq ?_
  refine .region_tail 40 mixed (by kernel_rfl) ?_
  conv => arg 6; dsimp only [List.take]
  refine .q .move ?_
  refine TriOps.indexR 0 hs (show s.toL[0]? = some s.a from rfl) (fun p200 => ?_)
  refine .q (.load1 rfl) ?_
  refine .q .move ?_
  refine .q (.addW rfl rfl) ?_
  refine .q .move ?_
  refine TriOps.indexR 1 hs (show s.toL[1]? = some s.b from rfl) (fun p205 => ?_)
  refine .q (.load1 rfl) ?_
  refine .q .move ?_
  refine .q (.addW rfl rfl) ?_
  refine .q .move ?_
  refine TriOps.indexR 2 hs (show s.toL[2]? = some s.c from rfl) (fun p210 => ?_)
  refine .q (.load1 rfl) ?_
  refine .q .move ?_
  refine .q (.addW rfl rfl) ?_
  refine .q .move ?_
  refine TriOps.indexR 3 hs (show s.toL[3]? = some s.d from rfl) (fun p215 => ?_)
  refine .q (.load1 rfl) ?_
  refine .q .move ?_
  refine .q (.addW rfl rfl) ?_
  refine .q .move ?_
  refine TriOps.indexR 4 hs (show s.toL[4]? = some s.e from rfl) (fun p220 => ?_)
  refine .q (.load1 rfl) ?_
  refine .q .move ?_
  refine .q (.addW rfl rfl) ?_
  refine .q .move ?_
  refine TriOps.indexR 5 hs (show s.toL[5]? = some s.f from rfl) (fun p225 => ?_)
  refine .q (.load1 rfl) ?_
  refine .q .move ?_
  refine .q (.addW rfl rfl) ?_
  refine .q .move ?_
  refine TriOps.indexR 6 hs (show s.toL[6]? = some s.g from rfl) (fun p230 => ?_)
  refine .q (.load1 rfl) ?_
  refine .q .move ?_
  refine .q (.addW rfl rfl) ?_
  refine .q .move ?_
  refine TriOps.indexR 7 hs (show s.toL[7]? = some s.h from rfl) (fun p235 => ?_)
  refine .q (.load1 rfl) ?_
  refine .q .move ?_
  refine .q (.addW rfl rfl) ?_
  refine .nil ?_
  refine TriOps.buildSliceN1 (wv (stAdd s x).toL) (fun b239 => ?_) (ho := wv_one)
  refine .q .assign ?_
  refine .nil (seqQ_n ?_)
  refine .ret (retQ_r _ (.one (.tmp rfl)) (.one [0] _) ?_)
  · rw [hc]
    exact ⟨_, rfl, OS.lits (xs := (stAdd s x).toL) (flat_encW _) (fun _ _ => rfl) (fun x _ u hu => by simp only [encW, List.mem_singleton] at hu; subst hu; rfl)⟩
end Go.Proofs.YtpmhgpjcladbkaaGreatDoor
set_option linter.unusedVariables false
set_option linter.unusedSimpArgs false
set_option maxRecDepth 4000
namespace Go.Proofs.YtpmhgpjcladbkaaGreatDoor
theorem rotw_spec (x : W32) (n : Nat) (hn : n ∈ [2, 6, 7, 11, 13, 17, 18, 19, 22, 25]) (R : Rds) : Spec Tryz.prog 311 [.int .u32 (x.toNat : Int), .int .i64 (-(n : Int))] R [] fun v H' => v = .int .u32 ((rotr x n).toNat : Int) ∧ H' = [] := by
  have e : IntKind.u64.wrap ((BitVec.ofInt IntKind.u64.bits (IntKind.u64.wrap (-(n : Int))) &&& BitVec.ofInt IntKind.u64.bits 31).toNat : Int) = ((32 - n : Nat) : Int) ∧ n ≤ 32 := by
    simp only [List.mem_cons, List.not_mem_nil, or_false] at hn
    rcases hn with rfl | rfl | rfl | rfl | rfl | rfl | rfl | rfl | rfl | rfl <;> exact ⟨by decide, by decide⟩
  obtain ⟨e, h32⟩ := e
  refine Spec.body Tryz.func311 rfl Tryz.results311 Tryz.ntmps311 rfl ?_
  refine .seq (.region ?_)
  refine .q .assign ?_
  refine .nil (seqQ_n ?_)
  refine .seq (.region ?_)
  refine .q .move ?_
  refine .q .convI ?_
  refine .q .andI ?_
  rw [e]
  refine .q .assign ?_
  refine .nil (seqQ_n ?_)
  refine .seq (.region ?_)
  refine .q .move ?_
  refine .q .move ?_
  refine .q (.shlW rfl rfl (by omega)) ?_
  refine .q .move ?_
  refine .q .move ?_
  refine .q (.u64 ((n : Nat) : Int) .sub ⟨by omega, by omega, by omega⟩) ?_
  refine .q (.shrW rfl rfl (by omega)) ?_
  refine .q (.orW rfl rfl) ?_
  refine .q .assign ?_
  refine .nil (seqQ_n ?_)
  refine .ret (retQ_r _ (.one (.tmp rfl)) (.none _) ?_)
  · exact ⟨rfl, rfl⟩
theorem spread_spec (v : Value) (b : List UInt8) (R : Rds) (h : RS R 1 encU v b) (hl : 64 ≤ b.length) : Spec Tryz.prog 310 [v] R [] fun u H' => u = .agg (wv (sched b 64)).toArray ∧ H' = [] := by
  have hg : ∀ j, j < 64 → b[j]? = some (b.getD j 0) := fun j hj => by
    rw [List.getD_eq_getElem?_getD, List.getElem?_eq_getElem (by omega)]; rfl
  obtain ⟨pv, kv_, rfl⟩ := h.val
  refine Spec.body Tryz.func310 rfl Tryz.results310 Tryz.ntmps310 rfl ?_
  refine .seq (.region ?_)
  refine TriOps.allocA (fun b2 => ?_)
  refine .nil (seqQ_n ?_)
  refine .seq (.region ?_)
  refine TriOps.allocA (fun b3 => ?_)
  refine .nil (seqQ_n ?_)
  refine .seq ?_
  refine .seq (.region ?_)
  refine .q .move ?_
  refine .nil (seqQ_n ?_)
  refine .block ?_
  refine .loop (X := Nat) (fun i => i ≤ 16) (fun i => [(0, .slice pv b.length kv_), (2, .pointer (some ⟨b2, 0, none⟩)), (3, .pointer (some ⟨b3, 0, none⟩)), (10, .int .i64 (i : Nat))]) (fun i => [[(b3, .cells (wv (arr b i)).toArray 276 (0, 0))], [(b2, .cells (wv (List.replicate 64 0#32)).toArray 276 (0, 0))]]) (fun i => 16 - i) 0 (Nat.zero_le _) (((((EnvLe.nil _).cons rfl).cons rfl).cons rfl).cons rfl) (HLe.refl _) ?_
  rintro i hi
  have harl := arr_len (b := b) (i := i) (by omega)
  have hsl := sched_len (b := b) i
  refine .seq (.region ?_)
  refine .q .lss ?_
  refine .nil (seqQ_n ?_)
  refine .seq ?_
  refine .cond rfl (fun h1 => ?_) (fun h1 => ?_)
  have hlt : i < 16 := by have := of_decide_eq_true h1; omega
  have hwn : (((((b.getD (4 * i) 0).toBitVec.setWidth 32 : W32) <<< 24 ||| ((b.getD (4 * i + 1) 0).toBitVec.setWidth 32 : W32) <<< 16) ||| ((b.getD (4 * i + 2) 0).toBitVec.setWidth 32 : W32) <<< 8) ||| ((b.getD (4 * i + 3) 0).toBitVec.setWidth 32 : W32)) = wnext b (sched b i) := by
    unfold wnext
    rw [if_pos (by rw [hsl]; exact hlt), hsl]
    rfl
  refine .skip ?_
  refine seqQ_n ?_
  refine .seq ?_
  refine .block ?_
  refine .seq (.region ?_)
  refine .q .move ?_
  refine .q .assign ?_
  refine .nil (seqQ_n ?_)
  refine .region_tail 35 mixed (by kernel_rfl) ?_
  conv => arg 6; dsimp only [List.take]
  refine .q .move ?_
  refine .q .move ?_
  refine .q .move ?_
  refine .q (.i64 ((4 * i : Nat) : Int) .mul ⟨by omega, by omega, by omega⟩) ?_
  refine TriOps.indexR (4 * i) h (hg _ (by omega)) (fun p17 => ?_)
  refine .q (.load1 rfl) ?_
  refine .q (.wide rfl) ?_
  refine .q (.shlW (n := 24) rfl rfl (by decide)) ?_
  refine .q .move ?_
  refine .q .move ?_
  refine .q (.i64 ((4 * i : Nat) : Int) .mul ⟨by omega, by omega, by omega⟩) ?_
  refine .q (.i64 ((4 * i + 1 : Nat) : Int) .add ⟨by omega, by omega, by omega⟩) ?_
  refine TriOps.indexR (4 * i + 1) h (hg _ (by omega)) (fun p25 => ?_)
  refine .q (.load1 rfl) ?_
  refine .q (.wide rfl) ?_
  refine .q (.shlW (n := 16) rfl rfl (by decide)) ?_
  refine .q (.orW rfl rfl) ?_
  refine .q .move ?_
  refine .q .move ?_
  refine .q (.i64 ((4 * i : Nat) : Int) .mul ⟨by omega, by omega, by omega⟩) ?_
  refine .q (.i64 ((4 * i + 2 : Nat) : Int) .add ⟨by omega, by omega, by omega⟩) ?_
  refine TriOps.indexR (4 * i + 2) h (hg _ (by omega)) (fun p34 => ?_)
  refine .q (.load1 rfl) ?_
  refine .q (.wide rfl) ?_
  refine .q (.shlW (n := 8) rfl rfl (by decide)) ?_
  refine .q (.orW rfl rfl) ?_
  refine .q .move ?_
  refine .q .move ?_
  refine .q (.i64 ((4 * i : Nat) : Int) .mul ⟨by omega, by omega, by omega⟩) ?_
  refine .q (.i64 ((4 * i + 3 : Nat) : Int) .add ⟨by omega, by omega, by omega⟩) ?_
  refine TriOps.indexR (4 * i + 3) h (hg _ (by omega)) (fun p43 => ?_)
  refine .q (.load1 rfl) ?_
  refine .q (.wide rfl) ?_
  refine .q (.orW rfl rfl) ?_
  refine .q (.indexArr1 i (by omega) rfl rfl rfl) ?_
  refine .nil ?_
  refine TriOps.store1 rfl rfl ?_ (by rw [wv_len, harl]; omega)
  rw [wv_put (i := i) (by omega) (by rw [harl]; omega), hwn, arr_put (by omega)]
  refine .nil ?_
  refine blkQ_n (seqQ_n ?_)
  refine .region ?_
  refine .q (.i64 ((i + 1 : Nat) : Int) .add ⟨by omega, by omega, by omega⟩) ?_
  refine .q .move ?_
  refine .nil ?_
  · exact loopQ_i (i + 1) hlt (by omega) (((((EnvLe.nil _).cons rfl).cons rfl).cons rfl).cons rfl) (HLe.refl _)
  have hi16 : i = 16 := by have := of_decide_eq_false h1; omega
  subst hi16
  refine .exit (seqQ_x (loopQ_x (blkQ_x ?_)))
  refine seqQ_n ?_
  refine .seq ?_
  refine .seq (.region ?_)
  refine .q .assign ?_
  refine .nil (seqQ_n ?_)
  refine .block ?_
  refine .loop (X := Nat) (fun i => 16 ≤ i ∧ i ≤ 64) (fun i => [(0, .slice pv b.length kv_), (2, .pointer (some ⟨b2, 0, none⟩)), (3, .pointer (some ⟨b3, 0, none⟩)), (5, .int .i64 (i : Nat))]) (fun i => [[(b3, .cells (wv (arr b i)).toArray 276 (0, 0))], [(b2, .cells (wv (List.replicate 64 0#32)).toArray 276 (0, 0))]]) (fun i => 64 - i) 16 ⟨Nat.le_refl _, by omega⟩ (((((EnvLe.nil _).cons rfl).cons rfl).cons rfl).cons rfl) (HLe.refl _) ?_
  rintro i ⟨hi, hi2⟩
  have harl := arr_len (b := b) (i := i) (by omega)
  have hsl := sched_len (b := b) i
  refine .seq ?_
  refine .seq (.region ?_)
  refine .q .move ?_
  refine .q .lss ?_
  refine .nil (seqQ_n ?_)
  refine .cond rfl (fun h2 => ?_) (fun h2 => ?_)
  have hlt : i < 64 := by have := of_decide_eq_true h2; omega
  have hwn : (((sched b i).getD (i - 16) 0 + ((rotr ((sched b i).getD (i - 15) 0) 7 ^^^ rotr ((sched b i).getD (i - 15) 0) 18) ^^^ (sched b i).getD (i - 15) 0 >>> 3)) + (sched b i).getD (i - 7) 0 + ((rotr ((sched b i).getD (i - 2) 0) 17 ^^^ rotr ((sched b i).getD (i - 2) 0) 19) ^^^ (sched b i).getD (i - 2) 0 >>> 10)) = wnext b (sched b i) := by
    unfold wnext
    rw [if_neg (by rw [hsl]; omega), hsl]
    rfl
  refine .skip ?_
  refine seqQ_n ?_
  refine .seq ?_
  refine .block ?_
  refine .seq ?_
  refine .region_still mixed (by kernel_rfl) ?_
  refine .q .move ?_
  refine .q (.i64 ((i - 15 : Nat) : Int) .sub ⟨by omega, by omega, by omega⟩) ?_
  refine .q (.indexArr1 (i - 15) (by omega) rfl rfl rfl) ?_
  refine .q (.load1 rfl (drop_at (wv_get (arr_get (by omega))))) ?_
  refine .q .move ?_
  refine .q (.i64 ((i - 2 : Nat) : Int) .sub ⟨by omega, by omega, by omega⟩) ?_
  refine .q (.indexArr1 (i - 2) (by omega) rfl rfl rfl) ?_
  refine .q (.load1 rfl (drop_at (wv_get (arr_get (by omega))))) ?_
  refine .q .assign ?_
  refine .q .assign ?_
  refine .nil (seqQ_n ?_)
  refine .seq (.region ?_)
  refine .q .move ?_
  refine TriOps.callR (rotw_spec _ 7 (by decide) _) (fun u hu => ?_)
  subst hu
  refine .q .move ?_
  refine TriOps.callR (rotw_spec _ 18 (by decide) _) (fun u hu => ?_)
  subst hu
  refine .q (.xorW rfl rfl) ?_
  refine .q .move ?_
  refine .q (.shrW (n := 3) rfl rfl (by decide)) ?_
  refine .q (.xorW rfl rfl) ?_
  refine .q .assign ?_
  refine .nil (seqQ_n ?_)
  refine .seq (.region ?_)
  refine .q .move ?_
  refine TriOps.callR (rotw_spec _ 17 (by decide) _) (fun u hu => ?_)
  subst hu
  refine .q .move ?_
  refine TriOps.callR (rotw_spec _ 19 (by decide) _) (fun u hu => ?_)
  subst hu
  refine .q (.xorW rfl rfl) ?_
  refine .q .move ?_
  refine .q (.shrW (n := 10) rfl rfl (by decide)) ?_
  refine .q (.xorW rfl rfl) ?_
  refine .q .assign ?_
  refine .nil (seqQ_n ?_)
  refine .region_tail 15 mixed (by kernel_rfl) ?_
  conv => arg 6; dsimp only [List.take]
  refine .q .move ?_
  refine .q .move ?_
  refine .q (.i64 ((i - 16 : Nat) : Int) .sub ⟨by omega, by omega, by omega⟩) ?_
  refine .q (.indexArr1 (i - 16) (by omega) rfl rfl rfl) ?_
  refine .q (.load1 rfl (drop_at (wv_get (arr_get (by omega))))) ?_
  refine .q .move ?_
  refine .q (.addW rfl rfl) ?_
  refine .q .move ?_
  refine .q (.i64 ((i - 7 : Nat) : Int) .sub ⟨by omega, by omega, by omega⟩) ?_
  refine .q (.indexArr1 (i - 7) (by omega) rfl rfl rfl) ?_
  refine .q (.load1 rfl (drop_at (wv_get (arr_get (by omega))))) ?_
  refine .q (.addW rfl rfl) ?_
  refine .q .move ?_
  refine .q (.addW rfl rfl) ?_
  refine .q (.indexArr1 i (by omega) rfl rfl rfl) ?_
  refine .nil ?_
  refine TriOps.store1 rfl rfl ?_ (by rw [wv_len, harl]; omega)
  rw [wv_put (i := i) (by omega) (by rw [harl]; omega), hwn, arr_put (by omega)]
  refine .nil ?_
  refine blkQ_n (seqQ_n ?_)
  refine .region ?_
  refine .q .move ?_
  refine .q (.i64 ((i + 1 : Nat) : Int) .add ⟨by omega, by omega, by omega⟩) ?_
  refine .q .assign ?_
  refine .nil ?_
  · exact loopQ_i (i + 1) ⟨by omega, by omega⟩ (by omega) (((((EnvLe.nil _).cons rfl).cons rfl).cons rfl).cons rfl) (HLe.refl _)
  have hi64 : i = 64 := by have := of_decide_eq_false h2; omega
  subst hi64
  rw [arr_full]
  refine .exit (seqQ_x (loopQ_x (blkQ_x ?_)))
  refine seqQ_n ?_
  refine .seq (.region ?_)
  refine .q (.loadA rfl (by rw [wv_len, sched_len])) ?_
  refine TriOps.storeA rfl rfl ?_ (by rw [wv_len, sched_len]) (by rw [wv_len, sched_len]; exact Nat.le_refl _)
  rw [setL_all (by rw [wv_len, sched_len]; rfl)]
  refine .nil (seqQ_n ?_)
  refine .ret (retQ_r _ (.one (.cellA rfl (by rw [wv_len, sched_len]))) (.none _) ?_)
  · exact ⟨rfl, rfl⟩
end Go.Proofs.YtpmhgpjcladbkaaGreatDoor
set_option linter.unusedVariables false
set_option linter.unusedSimpArgs false
set_option maxRecDepth 4000
namespace Go.Proofs.YtpmhgpjcladbkaaGreatDoor
/-- Lists, added place by place, so far. -/
def addTo (l m : List W32) (i : Nat) : List W32 := (List.zipWith (· + ·) l m).take i ++ l.drop i
theorem addTo_len {l m : List W32} {i : Nat} (h : l.length = m.length) (hi : i ≤ l.length) : (addTo l m i).length = l.length := by
  simp [addTo, h]; omega
theorem addTo_get {l m : List W32} {i : Nat} (h : l.length = m.length) (hi : i < l.length) : (addTo l m i)[i]? = l[i]? := by
  unfold addTo
  have hz : ((List.zipWith (· + ·) l m).take i).length = i := by simp; omega
  rw [List.getElem?_append_right (by omega), hz, Nat.sub_self, List.getElem?_drop, Nat.add_zero]
theorem addTo_put {l m : List W32} {i : Nat} {x y : W32} (hx : l[i]? = some x) (hy : m[i]? = some y) : (addTo l m i).set i (x + y) = addTo l m (i + 1) := by
  unfold addTo
  obtain ⟨h1, h2⟩ := List.getElem?_eq_some_iff.1 hx
  obtain ⟨h3, h4⟩ := List.getElem?_eq_some_iff.1 hy
  have hz : ((List.zipWith (· + ·) l m).take i).length = i := by simp; omega
  rw [List.set_append_right _ _ (by omega), hz, Nat.sub_self, drop_at hx, List.set_cons_zero, List.take_add_one]
  have : (List.zipWith (· + ·) l m)[i]? = some (x + y) := by rw [List.getElem?_zipWith, hx, hy]
  rw [this]
  simp
theorem toL_len {s : Hst} : s.toL.length = 8 := rfl
theorem addTo_full {s x : Hst} : addTo s.toL x.toL 8 = (stAdd s x).toL := rfl
theorem ks_get {i : Nat} (h : i < 64) : (wv ks)[i]? = some (.int .u32 ((ks.getD i 0).toNat : Int)) := by
  have hk : ks.length = 64 := rfl
  refine wv_get ?_
  rw [List.getD_eq_getElem?_getD, List.getElem?_eq_getElem (by omega)]
  rfl
theorem wd_get {b : List UInt8} {i : Nat} (h : i < 64) : (wv (sched b 64))[i]? = some (.int .u32 (((sched b 64).getD i 0).toNat : Int)) := wv_get (sched_get h)
theorem next_spec (s : Hst) (v : Value) (b : List UInt8) (R : Rds) (h : RS R 1 encU v b) (hl : 64 ≤ b.length) (hg : PC R (.pointer (some ⟨1, 0, none⟩)) (wv ks)) :
    Spec Tryz.prog 296 [.agg (wv s.toL).toArray, v] R [] fun u H' => u = .agg (wv (comp s b).toL).toArray ∧ H' = [] := by
  have iv := h.oneCell
  refine Spec.body Tryz.func296 rfl Tryz.results296 Tryz.ntmps296 rfl ?_
  refine .seq (.region ?_)
  refine TriOps.boxA rfl (fun b2 => ?_)
  refine TriOps.allocA (fun b4 => ?_)
  refine .nil (seqQ_n ?_)
  refine .seq (.region ?_)
  refine .q .move ?_
  refine TriOps.callR (spread_spec v b _ h.rx hl) (fun u hu => ?_)
  subst hu
  obtain ⟨w, hw⟩ : ∃ w, w = sched b 64 := ⟨_, rfl⟩
  have hwl : w.length = 64 := by rw [hw]; exact sched_len 64
  have hwg : ∀ i, i < 64 → (wv w)[i]? = some (.int .u32 ((w.getD i 0).toNat : Int)) := fun i hi => by rw [hw]; exact wd_get hi
  rw [← hw]
  refine TriOps.allocA (fun b5 => ?_)
  refine TriOps.storeA rfl rfl ?_ (by rw [wv_len, hwl]) (by rw [wv_len, hwl]; exact Nat.le_refl _)
  rw [setL_all (by rw [wv_len, hwl]; rfl)]
  refine .nil (seqQ_n ?_)
  refine .seq (.region ?_)
  refine .q (.loadA rfl) ?_
  refine TriOps.allocA (fun b6 => ?_)
  refine TriOps.storeA rfl rfl ?_ rfl (Nat.le_of_ble_eq_true rfl)
  rw [setL_all (by rfl)]
  refine .nil (seqQ_n ?_)
  refine .seq ?_
  refine .seq (.region ?_)
  refine .q (.loadA rfl) ?_
  refine .q .move ?_
  refine .nil (seqQ_n ?_)
  refine .block ?_
  refine .loop (X := Nat) (fun i => i ≤ 64) (fun i => [(2, .pointer (some ⟨b2, 0, none⟩)), (4, .pointer (some ⟨b4, 0, none⟩)), (5, .pointer (some ⟨b5, 0, none⟩)), (6, .pointer (some ⟨b6, 0, none⟩)), (17, .agg (wv ks).toArray), (18, .int .i64 (i : Nat))]) (fun i => [[(b6, .cells (wv (rounds w s i).toL).toArray 318 (0, 0))], [(b5, .cells (wv w).toArray 276 (0, 0))], [(b4, .cells (wv (List.replicate 8 0#32)).toArray 318 (0, 0))], [(b2, .cells (wv s.toL).toArray 318 (0, 0))]]) (fun i => 64 - i) 0 (Nat.zero_le _) (((((((EnvLe.nil _).cons rfl).cons rfl).cons rfl).cons rfl).cons rfl).cons rfl) (HLe.refl _) ?_
  rintro i hi
  refine .seq (.region ?_)
  refine .q .lss ?_
  refine .nil (seqQ_n ?_)
  refine .seq ?_
  refine .cond rfl (fun h1 => ?_) (fun h1 => ?_)
  have hlt : i < 64 := by have := of_decide_eq_true h1; omega
  obtain ⟨x, hx⟩ : ∃ x, x = rounds w s i := ⟨_, rfl⟩
  rw [← hx]
  refine .skip ?_
  refine seqQ_n ?_
  refine .seq ?_
  refine .block ?_
  refine .seq (.region ?_)
  refine .q .move ?_
  refine .q (.indexV i (ks_get hlt) hlt rfl rfl rfl) ?_
  refine .q .assign ?_
  refine .q .assign ?_
  refine .nil (seqQ_n ?_)
  refine .seq ?_
  refine .region_still mixed (by kernel_rfl) ?_
  refine .q (.indexArr1 0 (by decide) rfl rfl rfl) ?_
  refine .q (.load1 rfl) ?_
  refine .q (.indexArr1 4 (by decide) rfl rfl rfl) ?_
  refine .q (.load1 rfl) ?_
  refine .q .assign ?_
  refine .q .assign ?_
  refine .nil (seqQ_n ?_)
  refine .seq ?_
  refine .region_all [] mixed ?_
  refine .takeO 0 rfl (.indexArr1 7 (by decide) rfl rfl rfl) (by kernel_rfl) ?_
  refine .takeO 1 rfl (.load1 rfl) (by kernel_rfl) ?_
  refine .takeO 2 rfl .move (by kernel_rfl) ?_
  refine .takeO 4 rfl .move (by kernel_rfl) ?_
  refine .takeO 7 rfl .move (by kernel_rfl) ?_
  refine .takeO 11 rfl .move (by kernel_rfl) ?_
  refine .takeO 12 rfl (.indexArr1 5 (by decide) rfl rfl rfl) (by kernel_rfl) ?_
  refine .takeO 13 rfl (.load1 rfl) (by kernel_rfl) ?_
  refine .takeO 14 rfl (.andW rfl rfl) (by kernel_rfl) ?_
  refine .takeO 15 rfl .move (by kernel_rfl) ?_
  refine .takeO 16 rfl (.complW rfl) (by kernel_rfl) ?_
  refine .takeO 17 rfl (.indexArr1 6 (by decide) rfl rfl rfl) (by kernel_rfl) ?_
  refine .takeO 18 rfl (.load1 rfl) (by kernel_rfl) ?_
  refine .takeO 19 rfl (.andW rfl rfl) (by kernel_rfl) ?_
  refine .takeO 20 rfl (.xorW rfl rfl) (by kernel_rfl) ?_
  refine .takeO 22 rfl .move (by kernel_rfl) ?_
  refine .takeO 24 rfl .move (by kernel_rfl) ?_
  refine .takeO 25 rfl (.indexArr1 i hlt rfl rfl rfl) (by kernel_rfl) ?_
  refine .takeO 26 rfl (.load1 rfl (drop_at (hwg i hlt))) (by kernel_rfl) ?_
  refine RA.step 3 rfl (by kernel_rfl) rfl ?_
  refine TriOps.callR (rotw_spec _ 6 (by decide) _) (fun u hu => ?_)
  subst hu
  refine .nil (Next.sub ?_)
  refine RA.step 5 rfl (by kernel_rfl) rfl ?_
  refine TriOps.callR (rotw_spec _ 11 (by decide) _) (fun u hu => ?_)
  subst hu
  refine .nil (Next.sub ?_)
  refine .takeO 6 rfl (.xorW rfl rfl) (by kernel_rfl) ?_
  refine RA.step 8 rfl (by kernel_rfl) rfl ?_
  refine TriOps.callR (rotw_spec _ 25 (by decide) _) (fun u hu => ?_)
  subst hu
  refine .nil (Next.sub ?_)
  refine .takeO 9 rfl (.xorW rfl rfl) (by kernel_rfl) ?_
  refine .takeO 10 rfl (.addW rfl rfl) (by kernel_rfl) ?_
  refine .takeO 21 rfl (.addW rfl rfl) (by kernel_rfl) ?_
  refine .takeO 23 rfl (.addW rfl rfl) (by kernel_rfl) ?_
  refine .takeO 27 rfl (.addW rfl rfl) (by kernel_rfl) ?_
  refine .takeO 28 rfl .assign (by kernel_rfl) ?_
  refine RA.nil (by kernel_rfl) ?_
  refine seqQ_n ?_
  refine .seq ?_
  refine .region_all [] mixed ?_
  refine .takeO 0 rfl .move (by kernel_rfl) ?_
  refine .takeO 2 rfl .move (by kernel_rfl) ?_
  refine .takeO 5 rfl .move (by kernel_rfl) ?_
  refine .takeO 8 rfl .move (by kernel_rfl) ?_
  refine .takeO 9 rfl (.indexArr1 1 (by decide) rfl rfl rfl) (by kernel_rfl) ?_
  refine .takeO 10 rfl (.load1 rfl) (by kernel_rfl) ?_
  refine .takeO 11 rfl (.andW rfl rfl) (by kernel_rfl) ?_
  refine .takeO 12 rfl .move (by kernel_rfl) ?_
  refine .takeO 13 rfl (.indexArr1 2 (by decide) rfl rfl rfl) (by kernel_rfl) ?_
  refine .takeO 14 rfl (.load1 rfl) (by kernel_rfl) ?_
  refine .takeO 15 rfl (.andW rfl rfl) (by kernel_rfl) ?_
  refine .takeO 16 rfl (.xorW rfl rfl) (by kernel_rfl) ?_
  refine .takeO 17 rfl (.indexArr1 1 (by decide) rfl rfl rfl) (by kernel_rfl) ?_
  refine .takeO 18 rfl (.load1 rfl) (by kernel_rfl) ?_
  refine .takeO 19 rfl (.indexArr1 2 (by decide) rfl rfl rfl) (by kernel_rfl) ?_
  refine .takeO 20 rfl (.load1 rfl) (by kernel_rfl) ?_
  refine .takeO 21 rfl (.andW rfl rfl) (by kernel_rfl) ?_
  refine .takeO 22 rfl (.xorW rfl rfl) (by kernel_rfl) ?_
  refine RA.step 1 rfl (by kernel_rfl) rfl ?_
  refine TriOps.callR (rotw_spec _ 2 (by decide) _) (fun u hu => ?_)
  subst hu
  refine .nil (Next.sub ?_)
  refine RA.step 3 rfl (by kernel_rfl) rfl ?_
  refine TriOps.callR (rotw_spec _ 13 (by decide) _) (fun u hu => ?_)
  subst hu
  refine .nil (Next.sub ?_)
  refine .takeO 4 rfl (.xorW rfl rfl) (by kernel_rfl) ?_
  refine RA.step 6 rfl (by kernel_rfl) rfl ?_
  refine TriOps.callR (rotw_spec _ 22 (by decide) _) (fun u hu => ?_)
  subst hu
  refine .nil (Next.sub ?_)
  refine .takeO 7 rfl (.xorW rfl rfl) (by kernel_rfl) ?_
  refine .takeO 23 rfl (.addW rfl rfl) (by kernel_rfl) ?_
  refine .takeO 24 rfl .assign (by kernel_rfl) ?_
  refine RA.nil (by kernel_rfl) ?_
  refine seqQ_n ?_
  refine .seq ?_
  refine .region_tail 2 mixed (by kernel_rfl) ?_
  conv => arg 6; dsimp only [List.take]
  refine .q (.sliceArr 1 8 rfl ⟨_, rfl⟩ rfl (by decide) (by decide) (by decide)) ?_
  refine .q (.sliceArr 0 7 rfl rfl ⟨_, rfl⟩ (by decide) (by decide) (by decide)) ?_
  refine .nil ?_
  refine TriOps.copyB (b := b6) (E := 318) (lo := 1) (vs := wv x.toL) (ys := ((wv x.toL).drop 0).take 7) (RS.blk (b := b6) (E := 318) (fr := (0, 0)) (lo := 0) (n := 7) (cap := 8) (.inr (by simp)) wv_one (Nat.le_of_ble_eq_true rfl) (by decide) (by decide)) rfl rfl rfl (Nat.le_of_ble_eq_true rfl) ?_
  refine .nil (seqQ_n ?_)
  refine .seq (.region ?_)
  refine .q (.indexArr1 4 (by decide) rfl rfl rfl) ?_
  refine .q (.load1 rfl) ?_
  refine .q .move ?_
  refine .q (.addW rfl rfl) ?_
  refine .q (.indexArr1 4 (by decide) rfl rfl rfl) ?_
  refine TriOps.store1 rfl rfl ?_
  refine .nil (seqQ_n ?_)
  refine .region ?_
  refine .q .move ?_
  refine .q .move ?_
  refine .q (.addW rfl rfl) ?_
  refine .q (.indexArr1 0 (by decide) rfl rfl rfl) ?_
  refine TriOps.store1 rfl rfl ?_
  refine .nil ?_
  refine blkQ_n (seqQ_n ?_)
  refine .region ?_
  refine .q (.i64 ((i + 1 : Nat) : Int) .add ⟨by omega, by omega, by omega⟩) ?_
  refine .q .move ?_
  refine .nil ?_
  · exact loopQ_i (i + 1) hlt (by omega) (((((((EnvLe.nil _).cons rfl).cons rfl).cons rfl).cons rfl).cons rfl).cons rfl) (by rw [show rounds w s (i + 1) = rnd x (ks.getD i 0) (w.getD i 0) by rw [hx]; rfl]; exact HLe.refl _)
  have hi64 : i = 64 := by have := of_decide_eq_false h1; omega
  subst hi64
  obtain ⟨x, hx⟩ : ∃ x, x = rounds w s 64 := ⟨_, rfl⟩
  rw [← hx]
  refine .exit (seqQ_x (loopQ_x (blkQ_x ?_)))
  refine seqQ_n ?_
  refine .seq ?_
  refine .seq (.region ?_)
  refine .q .move ?_
  refine .nil (seqQ_n ?_)
  refine .block ?_
  refine .loop (X := Nat) (fun i => i ≤ 8) (fun i => [(2, .pointer (some ⟨b2, 0, none⟩)), (4, .pointer (some ⟨b4, 0, none⟩)), (6, .pointer (some ⟨b6, 0, none⟩)), (91, .int .i64 (i : Nat))]) (fun i => [[(b6, .cells (wv x.toL).toArray 318 (0, 0))], [(b5, .cells (wv w).toArray 276 (0, 0))], [(b4, .cells (wv (List.replicate 8 0#32)).toArray 318 (0, 0))], [(b2, .cells (wv (addTo s.toL x.toL i)).toArray 318 (0, 0))]]) (fun i => 8 - i) 0 (Nat.zero_le _) (((((EnvLe.nil _).cons rfl).cons rfl).cons rfl).cons rfl) (HLe.refl _) ?_
  rintro i hi
  have hal : (addTo s.toL x.toL i).length = 8 := addTo_len (l := s.toL) (m := x.toL) rfl hi
  refine .seq (.region ?_)
  refine .q .lss ?_
  refine .nil (seqQ_n ?_)
  refine .seq ?_
  refine .cond rfl (fun h2 => ?_) (fun h2 => ?_)
  have hlt : i < 8 := by have := of_decide_eq_true h2; omega
  obtain ⟨y, hy⟩ : ∃ y, s.toL[i]? = some y := ⟨_, List.getElem?_eq_getElem (by rw [toL_len]; exact hlt)⟩
  obtain ⟨z, hz⟩ : ∃ z, x.toL[i]? = some z := ⟨_, List.getElem?_eq_getElem (by rw [toL_len]; exact hlt)⟩
  refine .skip ?_
  refine seqQ_n ?_
  refine .seq ?_
  refine .block ?_
  refine .seq (.region ?_)
  refine .q .move ?_
  refine .q .assign ?_
  refine .nil (seqQ_n ?_)
  refine .region_tail 8 mixed (by kernel_rfl) ?_
  conv => arg 6; dsimp only [List.take]
  refine .q .move ?_
  refine .q (.indexArr1 i hlt rfl rfl rfl) ?_
  refine .q (.load1 rfl (drop_at (wv_get ((addTo_get (l := s.toL) (m := x.toL) rfl hlt).trans hy)))) ?_
  refine .q .move ?_
  refine .q (.indexArr1 i hlt rfl rfl rfl) ?_
  refine .q (.load1 rfl (drop_at (wv_get hz))) ?_
  refine .q (.addW rfl rfl) ?_
  refine .q (.indexArr1 i hlt rfl rfl rfl) ?_
  refine .nil ?_
  refine TriOps.store1 rfl rfl ?_ (by rw [wv_len, hal]; omega)
  rw [wv_put (i := i) (by omega) (by rw [hal]; omega), addTo_put hy hz]
  refine .nil ?_
  refine blkQ_n (seqQ_n ?_)
  refine .region ?_
  refine .q (.i64 ((i + 1 : Nat) : Int) .add ⟨by omega, by omega, by omega⟩) ?_
  refine .q .move ?_
  refine .nil ?_
  · exact loopQ_i (i + 1) hlt (by omega) (((((EnvLe.nil _).cons rfl).cons rfl).cons rfl).cons rfl) (HLe.refl _)
  have hi8 : i = 8 := by have := of_decide_eq_false h2; omega
  subst hi8
  rw [addTo_full]
  refine .exit (seqQ_x (loopQ_x (blkQ_x ?_)))
  refine seqQ_n ?_
  refine .seq (.region ?_)
  refine .q (.loadA rfl) ?_
  refine TriOps.storeA rfl rfl ?_ rfl (Nat.le_of_ble_eq_true rfl)
  rw [setL_all (by rfl)]
  refine .nil (seqQ_n ?_)
  refine .ret (retQ_r _ (.one (.cellA rfl rfl)) (.none _) ?_)
  · exact ⟨by rw [hx, hw]; rfl, rfl⟩
end Go.Proofs.YtpmhgpjcladbkaaGreatDoor
set_option linter.unusedVariables false
set_option linter.unusedSimpArgs false
set_option maxRecDepth 4000
namespace Go.Proofs.YtpmhgpjcladbkaaGreatDoor
theorem wrap8n (m : Nat) : IntKind.u8.wrap (m : Int) = ((UInt8.ofNat m).toNat : Int) := by
  rw [wrap8, BitVec.ofInt_natCast]
  simp
theorem fdiv_pow (m k : Nat) : (m : Int).fdiv (2 ^ k) = ((m / 2 ^ k : Nat) : Int) := by
  rw [Int.fdiv_eq_ediv_of_nonneg _ (Int.le_of_lt (Int.pow_pos (by decide)))]
  simp
theorem tmod_nat (m k : Nat) : (m : Int).tmod (k : Int) = ((m % k : Nat) : Int) := by
  rw [Int.tmod_eq_emod_of_nonneg (by omega)]
  simp
def lenBs (n : Nat) : List UInt8 := [lenB n 0, lenB n 1, lenB n 2, lenB n 3, lenB n 4, lenB n 5, lenB n 6, lenB n 7]
def padAt (n z i : Nat) : List UInt8 := 128 :: List.replicate z 0 ++ ((lenBs n).take i ++ List.replicate (8 - i) 0)
theorem padAt_len {n z i : Nat} (h : i ≤ 8) : (padAt n z i).length = 1 + z + 8 := by
  simp [padAt, lenBs]; omega
theorem lenBs_get {n i : Nat} (h : i < 8) : (lenBs n)[i]? = some (lenB n i) := by
  match i, h with
  | 0, _ => rfl
  | 1, _ => rfl
  | 2, _ => rfl
  | 3, _ => rfl
  | 4, _ => rfl
  | 5, _ => rfl
  | 6, _ => rfl
  | 7, _ => rfl
theorem padAt_put {n z i : Nat} (h : i < 8) : (padAt n z i).set (1 + z + i) (lenB n i) = padAt n z (i + 1) := by
  unfold padAt
  have h1 : (128 :: List.replicate z (0 : UInt8)).length = 1 + z := by simp; omega
  have h2 : ((lenBs n).take i).length = i := by simp [lenBs]; omega
  rw [List.set_append_right _ _ (by rw [h1]; omega), h1, show 1 + z + i - (1 + z) = i by omega, List.set_append_right _ _ (by rw [h2]; exact Nat.le_refl _), h2, Nat.sub_self, show 8 - i = (8 - (i + 1)) + 1 by omega, List.replicate_succ, List.set_cons_zero, List.take_add_one, lenBs_get h]
  simp
theorem pad_spec (n : Nat) (hn : n ≤ 1000000) (R : Rds) : Spec Tryz.prog 297 [.int .i64 (n : Nat)] R [] fun u H' => ∃ T, H' = [T] ∧ OS 5 1 encU u (padL n) T := by
  obtain ⟨z, hz⟩ : ∃ z, z = (119 - n % 64) % 64 := ⟨_, rfl⟩
  refine Spec.body Tryz.func297 rfl Tryz.results297 Tryz.ntmps297 rfl ?_
  refine .seq (.region ?_)
  refine .q .assign ?_
  refine .nil (seqQ_n ?_)
  refine .seq (.region ?_)
  refine .q .move ?_
  refine .q .rem ?_
  rw [show (n : Int).tmod 64 = ((n % 64 : Nat) : Int) from tmod_nat n 64]
  refine .q (.i64 ((119 - n % 64 : Nat) : Int) .sub ⟨by omega, by omega, by omega⟩) ?_
  refine .q .rem ?_
  rw [show ((119 - n % 64 : Nat) : Int).tmod 64 = ((z : Nat) : Int) by rw [hz]; exact tmod_nat _ 64]
  refine .q .assign ?_
  refine .nil (seqQ_n ?_)
  refine .seq (.region ?_)
  refine .q .move ?_
  refine .q (.i64 ((1 + z : Nat) : Int) .add ⟨by omega, by omega, by omega⟩) ?_
  refine .q (.i64 ((1 + z + 8 : Nat) : Int) .add ⟨by omega, by omega, by omega⟩) ?_
  refine TriOps.makeSlice (enc := encU) (1 + z + 8) (0 : UInt8) rfl rfl (by decide) (by decide) rfl rfl (by omega) (by omega) (fun b T hO => ?_)
  have hzl : z < 64 := by omega
  refine .q .assign ?_
  refine .nil (seqQ_n ?_)
  refine .seq (.region ?_)
  refine .q .move ?_
  refine TriOps.indexO 0 hO (show (List.replicate (1 + z + 8) (0 : UInt8))[0]? = some 0 by simp) (fun p15 => ?_)
  refine TriOps.storeO1 0 hO (show (List.replicate (1 + z + 8) (0 : UInt8))[0]? = some 0 by simp) (128 : UInt8) (fun T1 hO1 => ?_)
  have e1 : (List.replicate (1 + z + 8) (0 : UInt8)).set 0 128 = padAt n z 0 := by
    unfold padAt
    rw [show 1 + z + 8 = (z + 8) + 1 by omega, List.replicate_succ, List.set_cons_zero, List.take_zero, List.nil_append, List.cons_append, List.replicate_append_replicate]
  rw [e1] at hO1
  refine .nil (seqQ_n ?_)
  refine .seq ?_
  refine .seq (.region ?_)
  refine .q .move ?_
  refine .nil (seqQ_n ?_)
  refine .block ?_
  refine .loop (X := Nat × Seg) (fun y => y.1 ≤ 8 ∧ OS 5 1 encU (.slice (some ⟨b, 0, none⟩) (1 + z + 8) (1 + z + 8)) (padAt n z y.1) y.2) (fun y => [(0, .int .i64 (n : Nat)), (3, .int .i64 (z : Nat)), (4, .slice (some ⟨b, 0, none⟩) (1 + z + 8) (1 + z + 8)), (16, .int .i64 (y.1 : Nat))]) (fun y => [y.2]) (fun y => 8 - y.1) (0, T1) ⟨Nat.zero_le _, hO1⟩ (((((EnvLe.nil _).cons rfl).cons rfl).cons rfl).cons rfl) (HLe.refl _) ?_
  rintro ⟨i, Ti⟩ ⟨hi, hOi⟩
  simp only at hi hOi ⊢
  refine .seq (.region ?_)
  refine .q .lss ?_
  refine .nil (seqQ_n ?_)
  refine .seq ?_
  refine .cond rfl (fun h1 => ?_) (fun h1 => ?_)
  have hlt : i < 8 := by have := of_decide_eq_true h1; omega
  obtain ⟨y, hy⟩ : ∃ y, (padAt n z i)[1 + z + i]? = some y := ⟨_, List.getElem?_eq_getElem (by rw [padAt_len hi]; omega)⟩
  refine .skip ?_
  refine seqQ_n ?_
  refine .seq ?_
  refine .block ?_
  refine .seq (.region ?_)
  refine .q .move ?_
  refine .q .assign ?_
  refine .nil (seqQ_n ?_)
  refine .region ?_
  refine .q .move ?_
  refine .q .move ?_
  refine .q (.i64 ((1 + z : Nat) : Int) .add ⟨by omega, by omega, by omega⟩) ?_
  refine .q .move ?_
  refine .q (.i64 ((1 + z + i : Nat) : Int) .add ⟨by omega, by omega, by omega⟩) ?_
  refine .q .move ?_
  refine .q (.u64 ((n : Nat) : Int) .convI ⟨rfl, by omega, by omega⟩) ?_
  refine .q (.u64 ((n * 8 : Nat) : Int) .mul ⟨by omega, by omega, by omega⟩) ?_
  refine .q .move ?_
  refine .q (.i64 ((8 * i : Nat) : Int) .mul ⟨by omega, by omega, by omega⟩) ?_
  refine .q (.i64 ((56 - 8 * i : Nat) : Int) .sub ⟨by omega, by omega, by omega⟩) ?_
  refine .q .shrI ?_
  rw [show min (((56 - 8 * i : Nat) : Int)).toNat IntKind.u64.bits = 56 - 8 * i by simp only [IntKind.bits]; omega, fdiv_pow]
  refine .q .convI ?_
  rw [wrap8n]
  refine TriOps.indexO (1 + z + i) hOi hy (fun p32 => ?_)
  refine TriOps.storeO1 (1 + z + i) hOi hy (lenB n i) (fun T2 hO2 => ?_)
  rw [padAt_put hlt] at hO2
  refine .nil ?_
  refine blkQ_n (seqQ_n ?_)
  refine .region ?_
  refine .q (.i64 ((i + 1 : Nat) : Int) .add ⟨by omega, by omega, by omega⟩) ?_
  refine .q .move ?_
  refine .nil ?_
  · exact loopQ_i (i + 1, T2) ⟨hlt, hO2⟩ (by simp only; omega) (((((EnvLe.nil _).cons rfl).cons rfl).cons rfl).cons rfl) (HLe.refl _)
  have hi8 : i = 8 := by have := of_decide_eq_false h1; omega
  subst hi8
  refine .exit (seqQ_x (loopQ_x (blkQ_x ?_)))
  refine seqQ_n ?_
  refine .seq (.region ?_)
  refine .q .move ?_
  refine .q .assign ?_
  refine .nil (seqQ_n ?_)
  refine .ret (retQ_r _ (.one (.tmp rfl)) (.one [0] _) ?_)
  · exact ⟨Ti, by simp [take], by have e : padL n = padAt n z 8 := (by rw [hz]; rfl); rw [e]; exact hOi⟩
theorem first_spec (R : Rds) : Spec Tryz.prog 295 [] R [] fun u H' => u = .agg (wv H0.toL).toArray ∧ H' = [] := by
  refine Spec.body Tryz.func295 rfl Tryz.results295 Tryz.ntmps295 rfl ?_
  refine .seq (.region ?_)
  refine TriOps.allocA (fun b0 => ?_)
  refine .nil (seqQ_n ?_)
  refine .seq (.region ?_)
  refine .q .bldA ?_
  refine TriOps.storeA rfl rfl ?_
  refine .nil (seqQ_n ?_)
  refine .ret (retQ_r _ (.one (.cellA rfl rfl)) (.none _) ?_)
  · exact ⟨rfl, rfl⟩
/-- A hash. -/
def hcells (s : Hst) (made : Bool) (vr : Value) (n : Nat) : List Value := wv s.toL ++ [.bool made, vr, .int .i64 (n : Nat)]
def HSI (b : Nat) (s : Hst) (made : Bool) (r : List UInt8) (n : Nat) (T : Seg) : Prop := ∃ vr Tr, T = (b, .cells (hcells s made vr n).toArray 320 (0, 0)) :: Tr ∧ OS 5 1 encU vr r Tr
def Z0 : Hst := ⟨0, 0, 0, 0, 0, 0, 0, 0⟩
theorem hnew_spec (R : Rds) : Spec Tryz.prog 256 [] R [] fun u H' => ∃ T, H' = [T] ∧ ∃ b, u = .pointer (some ⟨b, 0, none⟩) ∧ HSI b Z0 false [] 0 T := by
  refine Spec.body Tryz.func256 rfl Tryz.results256 Tryz.ntmps256 rfl ?_
  refine .seq (.region ?_)
  refine .q .assign ?_
  refine .nil (seqQ_n ?_)
  refine .seq (.region ?_)
  refine .q .bld ?_
  refine TriOps.boxA rfl (fun b2 => ?_)
  refine .q .assign ?_
  refine .nil (seqQ_n ?_)
  refine .ret (retQ_r _ (.one (.tmp rfl)) (.one [0] _) ?_)
  · exact ⟨_, by simp [take]; rfl, _, rfl, .slice none 0 0, [], rfl, OS.nil⟩
theorem write_spec (b : Nat) (s : Hst) (made : Bool) (r : List UInt8) (n : Nat) (T : Seg) (v : Value) (l : List UInt8) (R : Rds) (hI : HSI b s made r n T) (h : RS R 1 encU v l) (hr : r.length ≤ 1000) (hl : l.length ≤ 100000) (hn : n ≤ 100000) (hg : PC R (.pointer (some ⟨1, 0, none⟩)) (wv ks)) :
    Spec Tryz.prog 257 [.pointer (some ⟨b, 0, none⟩), v] R [T] fun u H' => ∃ T', H' = [T'] ∧ u = .tuple #[] ∧ HSI b (blocks (if made then s else H0) (r ++ l)) true (left64 (r ++ l)) (n + l.length) T' := by
  obtain ⟨vr, Tr, rfl, hO⟩ := hI
  have ir := hO.oneCell
  have iv := h.oneCell
  obtain ⟨s0, hs0⟩ : ∃ s0, s0 = (if made then s else H0) := ⟨_, rfl⟩
  rw [← hs0]
  refine Spec.segs (H' := [[(b, .cells (hcells s made vr n).toArray 320 (0, 0))], Tr]) (by simp) ?_
  refine Spec.body Tryz.func257 rfl Tryz.results257 Tryz.ntmps257 rfl ?_
  refine .seq ?_
  refine .seq (.region ?_)
  refine .q .move ?_
  refine .q (.eqNilP rfl rfl) ?_
  refine .nil (seqQ_n ?_)
  refine .condF ?_
  refine .skip ?_
  refine seqQ_n ?_
  refine .seq ?_
  refine .seq (.region ?_)
  refine .q .move ?_
  refine .q (.nilCheck rfl) ?_
  refine .q (.fieldAddr rfl) ?_
  refine .q (.load1 rfl) ?_
  refine .q .not ?_
  refine .nil (seqQ_n ?_)
  refine Tri.cut (X := Unit) (fun _ => True) (fun _ => [(0, .pointer (some ⟨b, 0, none⟩)), (1, v)]) (fun _ => [[(b, .cells (hcells s0 true vr n).toArray 320 (0, 0))], Tr]) ?_ ?_
  refine .cond rfl (fun h2 => ?_) (fun h2 => ?_)
  refine .region ?_
  refine .q .move ?_
  refine .q .move ?_
  refine TriOps.callR (first_spec _) (fun u hu => ?_)
  subst hu
  refine .q (.nilCheck rfl) ?_
  refine .q (.fieldAddr rfl) ?_
  refine TriOps.storeA rfl rfl ?_ rfl (Nat.le_of_ble_eq_true rfl)
  rw [show setL (hcells s made vr n) (0 + 0) (wv H0.toL) = hcells H0 made vr n from rfl]
  refine .q (.nilCheck rfl) ?_
  refine .q (.fieldAddr rfl) ?_
  refine TriOps.store1 rfl rfl ?_
  rw [show setL (hcells H0 made vr n) (0 + 8) [.bool true] = hcells H0 true vr n from rfl]
  refine .nil ?_
  · first
      | exact joinQ_n () trivial (((EnvLe.nil _).cons rfl).cons rfl) (by rw [hs0, if_neg (by simpa using h2)]; exact HLe.refl _)
      | exact joinQ_n () trivial (((EnvLe.nil _).cons rfl).cons rfl) (by have hm : made = true := (by simpa using h2); rw [hs0, if_pos hm, hm]; exact HLe.refl _)
  refine .skip ?_
  · first
      | exact joinQ_n () trivial (((EnvLe.nil _).cons rfl).cons rfl) (by rw [hs0, if_neg (by simpa using h2)]; exact HLe.refl _)
      | exact joinQ_n () trivial (((EnvLe.nil _).cons rfl).cons rfl) (by have hm : made = true := (by simpa using h2); rw [hs0, if_pos hm, hm]; exact HLe.refl _)
  intro x hx
  refine seqQ_n ?_
  refine .seq (.region ?_)
  refine .q .move ?_
  refine .q (.nilCheck rfl) ?_
  refine .q (.fieldAddr rfl) ?_
  refine .q (.load1 rfl) ?_
  refine .q .move ?_
  refine .q (.lenR h) ?_
  refine .q (.i64 ((n + l.length : Nat) : Int) .add ⟨by omega, by omega, by omega⟩) ?_
  refine .q (.nilCheck rfl) ?_
  refine .q (.fieldAddr rfl) ?_
  refine TriOps.store1 rfl rfl ?_
  refine .nil (seqQ_n ?_)
  refine .seq (.region ?_)
  refine .q .move ?_
  refine .q .move ?_
  refine .q (.nilCheck rfl) ?_
  refine .q (.fieldAddr rfl) ?_
  refine .q (.load1 rfl) ?_
  refine .q .move ?_
  refine TriOps.append hO h.rx (by omega) (fun v5 T5 hO5 => ?_)
  have i5 := hO5.oneCell
  refine .q (.nilCheck rfl) ?_
  refine .q (.fieldAddr rfl) ?_
  refine TriOps.store1 rfl rfl ?_
  refine .nil (seqQ_n ?_)
  refine .block ?_
  refine .loop (X := Hst × List UInt8 × Value × Seg) (fun y => (blocks y.1 y.2.1 = blocks s0 (r ++ l) ∧ left64 y.2.1 = left64 (r ++ l)) ∧ OS 5 1 encU y.2.2.1 y.2.1 y.2.2.2 ∧ y.2.1.length ≤ 200000) (fun y => [(0, .pointer (some ⟨b, 0, none⟩))]) (fun y => [[(b, .cells (hcells y.1 true y.2.2.1 (n + l.length)).toArray 320 (0, 0))], y.2.2.2]) (fun y => y.2.1.length) (s0, r ++ l, v5, T5) ⟨⟨rfl, rfl⟩, hO5, by simp only [List.length_append]; omega⟩ ((EnvLe.nil _).cons rfl) (HLe.refl _) ?_
  rintro ⟨s1, r1, vq, Tq⟩ ⟨⟨hB, hL⟩, hOq, hql⟩
  simp only at hB hL hOq hql ⊢
  have iq := hOq.oneCell
  refine .seq ?_
  refine .seq (.region ?_)
  refine .q .move ?_
  refine .q (.nilCheck rfl) ?_
  refine .q (.fieldAddr rfl) ?_
  refine .q (.load1 rfl) ?_
  refine .q (.lenO hOq) ?_
  refine .q .geq ?_
  refine .nil (seqQ_n ?_)
  refine .cond rfl (fun h3 => ?_) (fun h3 => ?_)
  have h64 : 64 ≤ r1.length := by have := of_decide_eq_true h3; omega
  refine .skip ?_
  refine seqQ_n ?_
  refine .block ?_
  refine .seq ?_
  refine .region_all [12] mixed ?_
  refine .takeO 0 rfl .move (by kernel_rfl) ?_
  refine .takeO 1 rfl .move (by kernel_rfl) ?_
  refine .takeO 2 rfl (.nilCheck rfl) (by kernel_rfl) ?_
  refine .takeO 3 rfl (.fieldAddr rfl) (by kernel_rfl) ?_
  refine .takeO 4 rfl (.loadT rfl) (by kernel_rfl) ?_
  refine .takeO 5 rfl .move (by kernel_rfl) ?_
  refine .takeO 6 rfl (.nilCheck rfl) (by kernel_rfl) ?_
  refine .takeO 7 rfl (.fieldAddr rfl) (by kernel_rfl) ?_
  refine .takeO 8 rfl (.load1 rfl) (by kernel_rfl) ?_
  refine RA.step 9 rfl (by kernel_rfl) rfl ?_
  refine TriOps.callR (next_spec s1 vq r1 _ hOq.rx h64 hg.rx) (fun u hu => ?_)
  subst hu
  refine .nil (Next.sub ?_)
  refine .takeO 10 rfl (.nilCheck rfl) (by kernel_rfl) ?_
  refine .takeO 11 rfl (.fieldAddr rfl) (by kernel_rfl) ?_
  refine RA.step 12 rfl (by kernel_rfl) rfl ?_
  refine TriOps.storeA rfl rfl ?_ rfl (Nat.le_of_ble_eq_true rfl)
  rw [show setL (hcells s1 true vq (n + l.length)) (0 + 0) (wv (comp s1 r1).toL) = hcells (comp s1 r1) true vq (n + l.length) from rfl]
  refine .nil (Next.mod rfl ?_)
  refine RA.nil (by kernel_rfl) ?_
  refine seqQ_n ?_
  refine .region ?_
  refine .q .move ?_
  refine .q .move ?_
  refine .q (.nilCheck rfl) ?_
  refine .q (.fieldAddr rfl) ?_
  refine .q (.load1 rfl) ?_
  refine TriOps.sliceO 64 r1.length hOq ⟨_, rfl⟩ rfl (by omega) (Nat.le_refl _) (fun v7 hO7 => ?_)
  rw [List.take_of_length_le (by rw [List.length_drop]; exact Nat.le_refl _)] at hO7
  have i7 := hO7.oneCell
  refine .q (.nilCheck rfl) ?_
  refine .q (.fieldAddr rfl) ?_
  refine TriOps.store1 rfl rfl ?_
  rw [show setL (hcells (comp s1 r1) true vq (n + l.length)) (0 + 9) [v7] = hcells (comp s1 r1) true v7 (n + l.length) from rfl]
  refine .nil ?_
  refine blkQ_n ?_
  · exact loopQ_i (comp s1 r1, r1.drop 64, v7, Tq) ⟨⟨by rw [← hB, blocks_big h64], by rw [← hL, left64_big h64]⟩, hO7, by simp only [List.length_drop]; omega⟩ (by simp only [List.length_drop]; omega) ((EnvLe.nil _).cons rfl) (HLe.refl _)
  have h64 : ¬ 64 ≤ r1.length := by have := of_decide_eq_false h3; omega
  rw [blocks_small h64] at hB
  rw [left64_small h64] at hL
  refine .exit (seqQ_x (loopQ_x (blkQ_x ?_)))
  refine retQ_n _ .none (HLe.ofPerm (H' := [(b, .cells (hcells s1 true vq (n + l.length)).toArray 320 (0, 0)) :: Tq]) (by simp)) ?_
  · exact ⟨_, rfl, rfl, vq, Tq, by rw [hB], by rw [← hL]; exact hOq⟩
end Go.Proofs.YtpmhgpjcladbkaaGreatDoor
set_option linter.unusedVariables false
set_option linter.unusedSimpArgs false
set_option maxRecDepth 4000
namespace Go.Proofs.YtpmhgpjcladbkaaGreatDoor
def uv (l : List UInt8) : List Value := l.map fun b => Value.int .u8 (b.toNat : Int)
theorem uv_len {l : List UInt8} : (uv l).length = l.length := List.length_map ..
theorem uv_one {l : List UInt8} : ∀ u ∈ uv l, oneCell u = true := fun u hu => by
  obtain ⟨x, _, rfl⟩ := List.mem_map.1 hu
  rfl
instance uv_ones {l : List UInt8} : Ones (uv l) := ⟨uv_one⟩
theorem uv_put {l : List UInt8} {k : Nat} {x : UInt8} (h : k < l.length) : setL (uv l) k [.int .u8 (x.toNat : Int)] = uv (l.set k x) := by
  rw [setL_set (by rw [uv_len]; exact h)]
  unfold uv
  rw [List.map_set]
theorem uv_get {l : List UInt8} {i : Nat} {x : UInt8} (h : l[i]? = some x) : (uv l)[i]? = some (.int .u8 (x.toNat : Int)) := by
  unfold uv
  rw [List.getElem?_map, h]; rfl
def sumAt (s : Hst) (i : Nat) : List UInt8 := (stBytes s).take (4 * i) ++ List.replicate (32 - 4 * i) 0
theorem sumAt_len {s : Hst} {i : Nat} (h : i ≤ 8) : (sumAt s i).length = 32 := by
  have : (stBytes s).length = 32 := rfl
  simp [sumAt, this]; omega
theorem sumAt_put {s : Hst} {i : Nat} {x : W32} (h : i < 8) (hx : s.toL[i]? = some x) : ((((sumAt s i).set (4 * i) (byteOf x 24)).set (4 * i + 1) (byteOf x 16)).set (4 * i + 2) (byteOf x 8)).set (4 * i + 3) (byteOf x 0) = sumAt s (i + 1) := by
  match i, h, hx with
  | 0, _, hx => cases hx; rfl
  | 1, _, hx => cases hx; rfl
  | 2, _, hx => cases hx; rfl
  | 3, _, hx => cases hx; rfl
  | 4, _, hx => cases hx; rfl
  | 5, _, hx => cases hx; rfl
  | 6, _, hx => cases hx; rfl
  | 7, _, hx => cases hx; rfl
theorem byteOf_zero {x : W32} : UInt8.ofBitVec (x.setWidth 8) = byteOf x 0 := by unfold byteOf; rw [BitVec.ushiftRight_zero]
theorem padL_len (n : Nat) : (padL n).length ≤ 100 := by simp [padL]; omega
theorem sum_spec (b : Nat) (s : Hst) (made : Bool) (r : List UInt8) (n : Nat) (T : Seg) (R : Rds) (hI : HSI b s made r n T) (hR : ∀ p ∈ T, R p.1 p.2) (hr : r.length ≤ 1000) (hn : n ≤ 100000) (hg : PC R (.pointer (some ⟨1, 0, none⟩)) (wv ks)) :
    Spec Tryz.prog 258 [.pointer (some ⟨b, 0, none⟩)] R [] fun u H' => u = .agg (uv (stBytes (blocks (if made then s else H0) (r ++ padL n)))).toArray ∧ H' = [] := by
  obtain ⟨vr, Tr, rfl, hO⟩ := hI
  have ir := hO.oneCell
  have ph : PC R (.pointer (some ⟨b, 0, none⟩)) (hcells s made vr n) := PC.of (E := 320) (fr := (0, 0)) (hR (b, .cells (hcells s made vr n).toArray 320 (0, 0)) (by simp))
  have hor : RS R 1 encU vr r := hO.rs fun p hp => hR p (by simp [hp])
  refine Spec.segs (H' := [[]]) (by simp) ?_
  refine Spec.body Tryz.func258 rfl Tryz.results258 Tryz.ntmps258 rfl ?_
  refine .seq (.region ?_)
  refine TriOps.allocA (fun b2 => ?_)
  refine .nil (seqQ_n ?_)
  refine .seq (.region ?_)
  refine TriOps.allocA (fun b3 => ?_)
  refine .nil (seqQ_n ?_)
  refine .seq ?_
  refine .seq (.region ?_)
  refine .q .move ?_
  refine .q (.eqNilP rfl rfl) ?_
  refine .nil (seqQ_n ?_)
  refine .condF ?_
  refine .skip ?_
  refine seqQ_n ?_
  refine .seq ?_
  refine .region_all [12] mixed ?_
  refine .take 0 rfl .move (by kernel_rfl) ?_
  refine .take 1 rfl (.nilCheckA rfl) (by kernel_rfl) ?_
  refine .take 2 rfl (.fieldAddrA rfl) (by kernel_rfl) ?_
  refine .take 3 rfl (.loadT rfl) (by kernel_rfl) ?_
  refine .take 4 rfl .move (by kernel_rfl) ?_
  refine .take 5 rfl (.nilCheckA rfl) (by kernel_rfl) ?_
  refine .take 6 rfl (.fieldAddrA rfl) (by kernel_rfl) ?_
  refine .take 7 rfl (.load1 rfl) (by kernel_rfl) ?_
  refine .takeO 8 rfl .move (by kernel_rfl) ?_
  refine .takeO 9 rfl (.nilCheck rfl) (by kernel_rfl) ?_
  refine .takeO 10 rfl (.fieldAddr rfl) (by kernel_rfl) ?_
  refine .takeO 11 rfl (.load1 rfl) (by kernel_rfl) ?_
  refine .take 13 rfl .move (by kernel_rfl) ?_
  refine .take 14 rfl (.nilCheckA rfl) (by kernel_rfl) ?_
  refine .take 15 rfl (.fieldAddrA rfl) (by kernel_rfl) ?_
  refine .take 16 rfl (.load1 rfl) (by kernel_rfl) ?_
  refine RA.step 12 rfl (by kernel_rfl) rfl ?_
  refine TriOps.append (OS.nil (enc := encU) (sz := 1)) hor.rx (by simp; omega) (fun v5 T5 hO5 => ?_)
  have i5 := hO5.oneCell
  rw [List.nil_append] at hO5
  obtain ⟨p5, k5, rfl, _⟩ := hO5.shape
  refine .nil (Next.mod rfl ?_)
  refine .take 17 rfl .bld (by kernel_rfl) ?_
  refine RA.step 18 rfl (by kernel_rfl) rfl ?_
  refine TriOps.boxA rfl (fun b28 => ?_)
  refine .nil (Next.mod rfl ?_)
  refine .take 19 rfl .assign (by kernel_rfl) ?_
  refine RA.nil (by kernel_rfl) ?_
  refine seqQ_n ?_
  refine .seq (.region ?_)
  refine TriOps.sub (H' := [(b28, .cells (hcells s made (.slice p5 r.length k5) n).toArray 320 (0, 0)) :: T5, [(b3, .cells (uv (List.replicate 32 0)).toArray 242 (0, 0))], [(b2, .cells (uv (List.replicate 32 0)).toArray 242 (0, 0))]]) ((HLe.pick [0, 2, 0, 0] _).trans (HLe.ofPerm (by simp [take, dropAt]; exact .refl _))) ?_
  refine .q .move ?_
  refine .q .move ?_
  refine .q (.nilCheck rfl) ?_
  refine .q (.fieldAddr rfl) ?_
  refine .q (.load1 rfl) ?_
  refine TriOps.callN (pad_spec n (by omega) _) (fun v6 T6 hO6 => ?_)
  have i6 := hO6.oneCell
  refine TriOps.callW (write_spec b28 s made r n _ v6 (padL n) _ ⟨_, T5, rfl, hO5⟩ (hO6.rs fun p hp => .inr (by simp [hp])) hr (by have := padL_len n; omega) hn hg.rx) (fun u T7 hu => ?_)
  obtain ⟨rfl, hI7⟩ := hu
  obtain ⟨v7, T8, rfl, hO7⟩ := hI7
  have i7 := hO7.oneCell
  generalize hst : blocks (if made then s else H0) (r ++ padL n) = st at hO7 ⊢
  have ps : PS ((b28, .cells (hcells st true v7 (n + (padL n).length)).toArray 320 (0, 0)) :: T8) (.pointer (some ⟨b28, 0, none⟩)) (hcells st true v7 (n + (padL n).length)) := PS.of (E := 320) (fr := (0, 0)) (by simp)
  refine .nil (seqQ_n ?_)
  refine .seq ?_
  refine .seq (.region ?_)
  refine .q .move ?_
  refine .q (.nilCheck rfl) ?_
  refine .q (.fieldAddr rfl) ?_
  refine .q (.loadT rfl) ?_
  refine .q .move ?_
  refine .nil (seqQ_n ?_)
  refine .block ?_
  refine .loop (X := Nat) (fun i => i ≤ 8) (fun i => [(2, .pointer (some ⟨b2, 0, none⟩)), (3, .pointer (some ⟨b3, 0, none⟩)), (39, .agg (wv st.toL).toArray), (40, .int .i64 (i : Nat))]) (fun i => [[(b3, .cells (uv (sumAt st i)).toArray 242 (0, 0))], [(b2, .cells (uv (List.replicate 32 0)).toArray 242 (0, 0))]]) (fun i => 8 - i) 0 (Nat.zero_le _) (((((EnvLe.nil _).cons rfl).cons rfl).cons rfl).cons rfl) (HLe.pick [2, 2] _) ?_
  rintro i hi
  have hsl := sumAt_len (s := st) hi
  refine .seq (.region ?_)
  refine .q .lss ?_
  refine .nil (seqQ_n ?_)
  refine .seq ?_
  refine .cond rfl (fun h2 => ?_) (fun h2 => ?_)
  have hlt : i < 8 := by have := of_decide_eq_true h2; omega
  obtain ⟨x, hx⟩ : ∃ x, st.toL[i]? = some x := ⟨_, List.getElem?_eq_getElem (by rw [toL_len]; exact hlt)⟩
  refine .skip ?_
  refine seqQ_n ?_
  refine .seq ?_
  refine .block ?_
  refine .seq (.region ?_)
  refine .q .move ?_
  refine .q (.indexV i (wv_get hx) hlt rfl rfl rfl) ?_
  refine .q .assign ?_
  refine .q .assign ?_
  refine .nil (seqQ_n ?_)
  refine .region ?_
  refine .q .move ?_
  refine .q (.i64 ((4 * i : Nat) : Int) .mul ⟨by omega, by omega, by omega⟩) ?_
  refine .q .move ?_
  refine .q (.i64 ((4 * i : Nat) : Int) .mul ⟨by omega, by omega, by omega⟩) ?_
  refine .q (.i64 ((4 * i + 1 : Nat) : Int) .add ⟨by omega, by omega, by omega⟩) ?_
  refine .q .move ?_
  refine .q (.i64 ((4 * i : Nat) : Int) .mul ⟨by omega, by omega, by omega⟩) ?_
  refine .q (.i64 ((4 * i + 2 : Nat) : Int) .add ⟨by omega, by omega, by omega⟩) ?_
  refine .q .move ?_
  refine .q (.i64 ((4 * i : Nat) : Int) .mul ⟨by omega, by omega, by omega⟩) ?_
  refine .q (.i64 ((4 * i + 3 : Nat) : Int) .add ⟨by omega, by omega, by omega⟩) ?_
  refine .q .move ?_
  refine .q (.shrW (n := 24) rfl rfl (by decide)) ?_
  refine .q (.narrow rfl) ?_
  refine .q .move ?_
  refine .q (.shrW (n := 16) rfl rfl (by decide)) ?_
  refine .q (.narrow rfl) ?_
  refine .q .move ?_
  refine .q (.shrW (n := 8) rfl rfl (by decide)) ?_
  refine .q (.narrow rfl) ?_
  refine .q .move ?_
  refine .q (.narrow rfl) ?_
  refine .q (.indexArr1 (4 * i) (by omega) rfl rfl rfl) ?_
  refine TriOps.store1 rfl rfl ?_ (by rw [uv_len, hsl]; omega)
  rw [Nat.zero_add, uv_put (by rw [hsl]; omega)]
  refine .q (.indexArr1 (4 * i + 1) (by omega) rfl rfl rfl) ?_
  refine TriOps.store1 rfl rfl ?_ (by rw [uv_len, List.length_set, hsl]; omega)
  rw [Nat.zero_add, uv_put (by rw [List.length_set, hsl]; omega)]
  refine .q (.indexArr1 (4 * i + 2) (by omega) rfl rfl rfl) ?_
  refine TriOps.store1 rfl rfl ?_ (by rw [uv_len, List.length_set, List.length_set, hsl]; omega)
  rw [Nat.zero_add, uv_put (by rw [List.length_set, List.length_set, hsl]; omega)]
  refine .q (.indexArr1 (4 * i + 3) (by omega) rfl rfl rfl) ?_
  refine TriOps.store1 rfl rfl ?_ (by rw [uv_len, List.length_set, List.length_set, List.length_set, hsl]; omega)
  rw [Nat.zero_add, uv_put (by rw [List.length_set, List.length_set, List.length_set, hsl]; omega), byteOf_zero]
  have hput := sumAt_put hlt hx
  unfold byteOf at hput
  unfold byteOf
  rw [hput]
  refine .nil ?_
  refine blkQ_n (seqQ_n ?_)
  refine .region ?_
  refine .q (.i64 ((i + 1 : Nat) : Int) .add ⟨by omega, by omega, by omega⟩) ?_
  refine .q .move ?_
  refine .nil ?_
  · exact loopQ_i (i + 1) hlt (by omega) (((((EnvLe.nil _).cons rfl).cons rfl).cons rfl).cons rfl) (HLe.refl _)
  have hi8 : i = 8 := by have := of_decide_eq_false h2; omega
  subst hi8
  rw [show sumAt st 8 = stBytes st from rfl]
  refine .exit (seqQ_x (loopQ_x (blkQ_x ?_)))
  refine seqQ_n ?_
  refine .seq (.region ?_)
  refine .q (.loadA rfl rfl) ?_
  refine TriOps.storeA rfl rfl ?_ rfl (Nat.le_of_ble_eq_true rfl)
  rw [setL_all (by rfl)]
  refine .nil (seqQ_n ?_)
  refine .ret (retQ_r _ (.one (.cellA rfl rfl)) (.none _) ?_)
  · exact ⟨rfl, rfl⟩
theorem shaof_spec (v : Value) (l : List UInt8) (R : Rds) (h : RS R 1 encU v l) (hl : l.length ≤ 100000) (hg : PC R (.pointer (some ⟨1, 0, none⟩)) (wv ks)) :
    Spec Tryz.prog 188 [v] R [] fun u H' => u = .agg (uv (shaOf l)).toArray ∧ H' = [] := by
  have iv := h.oneCell
  have hlen : (shaOf l).length = 32 := rfl
  refine Spec.body Tryz.func188 rfl Tryz.results188 Tryz.ntmps188 rfl ?_
  refine .seq (.region ?_)
  refine TriOps.allocA (fun b2 => ?_)
  refine .nil (seqQ_n ?_)
  refine .seq (.region ?_)
  refine TriOps.callN (hnew_spec _) (fun u T1 hu => ?_)
  obtain ⟨b4, rfl, hI⟩ := hu
  refine .q .assign ?_
  refine .nil (seqQ_n ?_)
  refine .seq (.region ?_)
  refine .q .move ?_
  refine .q .move ?_
  refine TriOps.callM (write_spec b4 Z0 false [] 0 T1 v l _ hI h (by simp) hl (by omega) hg) (fun u T2 hu => ?_)
  obtain ⟨rfl, hI2⟩ := hu
  have h64 := left64_len _ l rfl
  simp only [Bool.false_eq_true, if_false, List.nil_append, Nat.zero_add] at hI2
  refine .nil (seqQ_n ?_)
  refine .seq (.region ?_)
  refine .q .move ?_
  refine TriOps.callR (sum_spec b4 _ true _ _ T2 _ hI2 (fun p hp => .inr (by simp [hp])) (by omega) hl hg.rx) (fun u hu => ?_)
  subst hu
  rw [if_pos rfl, ← blocks_app _ l _ rfl, show stBytes (blocks H0 (l ++ padL l.length)) = shaOf l from rfl]
  refine TriOps.storeA rfl rfl ?_ rfl (Nat.le_of_ble_eq_true rfl)
  rw [setL_all (by rfl)]
  refine .nil (seqQ_n ?_)
  refine .ret (retQ_r _ (.one (.cellA rfl rfl)) (.none _) ?_)
  · exact ⟨rfl, rfl⟩
end Go.Proofs.YtpmhgpjcladbkaaGreatDoor
set_option linter.unusedVariables false
set_option linter.unusedSimpArgs false
set_option maxRecDepth 4000
namespace Go.Proofs.YtpmhgpjcladbkaaGreatDoor
def topA (i : Nat) : Nat := 72057594037927936 / 256 ^ i
theorem topA_eq {i : Nat} (h : i < 8) : topA i = 2 ^ (56 - 8 * i) := by
  match i, h with
  | 0, _ => rfl
  | 1, _ => rfl
  | 2, _ => rfl
  | 3, _ => rfl
  | 4, _ => rfl
  | 5, _ => rfl
  | 6, _ => rfl
  | 7, _ => rfl
theorem topA_succ (i : Nat) : topA i / 256 = topA (i + 1) := by
  unfold topA
  rw [Nat.div_div_eq_div_mul, Nat.pow_succ]
theorem topA_le (i : Nat) : topA i ≤ 72057594037927936 := Nat.div_le_self _ _
theorem rpad_spec (v : Value) (l : List UInt8) (R : Rds) (h : RS R 1 encU v l) (hl : l.length ≤ 100000) :
    Spec Tryz.prog 171 [v] R [] fun u H' => ∃ T, H' = [T] ∧ OS 5 1 encU u (l ++ padL l.length) T := by
  obtain ⟨pv, kv_, rfl⟩ := h.val
  obtain ⟨z, hz⟩ : ∃ z, z = (119 - l.length % 64) % 64 := ⟨_, rfl⟩
  refine Spec.segs (H' := [[]]) (by simp) ?_
  refine Spec.body Tryz.func171 rfl Tryz.results171 Tryz.ntmps171 rfl ?_
  refine .seq (.region ?_)
  refine .q .assign ?_
  refine .nil (seqQ_n ?_)
  refine .seq (.region ?_)
  refine .q .assign ?_
  refine .nil (seqQ_n ?_)
  refine .seq (.region ?_)
  refine .q .move ?_
  refine .q .move ?_
  refine TriOps.append (OS.nil (enc := encU) (sz := 1)) h.rx (by simp; omega) (fun v1 T1 hO1 => ?_)
  rw [List.nil_append] at hO1
  have i1 := hO1.oneCell
  refine .q .assign ?_
  refine .nil (seqQ_n ?_)
  refine .seq (.region ?_)
  refine .q .move ?_
  refine TriOps.buildSlice11 (fun b11 => ?_)
  refine TriOps.append hO1 (RS.lits (xs := [(128 : UInt8)]) rfl (by simp [encU]) (by simp [encU, oneCell])) (by simp; omega) (fun v2 T2 hO2 => ?_)
  have i2 := hO2.oneCell
  refine .q .assign ?_
  refine .nil (seqQ_n ?_)
  refine .seq ?_
  refine .block ?_
  refine .loop (X := Nat × Value × Seg) (fun y => y.1 ≤ z ∧ OS 5 1 encU y.2.1 (l ++ 128 :: List.replicate y.1 0) y.2.2) (fun y => [(0, .slice pv l.length kv_), (3, y.2.1)]) (fun y => [y.2.2]) (fun y => z - y.1) (0, v2, T2) ⟨Nat.zero_le _, hO2⟩ (((EnvLe.nil _).cons rfl).cons rfl) (HLe.pick [1] _) ?_
  clear hO1 hO2 i1 i2
  rintro ⟨k, v3, T3⟩ ⟨hk, hO3⟩
  simp only at hk hO3 ⊢
  have i3 := hO3.oneCell
  have hlen : (l ++ 128 :: List.replicate k (0 : UInt8)).length = l.length + 1 + k := by simp; omega
  refine .seq ?_
  refine .seq (.region ?_)
  refine .q .move ?_
  refine .q (.lenO hO3) ?_
  refine .q (.remN 64 rfl rfl (by decide)) ?_
  rw [hlen]
  refine .q .neI ?_
  refine .nil (seqQ_n ?_)
  refine .cond rfl (fun h1 => ?_) (fun h1 => ?_)
  have hne : (l.length + 1 + k) % 64 ≠ 56 := by simp at h1; omega
  refine .skip ?_
  refine seqQ_n ?_
  refine .block ?_
  refine .region ?_
  refine .q .move ?_
  refine TriOps.buildSlice11 (fun b18 => ?_)
  refine TriOps.append hO3 (RS.lits (xs := [(0 : UInt8)]) rfl (by simp [encU]) (by simp [encU, oneCell])) (by simp; omega) (fun v4 T4 hO4 => ?_)
  refine .q .assign ?_
  refine .nil ?_
  refine blkQ_n ?_
  · refine loopQ_i (k + 1, v4, T4) ⟨by simp only; omega, ?_⟩ (by simp only; omega) (((EnvLe.nil _).cons rfl).cons rfl) (HLe.pick [1] _)
    simp only
    rw [List.replicate_succ', ← List.cons_append, ← List.append_assoc]
    exact hO4
  have heq : (l.length + 1 + k) % 64 = 56 := by simp at h1; omega
  have hkz : k = z := by omega
  subst hkz
  refine .exit (seqQ_x (loopQ_x (blkQ_x ?_)))
  refine seqQ_n ?_
  refine .seq (.region ?_)
  refine .q .move ?_
  refine .q (.lenV rfl) ?_
  refine .q (.toU rfl (by unfold M64; omega)) ?_
  refine .q (.u64 ((l.length * 8 : Nat) : Int) .mul ⟨by omega, by omega, by omega⟩) ?_
  refine .q .assign ?_
  refine .nil (seqQ_n ?_)
  refine .seq (.region ?_)
  refine .q .assign ?_
  refine .nil (seqQ_n ?_)
  refine .seq ?_
  refine .seq (.region ?_)
  refine .q .assign ?_
  refine .nil (seqQ_n ?_)
  refine .block ?_
  refine .loop (X := Nat × Value × Seg) (fun y => y.1 ≤ 8 ∧ OS 5 1 encU y.2.1 ((l ++ 128 :: List.replicate k 0) ++ (lenBs l.length).take y.1) y.2.2) (fun y => [(3, y.2.1), (4, .int .u64 (l.length * 8 : Nat)), (5, .int .u64 (topA y.1 : Nat)), (6, .int .i64 (y.1 : Nat))]) (fun y => [y.2.2]) (fun y => 8 - y.1) (0, v3, T3) ⟨Nat.zero_le _, by rw [List.take_zero, List.append_nil]; exact hO3⟩ (by show EnvLe _ [(3, v3), (4, .int .u64 (l.length * 8 : Nat)), (5, .int .u64 (topA 0 : Nat)), (6, .int .i64 (0 : Nat))]; rw [show topA 0 = 72057594037927936 from by decide]; exact ((((EnvLe.nil _).cons rfl).cons rfl).cons rfl).cons rfl) (HLe.refl _) ?_
  clear hO3 i3
  rintro ⟨i, v5, T5⟩ ⟨hi, hO5⟩
  simp only at hi hO5 ⊢
  have i5 := hO5.oneCell
  refine .seq ?_
  refine .seq (.region ?_)
  refine .q .move ?_
  refine .q .lss ?_
  refine .nil (seqQ_n ?_)
  refine .cond rfl (fun h2 => ?_) (fun h2 => ?_)
  have hlt : i < 8 := by have := of_decide_eq_true h2; omega
  have htp := topA_eq hlt
  have htp0 : 0 < topA i := by rw [htp]; exact Nat.pow_pos (by decide)
  refine .skip ?_
  refine seqQ_n ?_
  refine .seq ?_
  refine .block ?_
  refine .seq (.region ?_)
  refine .q .move ?_
  refine .q .move ?_
  refine .q .move ?_
  refine .q (.quoU (topA i) rfl rfl (by omega) (by unfold M64; omega)) ?_
  refine .q (.to8 rfl) ?_
  rw [show UInt8.ofNat (l.length * 8 / topA i) = lenB l.length i by rw [htp]; rfl]
  refine TriOps.buildSlice11 (fun b33 => ?_)
  refine TriOps.append hO5 (RS.lits (xs := [lenB l.length i]) rfl (by simp [encU]) (by simp [encU, oneCell])) (by simp; omega) (fun v6 T6 hO6 => ?_)
  rw [List.append_assoc, show (lenBs l.length).take i ++ [lenB l.length i] = (lenBs l.length).take (i + 1) by rw [List.take_add_one, lenBs_get hlt]; rfl] at hO6
  refine .q .assign ?_
  refine .nil (seqQ_n ?_)
  refine .region ?_
  refine .q .move ?_
  refine .q (.quoU (a := topA i) 256 rfl rfl (by decide) (by have := topA_le i; unfold M64; omega)) ?_
  rw [topA_succ]
  refine .q .assign ?_
  refine .nil ?_
  refine blkQ_n (seqQ_n ?_)
  refine .region ?_
  refine .q .move ?_
  refine .q (.i64 ((i + 1 : Nat) : Int) .add ⟨by omega, by omega, by omega⟩) ?_
  refine .q .assign ?_
  refine .nil ?_
  · exact loopQ_i (i + 1, v6, T6) ⟨hlt, hO6⟩ (by simp only; omega) (((((EnvLe.nil _).cons rfl).cons rfl).cons rfl).cons rfl) (HLe.pick [1] _)
  have hi8 : i = 8 := by have := of_decide_eq_false h2; omega
  subst hi8
  refine .exit (seqQ_x (loopQ_x (blkQ_x ?_)))
  refine seqQ_n ?_
  refine .seq (.region ?_)
  refine .q .move ?_
  refine .q .assign ?_
  refine .nil (seqQ_n ?_)
  refine .ret (retQ_r _ (.one (.tmp rfl)) (.one [0] _) ?_)
  · refine ⟨T5, by simp [take], ?_⟩
    have e : l ++ padL l.length = (l ++ 128 :: List.replicate k 0) ++ (lenBs l.length).take 8 := by unfold padL; rw [← hz, List.append_assoc]; rfl
    rw [e]
    exact hO5
def outAt (s : Hst) (k : Nat) : List UInt8 := (stBytes s).take k ++ List.replicate (32 - k) 0
theorem outAt_len {s : Hst} {k : Nat} (h : k ≤ 32) : (outAt s k).length = 32 := by
  have : (stBytes s).length = 32 := rfl
  simp [outAt, this]; omega
theorem stBytes_get (s : Hst) {k : Nat} (h : k < 32) : ∃ x, s.toL[k / 4]? = some x ∧ (stBytes s)[k]? = some (byteOf x (24 - 8 * (k % 4))) := by
  have e : ∀ (a b c d e f g h : W32) (k : Nat), k < 32 → ∃ x, ([a, b, c, d, e, f, g, h] : List W32)[k / 4]? = some x ∧ (([a, b, c, d, e, f, g, h] : List W32).flatMap bytes4)[k]? = some (byteOf x (24 - 8 * (k % 4))) := by
    intro a b c d e f g h k hk
    match k, hk with
    | 0, _ => exact ⟨_, rfl, rfl⟩
    | 1, _ => exact ⟨_, rfl, rfl⟩
    | 2, _ => exact ⟨_, rfl, rfl⟩
    | 3, _ => exact ⟨_, rfl, rfl⟩
    | 4, _ => exact ⟨_, rfl, rfl⟩
    | 5, _ => exact ⟨_, rfl, rfl⟩
    | 6, _ => exact ⟨_, rfl, rfl⟩
    | 7, _ => exact ⟨_, rfl, rfl⟩
    | 8, _ => exact ⟨_, rfl, rfl⟩
    | 9, _ => exact ⟨_, rfl, rfl⟩
    | 10, _ => exact ⟨_, rfl, rfl⟩
    | 11, _ => exact ⟨_, rfl, rfl⟩
    | 12, _ => exact ⟨_, rfl, rfl⟩
    | 13, _ => exact ⟨_, rfl, rfl⟩
    | 14, _ => exact ⟨_, rfl, rfl⟩
    | 15, _ => exact ⟨_, rfl, rfl⟩
    | 16, _ => exact ⟨_, rfl, rfl⟩
    | 17, _ => exact ⟨_, rfl, rfl⟩
    | 18, _ => exact ⟨_, rfl, rfl⟩
    | 19, _ => exact ⟨_, rfl, rfl⟩
    | 20, _ => exact ⟨_, rfl, rfl⟩
    | 21, _ => exact ⟨_, rfl, rfl⟩
    | 22, _ => exact ⟨_, rfl, rfl⟩
    | 23, _ => exact ⟨_, rfl, rfl⟩
    | 24, _ => exact ⟨_, rfl, rfl⟩
    | 25, _ => exact ⟨_, rfl, rfl⟩
    | 26, _ => exact ⟨_, rfl, rfl⟩
    | 27, _ => exact ⟨_, rfl, rfl⟩
    | 28, _ => exact ⟨_, rfl, rfl⟩
    | 29, _ => exact ⟨_, rfl, rfl⟩
    | 30, _ => exact ⟨_, rfl, rfl⟩
    | 31, _ => exact ⟨_, rfl, rfl⟩
    | k + 32, hk => omega
  exact e s.a s.b s.c s.d s.e s.f s.g s.h k h
theorem outAt_put {s : Hst} {k : Nat} {y : UInt8} (h : k < 32) (hy : (stBytes s)[k]? = some y) : (outAt s k).set k y = outAt s (k + 1) := by
  have hl : (stBytes s).length = 32 := rfl
  unfold outAt
  have h2 : ((stBytes s).take k).length = k := by rw [List.length_take, hl]; omega
  rw [List.set_append_right _ _ (by rw [h2]; exact Nat.le_refl _), h2, Nat.sub_self, show 32 - k = (32 - (k + 1)) + 1 by omega, List.replicate_succ, List.set_cons_zero, List.take_add_one, hy]
  simp
theorem pad_mod (l : List UInt8) : (l ++ padL l.length).length % 64 = 0 := by simp [padL]; omega
theorem rshaof_spec (v : Value) (l : List UInt8) (R : Rds) (h : RS R 1 encU v l) (hl : l.length ≤ 100000) :
    Spec Tryz.prog 108 [v] R [] fun u H' => u = .agg (uv (shaOf l)).toArray ∧ H' = [] := by
  have iv := h.oneCell
  have hmod := pad_mod l
  have hall : (l ++ padL l.length).length ≤ 200000 := by have := padL_len l.length; rw [List.length_append]; omega
  have hsha : shaOf l = stBytes (blocks H0 (l ++ padL l.length)) := rfl
  refine Spec.body Tryz.func108 rfl Tryz.results108 Tryz.ntmps108 rfl ?_
  refine .seq (.region ?_)
  refine TriOps.allocA (fun b2 => ?_)
  refine .nil (seqQ_n ?_)
  refine .seq (.region ?_)
  refine TriOps.buildSliceN1 (wv H0.toL) (fun b8 => ?_) (ho := wv_one)
  have hO0 : OS 223 1 encW (.slice (some ⟨b8, 0, none⟩) 8 8) H0.toL [(b8, .cells (wv H0.toL).toArray 223 (0, 0))] := OS.lits (flat_encW _) (fun _ _ => rfl) (fun x _ u hu => by simp only [encW, List.mem_singleton] at hu; subst hu; rfl)
  have i0 := hO0.oneCell
  refine .q .assign ?_
  refine .nil (seqQ_n ?_)
  refine .seq (.region ?_)
  refine .q .move ?_
  refine TriOps.callN (rpad_spec v l _ h.rx hl) (fun u Ta hA => ?_)
  have ia := hA.oneCell
  generalize hal : l ++ padL l.length = all at hmod hall hsha hA
  have hRA := hA.sg
  obtain ⟨pa, ka, rfl, _⟩ := hA.shape
  refine .q .assign ?_
  refine .nil (seqQ_n ?_)
  refine .seq ?_
  refine .seq (.region ?_)
  refine .q .assign ?_
  refine .nil (seqQ_n ?_)
  refine .block ?_
  refine .loop (X := Nat × Hst × Value × Seg) (fun y => 64 * y.1 ≤ all.length ∧ blocks y.2.1 (all.drop (64 * y.1)) = blocks H0 all ∧ OS 223 1 encW y.2.2.1 y.2.1.toL y.2.2.2) (fun y => [(2, .pointer (some ⟨b2, 0, none⟩)), (3, y.2.2.1), (4, .slice pa all.length ka), (5, .int .i64 (64 * y.1 : Nat))]) (fun y => [y.2.2.2, Ta, [(b2, .cells (uv (List.replicate 32 0)).toArray 175 (0, 0))]]) (fun y => all.length - 64 * y.1) (0, H0, _, _) ⟨Nat.zero_le _, rfl, hO0⟩ (((((EnvLe.nil _).cons rfl).cons rfl).cons rfl).cons rfl) (HLe.pick [1, 0, 0] _) ?_
  clear hO0 i0
  rintro ⟨j, st, vs, Ts⟩ ⟨hj, hB, hO⟩
  simp only at hj hB hO ⊢
  have io := hO.oneCell
  refine .seq ?_
  refine .seq (.region ?_)
  refine .q .move ?_
  refine .q .move ?_
  refine .q (.lenV rfl) ?_
  refine .q .lss ?_
  refine .nil (seqQ_n ?_)
  refine .cond rfl (fun h1 => ?_) (fun h1 => ?_)
  have hlt : 64 * j < all.length := by have := of_decide_eq_true h1; omega
  have h64 : 64 ≤ (all.drop (64 * j)).length := by rw [List.length_drop]; omega
  refine .skip ?_
  refine seqQ_n ?_
  refine .seq ?_
  refine .block ?_
  refine .region ?_
  refine .q .move ?_
  refine .q .move ?_
  refine .q .move ?_
  refine .q .move ?_
  refine .q (.i64 ((64 * j + 64 : Nat) : Int) .add ⟨by omega, by omega, by omega⟩) ?_
  refine TriOps.sliceR (64 * j) (64 * j + 64) hRA ⟨_, rfl⟩ ⟨_, rfl⟩ (by omega) (by rw [List.length_drop] at h64; omega) (fun v22 hp => ?_)
  have i22 := hp.oneCell
  refine TriOps.callN (rnext_spec st vs v22 _ _ (hO.rs fun p hp => .inr (by simp [hp])) (hp.mono fun b o hb => .inr (by have hb' : (b, o) ∈ Ta := hb; simp [hb'])) (by rw [List.length_take]; omega)) (fun u T3 hO3 => ?_)
  rw [show 64 * j + 64 - 64 * j = 64 by omega, comp_take] at hO3
  refine .q .assign ?_
  refine .nil ?_
  refine blkQ_n (seqQ_n ?_)
  refine .region ?_
  refine .q .move ?_
  refine .q (.i64 ((64 * j + 64 : Nat) : Int) .add ⟨by omega, by omega, by omega⟩) ?_
  refine .q .assign ?_
  refine .nil ?_
  · exact loopQ_i (j + 1, comp st (all.drop (64 * j)), u, T3) ⟨by simp only; omega, by simp only; rw [← hB, blocks_big h64, List.drop_drop, show 64 * j + 64 = 64 * (j + 1) by omega], hO3⟩ (by simp only; omega) (by rw [show 64 * (j + 1) = 64 * j + 64 by omega]; exact ((((EnvLe.nil _).cons rfl).cons rfl).cons rfl).cons rfl) (HLe.pick [0, 1, 1] _)
  have hle : all.length ≤ 64 * j := by have := of_decide_eq_false h1; omega
  rw [List.drop_of_length_le hle, blocks_small (by simp)] at hB
  subst hB
  refine .exit (seqQ_x (loopQ_x (blkQ_x ?_)))
  refine seqQ_n ?_
  refine .seq (.region ?_)
  refine TriOps.allocA (fun b6 => ?_)
  refine .nil (seqQ_n ?_)
  refine .seq ?_
  refine .seq (.region ?_)
  refine .q .assign ?_
  refine .nil (seqQ_n ?_)
  refine .block ?_
  refine .loop (X := Nat) (fun k => k ≤ 32) (fun k => [(2, .pointer (some ⟨b2, 0, none⟩)), (3, vs), (6, .pointer (some ⟨b6, 0, none⟩)), (7, .int .i64 (k : Nat))]) (fun k => [[(b6, .cells (uv (outAt (blocks H0 all) k)).toArray 175 (0, 0))], Ts, [(b2, .cells (uv (List.replicate 32 0)).toArray 175 (0, 0))]]) (fun k => 32 - k) 0 (Nat.zero_le _) (((((EnvLe.nil _).cons rfl).cons rfl).cons rfl).cons rfl) (HLe.pick [0, 0, 1] _) ?_
  rintro k hk
  have hol := outAt_len (s := blocks H0 all) hk
  refine .seq ?_
  refine .seq (.region ?_)
  refine .q .move ?_
  refine .q .lss ?_
  refine .nil (seqQ_n ?_)
  refine .cond rfl (fun h2 => ?_) (fun h2 => ?_)
  have hlt : k < 32 := by have := of_decide_eq_true h2; omega
  obtain ⟨x, hx, hy⟩ := stBytes_get (blocks H0 all) hlt
  refine .skip ?_
  refine seqQ_n ?_
  refine .seq ?_
  refine .block ?_
  refine .region ?_
  refine .q .move ?_
  refine .q .move ?_
  refine .q .move ?_
  refine .q (.quoN (a := k) 4 rfl rfl (by decide) (by omega)) ?_
  refine TriOps.indexO (k / 4) hO hx (fun p32 => ?_)
  refine .q (.load1 rfl) ?_
  refine .q .move ?_
  refine .q (.remN (a := k) 4 rfl rfl (by decide)) ?_
  refine .q (.i64 ((8 * (k % 4) : Nat) : Int) .mul ⟨by omega, by omega, by omega⟩) ?_
  refine .q (.i64 ((24 - 8 * (k % 4) : Nat) : Int) .sub ⟨by omega, by omega, by omega⟩) ?_
  refine .q (.toU rfl (by unfold M64; omega)) ?_
  refine .q (.shrW rfl rfl (by omega)) ?_
  refine .q (.narrow rfl) ?_
  refine .q (.indexArr1 k (by omega) rfl rfl rfl) ?_
  refine TriOps.store1 rfl rfl ?_ (by rw [uv_len, hol]; omega)
  rw [Nat.zero_add, uv_put (by rw [hol]; omega), show UInt8.ofBitVec (BitVec.setWidth 8 (x >>> (24 - 8 * (k % 4)))) = byteOf x (24 - 8 * (k % 4)) from rfl, outAt_put hlt hy]
  refine .nil ?_
  refine blkQ_n (seqQ_n ?_)
  refine .region ?_
  refine .q .move ?_
  refine .q (.i64 ((k + 1 : Nat) : Int) .add ⟨by omega, by omega, by omega⟩) ?_
  refine .q .assign ?_
  refine .nil ?_
  · exact loopQ_i (k + 1) hlt (by omega) (((((EnvLe.nil _).cons rfl).cons rfl).cons rfl).cons rfl) (HLe.refl _)
  have hk32 : k = 32 := by have := of_decide_eq_false h2; omega
  subst hk32
  rw [show outAt (blocks H0 all) 32 = stBytes (blocks H0 all) from rfl, ← hsha]
  refine .exit (seqQ_x (loopQ_x (blkQ_x ?_)))
  refine seqQ_n ?_
  refine .seq (.region ?_)
  refine .q (.loadA rfl rfl) ?_
  refine TriOps.storeA rfl rfl ?_ rfl (Nat.le_of_ble_eq_true rfl)
  rw [setL_all (by rfl)]
  refine .nil (seqQ_n ?_)
  refine .ret (retQ_r _ (.one (.cellA rfl rfl)) (.none _) ?_)
  · exact ⟨rfl, rfl⟩
end Go.Proofs.YtpmhgpjcladbkaaGreatDoor
