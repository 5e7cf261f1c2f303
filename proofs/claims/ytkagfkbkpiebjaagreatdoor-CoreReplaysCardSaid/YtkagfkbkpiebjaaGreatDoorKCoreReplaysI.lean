/- What the law 'CoreReplays' uses of this prover's engine, facts and walks. No condition. -/
import Derived.Test.YtkagfkbkpiebjaaGreatDoorKCoreReplaysA
import Derived.Test.YtkagfkbkpiebjaaGreatDoorKCoreReplaysB
import Derived.Test.YtkagfkbkpiebjaaGreatDoorKCoreReplaysE
import Derived.Test.YtkagfkbkpiebjaaGreatDoorKCoreReplaysF
set_option linter.unusedVariables false
set_option maxRecDepth 4000
namespace Go.Proofs.YtkagfkbkpiebjaaGreatDoor
instance undUnsafe : Und Tryz.prog 306 .unsafePointer := ⟨Tryz.underlying306⟩
def BI (b : Nat) (xs : List UInt8) (T : Seg) : Prop := ∃ a vs Tb, T = (b, .cells [a, vs].toArray 243 (0, 0)) :: Tb ∧ (a = .pointer none ∨ a = .pointer (some ⟨b, 0, none⟩)) ∧ OS 5 1 encU vs xs Tb ∧ (xs = [] → vs = .slice none 0 0)
theorem BI.new {b : Nat} : BI b [] [(b, .cells [.pointer none, .slice none 0 0].toArray 243 (0, 0))] := ⟨_, _, [], rfl, .inl rfl, OS.nil, fun _ => rfl⟩
theorem bcheck_spec (b : Nat) (a vs : Value) (R : Rds) (ha : a = .pointer none ∨ a = .pointer (some ⟨b, 0, none⟩)) (iv : One vs) :
  Spec Tryz.prog 269 [.pointer (some ⟨b, 0, none⟩)] R [[(b, .cells [a, vs].toArray 243 (0, 0))]] fun u H' => ∃ T', H' = [T'] ∧ u = .tuple #[] ∧ T' = [(b, .cells [.pointer (some ⟨b, 0, none⟩), vs].toArray 243 (0, 0))] := by
 rcases ha with rfl | rfl
 ·skip
  refine Spec.body Tryz.func269 rfl Tryz.results269 Tryz.ntmps269 rfl ?_
  refine .sr<|.mo rfl<|.nc rfl<|.fa rfl<|.lo rfl<|.q (.eqNilA rfl rfl) ?_
  refine .zn<|.condT<|.region<|.mo rfl<|.mo rfl ?_
  refine .q (.toUnsafe (b := b) (E := 243) (c := [.pointer none, vs].toArray) (fr := (0, 0)) (by simp) (by simp) (by kernel_rfl) rfl) ?_
  refine .q (.noEscape Tryz.func292 (by kernel_rfl) (by kernel_rfl) (by kernel_rfl) (by kernel_rfl) rfl) ?_
  refine .q (.fromUnsafe (b := b) (E := 243) (n := 2) (c := [.pointer none, vs].toArray) (fr := (0, 0)) (by simp) rfl (by kernel_rfl) (by kernel_rfl) rfl) ?_
  refine .nc rfl<|.fa rfl<|.store1 rfl rfl<|.nil<|retQ_n _ .none (.one [0] _) ?_
  ·exact ⟨_, by simp [take]; rfl, rfl, rfl⟩
 ·skip
  refine Spec.body Tryz.func269 rfl Tryz.results269 Tryz.ntmps269 rfl ?_
  refine .sr<|.mo rfl<|.nc rfl<|.fa rfl<|.lo rfl<|.q (.eqNilA rfl rfl) ?_
  refine .zn<|.condF<|.sr<|.mo rfl<|.nc rfl<|.fa rfl<|.lo rfl<|.mo rfl ?_
  refine .q (.nePtr rfl rfl (by kernel_rfl)) ?_
  refine .zn<|.condF<|.skip<|retQ_n _ .none (.one [0] _) ?_
  ·exact ⟨_, by simp [take], rfl, rfl⟩
theorem bwrite_spec (b : Nat) (xs : List UInt8) (T : Seg) (c : UInt8) (R : Rds) (h : BI b xs T) (hl : xs.length ≤ 1000000000) :
  Spec Tryz.prog 214 [.pointer (some ⟨b, 0, none⟩), .int .u8 (c.toNat : Int)] R [T] fun u H' => ∃ T', H' = [T'] ∧ BI b (xs ++ [c]) T' := by
 obtain ⟨a, vs, Tb, rfl, ha, hO, hn⟩ := h
 have iv := hO.oneCell
 have ia : One a := ⟨by rcases ha with rfl | rfl <;> rfl⟩
 refine Spec.segs (H' := [[(b, .cells [a, vs].toArray 243 (0, 0))], Tb]) (by simp) ?_
 refine Spec.body Tryz.func214 rfl Tryz.results214 Tryz.ntmps214 rfl ?_
 refine .sr<|.ag rfl<|.z<|.mo rfl ?_
 refine .callM (bcheck_spec b a vs _ ha iv) (fun u T1 hu => ?_)
 obtain ⟨rfl, rfl⟩ := hu
 refine .z<|.mo rfl<|.mo rfl<|.nc rfl<|.fa rfl<|.lo rfl<|.mo rfl ?_
 refine .buildSlice11 (fun b13 => ?_)
 refine .append hO (RS.lits (xs := [c]) rfl (by simp [encU]) (by simp [encU, oneCell])) (by simp; omega) (fun v5 T5 hO5 => ?_)
 have i5 := hO5.oneCell
 refine .nc rfl<|.fa rfl<|.store1 rfl rfl<|.z<|.ag rfl<|.zn ?_
 refine .ret (retQ_r _ (.one (.tmp rfl)) ((HLe.pick [1, 1] _).trans (HLe.ofPerm (H' := [(b, .cells [.pointer (some ⟨b, 0, none⟩), v5].toArray 243 (0, 0)) :: T5]) (by simp [take, dropAt]; exact .refl _))) ?_)
 ·exact ⟨_, rfl, _, v5, T5, rfl, .inr rfl, hO5, by simp⟩
theorem bstring_spec (b : Nat) (xs : List UInt8) (T : Seg) (R : Rds) (h : BI b xs T) :
  Spec Tryz.prog 215 [.pointer (some ⟨b, 0, none⟩)] R [T] fun u H' => u = .string ⟨xs.toArray⟩ ∧ H' = [] := by
 obtain ⟨a, vs, Tb, rfl, ha, hO, hn⟩ := h
 have iv := hO.oneCell
 have ia : One a := ⟨by rcases ha with rfl | rfl <;> rfl⟩
 have hle := hO.le
 refine Spec.segs (H' := [[(b, .cells [a, vs].toArray 243 (0, 0))], Tb]) (by simp) ?_
 by_cases h0 : xs = []
 ·subst h0
  have hv := hn rfl
  subst hv
  refine Spec.body Tryz.func215 rfl Tryz.results215 Tryz.ntmps215 rfl ?_
  refine .sr<|.ag rfl<|.zs<|.region_all [] mixed ?_
  refine .takeO 0 rfl .move (by kernel_rfl)<|.takeO 1 rfl (.nilCheck rfl) (by kernel_rfl)<|.takeO 2 rfl (.fieldAddr rfl) (by kernel_rfl)<|.takeO 3 rfl (.load1 rfl) (by kernel_rfl)<|.takeO 5 rfl .move (by kernel_rfl)<|.takeO 6 rfl (.nilCheck rfl) (by kernel_rfl)<|.takeO 7 rfl (.fieldAddr rfl) (by kernel_rfl)<|.takeO 8 rfl (.load1 rfl) (by kernel_rfl) ?_
  refine .takeO 9 rfl (.lenV rfl) (by kernel_rfl) ?_
  refine RA.step 4 rfl (by kernel_rfl) rfl ?_
  refine .q (.sliceDataN rfl) ?_
  refine .nil (Next.sub ?_)
  refine RA.step 10 rfl (by kernel_rfl) rfl ?_
  refine .q (.unsafeStrN rfl rfl) ?_
  refine .nil (Next.sub ?_)
  refine .takeO 11 rfl .assign (by kernel_rfl) ?_
  refine RA.nil (by kernel_rfl) ?_
  refine seqQ_n ?_
  refine .ret (retQ_r _ (.one (.tmp rfl)) (.none _) ?_)
  ·exact ⟨rfl, rfl⟩
 ·obtain ⟨hlen, hone, hcase⟩ := hO
  rcases hcase with ⟨_, h9, _⟩ | ⟨bb, off, c, cap, rfl, rfl, hc1, hc2, hc3, hr⟩
  ·exact absurd h9 h0
  ·have hl0 : 0 < xs.length := List.length_pos_iff.2 h0
   refine Spec.body Tryz.func215 rfl Tryz.results215 Tryz.ntmps215 rfl ?_
   refine .sr<|.ag rfl<|.zs<|.region_all [10] mixed ?_
   refine .takeO 0 rfl .move (by kernel_rfl)<|.takeO 1 rfl (.nilCheck rfl) (by kernel_rfl)<|.takeO 2 rfl (.fieldAddr rfl) (by kernel_rfl)<|.takeO 3 rfl (.load1 rfl) (by kernel_rfl)<|.takeO 5 rfl .move (by kernel_rfl)<|.takeO 6 rfl (.nilCheck rfl) (by kernel_rfl)<|.takeO 7 rfl (.fieldAddr rfl) (by kernel_rfl)<|.takeO 8 rfl (.load1 rfl) (by kernel_rfl) ?_
   refine .takeO 9 rfl (.lenV rfl) (by kernel_rfl) ?_
   refine RA.step 4 rfl (by kernel_rfl) rfl ?_
   refine .q (.sliceData (by omega) rfl) ?_
   refine .nil (Next.sub ?_)
   refine RA.step 10 rfl (by kernel_rfl) rfl ?_
   refine .unsafeStr (b := bb) (off := off) (c := c) (xs := xs) h0 hr (by omega) (by kernel_rfl) hle rfl rfl (fun fr => ?_)
   refine .nil (Next.mod rfl ?_)
   refine .take 11 rfl .assign (by kernel_rfl) ?_
   refine RA.nil (by kernel_rfl) ?_
   refine seqQ_n ?_
   refine .ret (retQ_r _ (.one (.tmp rfl)) (.none _) ?_)
   ·exact ⟨rfl, rfl⟩
def LBA : ByteArray := ⟨#[65,66,67,68,69,70,71,72,73,74,75,76,77,78,79,80,81,82,83,84,85,86,87,88,89,90,97,98,99,100,101,102,103,104,105,106,107,108,109,110,111,112,113,114,115,116,117,118,119,120,121,122,48,49,50,51,52,53,54,55,56,57,45,95]⟩
theorem LBA_get {n : Nat} (h : n < LBA.size) : LBA[n] = l64 n := by
 have h64 : n < 64 := h
 have : ∀ k : Fin 64, LBA[k.val]'(k.isLt) = l64 k.val := by decide +kernel
 exact this ⟨n, h64⟩
theorem LBA_at (n : Nat) : LBA[n % 2 ^ 6]'(Nat.mod_lt _ (by decide)) = l64 n := (LBA_get _).trans (l64_mod n)
def st64 (l : List UInt8) : Nat × Nat × List UInt8 := l.foldl step64 (0, 0, [])
theorem emit_len : ∀ (n h : Nat), (emit h n).length = n / 6 := by
 intro n
 induction n using Nat.strongRecOn with
 | _ n ih =>
  intro h
  by_cases hn : 6 ≤ n
  ·rw [emit_big hn, List.length_cons, ih (n - 6) (by omega)]; omega
  ·rw [emit_small hn]; simp; omega
theorem st64_le (l : List UInt8) : (st64 l).2.1 < 6 ∧ (st64 l).1 < 18446744073709551616 ∧ (st64 l).2.2.length ≤ 2 * l.length := by
 unfold st64
 suffices h : ∀ (l : List UInt8) (s : Nat × Nat × List UInt8), s.2.1 < 6 → s.1 < 18446744073709551616 → (l.foldl step64 s).2.1 < 6 ∧ (l.foldl step64 s).1 < 18446744073709551616 ∧ (l.foldl step64 s).2.2.length ≤ s.2.2.length + 2 * l.length by
  have := h l (0, 0, []) (by decide) (by decide)
  simpa using this
 intro l
 induction l with
 | nil => intro s h1 h2; exact ⟨h1, h2, by simp⟩
 | cons c l ih =>
  intro s h1 h2
  have h3 := ih (step64 s c) (by unfold step64; simp only; omega) (by unfold step64 held; simp only; exact Nat.mod_lt _ (by decide))
  rw [List.foldl_cons]
  refine ⟨h3.1, h3.2.1, ?_⟩
  have h4 : (step64 s c).2.2.length ≤ s.2.2.length + 2 := by
   unfold step64
   simp only [List.length_append, emit_len]
   omega
  have := h3.2.2
  simp only [List.length_cons]
  omega
theorem st64_next {l : List UInt8} {i : Nat} {c : UInt8} (h : l[i]? = some c) : st64 (l.take (i + 1)) = step64 (st64 (l.take i)) c := by
 unfold st64
 rw [List.take_add_one, h]
 simp
theorem held_or {h : Nat} {c : UInt8} : h * 2 ^ 8 % M64 ||| c.toNat = held h c := by
 have hc := c.toNat_lt
 have e : h * 2 ^ 8 % M64 = (h % 2 ^ 56) * 2 ^ 8 := by unfold M64; omega
 rw [e, or_low (by omega)]
 unfold held
 omega
theorem benc_spec (v : Value) (xs : List UInt8) (R : Rds) (h : RS R 1 encU v xs) (hl : xs.length ≤ 1000000) :
  Spec Tryz.prog 155 [v] R [] fun u H' => u = .string ⟨(e64 xs).toArray⟩ ∧ H' = [] := by
 obtain ⟨pv, kv_, rfl⟩ := h.val
 refine Spec.body Tryz.func155 rfl Tryz.results155 Tryz.ntmps155 rfl ?_
 refine .sr<|.ag rfl<|.z ?_
 refine .allocA (fun b3 => ?_)
 refine .z<|.ag rfl<|.ag rfl<|.zs<|.sr<|.mo rfl<|.q (.lenR h) ?_
 refine .mo rfl<|.zn<|.block ?_
 refine .loop (X := Nat × Seg) (fun y => y.1 ≤ xs.length ∧ BI b3 (st64 (xs.take y.1)).2.2 y.2) (fun y => [(3, .pointer (some ⟨b3, 0, none⟩)), (4, .int .u64 ((st64 (xs.take y.1)).1 : Nat)), (5, .int .i64 ((st64 (xs.take y.1)).2.1 : Nat)), (8, .slice pv xs.length kv_), (9, .int .i64 (xs.length : Nat)), (10, .int .i64 (y.1 : Nat))]) (fun y => [y.2]) (fun y => xs.length - y.1) (0, _) ⟨Nat.zero_le _, BI.new⟩ (EnvLe.k6 rfl rfl rfl rfl rfl rfl) (HLe.refl _) ?_
 rintro ⟨i, T⟩ ⟨hi, hB⟩
 simp only at hi hB ⊢
 obtain ⟨hn6, hh64, hol⟩ := st64_le (xs.take i)
 have htl : (xs.take i).length ≤ i := by rw [List.length_take]; omega
 obtain ⟨s, hs⟩ : ∃ s, s = st64 (xs.take i) := ⟨_, rfl⟩
 rw [← hs] at hn6 hh64 hol hB ⊢
 refine .sr<|.q .lss<|.zs ?_
 refine .cond rfl (fun h1 => ?_) (fun h1 => ?_)
 have hlt : i < xs.length := by have := of_decide_eq_true h1; omega
 obtain ⟨c, hz⟩ : ∃ c, xs[i]? = some c := ⟨_, List.getElem?_eq_getElem hlt⟩
 have hc8 := c.toNat_lt
 have hnx := st64_next hz
 rw [← hs] at hnx
 have hhl : held s.1 c < M64 := Nat.mod_lt _ (by decide)
 refine .kn<|.seq<|.block<|.sr ?_
 refine .indexR i h hz (fun p12 => ?_)
 refine .lo rfl<|.ag rfl<|.z<|.mo rfl ?_
 refine .q (.shlU (a := s.1) (n := 8) rfl rfl (by decide)) ?_
 refine .mo rfl ?_
 refine .q (.toU rfl (by unfold M64; omega)) ?_
 refine .q (.orU rfl rfl (Nat.mod_lt _ (by decide)) (by unfold M64; omega)) ?_
 rw [held_or]
 refine .ag rfl<|.z<|.mo rfl ?_
 refine .q (.i64 ((s.2.1 + 8 : Nat) : Int) .add ⟨by omega, by omega, by omega⟩) ?_
 refine .ag rfl<|.zn<|.block ?_
 refine .loop (X := Nat × List UInt8 × Seg) (fun y => y.1 < 14 ∧ y.1 % 6 = (s.2.1 + 8) % 6 ∧ y.2.1 ++ emit (held s.1 c) y.1 = s.2.2 ++ emit (held s.1 c) (s.2.1 + 8) ∧ BI b3 y.2.1 y.2.2) (fun y => [(3, .pointer (some ⟨b3, 0, none⟩)), (4, .int .u64 (held s.1 c : Nat)), (5, .int .i64 (y.1 : Nat)), (8, .slice pv xs.length kv_), (9, .int .i64 (xs.length : Nat)), (10, .int .i64 (i : Nat))]) (fun y => [y.2.2]) (fun y => y.1) (s.2.1 + 8, s.2.2, T) ⟨by simp only; omega, rfl, rfl, hB⟩ (EnvLe.k6 rfl rfl rfl rfl rfl rfl) (HLe.refl _) ?_
 clear hB T
 rintro ⟨n, o, T⟩ ⟨hn, hnm, ho, hB⟩
 simp only at hn hnm ho hB ⊢
 have hol2 : o.length ≤ 2 * i + 4 := by
  have := congrArg List.length ho
  simp only [List.length_append, emit_len] at this
  omega
 refine .seq<|.sr<|.mo rfl<|.q .geq<|.zn ?_
 refine .cond rfl (fun h2 => ?_) (fun h2 => ?_)
 have h6 : 6 ≤ n := by have := of_decide_eq_true h2; omega
 refine .kn<|.seq<|.block<|.region<|.mo rfl<|.mo rfl ?_
 refine .q (.i64 ((n - 6 : Nat) : Int) .sub ⟨by omega, by omega, by omega⟩) ?_
 refine .q (.shrU rfl rfl (by omega)) ?_
 refine .q (.andU (b := 63) rfl rfl (Nat.lt_of_le_of_lt (Nat.div_le_self _ _) hhl) (by decide)) ?_
 rw [show (63 : Nat) = 2 ^ 6 - 1 from rfl, Nat.and_two_pow_sub_one_eq_mod]
 have hg := LBA_at (held s.1 c / 2 ^ (n - 6))
 refine .q (Quiet.cast (v' := .int .u8 ((l64 (held s.1 c / 2 ^ (n - 6))).toNat : Int)) (.indexS (p := LBA) (held s.1 c / 2 ^ (n - 6) % 2 ^ 6) (Nat.mod_lt _ (by decide))) (by rw [hg])) ?_
 refine .callM (bwrite_spec b3 o T (l64 (held s.1 c / 2 ^ (n - 6))) _ hB (by omega)) (fun u T2 hB2 => ?_)
 refine .nil<|blkQ_n<|seqQ_n<|.region<|.mo rfl ?_
 refine .q (.i64 ((n - 6 : Nat) : Int) .sub ⟨by omega, by omega, by omega⟩) ?_
 refine .ag rfl<|.nil ?_
 ·exact loopQ_i (n - 6, o ++ [l64 (held s.1 c / 2 ^ (n - 6))], T2) ⟨by simp only; omega, by simp only; omega, by rw [← ho, emit_big h6]; simp, hB2⟩ (by simp only; omega) (EnvLe.k6 rfl rfl rfl rfl rfl rfl) (HLe.refl _)
 have h6 : ¬ 6 ≤ n := by have := of_decide_eq_false h2; omega
 rw [emit_small h6, List.append_nil] at ho
 have hn9 : n = (s.2.1 + 8) % 6 := by omega
 refine .exit<|seqQ_x<|loopQ_x<|blkQ_x<|blkQ_n<|seqQ_n<|.region ?_
 refine .q (.i64 ((i + 1 : Nat) : Int) .add ⟨by omega, by omega, by omega⟩) ?_
 refine .mo rfl<|.nil ?_
 ·exact loopQ_i (i + 1, T) ⟨hlt, by rw [hnx]; unfold step64; simp only; rw [← ho]; exact hB⟩ (by simp only; omega) (by simp only [hnx, step64]; rw [← hn9]; exact EnvLe.k6 rfl rfl rfl rfl rfl rfl) (HLe.refl _)
 have hi9 : i = xs.length := by have := of_decide_eq_false h1; omega
 have hfin : fin64 s = e64 xs := by
  rw [hs, hi9, List.take_length]
  have := enc_fold xs 0 []
  simpa [st64] using this
 unfold fin64 at hfin
 refine .exit<|seqQ_x<|loopQ_x<|blkQ_x<|seqQ_n<|.seq<|.sr<|.mo rfl<|.q .gtr<|.zn ?_
 refine .cond rfl (fun h3 => ?_) (fun h3 => ?_)
 have h0 : 0 < s.2.1 := by simp at h3; omega
 rw [if_pos h0] at hfin
 refine .region<|.mo rfl<|.mo rfl ?_
 refine .q (.i64 ((6 - s.2.1 : Nat) : Int) .sub ⟨by omega, by omega, by omega⟩) ?_
 refine .q (.shlU rfl rfl (by omega)) ?_
 refine .q (.andU (b := 63) rfl rfl (Nat.mod_lt _ (by decide)) (by decide)) ?_
 rw [show (63 : Nat) = 2 ^ 6 - 1 from rfl, Nat.and_two_pow_sub_one_eq_mod]
 have hg := LBA_at (s.1 * 2 ^ (6 - s.2.1) % M64)
 refine .q (Quiet.cast (v' := .int .u8 ((l64 (s.1 * 2 ^ (6 - s.2.1))).toNat : Int)) (.indexS (p := LBA) (s.1 * 2 ^ (6 - s.2.1) % M64 % 2 ^ 6) (Nat.mod_lt _ (by decide))) (by rw [hg, l64_eq (n := s.1 * 2 ^ (6 - s.2.1) % M64) (m := s.1 * 2 ^ (6 - s.2.1)) (by unfold M64; omega)])) ?_
 refine .callM (bwrite_spec b3 s.2.2 T _ _ hB (by omega)) (fun u T2 hB2 => ?_)
 rw [hfin] at hB2
 refine .z ?_
 refine TriOps.call [0] (bstring_spec b3 (e64 xs) T2 _ hB2) (fun u H' hu => ?_)
 obtain ⟨rfl, rfl⟩ := hu
 refine .ag rfl<|.zn ?_
 refine .ret (retQ_r _ (.one (.tmp rfl)) (.none _) ?_)
 ·exact ⟨rfl, rfl⟩
 have h0 : ¬ 0 < s.2.1 := by simp at h3; omega
 rw [if_neg h0, List.append_nil] at hfin
 rw [hfin] at hB
 refine .kn<|.sr ?_
 refine TriOps.call [0] (bstring_spec b3 (e64 xs) T _ hB) (fun u H' hu => ?_)
 obtain ⟨rfl, rfl⟩ := hu
 refine .ag rfl<|.zn ?_
 refine .ret (retQ_r _ (.one (.tmp rfl)) (.none _) ?_)
 ·exact ⟨rfl, rfl⟩
set_option linter.unusedSimpArgs false
theorem e64_len : ∀ l : List UInt8, (e64 l).length ≤ 2 * l.length
 | a :: b :: c :: r => by have := e64_len r; simp only [e64, List.length_cons]; omega
 | [a, b] => by simp [e64]
 | [a] => by simp [e64]
 | [] => by simp [e64]
theorem size_of (l : List UInt8) : (⟨l.toArray⟩ : ByteArray).size = l.length := by simp [ByteArray.size]
theorem rotw_spec (x : W32) (n : Nat) (hn : n ∈ [2, 6, 7, 11, 13, 17, 18, 19, 22, 25]) (R : Rds) : Spec Tryz.prog 309 [.int .u32 (x.toNat : Int), .int .i64 (-(n : Int))] R [] fun v H' => v = .int .u32 ((rotr x n).toNat : Int) ∧ H' = [] := by
 have e : IntKind.u64.wrap ((BitVec.ofInt IntKind.u64.bits (IntKind.u64.wrap (-(n : Int))) &&& BitVec.ofInt IntKind.u64.bits 31).toNat : Int) = ((32 - n : Nat) : Int) ∧ n ≤ 32 := by
  simp only [List.mem_cons, List.not_mem_nil, or_false] at hn
  rcases hn with rfl | rfl | rfl | rfl | rfl | rfl | rfl | rfl | rfl | rfl <;> exact ⟨by decide, by decide⟩
 obtain ⟨e, h32⟩ := e
 refine Spec.body Tryz.func309 rfl Tryz.results309 Tryz.ntmps309 rfl ?_
 refine .sr<|.ag rfl<|.z<|.mo rfl<|.q .convI<|.q .andI ?_
 rw [e]
 refine .ag rfl<|.z<|.mo rfl<|.mo rfl ?_
 refine .q (.shlW rfl rfl (by omega)) ?_
 refine .mo rfl<|.mo rfl ?_
 refine .q (.u64 ((n : Nat) : Int) .sub ⟨by omega, by omega, by omega⟩) ?_
 refine .q (.shrW rfl rfl (by omega)) ?_
 refine .q (.orW rfl rfl) ?_
 refine .ag rfl<|.zn ?_
 refine .ret (retQ_r _ (.one (.tmp rfl)) (.none _) ?_)
 ·exact ⟨rfl, rfl⟩
theorem spread_spec (v : Value) (b : List UInt8) (R : Rds) (h : RS R 1 encU v b) (hl : 64 ≤ b.length) : Spec Tryz.prog 308 [v] R [] fun u H' => u = .agg (wv (sched b 64)).toArray ∧ H' = [] := by
 have hg : ∀ j, j < 64 → b[j]? = some (b.getD j 0) := fun j hj => by
  rw [List.getD_eq_getElem?_getD, List.getElem?_eq_getElem (by omega)]; rfl
 obtain ⟨pv, kv_, rfl⟩ := h.val
 refine Spec.body Tryz.func308 rfl Tryz.results308 Tryz.ntmps308 rfl ?_
 refine .sr ?_
 refine .allocA (fun b2 => ?_)
 refine .z ?_
 refine .allocA (fun b3 => ?_)
 refine .zs<|.sr<|.mo rfl<|.zn<|.block ?_
 refine .loop (X := Nat) (fun i => i ≤ 16) (fun i => [(0, .slice pv b.length kv_), (2, .pointer (some ⟨b2, 0, none⟩)), (3, .pointer (some ⟨b3, 0, none⟩)), (10, .int .i64 (i : Nat))]) (fun i => [[(b3, .cells (wv (arr b i)).toArray 313 (0, 0))], [(b2, .cells (wv (List.replicate 64 0#32)).toArray 313 (0, 0))]]) (fun i => 16 - i) 0 (Nat.zero_le _) (EnvLe.k4 rfl rfl rfl rfl) (HLe.refl _) ?_
 rintro i hi
 have harl := arr_len (b := b) (i := i) (by omega)
 have hsl := sched_len (b := b) i
 refine .sr<|.q .lss<|.zs ?_
 refine .cond rfl (fun h1 => ?_) (fun h1 => ?_)
 have hlt : i < 16 := by have := of_decide_eq_true h1; omega
 have hwn : (((((b.getD (4 * i) 0).toBitVec.setWidth 32 : W32) <<< 24 ||| ((b.getD (4 * i + 1) 0).toBitVec.setWidth 32 : W32) <<< 16) ||| ((b.getD (4 * i + 2) 0).toBitVec.setWidth 32 : W32) <<< 8) ||| ((b.getD (4 * i + 3) 0).toBitVec.setWidth 32 : W32)) = wnext b (sched b i) := by
  unfold wnext
  rw [if_pos (by rw [hsl]; exact hlt), hsl]
  rfl
 refine .kn<|.seq<|.block<|.sr<|.mo rfl<|.ag rfl<|.zn ?_
 refine .region_tail 35 mixed (by kernel_rfl) ?_
 conv => arg 6; dsimp only [List.take]
 refine .mo rfl<|.mo rfl<|.mo rfl ?_
 refine .q (.i64 ((4 * i : Nat) : Int) .mul ⟨by omega, by omega, by omega⟩) ?_
 refine .indexR (4 * i) h (hg _ (by omega)) (fun p17 => ?_)
 refine .lo rfl<|.q (.wide rfl) ?_
 refine .q (.shlW (n := 24) rfl rfl (by decide)) ?_
 refine .mo rfl<|.mo rfl ?_
 refine .q (.i64 ((4 * i : Nat) : Int) .mul ⟨by omega, by omega, by omega⟩) ?_
 refine .q (.i64 ((4 * i + 1 : Nat) : Int) .add ⟨by omega, by omega, by omega⟩) ?_
 refine .indexR (4 * i + 1) h (hg _ (by omega)) (fun p25 => ?_)
 refine .lo rfl<|.q (.wide rfl) ?_
 refine .q (.shlW (n := 16) rfl rfl (by decide)) ?_
 refine .q (.orW rfl rfl) ?_
 refine .mo rfl<|.mo rfl ?_
 refine .q (.i64 ((4 * i : Nat) : Int) .mul ⟨by omega, by omega, by omega⟩) ?_
 refine .q (.i64 ((4 * i + 2 : Nat) : Int) .add ⟨by omega, by omega, by omega⟩) ?_
 refine .indexR (4 * i + 2) h (hg _ (by omega)) (fun p34 => ?_)
 refine .lo rfl<|.q (.wide rfl) ?_
 refine .q (.shlW (n := 8) rfl rfl (by decide)) ?_
 refine .q (.orW rfl rfl) ?_
 refine .mo rfl<|.mo rfl ?_
 refine .q (.i64 ((4 * i : Nat) : Int) .mul ⟨by omega, by omega, by omega⟩) ?_
 refine .q (.i64 ((4 * i + 3 : Nat) : Int) .add ⟨by omega, by omega, by omega⟩) ?_
 refine .indexR (4 * i + 3) h (hg _ (by omega)) (fun p43 => ?_)
 refine .lo rfl<|.q (.wide rfl) ?_
 refine .q (.orW rfl rfl) ?_
 refine .q (.indexArr1 i (by omega) rfl rfl rfl) ?_
 refine .nil ?_
 refine .store1 rfl rfl ?_ (by rw [wv_len, harl]; omega)
 rw [wv_put (i := i) (by omega) (by rw [harl]; omega), hwn, arr_put (by omega)]
 refine .nil<|blkQ_n<|seqQ_n<|.region ?_
 refine .q (.i64 ((i + 1 : Nat) : Int) .add ⟨by omega, by omega, by omega⟩) ?_
 refine .mo rfl<|.nil ?_
 ·exact loopQ_i (i + 1) hlt (by omega) (EnvLe.k4 rfl rfl rfl rfl) (HLe.refl _)
 have hi16 : i = 16 := by have := of_decide_eq_false h1; omega
 subst hi16
 refine .exit<|seqQ_x<|loopQ_x<|blkQ_x<|seqQ_n<|.seq<|.sr<|.ag rfl<|.zn<|.block ?_
 refine .loop (X := Nat) (fun i => 16 ≤ i ∧ i ≤ 64) (fun i => [(0, .slice pv b.length kv_), (2, .pointer (some ⟨b2, 0, none⟩)), (3, .pointer (some ⟨b3, 0, none⟩)), (5, .int .i64 (i : Nat))]) (fun i => [[(b3, .cells (wv (arr b i)).toArray 313 (0, 0))], [(b2, .cells (wv (List.replicate 64 0#32)).toArray 313 (0, 0))]]) (fun i => 64 - i) 16 ⟨Nat.le_refl _, by omega⟩ (EnvLe.k4 rfl rfl rfl rfl) (HLe.refl _) ?_
 rintro i ⟨hi, hi2⟩
 have harl := arr_len (b := b) (i := i) (by omega)
 have hsl := sched_len (b := b) i
 refine .seq<|.sr<|.mo rfl<|.q .lss<|.zn ?_
 refine .cond rfl (fun h2 => ?_) (fun h2 => ?_)
 have hlt : i < 64 := by have := of_decide_eq_true h2; omega
 have hwn : (((sched b i).getD (i - 16) 0 + ((rotr ((sched b i).getD (i - 15) 0) 7 ^^^ rotr ((sched b i).getD (i - 15) 0) 18) ^^^ (sched b i).getD (i - 15) 0 >>> 3)) + (sched b i).getD (i - 7) 0 + ((rotr ((sched b i).getD (i - 2) 0) 17 ^^^ rotr ((sched b i).getD (i - 2) 0) 19) ^^^ (sched b i).getD (i - 2) 0 >>> 10)) = wnext b (sched b i) := by
  unfold wnext
  rw [if_neg (by rw [hsl]; omega), hsl]
  rfl
 refine .kn<|.seq<|.block<|.seq ?_
 refine .region_still mixed (by kernel_rfl) ?_
 refine .mo rfl ?_
 refine .q (.i64 ((i - 15 : Nat) : Int) .sub ⟨by omega, by omega, by omega⟩) ?_
 refine .q (.indexArr1 (i - 15) (by omega) rfl rfl rfl) ?_
 refine .q (.load1 rfl (drop_at (wv_get (arr_get (by omega))))) ?_
 refine .mo rfl ?_
 refine .q (.i64 ((i - 2 : Nat) : Int) .sub ⟨by omega, by omega, by omega⟩) ?_
 refine .q (.indexArr1 (i - 2) (by omega) rfl rfl rfl) ?_
 refine .q (.load1 rfl (drop_at (wv_get (arr_get (by omega))))) ?_
 refine .ag rfl<|.ag rfl<|.z<|.mo rfl ?_
 refine .callR (rotw_spec _ 7 (by decide) _) (fun u hu => ?_)
 subst hu
 refine .mo rfl ?_
 refine .callR (rotw_spec _ 18 (by decide) _) (fun u hu => ?_)
 subst hu
 refine .q (.xorW rfl rfl) ?_
 refine .mo rfl ?_
 refine .q (.shrW (n := 3) rfl rfl (by decide)) ?_
 refine .q (.xorW rfl rfl) ?_
 refine .ag rfl<|.z<|.mo rfl ?_
 refine .callR (rotw_spec _ 17 (by decide) _) (fun u hu => ?_)
 subst hu
 refine .mo rfl ?_
 refine .callR (rotw_spec _ 19 (by decide) _) (fun u hu => ?_)
 subst hu
 refine .q (.xorW rfl rfl) ?_
 refine .mo rfl ?_
 refine .q (.shrW (n := 10) rfl rfl (by decide)) ?_
 refine .q (.xorW rfl rfl) ?_
 refine .ag rfl<|.zn ?_
 refine .region_tail 15 mixed (by kernel_rfl) ?_
 conv => arg 6; dsimp only [List.take]
 refine .mo rfl<|.mo rfl ?_
 refine .q (.i64 ((i - 16 : Nat) : Int) .sub ⟨by omega, by omega, by omega⟩) ?_
 refine .q (.indexArr1 (i - 16) (by omega) rfl rfl rfl) ?_
 refine .q (.load1 rfl (drop_at (wv_get (arr_get (by omega))))) ?_
 refine .mo rfl<|.q (.addW rfl rfl) ?_
 refine .mo rfl ?_
 refine .q (.i64 ((i - 7 : Nat) : Int) .sub ⟨by omega, by omega, by omega⟩) ?_
 refine .q (.indexArr1 (i - 7) (by omega) rfl rfl rfl) ?_
 refine .q (.load1 rfl (drop_at (wv_get (arr_get (by omega))))) ?_
 refine .q (.addW rfl rfl) ?_
 refine .mo rfl<|.q (.addW rfl rfl) ?_
 refine .q (.indexArr1 i (by omega) rfl rfl rfl) ?_
 refine .nil ?_
 refine .store1 rfl rfl ?_ (by rw [wv_len, harl]; omega)
 rw [wv_put (i := i) (by omega) (by rw [harl]; omega), hwn, arr_put (by omega)]
 refine .nil<|blkQ_n<|seqQ_n<|.region<|.mo rfl ?_
 refine .q (.i64 ((i + 1 : Nat) : Int) .add ⟨by omega, by omega, by omega⟩) ?_
 refine .ag rfl<|.nil ?_
 ·exact loopQ_i (i + 1) ⟨by omega, by omega⟩ (by omega) (EnvLe.k4 rfl rfl rfl rfl) (HLe.refl _)
 have hi64 : i = 64 := by have := of_decide_eq_false h2; omega
 subst hi64
 rw [arr_full]
 refine .exit<|seqQ_x<|loopQ_x<|blkQ_x<|seqQ_n<|.sr ?_
 refine .q (.loadA rfl (by rw [wv_len, sched_len])) ?_
 refine .storeA rfl rfl ?_ (by rw [wv_len, sched_len]) (by rw [wv_len, sched_len]; exact Nat.le_refl _)
 rw [setL_all (by rw [wv_len, sched_len]; rfl)]
 refine .zn ?_
 refine .ret (retQ_r _ (.one (.cellA rfl (by rw [wv_len, sched_len]))) (.none _) ?_)
 ·exact ⟨rfl, rfl⟩
def addTo (l m : List W32) (i : Nat) : List W32 := (List.zipWith (· + ·) l m).take i ++ l.drop i
theorem addTo_len {l m : List W32} {i : Nat} (h : l.length = m.length) (hi : i ≤ l.length) : (addTo l m i).length = l.length := by
 simp [addTo, h]; omega
theorem addTo_get {l m : List W32} {i : Nat} (h : l.length = m.length) (hi : i < l.length) : (addTo l m i)[i]? = l[i]? := by
 unfold addTo
 have hz : ((List.zipWith (· + ·) l m).take i).length = i := by simp; omega
 rw [List.getElem?_append_right (by omega), hz, Nat.sub_self, List.getElem?_drop, Nat.add_zero]
theorem addTo_put {l m : List W32} {i : Nat} {x y : W32} (hx : l[i]? = some x) (hy : m[i]? = some y) : (addTo l m i).set i (x + y) = addTo l m (i + 1) := by
 unfold addTo
 obtain ⟨h1, h2⟩ := List.getElem?_eq_some_iff.1 hx
 obtain ⟨h3, h4⟩ := List.getElem?_eq_some_iff.1 hy
 have hz : ((List.zipWith (· + ·) l m).take i).length = i := by simp; omega
 rw [List.set_append_right _ _ (by omega), hz, Nat.sub_self, drop_at hx, List.set_cons_zero, List.take_add_one]
 have : (List.zipWith (· + ·) l m)[i]? = some (x + y) := by rw [List.getElem?_zipWith, hx, hy]
 rw [this]
 simp
theorem toL_len {s : Hst} : s.toL.length = 8 := rfl
theorem addTo_full {s x : Hst} : addTo s.toL x.toL 8 = (stAdd s x).toL := rfl
theorem ks_get {i : Nat} (h : i < 64) : (wv ks)[i]? = some (.int .u32 ((ks.getD i 0).toNat : Int)) := by
 have hk : ks.length = 64 := rfl
 refine wv_get ?_
 rw [List.getD_eq_getElem?_getD, List.getElem?_eq_getElem (by omega)]
 rfl
theorem wd_get {b : List UInt8} {i : Nat} (h : i < 64) : (wv (sched b 64))[i]? = some (.int .u32 (((sched b 64).getD i 0).toNat : Int)) := wv_get (sched_get h)
theorem next_spec (s : Hst) (v : Value) (b : List UInt8) (R : Rds) (h : RS R 1 encU v b) (hl : 64 ≤ b.length) (hg : PC R (.pointer (some ⟨1, 0, none⟩)) (wv ks)) :
  Spec Tryz.prog 303 [.agg (wv s.toL).toArray, v] R [] fun u H' => u = .agg (wv (comp s b).toL).toArray ∧ H' = [] := by
 have iv := h.oneCell
 refine Spec.body Tryz.func303 rfl Tryz.results303 Tryz.ntmps303 rfl ?_
 refine .sr ?_
 refine .boxA rfl (fun b2 => ?_)
 refine .allocA (fun b4 => ?_)
 refine .z<|.mo rfl ?_
 refine .callR (spread_spec v b _ h.rx hl) (fun u hu => ?_)
 subst hu
 obtain ⟨w, hw⟩ : ∃ w, w = sched b 64 := ⟨_, rfl⟩
 have hwl : w.length = 64 := by rw [hw]; exact sched_len 64
 have hwg : ∀ i, i < 64 → (wv w)[i]? = some (.int .u32 ((w.getD i 0).toNat : Int)) := fun i hi => by rw [hw]; exact wd_get hi
 rw [← hw]
 refine .allocA (fun b5 => ?_)
 refine .storeA rfl rfl ?_ (by rw [wv_len, hwl]) (by rw [wv_len, hwl]; exact Nat.le_refl _)
 rw [setL_all (by rw [wv_len, hwl]; rfl)]
 refine .z<|.q (.loadA rfl) ?_
 refine .allocA (fun b6 => ?_)
 refine .storeA rfl rfl ?_ rfl (Nat.le_of_ble_eq_true rfl)
 rw [setL_all (by rfl)]
 refine .zs<|.sr<|.q (.loadA rfl)<|.mo rfl<|.zn<|.block ?_
 refine .loop (X := Nat) (fun i => i ≤ 64) (fun i => [(2, .pointer (some ⟨b2, 0, none⟩)), (4, .pointer (some ⟨b4, 0, none⟩)), (5, .pointer (some ⟨b5, 0, none⟩)), (6, .pointer (some ⟨b6, 0, none⟩)), (17, .agg (wv ks).toArray), (18, .int .i64 (i : Nat))]) (fun i => [[(b6, .cells (wv (rounds w s i).toL).toArray 319 (0, 0))], [(b5, .cells (wv w).toArray 313 (0, 0))], [(b4, .cells (wv (List.replicate 8 0#32)).toArray 319 (0, 0))], [(b2, .cells (wv s.toL).toArray 319 (0, 0))]]) (fun i => 64 - i) 0 (Nat.zero_le _) (EnvLe.k6 rfl rfl rfl rfl rfl rfl) (HLe.refl _) ?_
 rintro i hi
 refine .sr<|.q .lss<|.zs ?_
 refine .cond rfl (fun h1 => ?_) (fun h1 => ?_)
 have hlt : i < 64 := by have := of_decide_eq_true h1; omega
 obtain ⟨x, hx⟩ : ∃ x, x = rounds w s i := ⟨_, rfl⟩
 rw [← hx]
 refine .kn<|.seq<|.block<|.sr<|.mo rfl<|.q (.indexV i (ks_get hlt) hlt rfl rfl rfl) ?_
 refine .ag rfl<|.ag rfl<|.zs ?_
 refine .region_still mixed (by kernel_rfl) ?_
 refine .q (.indexArr1 0 (by decide) rfl rfl rfl) ?_
 refine .lo rfl ?_
 refine .q (.indexArr1 4 (by decide) rfl rfl rfl) ?_
 refine .lo rfl<|.ag rfl<|.ag rfl<|.zs<|.region_all [] mixed ?_
 refine .takeO 0 rfl (.indexArr1 7 (by decide) rfl rfl rfl) (by kernel_rfl) ?_
 refine .takeO 1 rfl (.load1 rfl) (by kernel_rfl)<|.takeO 2 rfl .move (by kernel_rfl)<|.takeO 4 rfl .move (by kernel_rfl)<|.takeO 7 rfl .move (by kernel_rfl)<|.takeO 11 rfl .move (by kernel_rfl) ?_
 refine .takeO 12 rfl (.indexArr1 5 (by decide) rfl rfl rfl) (by kernel_rfl) ?_
 refine .takeO 13 rfl (.load1 rfl) (by kernel_rfl) ?_
 refine .takeO 14 rfl (.andW rfl rfl) (by kernel_rfl) ?_
 refine .takeO 15 rfl .move (by kernel_rfl) ?_
 refine .takeO 16 rfl (.complW rfl) (by kernel_rfl) ?_
 refine .takeO 17 rfl (.indexArr1 6 (by decide) rfl rfl rfl) (by kernel_rfl) ?_
 refine .takeO 18 rfl (.load1 rfl) (by kernel_rfl) ?_
 refine .takeO 19 rfl (.andW rfl rfl) (by kernel_rfl) ?_
 refine .takeO 20 rfl (.xorW rfl rfl) (by kernel_rfl) ?_
 refine .takeO 22 rfl .move (by kernel_rfl)<|.takeO 24 rfl .move (by kernel_rfl) ?_
 refine .takeO 25 rfl (.indexArr1 i hlt rfl rfl rfl) (by kernel_rfl) ?_
 refine .takeO 26 rfl (.load1 rfl (drop_at (hwg i hlt))) (by kernel_rfl) ?_
 refine RA.step 3 rfl (by kernel_rfl) rfl ?_
 refine .callR (rotw_spec _ 6 (by decide) _) (fun u hu => ?_)
 subst hu
 refine .nil (Next.sub ?_)
 refine RA.step 5 rfl (by kernel_rfl) rfl ?_
 refine .callR (rotw_spec _ 11 (by decide) _) (fun u hu => ?_)
 subst hu
 refine .nil (Next.sub ?_)
 refine .takeO 6 rfl (.xorW rfl rfl) (by kernel_rfl) ?_
 refine RA.step 8 rfl (by kernel_rfl) rfl ?_
 refine .callR (rotw_spec _ 25 (by decide) _) (fun u hu => ?_)
 subst hu
 refine .nil (Next.sub ?_)
 refine .takeO 9 rfl (.xorW rfl rfl) (by kernel_rfl) ?_
 refine .takeO 10 rfl (.addW rfl rfl) (by kernel_rfl) ?_
 refine .takeO 21 rfl (.addW rfl rfl) (by kernel_rfl) ?_
 refine .takeO 23 rfl (.addW rfl rfl) (by kernel_rfl) ?_
 refine .takeO 27 rfl (.addW rfl rfl) (by kernel_rfl) ?_
 refine .takeO 28 rfl .assign (by kernel_rfl) ?_
 refine RA.nil (by kernel_rfl) ?_
 refine seqQ_n<|.seq<|.region_all [] mixed ?_
 refine .takeO 0 rfl .move (by kernel_rfl)<|.takeO 2 rfl .move (by kernel_rfl)<|.takeO 5 rfl .move (by kernel_rfl)<|.takeO 8 rfl .move (by kernel_rfl) ?_
 refine .takeO 9 rfl (.indexArr1 1 (by decide) rfl rfl rfl) (by kernel_rfl) ?_
 refine .takeO 10 rfl (.load1 rfl) (by kernel_rfl) ?_
 refine .takeO 11 rfl (.andW rfl rfl) (by kernel_rfl) ?_
 refine .takeO 12 rfl .move (by kernel_rfl) ?_
 refine .takeO 13 rfl (.indexArr1 2 (by decide) rfl rfl rfl) (by kernel_rfl) ?_
 refine .takeO 14 rfl (.load1 rfl) (by kernel_rfl) ?_
 refine .takeO 15 rfl (.andW rfl rfl) (by kernel_rfl) ?_
 refine .takeO 16 rfl (.xorW rfl rfl) (by kernel_rfl) ?_
 refine .takeO 17 rfl (.indexArr1 1 (by decide) rfl rfl rfl) (by kernel_rfl) ?_
 refine .takeO 18 rfl (.load1 rfl) (by kernel_rfl) ?_
 refine .takeO 19 rfl (.indexArr1 2 (by decide) rfl rfl rfl) (by kernel_rfl) ?_
 refine .takeO 20 rfl (.load1 rfl) (by kernel_rfl) ?_
 refine .takeO 21 rfl (.andW rfl rfl) (by kernel_rfl) ?_
 refine .takeO 22 rfl (.xorW rfl rfl) (by kernel_rfl) ?_
 refine RA.step 1 rfl (by kernel_rfl) rfl ?_
 refine .callR (rotw_spec _ 2 (by decide) _) (fun u hu => ?_)
 subst hu
 refine .nil (Next.sub ?_)
 refine RA.step 3 rfl (by kernel_rfl) rfl ?_
 refine .callR (rotw_spec _ 13 (by decide) _) (fun u hu => ?_)
 subst hu
 refine .nil (Next.sub ?_)
 refine .takeO 4 rfl (.xorW rfl rfl) (by kernel_rfl) ?_
 refine RA.step 6 rfl (by kernel_rfl) rfl ?_
 refine .callR (rotw_spec _ 22 (by decide) _) (fun u hu => ?_)
 subst hu
 refine .nil (Next.sub ?_)
 refine .takeO 7 rfl (.xorW rfl rfl) (by kernel_rfl) ?_
 refine .takeO 23 rfl (.addW rfl rfl) (by kernel_rfl) ?_
 refine .takeO 24 rfl .assign (by kernel_rfl) ?_
 refine RA.nil (by kernel_rfl) ?_
 refine seqQ_n<|.seq ?_
 refine .region_tail 2 mixed (by kernel_rfl) ?_
 conv => arg 6; dsimp only [List.take]
 refine .q (.sliceArr 1 8 rfl ⟨_, rfl⟩ rfl (by decide) (by decide) (by decide)) ?_
 refine .q (.sliceArr 0 7 rfl rfl ⟨_, rfl⟩ (by decide) (by decide) (by decide)) ?_
 refine .nil ?_
 refine .copyB (b := b6) (E := 319) (lo := 1) (vs := wv x.toL) (ys := ((wv x.toL).drop 0).take 7) (RS.blk (b := b6) (E := 319) (fr := (0, 0)) (lo := 0) (n := 7) (cap := 8) (.inr (by simp)) wv_one (Nat.le_of_ble_eq_true rfl) (by decide) (by decide)) rfl rfl rfl (Nat.le_of_ble_eq_true rfl) ?_
 refine .z ?_
 refine .q (.indexArr1 4 (by decide) rfl rfl rfl) ?_
 refine .lo rfl<|.mo rfl<|.q (.addW rfl rfl) ?_
 refine .q (.indexArr1 4 (by decide) rfl rfl rfl) ?_
 refine .store1 rfl rfl<|.zn<|.region<|.mo rfl<|.mo rfl<|.q (.addW rfl rfl) ?_
 refine .q (.indexArr1 0 (by decide) rfl rfl rfl) ?_
 refine .store1 rfl rfl<|.nil<|blkQ_n<|seqQ_n<|.region ?_
 refine .q (.i64 ((i + 1 : Nat) : Int) .add ⟨by omega, by omega, by omega⟩) ?_
 refine .mo rfl<|.nil ?_
 ·exact loopQ_i (i + 1) hlt (by omega) (EnvLe.k6 rfl rfl rfl rfl rfl rfl) (by rw [show rounds w s (i + 1) = rnd x (ks.getD i 0) (w.getD i 0) by rw [hx]; rfl]; exact HLe.refl _)
 have hi64 : i = 64 := by have := of_decide_eq_false h1; omega
 subst hi64
 obtain ⟨x, hx⟩ : ∃ x, x = rounds w s 64 := ⟨_, rfl⟩
 rw [← hx]
 refine .exit<|seqQ_x<|loopQ_x<|blkQ_x<|seqQ_n<|.seq<|.sr<|.mo rfl<|.zn<|.block ?_
 refine .loop (X := Nat) (fun i => i ≤ 8) (fun i => [(2, .pointer (some ⟨b2, 0, none⟩)), (4, .pointer (some ⟨b4, 0, none⟩)), (6, .pointer (some ⟨b6, 0, none⟩)), (91, .int .i64 (i : Nat))]) (fun i => [[(b6, .cells (wv x.toL).toArray 319 (0, 0))], [(b5, .cells (wv w).toArray 313 (0, 0))], [(b4, .cells (wv (List.replicate 8 0#32)).toArray 319 (0, 0))], [(b2, .cells (wv (addTo s.toL x.toL i)).toArray 319 (0, 0))]]) (fun i => 8 - i) 0 (Nat.zero_le _) (EnvLe.k4 rfl rfl rfl rfl) (HLe.refl _) ?_
 rintro i hi
 have hal : (addTo s.toL x.toL i).length = 8 := addTo_len (l := s.toL) (m := x.toL) rfl hi
 refine .sr<|.q .lss<|.zs ?_
 refine .cond rfl (fun h2 => ?_) (fun h2 => ?_)
 have hlt : i < 8 := by have := of_decide_eq_true h2; omega
 obtain ⟨y, hy⟩ : ∃ y, s.toL[i]? = some y := ⟨_, List.getElem?_eq_getElem (by rw [toL_len]; exact hlt)⟩
 obtain ⟨z, hz⟩ : ∃ z, x.toL[i]? = some z := ⟨_, List.getElem?_eq_getElem (by rw [toL_len]; exact hlt)⟩
 refine .kn<|.seq<|.block<|.sr<|.mo rfl<|.ag rfl<|.zn ?_
 refine .region_tail 8 mixed (by kernel_rfl) ?_
 conv => arg 6; dsimp only [List.take]
 refine .mo rfl<|.q (.indexArr1 i hlt rfl rfl rfl) ?_
 refine .q (.load1 rfl (drop_at (wv_get ((addTo_get (l := s.toL) (m := x.toL) rfl hlt).trans hy)))) ?_
 refine .mo rfl<|.q (.indexArr1 i hlt rfl rfl rfl) ?_
 refine .q (.load1 rfl (drop_at (wv_get hz))) ?_
 refine .q (.addW rfl rfl) ?_
 refine .q (.indexArr1 i hlt rfl rfl rfl) ?_
 refine .nil ?_
 refine .store1 rfl rfl ?_ (by rw [wv_len, hal]; omega)
 rw [wv_put (i := i) (by omega) (by rw [hal]; omega), addTo_put hy hz]
 refine .nil<|blkQ_n<|seqQ_n<|.region ?_
 refine .q (.i64 ((i + 1 : Nat) : Int) .add ⟨by omega, by omega, by omega⟩) ?_
 refine .mo rfl<|.nil ?_
 ·exact loopQ_i (i + 1) hlt (by omega) (EnvLe.k4 rfl rfl rfl rfl) (HLe.refl _)
 have hi8 : i = 8 := by have := of_decide_eq_false h2; omega
 subst hi8
 rw [addTo_full]
 refine .exit<|seqQ_x<|loopQ_x<|blkQ_x<|seqQ_n<|.sr<|.q (.loadA rfl) ?_
 refine .storeA rfl rfl ?_ rfl (Nat.le_of_ble_eq_true rfl)
 rw [setL_all (by rfl)]
 refine .zn ?_
 refine .ret (retQ_r _ (.one (.cellA rfl rfl)) (.none _) ?_)
 ·exact ⟨by rw [hx, hw]; rfl, rfl⟩
theorem wrap8n (m : Nat) : IntKind.u8.wrap (m : Int) = ((UInt8.ofNat m).toNat : Int) := by
 rw [wrap8, BitVec.ofInt_natCast]
 simp
theorem fdiv_pow (m k : Nat) : (m : Int).fdiv (2 ^ k) = ((m / 2 ^ k : Nat) : Int) := by
 rw [Int.fdiv_eq_ediv_of_nonneg _ (Int.le_of_lt (Int.pow_pos (by decide)))]
 simp
theorem tmod_nat (m k : Nat) : (m : Int).tmod (k : Int) = ((m % k : Nat) : Int) := by
 rw [Int.tmod_eq_emod_of_nonneg (by omega)]
 simp
def lenBs (n : Nat) : List UInt8 := [lenB n 0, lenB n 1, lenB n 2, lenB n 3, lenB n 4, lenB n 5, lenB n 6, lenB n 7]
def padAt (n z i : Nat) : List UInt8 := 128 :: List.replicate z 0 ++ ((lenBs n).take i ++ List.replicate (8 - i) 0)
theorem padAt_len {n z i : Nat} (h : i ≤ 8) : (padAt n z i).length = 1 + z + 8 := by
 simp [padAt, lenBs]; omega
theorem lenBs_get {n i : Nat} (h : i < 8) : (lenBs n)[i]? = some (lenB n i) := by
 match i, h with
 | 0, _ => rfl
 | 1, _ => rfl
 | 2, _ => rfl
 | 3, _ => rfl
 | 4, _ => rfl
 | 5, _ => rfl
 | 6, _ => rfl
 | 7, _ => rfl
theorem padAt_put {n z i : Nat} (h : i < 8) : (padAt n z i).set (1 + z + i) (lenB n i) = padAt n z (i + 1) := by
 unfold padAt
 have h1 : (128 :: List.replicate z (0 : UInt8)).length = 1 + z := by simp; omega
 have h2 : ((lenBs n).take i).length = i := by simp [lenBs]; omega
 rw [List.set_append_right _ _ (by rw [h1]; omega), h1, show 1 + z + i - (1 + z) = i by omega, List.set_append_right _ _ (by rw [h2]; exact Nat.le_refl _), h2, Nat.sub_self, show 8 - i = (8 - (i + 1)) + 1 by omega, List.replicate_succ, List.set_cons_zero, List.take_add_one, lenBs_get h]
 simp
theorem pad_spec (n : Nat) (hn : n ≤ 1000000) (R : Rds) : Spec Tryz.prog 304 [.int .i64 (n : Nat)] R [] fun u H' => ∃ T, H' = [T] ∧ OS 5 1 encU u (padL n) T := by
 obtain ⟨z, hz⟩ : ∃ z, z = (119 - n % 64) % 64 := ⟨_, rfl⟩
 refine Spec.body Tryz.func304 rfl Tryz.results304 Tryz.ntmps304 rfl ?_
 refine .sr<|.ag rfl<|.z<|.mo rfl<|.q .rem ?_
 rw [show (n : Int).tmod 64 = ((n % 64 : Nat) : Int) from tmod_nat n 64]
 refine .q (.i64 ((119 - n % 64 : Nat) : Int) .sub ⟨by omega, by omega, by omega⟩) ?_
 refine .q .rem ?_
 rw [show ((119 - n % 64 : Nat) : Int).tmod 64 = ((z : Nat) : Int) by rw [hz]; exact tmod_nat _ 64]
 refine .ag rfl<|.z<|.mo rfl ?_
 refine .q (.i64 ((1 + z : Nat) : Int) .add ⟨by omega, by omega, by omega⟩) ?_
 refine .q (.i64 ((1 + z + 8 : Nat) : Int) .add ⟨by omega, by omega, by omega⟩) ?_
 refine .makeSlice (enc := encU) (1 + z + 8) (0 : UInt8) rfl rfl (by decide) (by decide) rfl rfl (by omega) (by omega) (fun b T hO => ?_)
 have hzl : z < 64 := by omega
 refine .ag rfl<|.z<|.mo rfl ?_
 refine .indexO 0 hO (show (List.replicate (1 + z + 8) (0 : UInt8))[0]? = some 0 by simp) (fun p15 => ?_)
 refine .storeO1 0 hO (show (List.replicate (1 + z + 8) (0 : UInt8))[0]? = some 0 by simp) (128 : UInt8) (fun T1 hO1 => ?_)
 have e1 : (List.replicate (1 + z + 8) (0 : UInt8)).set 0 128 = padAt n z 0 := by
  unfold padAt
  rw [show 1 + z + 8 = (z + 8) + 1 by omega, List.replicate_succ, List.set_cons_zero, List.take_zero, List.nil_append, List.cons_append, List.replicate_append_replicate]
 rw [e1] at hO1
 refine .zs<|.sr<|.mo rfl<|.zn<|.block ?_
 refine .loop (X := Nat × Seg) (fun y => y.1 ≤ 8 ∧ OS 5 1 encU (.slice (some ⟨b, 0, none⟩) (1 + z + 8) (1 + z + 8)) (padAt n z y.1) y.2) (fun y => [(0, .int .i64 (n : Nat)), (3, .int .i64 (z : Nat)), (4, .slice (some ⟨b, 0, none⟩) (1 + z + 8) (1 + z + 8)), (16, .int .i64 (y.1 : Nat))]) (fun y => [y.2]) (fun y => 8 - y.1) (0, T1) ⟨Nat.zero_le _, hO1⟩ (EnvLe.k4 rfl rfl rfl rfl) (HLe.refl _) ?_
 rintro ⟨i, Ti⟩ ⟨hi, hOi⟩
 simp only at hi hOi ⊢
 refine .sr<|.q .lss<|.zs ?_
 refine .cond rfl (fun h1 => ?_) (fun h1 => ?_)
 have hlt : i < 8 := by have := of_decide_eq_true h1; omega
 obtain ⟨y, hy⟩ : ∃ y, (padAt n z i)[1 + z + i]? = some y := ⟨_, List.getElem?_eq_getElem (by rw [padAt_len hi]; omega)⟩
 refine .kn<|.seq<|.block<|.sr<|.mo rfl<|.ag rfl<|.zn<|.region<|.mo rfl<|.mo rfl ?_
 refine .q (.i64 ((1 + z : Nat) : Int) .add ⟨by omega, by omega, by omega⟩) ?_
 refine .mo rfl ?_
 refine .q (.i64 ((1 + z + i : Nat) : Int) .add ⟨by omega, by omega, by omega⟩) ?_
 refine .mo rfl ?_
 refine .q (.u64 ((n : Nat) : Int) .convI ⟨rfl, by omega, by omega⟩) ?_
 refine .q (.u64 ((n * 8 : Nat) : Int) .mul ⟨by omega, by omega, by omega⟩) ?_
 refine .mo rfl ?_
 refine .q (.i64 ((8 * i : Nat) : Int) .mul ⟨by omega, by omega, by omega⟩) ?_
 refine .q (.i64 ((56 - 8 * i : Nat) : Int) .sub ⟨by omega, by omega, by omega⟩) ?_
 refine .q .shrI ?_
 rw [show min (((56 - 8 * i : Nat) : Int)).toNat IntKind.u64.bits = 56 - 8 * i by simp only [IntKind.bits]; omega, fdiv_pow]
 refine .q .convI ?_
 rw [wrap8n]
 refine .indexO (1 + z + i) hOi hy (fun p32 => ?_)
 refine .storeO1 (1 + z + i) hOi hy (lenB n i) (fun T2 hO2 => ?_)
 rw [padAt_put hlt] at hO2
 refine .nil<|blkQ_n<|seqQ_n<|.region ?_
 refine .q (.i64 ((i + 1 : Nat) : Int) .add ⟨by omega, by omega, by omega⟩) ?_
 refine .mo rfl<|.nil ?_
 ·exact loopQ_i (i + 1, T2) ⟨hlt, hO2⟩ (by simp only; omega) (EnvLe.k4 rfl rfl rfl rfl) (HLe.refl _)
 have hi8 : i = 8 := by have := of_decide_eq_false h1; omega
 subst hi8
 refine .exit<|seqQ_x<|loopQ_x<|blkQ_x<|seqQ_n<|.sr<|.mo rfl<|.ag rfl<|.zn ?_
 refine .ret (retQ_r _ (.one (.tmp rfl)) (.one [0] _) ?_)
 ·exact ⟨Ti, by simp [take], by have e : padL n = padAt n z 8 := (by rw [hz]; rfl); rw [e]; exact hOi⟩
theorem first_spec (R : Rds) : Spec Tryz.prog 302 [] R [] fun u H' => u = .agg (wv H0.toL).toArray ∧ H' = [] := by
 refine Spec.body Tryz.func302 rfl Tryz.results302 Tryz.ntmps302 rfl ?_
 refine .sr ?_
 refine .allocA (fun b0 => ?_)
 refine .z<|.q .bldA<|.storeA rfl rfl<|.zn ?_
 refine .ret (retQ_r _ (.one (.cellA rfl rfl)) (.none _) ?_)
 ·exact ⟨rfl, rfl⟩
def hcells (s : Hst) (made : Bool) (vr : Value) (n : Nat) : List Value := wv s.toL ++ [.bool made, vr, .int .i64 (n : Nat)]
def HSI (b : Nat) (s : Hst) (made : Bool) (r : List UInt8) (n : Nat) (T : Seg) : Prop := ∃ vr Tr, T = (b, .cells (hcells s made vr n).toArray 321 (0, 0)) :: Tr ∧ OS 5 1 encU vr r Tr
def Z0 : Hst := ⟨0, 0, 0, 0, 0, 0, 0, 0⟩
theorem hnew_spec (R : Rds) : Spec Tryz.prog 293 [] R [] fun u H' => ∃ T, H' = [T] ∧ ∃ b, u = .pointer (some ⟨b, 0, none⟩) ∧ HSI b Z0 false [] 0 T := by
 refine Spec.body Tryz.func293 rfl Tryz.results293 Tryz.ntmps293 rfl ?_
 refine .sr<|.ag rfl<|.z ?_
 refine .q .bld ?_
 refine .boxA rfl (fun b2 => ?_)
 refine .ag rfl<|.zn ?_
 refine .ret (retQ_r _ (.one (.tmp rfl)) (.one [0] _) ?_)
 ·exact ⟨_, by simp [take]; rfl, _, rfl, .slice none 0 0, [], rfl, OS.nil⟩
theorem write_spec (b : Nat) (s : Hst) (made : Bool) (r : List UInt8) (n : Nat) (T : Seg) (v : Value) (l : List UInt8) (R : Rds) (hI : HSI b s made r n T) (h : RS R 1 encU v l) (hr : r.length ≤ 1000) (hl : l.length ≤ 100000) (hn : n ≤ 100000) (hg : PC R (.pointer (some ⟨1, 0, none⟩)) (wv ks)) :
  Spec Tryz.prog 294 [.pointer (some ⟨b, 0, none⟩), v] R [T] fun u H' => ∃ T', H' = [T'] ∧ u = .tuple #[] ∧ HSI b (blocks (if made then s else H0) (r ++ l)) true (left64 (r ++ l)) (n + l.length) T' := by
 obtain ⟨vr, Tr, rfl, hO⟩ := hI
 have ir := hO.oneCell
 have iv := h.oneCell
 obtain ⟨s0, hs0⟩ : ∃ s0, s0 = (if made then s else H0) := ⟨_, rfl⟩
 rw [← hs0]
 refine Spec.segs (H' := [[(b, .cells (hcells s made vr n).toArray 321 (0, 0))], Tr]) (by simp) ?_
 refine Spec.body Tryz.func294 rfl Tryz.results294 Tryz.ntmps294 rfl ?_
 refine .seq<|.sr<|.mo rfl<|.q (.eqNilP rfl rfl) ?_
 refine .zn<|.condF<|.kn<|.seq<|.sr<|.mo rfl<|.nc rfl<|.fa rfl<|.lo rfl<|.q .not<|.zn ?_
 refine Tri.cut (X := Unit) (fun _ => True) (fun _ => [(0, .pointer (some ⟨b, 0, none⟩)), (1, v)]) (fun _ => [[(b, .cells (hcells s0 true vr n).toArray 321 (0, 0))], Tr]) ?_ ?_
 refine .cond rfl (fun h2 => ?_) (fun h2 => ?_)
 refine .region<|.mo rfl<|.mo rfl ?_
 refine .callR (first_spec _) (fun u hu => ?_)
 subst hu
 refine .nc rfl<|.fa rfl ?_
 refine .storeA rfl rfl ?_ rfl (Nat.le_of_ble_eq_true rfl)
 rw [show setL (hcells s made vr n) (0 + 0) (wv H0.toL) = hcells H0 made vr n from rfl]
 refine .nc rfl<|.fa rfl<|.store1 rfl rfl ?_
 rw [show setL (hcells H0 made vr n) (0 + 8) [.bool true] = hcells H0 true vr n from rfl]
 refine .nil ?_
 ·exact joinQ_n () trivial (EnvLe.k2 rfl rfl) (by rw [hs0, if_neg (by simpa using h2)]; exact HLe.refl _)
 refine .skip ?_
 ·exact joinQ_n () trivial (EnvLe.k2 rfl rfl) (by have hm : made = true := (by simpa using h2); rw [hs0, if_pos hm, hm]; exact HLe.refl _)
 intro x hx
 refine seqQ_n<|.sr<|.mo rfl<|.nc rfl<|.fa rfl<|.lo rfl<|.mo rfl<|.q (.lenR h) ?_
 refine .q (.i64 ((n + l.length : Nat) : Int) .add ⟨by omega, by omega, by omega⟩) ?_
 refine .nc rfl<|.fa rfl<|.store1 rfl rfl<|.z<|.mo rfl<|.mo rfl<|.nc rfl<|.fa rfl<|.lo rfl<|.mo rfl ?_
 refine .append hO h.rx (by omega) (fun v5 T5 hO5 => ?_)
 have i5 := hO5.oneCell
 refine .nc rfl<|.fa rfl<|.store1 rfl rfl<|.zn<|.block ?_
 refine .loop (X := Hst × List UInt8 × Value × Seg) (fun y => (blocks y.1 y.2.1 = blocks s0 (r ++ l) ∧ left64 y.2.1 = left64 (r ++ l)) ∧ OS 5 1 encU y.2.2.1 y.2.1 y.2.2.2 ∧ y.2.1.length ≤ 200000) (fun y => [(0, .pointer (some ⟨b, 0, none⟩))]) (fun y => [[(b, .cells (hcells y.1 true y.2.2.1 (n + l.length)).toArray 321 (0, 0))], y.2.2.2]) (fun y => y.2.1.length) (s0, r ++ l, v5, T5) ⟨⟨rfl, rfl⟩, hO5, by simp only [List.length_append]; omega⟩ (EnvLe.k1 rfl) (HLe.refl _) ?_
 rintro ⟨s1, r1, vq, Tq⟩ ⟨⟨hB, hL⟩, hOq, hql⟩
 simp only at hB hL hOq hql ⊢
 have iq := hOq.oneCell
 refine .seq<|.sr<|.mo rfl<|.nc rfl<|.fa rfl<|.lo rfl<|.q (.lenO hOq) ?_
 refine .q .geq<|.zn ?_
 refine .cond rfl (fun h3 => ?_) (fun h3 => ?_)
 have h64 : 64 ≤ r1.length := by have := of_decide_eq_true h3; omega
 refine .kn<|.block<|.seq<|.region_all [12] mixed ?_
 refine .takeO 0 rfl .move (by kernel_rfl)<|.takeO 1 rfl .move (by kernel_rfl)<|.takeO 2 rfl (.nilCheck rfl) (by kernel_rfl)<|.takeO 3 rfl (.fieldAddr rfl) (by kernel_rfl) ?_
 refine .takeO 4 rfl (.loadT rfl) (by kernel_rfl) ?_
 refine .takeO 5 rfl .move (by kernel_rfl)<|.takeO 6 rfl (.nilCheck rfl) (by kernel_rfl)<|.takeO 7 rfl (.fieldAddr rfl) (by kernel_rfl)<|.takeO 8 rfl (.load1 rfl) (by kernel_rfl) ?_
 refine RA.step 9 rfl (by kernel_rfl) rfl ?_
 refine .callR (next_spec s1 vq r1 _ hOq.rx h64 hg.rx) (fun u hu => ?_)
 subst hu
 refine .nil (Next.sub ?_)
 refine .takeO 10 rfl (.nilCheck rfl) (by kernel_rfl)<|.takeO 11 rfl (.fieldAddr rfl) (by kernel_rfl) ?_
 refine RA.step 12 rfl (by kernel_rfl) rfl ?_
 refine .storeA rfl rfl ?_ rfl (Nat.le_of_ble_eq_true rfl)
 rw [show setL (hcells s1 true vq (n + l.length)) (0 + 0) (wv (comp s1 r1).toL) = hcells (comp s1 r1) true vq (n + l.length) from rfl]
 refine .nil (Next.mod rfl ?_)
 refine RA.nil (by kernel_rfl) ?_
 refine seqQ_n<|.region<|.mo rfl<|.mo rfl<|.nc rfl<|.fa rfl<|.lo rfl ?_
 refine .sliceO 64 r1.length hOq ⟨_, rfl⟩ rfl (by omega) (Nat.le_refl _) (fun v7 hO7 => ?_)
 rw [List.take_of_length_le (by rw [List.length_drop]; exact Nat.le_refl _)] at hO7
 have i7 := hO7.oneCell
 refine .nc rfl<|.fa rfl<|.store1 rfl rfl ?_
 rw [show setL (hcells (comp s1 r1) true vq (n + l.length)) (0 + 9) [v7] = hcells (comp s1 r1) true v7 (n + l.length) from rfl]
 refine .nil<|blkQ_n ?_
 ·exact loopQ_i (comp s1 r1, r1.drop 64, v7, Tq) ⟨⟨by rw [← hB, blocks_big h64], by rw [← hL, left64_big h64]⟩, hO7, by simp only [List.length_drop]; omega⟩ (by simp only [List.length_drop]; omega) (EnvLe.k1 rfl) (HLe.refl _)
 have h64 : ¬ 64 ≤ r1.length := by have := of_decide_eq_false h3; omega
 rw [blocks_small h64] at hB
 rw [left64_small h64] at hL
 refine .exit<|seqQ_x<|loopQ_x<|blkQ_x ?_
 refine retQ_n _ .none (HLe.ofPerm (H' := [(b, .cells (hcells s1 true vq (n + l.length)).toArray 321 (0, 0)) :: Tq]) (by simp)) ?_
 ·exact ⟨_, rfl, rfl, vq, Tq, by rw [hB], by rw [← hL]; exact hOq⟩
def uv (l : List UInt8) : List Value := l.map fun b => Value.int .u8 (b.toNat : Int)
theorem uv_len {l : List UInt8} : (uv l).length = l.length := List.length_map ..
theorem uv_one {l : List UInt8} : ∀ u ∈ uv l, oneCell u = true := fun u hu => by
 obtain ⟨x, _, rfl⟩ := List.mem_map.1 hu
 rfl
instance uv_ones {l : List UInt8} : Ones (uv l) := ⟨uv_one⟩
theorem uv_put {l : List UInt8} {k : Nat} {x : UInt8} (h : k < l.length) : setL (uv l) k [.int .u8 (x.toNat : Int)] = uv (l.set k x) := by
 rw [setL_set (by rw [uv_len]; exact h)]
 unfold uv
 rw [List.map_set]
def sumAt (s : Hst) (i : Nat) : List UInt8 := (stBytes s).take (4 * i) ++ List.replicate (32 - 4 * i) 0
theorem sumAt_len {s : Hst} {i : Nat} (h : i ≤ 8) : (sumAt s i).length = 32 := by
 have : (stBytes s).length = 32 := rfl
 simp [sumAt, this]; omega
theorem sumAt_put {s : Hst} {i : Nat} {x : W32} (h : i < 8) (hx : s.toL[i]? = some x) : ((((sumAt s i).set (4 * i) (byteOf x 24)).set (4 * i + 1) (byteOf x 16)).set (4 * i + 2) (byteOf x 8)).set (4 * i + 3) (byteOf x 0) = sumAt s (i + 1) := by
 match i, h, hx with
 | 0, _, hx => cases hx; rfl
 | 1, _, hx => cases hx; rfl
 | 2, _, hx => cases hx; rfl
 | 3, _, hx => cases hx; rfl
 | 4, _, hx => cases hx; rfl
 | 5, _, hx => cases hx; rfl
 | 6, _, hx => cases hx; rfl
 | 7, _, hx => cases hx; rfl
theorem byteOf_zero {x : W32} : UInt8.ofBitVec (x.setWidth 8) = byteOf x 0 := by unfold byteOf; rw [BitVec.ushiftRight_zero]
theorem padL_len (n : Nat) : (padL n).length ≤ 100 := by simp [padL]; omega
theorem sum_spec (b : Nat) (s : Hst) (made : Bool) (r : List UInt8) (n : Nat) (T : Seg) (R : Rds) (hI : HSI b s made r n T) (hR : ∀ p ∈ T, R p.1 p.2) (hr : r.length ≤ 1000) (hn : n ≤ 100000) (hg : PC R (.pointer (some ⟨1, 0, none⟩)) (wv ks)) :
  Spec Tryz.prog 295 [.pointer (some ⟨b, 0, none⟩)] R [] fun u H' => u = .agg (uv (stBytes (blocks (if made then s else H0) (r ++ padL n)))).toArray ∧ H' = [] := by
 obtain ⟨vr, Tr, rfl, hO⟩ := hI
 have ir := hO.oneCell
 have ph : PC R (.pointer (some ⟨b, 0, none⟩)) (hcells s made vr n) := PC.of (E := 321) (fr := (0, 0)) (hR (b, .cells (hcells s made vr n).toArray 321 (0, 0)) (by simp))
 have hor : RS R 1 encU vr r := hO.rs fun p hp => hR p (by simp [hp])
 refine Spec.segs (H' := [[]]) (by simp) ?_
 refine Spec.body Tryz.func295 rfl Tryz.results295 Tryz.ntmps295 rfl ?_
 refine .sr ?_
 refine .allocA (fun b2 => ?_)
 refine .z ?_
 refine .allocA (fun b3 => ?_)
 refine .zs<|.sr<|.mo rfl<|.q (.eqNilP rfl rfl) ?_
 refine .zn<|.condF<|.kn<|.seq<|.region_all [12] mixed ?_
 refine .take 0 rfl .move (by kernel_rfl) ?_
 refine .take 1 rfl (.nilCheckA rfl) (by kernel_rfl) ?_
 refine .take 2 rfl (.fieldAddrA rfl) (by kernel_rfl) ?_
 refine .take 3 rfl (.loadT rfl) (by kernel_rfl) ?_
 refine .take 4 rfl .move (by kernel_rfl) ?_
 refine .take 5 rfl (.nilCheckA rfl) (by kernel_rfl) ?_
 refine .take 6 rfl (.fieldAddrA rfl) (by kernel_rfl) ?_
 refine .take 7 rfl (.load1 rfl) (by kernel_rfl)<|.takeO 8 rfl .move (by kernel_rfl)<|.takeO 9 rfl (.nilCheck rfl) (by kernel_rfl)<|.takeO 10 rfl (.fieldAddr rfl) (by kernel_rfl)<|.takeO 11 rfl (.load1 rfl) (by kernel_rfl)<|.take 13 rfl .move (by kernel_rfl) ?_
 refine .take 14 rfl (.nilCheckA rfl) (by kernel_rfl) ?_
 refine .take 15 rfl (.fieldAddrA rfl) (by kernel_rfl) ?_
 refine .take 16 rfl (.load1 rfl) (by kernel_rfl) ?_
 refine RA.step 12 rfl (by kernel_rfl) rfl ?_
 refine .append (OS.nil (enc := encU) (sz := 1)) hor.rx (by simp; omega) (fun v5 T5 hO5 => ?_)
 have i5 := hO5.oneCell
 rw [List.nil_append] at hO5
 obtain ⟨p5, k5, rfl, _⟩ := hO5.shape
 refine .nil (Next.mod rfl ?_)
 refine .take 17 rfl .bld (by kernel_rfl) ?_
 refine RA.step 18 rfl (by kernel_rfl) rfl ?_
 refine .boxA rfl (fun b28 => ?_)
 refine .nil (Next.mod rfl ?_)
 refine .take 19 rfl .assign (by kernel_rfl) ?_
 refine RA.nil (by kernel_rfl) ?_
 refine seqQ_n<|.sr ?_
 refine .sub (H' := [(b28, .cells (hcells s made (.slice p5 r.length k5) n).toArray 321 (0, 0)) :: T5, [(b3, .cells (uv (List.replicate 32 0)).toArray 290 (0, 0))], [(b2, .cells (uv (List.replicate 32 0)).toArray 290 (0, 0))]]) ((HLe.pick [0, 2, 0, 0] _).trans (HLe.ofPerm (by simp [take, dropAt]; exact .refl _))) ?_
 refine .mo rfl<|.mo rfl<|.nc rfl<|.fa rfl<|.lo rfl ?_
 refine .callN (pad_spec n (by omega) _) (fun v6 T6 hO6 => ?_)
 have i6 := hO6.oneCell
 refine .callW (write_spec b28 s made r n _ v6 (padL n) _ ⟨_, T5, rfl, hO5⟩ (hO6.rs fun p hp => .inr (by simp [hp])) hr (by have := padL_len n; omega) hn hg.rx) (fun u T7 hu => ?_)
 obtain ⟨rfl, hI7⟩ := hu
 obtain ⟨v7, T8, rfl, hO7⟩ := hI7
 have i7 := hO7.oneCell
 generalize hst : blocks (if made then s else H0) (r ++ padL n) = st at hO7 ⊢
 have ps : PS ((b28, .cells (hcells st true v7 (n + (padL n).length)).toArray 321 (0, 0)) :: T8) (.pointer (some ⟨b28, 0, none⟩)) (hcells st true v7 (n + (padL n).length)) := PS.of (E := 321) (fr := (0, 0)) (by simp)
 refine .zs<|.sr<|.mo rfl<|.nc rfl<|.fa rfl<|.q (.loadT rfl) ?_
 refine .mo rfl<|.zn<|.block ?_
 refine .loop (X := Nat) (fun i => i ≤ 8) (fun i => [(2, .pointer (some ⟨b2, 0, none⟩)), (3, .pointer (some ⟨b3, 0, none⟩)), (39, .agg (wv st.toL).toArray), (40, .int .i64 (i : Nat))]) (fun i => [[(b3, .cells (uv (sumAt st i)).toArray 290 (0, 0))], [(b2, .cells (uv (List.replicate 32 0)).toArray 290 (0, 0))]]) (fun i => 8 - i) 0 (Nat.zero_le _) (EnvLe.k4 rfl rfl rfl rfl) (HLe.pick [2, 2] _) ?_
 rintro i hi
 have hsl := sumAt_len (s := st) hi
 refine .sr<|.q .lss<|.zs ?_
 refine .cond rfl (fun h2 => ?_) (fun h2 => ?_)
 have hlt : i < 8 := by have := of_decide_eq_true h2; omega
 obtain ⟨x, hx⟩ : ∃ x, st.toL[i]? = some x := ⟨_, List.getElem?_eq_getElem (by rw [toL_len]; exact hlt)⟩
 refine .kn<|.seq<|.block<|.sr<|.mo rfl<|.q (.indexV i (wv_get hx) hlt rfl rfl rfl) ?_
 refine .ag rfl<|.ag rfl<|.zn<|.region<|.mo rfl ?_
 refine .q (.i64 ((4 * i : Nat) : Int) .mul ⟨by omega, by omega, by omega⟩) ?_
 refine .mo rfl ?_
 refine .q (.i64 ((4 * i : Nat) : Int) .mul ⟨by omega, by omega, by omega⟩) ?_
 refine .q (.i64 ((4 * i + 1 : Nat) : Int) .add ⟨by omega, by omega, by omega⟩) ?_
 refine .mo rfl ?_
 refine .q (.i64 ((4 * i : Nat) : Int) .mul ⟨by omega, by omega, by omega⟩) ?_
 refine .q (.i64 ((4 * i + 2 : Nat) : Int) .add ⟨by omega, by omega, by omega⟩) ?_
 refine .mo rfl ?_
 refine .q (.i64 ((4 * i : Nat) : Int) .mul ⟨by omega, by omega, by omega⟩) ?_
 refine .q (.i64 ((4 * i + 3 : Nat) : Int) .add ⟨by omega, by omega, by omega⟩) ?_
 refine .mo rfl ?_
 refine .q (.shrW (n := 24) rfl rfl (by decide)) ?_
 refine .q (.narrow rfl) ?_
 refine .mo rfl ?_
 refine .q (.shrW (n := 16) rfl rfl (by decide)) ?_
 refine .q (.narrow rfl) ?_
 refine .mo rfl ?_
 refine .q (.shrW (n := 8) rfl rfl (by decide)) ?_
 refine .q (.narrow rfl) ?_
 refine .mo rfl<|.q (.narrow rfl) ?_
 refine .q (.indexArr1 (4 * i) (by omega) rfl rfl rfl) ?_
 refine .store1 rfl rfl ?_ (by rw [uv_len, hsl]; omega)
 rw [Nat.zero_add, uv_put (by rw [hsl]; omega)]
 refine .q (.indexArr1 (4 * i + 1) (by omega) rfl rfl rfl) ?_
 refine .store1 rfl rfl ?_ (by rw [uv_len, List.length_set, hsl]; omega)
 rw [Nat.zero_add, uv_put (by rw [List.length_set, hsl]; omega)]
 refine .q (.indexArr1 (4 * i + 2) (by omega) rfl rfl rfl) ?_
 refine .store1 rfl rfl ?_ (by rw [uv_len, List.length_set, List.length_set, hsl]; omega)
 rw [Nat.zero_add, uv_put (by rw [List.length_set, List.length_set, hsl]; omega)]
 refine .q (.indexArr1 (4 * i + 3) (by omega) rfl rfl rfl) ?_
 refine .store1 rfl rfl ?_ (by rw [uv_len, List.length_set, List.length_set, List.length_set, hsl]; omega)
 rw [Nat.zero_add, uv_put (by rw [List.length_set, List.length_set, List.length_set, hsl]; omega), byteOf_zero]
 have hput := sumAt_put hlt hx
 unfold byteOf at hput
 unfold byteOf
 rw [hput]
 refine .nil<|blkQ_n<|seqQ_n<|.region ?_
 refine .q (.i64 ((i + 1 : Nat) : Int) .add ⟨by omega, by omega, by omega⟩) ?_
 refine .mo rfl<|.nil ?_
 ·exact loopQ_i (i + 1) hlt (by omega) (EnvLe.k4 rfl rfl rfl rfl) (HLe.refl _)
 have hi8 : i = 8 := by have := of_decide_eq_false h2; omega
 subst hi8
 rw [show sumAt st 8 = stBytes st from rfl]
 refine .exit<|seqQ_x<|loopQ_x<|blkQ_x<|seqQ_n<|.sr<|.q (.loadA rfl rfl) ?_
 refine .storeA rfl rfl ?_ rfl (Nat.le_of_ble_eq_true rfl)
 rw [setL_all (by rfl)]
 refine .zn ?_
 refine .ret (retQ_r _ (.one (.cellA rfl rfl)) (.none _) ?_)
 ·exact ⟨rfl, rfl⟩
theorem shaof_spec (v : Value) (l : List UInt8) (R : Rds) (h : RS R 1 encU v l) (hl : l.length ≤ 100000) (hg : PC R (.pointer (some ⟨1, 0, none⟩)) (wv ks)) :
  Spec Tryz.prog 272 [v] R [] fun u H' => u = .agg (uv (shaOf l)).toArray ∧ H' = [] := by
 have iv := h.oneCell
 have hlen : (shaOf l).length = 32 := rfl
 refine Spec.body Tryz.func272 rfl Tryz.results272 Tryz.ntmps272 rfl ?_
 refine .sr ?_
 refine .allocA (fun b2 => ?_)
 refine .z ?_
 refine .callN (hnew_spec _) (fun u T1 hu => ?_)
 obtain ⟨b4, rfl, hI⟩ := hu
 refine .ag rfl<|.z<|.mo rfl<|.mo rfl ?_
 refine .callM (write_spec b4 Z0 false [] 0 T1 v l _ hI h (by simp) hl (by omega) hg) (fun u T2 hu => ?_)
 obtain ⟨rfl, hI2⟩ := hu
 have h64 := left64_len _ l rfl
 simp only [Bool.false_eq_true, if_false, List.nil_append, Nat.zero_add] at hI2
 refine .z<|.mo rfl ?_
 refine .callR (sum_spec b4 _ true _ _ T2 _ hI2 (fun p hp => .inr (by simp [hp])) (by omega) hl hg.rx) (fun u hu => ?_)
 subst hu
 rw [if_pos rfl, ← blocks_app _ l _ rfl, show stBytes (blocks H0 (l ++ padL l.length)) = shaOf l from rfl]
 refine .storeA rfl rfl ?_ rfl (Nat.le_of_ble_eq_true rfl)
 rw [setL_all (by rfl)]
 refine .zn ?_
 refine .ret (retQ_r _ (.one (.cellA rfl rfl)) (.none _) ?_)
 ·exact ⟨rfl, rfl⟩
end Go.Proofs.YtkagfkbkpiebjaaGreatDoor
