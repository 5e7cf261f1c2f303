/- What the law 'RP' uses of this prover's engine, facts and walks. No condition. -/
import Derived.Test.YtkepgbimlolemaaGreatKRPG
import Derived.Test.YtkepgbimlolemaaGreatKRPI
import Derived.Test.YtkepgbimlolemaaGreatKRPJ
import Derived.Test.YtkepgbimlolemaaGreatKRPK
import Derived.Test.YtkepgbimlolemaaGreatKRPM
set_option linter.unusedVariables false
set_option linter.unusedSimpArgs false
set_option maxRecDepth 4000
namespace Go.Proofs.YtkepgbimlolemaaGreat
def tkind (t : Tpl) : ByteArray := if t.us = ⟨#[]⟩ then ⟨#[49]⟩ else ⟨#[48]⟩
def tflds (t : Tpl) : List ByteArray := [t.os, t.oi, t.rel, tkind t, t.us, t.ss, t.si, t.sr]
theorem scmp_kind (a b : Tpl) : scmp (tkind a) (tkind b) = icmp (srank a.us) (srank b.us) := by
  unfold tkind srank
  split <;> split <;> decide
theorem tplcmp_flds (a b : Tpl) : tplcmp a b = orI (List.zipWith scmp (tflds a) (tflds b)) := by
  unfold tplcmp tflds
  simp only [List.zipWith_cons_cons, List.zipWith_nil_left]
  rw [scmp_kind]
theorem orI_first : ∀ {X Y : List ByteArray} {i : Nat} {x y : ByteArray}, X.take i = Y.take i → X[i]? = some x → Y[i]? = some y → x ≠ y → orI (List.zipWith scmp X Y) = scmp x y
  | x0 :: X, y0 :: Y, 0, x, y, _, hx, hy, hn => by
    simp only [List.getElem?_cons_zero, Option.some.injEq] at hx hy
    subst hx hy
    rw [List.zipWith_cons_cons, orI_cons, if_neg fun e => hn (scmp_eq.1 e)]
  | x0 :: X, y0 :: Y, i + 1, x, y, ht, hx, hy, hn => by
    simp only [List.take_succ_cons, List.cons.injEq] at ht
    simp only [List.getElem?_cons_succ] at hx hy
    rw [List.zipWith_cons_cons, orI_cons, if_pos (scmp_eq.2 ht.1)]
    exact orI_first ht.2 hx hy hn
  | [], _, i, x, y, _, hx, _, _ => by simp at hx
  | _ :: _, [], i, x, y, _, _, hy, _ => by simp at hy
theorem tlt_first {a b : Tpl} {i : Nat} {x y : ByteArray} (ht : (tflds a).take i = (tflds b).take i) (hx : (tflds a)[i]? = some x) (hy : (tflds b)[i]? = some y) (hn : x ≠ y) : tlt a b = sLt x y := by
  unfold tlt
  rw [tplcmp_flds, orI_first ht hx hy hn, Bool.eq_iff_iff, decide_eq_true_eq, sLt_iff]
theorem tflds_inj {a b : Tpl} (h : tflds a = tflds b) : a = b := by
  obtain ⟨a1, a2, a3, a4, a5, a6, a7⟩ := a
  obtain ⟨b1, b2, b3, b4, b5, b6, b7⟩ := b
  simp only [tflds, List.cons.injEq] at h
  obtain ⟨h1, h2, h3, h4, h5, h6, h7, h8, _⟩ := h
  simp only [Tpl.mk.injEq]
  exact ⟨h1, h2, h3, h5, h6, h7, h8⟩
theorem same11_spec (v w : Value) (l m : List Tpl) (R : Rds) (h : RS R 7 Tpl.enc v l) (h' : RS R 7 Tpl.enc w m) :
    Spec Tryz.prog 21 [v, w] R [] fun u H' => u = .bool (decide (l = m)) ∧ H' = [] := by
  have hle := h.le
  obtain ⟨pv, kv_, rfl⟩ := h.val
  obtain ⟨pw, kw_, rfl⟩ := h'.val
  refine Spec.body Tryz.func21 rfl Tryz.results21 Tryz.ntmps21 rfl ?_
  refine .seq (.region ?_)
  refine .q .assign ?_
  refine .nil (seqQ_n ?_)
  refine .seq ?_
  refine .seq (.region ?_)
  refine .q .move ?_
  refine .q (.lenR h) ?_
  refine .q .move ?_
  refine .q (.lenR h') ?_
  refine .q .neI ?_
  refine .nil (seqQ_n ?_)
  refine .cond rfl (fun h1 => ?_) (fun h1 => ?_)
  refine .seq (.region ?_)
  refine .q .assign ?_
  refine .nil (seqQ_n ?_)
  refine .ret (seqQ_r (retQ_r _ (.one (.tmp rfl)) (.none _) ?_))
  · exact ⟨by rw [decide_eq_false (fun e : l = m => by simp [e] at h1)], rfl⟩
  have hlen : l.length = m.length := by simp at h1; omega
  refine .skip ?_
  refine seqQ_n ?_
  refine .seq ?_
  refine .seq (.region ?_)
  refine .q .assign ?_
  refine .nil (seqQ_n ?_)
  refine .block ?_
  refine .loop (X := Nat) (fun i => i ≤ l.length ∧ l.take i = m.take i) (fun i => [(0, .slice pv l.length kv_), (1, .slice pw m.length kw_), (5, .int .i64 (i : Nat))]) (fun _ => []) (fun i => l.length - i) 0 ⟨by omega, by simp⟩ ((((EnvLe.nil _).cons rfl).cons rfl).cons rfl) (HLe.refl _) ?_
  rintro i ⟨hi, hs⟩
  refine .seq ?_
  refine .seq (.region ?_)
  refine .q .move ?_
  refine .q .move ?_
  refine .q (.lenR h) ?_
  refine .q .lss ?_
  refine .nil (seqQ_n ?_)
  refine .cond rfl (fun h2 => ?_) (fun h2 => ?_)
  have hlt : i < l.length := by simp at h2; omega
  obtain ⟨z, hz⟩ : ∃ z, l[i]? = some z := ⟨_, List.getElem?_eq_getElem hlt⟩
  obtain ⟨y, hy⟩ : ∃ y, m[i]? = some y := ⟨_, List.getElem?_eq_getElem (by omega)⟩
  refine .skip ?_
  refine seqQ_n ?_
  refine .seq ?_
  refine .block ?_
  refine .seq ?_
  refine .region_still mixed (by kernel_rfl) ?_
  refine .q .move ?_
  refine .q .move ?_
  refine TriOps.indexR i h hz (fun p19 => ?_)
  refine .q (.loadA rfl) ?_
  refine .q .move ?_
  refine .q .move ?_
  refine TriOps.indexR i h' hy (fun p23 => ?_)
  refine .q (.loadA rfl) ?_
  refine .q (.neA rfl rfl (Tpl.kinds z) (Tpl.kinds y)) ?_
  rw [Tpl.eq z y]
  refine .nil (seqQ_n ?_)
  refine .cond rfl (fun h3 => ?_) (fun h3 => ?_)
  refine .seq (.region ?_)
  refine .q .assign ?_
  refine .nil (seqQ_n ?_)
  refine .ret (blkQ_r (seqQ_r (loopQ_r (blkQ_r (seqQ_r (retQ_r _ (.one (.tmp rfl)) (.none _) ?_))))))
  · refine ⟨?_, rfl⟩
    have hne : z ≠ y := by simpa [Tpl.eq] using h3
    rw [decide_eq_false (fun e : l = m => hne (by rw [e, hy] at hz; cases hz; rfl))]
  refine .skip ?_
  refine blkQ_n (seqQ_n ?_)
  refine .region ?_
  refine .q .move ?_
  refine .q (.i64 ((i + 1 : Nat) : Int) .add ⟨by omega, by omega, by omega⟩) ?_
  refine .q .assign ?_
  refine .nil ?_
  · exact loopQ_i (i + 1) ⟨by omega, by
      have e : z = y := by simpa [Tpl.eq] using h3
      rw [List.take_add_one, List.take_add_one, hs, hz, hy, e]⟩ (by omega) ((((EnvLe.nil _).cons rfl).cons rfl).cons rfl) (HLe.refl _)
  refine .exit (seqQ_x (loopQ_x (blkQ_x ?_)))
  refine seqQ_n ?_
  refine .seq (.region ?_)
  refine .q .assign ?_
  refine .nil (seqQ_n ?_)
  refine .ret (retQ_r _ (.one (.tmp rfl)) (.none _) ?_)
  · refine ⟨?_, rfl⟩
    have he : i = l.length := by simp at h2; omega
    rw [he, List.take_length, List.take_of_length_le (by omega)] at hs
    rw [decide_eq_true hs]
theorem OS.lits {α : Type} {b n E sz : Nat} {cs : List Value} {enc : α → List Value} {xs : List α} (he : xs.flatMap enc = cs) (hl : ∀ x ∈ xs, (enc x).length = sz) (ho : ∀ x ∈ xs, ∀ u ∈ enc x, Go.Proofs.YtkepgbimlolemaaGreat.oneCell u = true) (hn : xs.length = n := by rfl) (hm : Nat.ble n 9223372036854775807 = true := by rfl) : OS E sz enc (.slice (some ⟨b, 0, none⟩) n n) xs [(b, .cells cs.toArray E (0, 0))] :=
  ⟨hl, ho, .inr ⟨b, 0, _, n, by rw [hn], rfl, by omega, by have := Nat.le_of_ble_eq_true hm; unfold maxLen; omega, by subst he; rw [List.size_toArray, flatMap_length hl, hn]; omega, fun k hk => by subst he; simp⟩⟩
theorem fields_spec (t : Tpl) (R : Rds) : Spec Tryz.prog 60 [.agg t.enc.toArray] R [] fun u H' => ∃ T, H' = [T] ∧ OS 9 1 encS u (tflds t) T := by
  refine Spec.segs (H' := []) (by simp) ?_
  refine Spec.body Tryz.func60 rfl Tryz.results60 Tryz.ntmps60 rfl ?_
  refine .seq (.region ?_)
  refine TriOps.boxA rfl (fun b1 => ?_)
  refine .q .assign ?_
  refine .nil (seqQ_n ?_)
  refine .seq (.region ?_)
  refine .q .assign ?_
  refine .nil (seqQ_n ?_)
  refine .seq ?_
  refine .seq (.region ?_)
  refine .q (.fieldAddr rfl) ?_
  refine .q (.fieldAddr rfl) ?_
  refine .q (.load1 rfl) ?_
  refine .q .neS ?_
  refine .nil (seqQ_n ?_)
  refine Tri.cut (X := ByteArray) (fun k => k = tkind t) (fun k => [(1, .pointer (some ⟨b1, 0, none⟩)), (3, .string k)]) (fun k => [[(b1, .cells t.enc.toArray 36 (0, 0))]]) ?_ ?_
  refine .cond rfl (fun h1 => ?_) (fun h1 => ?_)
  refine .region ?_
  refine .q .assign ?_
  refine .nil ?_
  · first
      | exact joinQ_n ⟨#[48]⟩ (by unfold tkind; rw [if_neg (by simpa using h1)]) (((EnvLe.nil _).cons rfl).cons rfl) (HLe.refl _)
      | exact joinQ_n ⟨#[49]⟩ (by unfold tkind; rw [if_pos (by simpa using h1)]) (((EnvLe.nil _).cons rfl).cons rfl) (HLe.refl _)
  refine .skip ?_
  · first
      | exact joinQ_n ⟨#[48]⟩ (by unfold tkind; rw [if_neg (by simpa using h1)]) (((EnvLe.nil _).cons rfl).cons rfl) (HLe.refl _)
      | exact joinQ_n ⟨#[49]⟩ (by unfold tkind; rw [if_pos (by simpa using h1)]) (((EnvLe.nil _).cons rfl).cons rfl) (HLe.refl _)
  intro x hx
  subst hx
  refine seqQ_n ?_
  refine .seq (.region ?_)
  refine .q (.fieldAddr rfl) ?_
  refine .q (.fieldAddr rfl) ?_
  refine .q (.load1 rfl) ?_
  refine .q (.fieldAddr rfl) ?_
  refine .q (.fieldAddr rfl) ?_
  refine .q (.load1 rfl) ?_
  refine .q (.fieldAddr rfl) ?_
  refine .q (.load1 rfl) ?_
  refine .q .move ?_
  refine .q (.fieldAddr rfl) ?_
  refine .q (.fieldAddr rfl) ?_
  refine .q (.load1 rfl) ?_
  refine .q (.fieldAddr rfl) ?_
  refine .q (.fieldAddr rfl) ?_
  refine .q (.fieldAddr rfl) ?_
  refine .q (.load1 rfl) ?_
  refine .q (.fieldAddr rfl) ?_
  refine .q (.fieldAddr rfl) ?_
  refine .q (.fieldAddr rfl) ?_
  refine .q (.load1 rfl) ?_
  refine .q (.fieldAddr rfl) ?_
  refine .q (.fieldAddr rfl) ?_
  refine .q (.load1 rfl) ?_
  refine TriOps.buildSliceN1 [_, _, _, _, _, _, _, _] (fun b31 => ?_)
  refine .q .assign ?_
  refine .nil (seqQ_n ?_)
  refine .ret (retQ_r _ (.one (.tmp rfl)) (.one [0] _) ?_)
  · refine ⟨_, by simp [take]; rfl, ?_⟩
    exact OS.lits (E := 9) (xs := tflds t) (enc := encS) rfl (by simp [tflds, encS]) (by simp [tflds, encS, oneCell])
theorem rless_spec (a b : Tpl) (R : Rds) : Spec Tryz.prog 28 [.agg a.enc.toArray, .agg b.enc.toArray] R [] fun v H' => v = .bool (tlt a b) ∧ H' = [] := by
  refine Spec.body Tryz.func28 rfl Tryz.results28 Tryz.ntmps28 rfl ?_
  refine .seq (.region ?_)
  refine TriOps.boxA rfl (fun b2 => ?_)
  refine TriOps.boxA rfl (fun b3 => ?_)
  refine .q .assign ?_
  refine .nil (seqQ_n ?_)
  refine .seq ?_
  refine .region_all [] mixed ?_
  refine .takeO 0 rfl (.loadA rfl) (by kernel_rfl) ?_
  refine .takeO 2 rfl (.loadA rfl) (by kernel_rfl) ?_
  refine RA.step 1 rfl (by kernel_rfl) rfl ?_
  refine TriOps.callN (fields_spec a _) (fun u T1 hO1 => ?_)
  have i1 := hO1.oneCell
  refine .nil (Next.sub ?_)
  refine RA.step 3 rfl (by kernel_rfl) rfl ?_
  refine TriOps.callN (fields_spec b _) (fun w T2 hO2 => ?_)
  have i2 := hO2.oneCell
  refine .nil (Next.sub ?_)
  refine .takeO 4 rfl .assign (by kernel_rfl) ?_
  refine .takeO 5 rfl .assign (by kernel_rfl) ?_
  refine RA.nil (by kernel_rfl) ?_
  refine seqQ_n ?_
  refine .seq ?_
  refine .seq (.region ?_)
  refine .q .assign ?_
  refine .nil (seqQ_n ?_)
  refine .block ?_
  refine .loop (X := Nat) (fun i => i ≤ 8 ∧ (tflds a).take i = (tflds b).take i) (fun i => [(5, u), (6, w), (7, .int .i64 (i : Nat))]) (fun _ => [T1, T2]) (fun i => 8 - i) 0 ⟨by omega, by simp⟩ ((((EnvLe.nil _).cons rfl).cons rfl).cons rfl) (HLe.pick [1, 0] _) ?_
  rintro i ⟨hi, hs⟩
  refine .seq ?_
  refine .seq (.region ?_)
  refine .q .move ?_
  refine .q .move ?_
  refine .q (.lenO hO1) ?_
  refine .q .lss ?_
  refine .nil (seqQ_n ?_)
  refine .cond rfl (fun h1 => ?_) (fun h1 => ?_)
  have hlt : i < 8 := by have := of_decide_eq_true h1; simp only [tflds, List.length_cons, List.length_nil] at this; omega
  obtain ⟨z, hz⟩ : ∃ z, (tflds a)[i]? = some z := ⟨_, List.getElem?_eq_getElem (by simpa [tflds] using hlt)⟩
  obtain ⟨y, hy⟩ : ∃ y, (tflds b)[i]? = some y := ⟨_, List.getElem?_eq_getElem (by simpa [tflds] using hlt)⟩
  refine .skip ?_
  refine seqQ_n ?_
  refine .seq ?_
  refine .block ?_
  refine .seq ?_
  refine .region_still mixed (by kernel_rfl) ?_
  refine .q .move ?_
  refine .q .move ?_
  refine TriOps.indexO i hO1 hz (fun p20 => ?_)
  refine .q (.load1 rfl) ?_
  refine .q .move ?_
  refine .q .move ?_
  refine TriOps.indexO i hO2 hy (fun p24 => ?_)
  refine .q (.load1 rfl) ?_
  refine .q .neS ?_
  refine .nil (seqQ_n ?_)
  refine .cond rfl (fun h2 => ?_) (fun h2 => ?_)
  refine .seq ?_
  refine .region_still mixed (by kernel_rfl) ?_
  refine .q .move ?_
  refine .q .move ?_
  refine TriOps.indexO i hO1 hz (fun p29 => ?_)
  refine .q (.load1 rfl) ?_
  refine .q .move ?_
  refine .q .move ?_
  refine TriOps.indexO i hO2 hy (fun p33 => ?_)
  refine .q (.load1 rfl) ?_
  refine .q .ltS ?_
  refine .q .assign ?_
  refine .nil (seqQ_n ?_)
  refine .ret (blkQ_r (seqQ_r (loopQ_r (blkQ_r (seqQ_r (retQ_r _ (.one (.tmp rfl)) (.none _) ?_))))))
  · have hne : z ≠ y := by simpa using h2
    exact ⟨by rw [tlt_first hs hz hy hne], rfl⟩
  refine .skip ?_
  refine blkQ_n (seqQ_n ?_)
  refine .region ?_
  refine .q .move ?_
  refine .q (.i64 ((i + 1 : Nat) : Int) .add ⟨by omega, by omega, by omega⟩) ?_
  refine .q .assign ?_
  refine .nil ?_
  · exact loopQ_i (i + 1) ⟨hlt, by
      have e : z = y := by simpa using h2
      rw [List.take_add_one, List.take_add_one, hs, hz, hy, e]⟩ (by omega) ((((EnvLe.nil _).cons rfl).cons rfl).cons rfl) (HLe.refl _)
  refine .exit (seqQ_x (loopQ_x (blkQ_x ?_)))
  refine seqQ_n ?_
  refine .seq (.region ?_)
  refine .q .assign ?_
  refine .nil (seqQ_n ?_)
  refine .ret (retQ_r _ (.one (.tmp rfl)) (.none _) ?_)
  · have he : i = 8 := by have := of_decide_eq_false h1; simp only [tflds, List.length_cons, List.length_nil] at this; omega
    subst he
    have : a = b := tflds_inj (by simpa [tflds] using hs)
    exact ⟨by rw [this, tlt_irr], rfl⟩
theorem rinsert_spec (v : Value) (l : List Tpl) (t : Tpl) (R : Rds) (h : RS R 7 Tpl.enc v l) (hl : l.length ≤ 100000) :
    Spec Tryz.prog 20 [v, .agg t.enc.toArray] R [] fun u H' => ∃ T, H' = [T] ∧ OS 36 7 Tpl.enc u (gins tlt t l) T := by
  obtain ⟨pv, kv_, rfl⟩ := h.val
  refine Spec.segs (H' := [[]]) (by simp) ?_
  refine Spec.body Tryz.func20 rfl Tryz.results20 Tryz.ntmps20 rfl ?_
  refine .seq (.region ?_)
  refine TriOps.boxA rfl (fun b3 => ?_)
  refine .q .assign ?_
  refine .nil (seqQ_n ?_)
  refine .seq (.region ?_)
  refine .q .assign ?_
  refine .nil (seqQ_n ?_)
  refine .seq (.region ?_)
  refine .q .assign ?_
  refine .nil (seqQ_n ?_)
  refine .seq ?_
  refine .seq (.region ?_)
  refine .q .assign ?_
  refine .nil (seqQ_n ?_)
  refine .block ?_
  refine .loop (X := Nat × Value × Seg) (fun y => y.1 ≤ l.length ∧ OS 36 7 Tpl.enc y.2.1 (gpre tlt t (l.take y.1)) y.2.2) (fun y => [(0, .slice pv l.length kv_), (3, .pointer (some ⟨b3, 0, none⟩)), (5, y.2.1), (6, .bool ((l.take y.1).any (tlt t))), (7, .int .i64 (y.1 : Nat))]) (fun y => [[(b3, .cells t.enc.toArray 36 (0, 0))], y.2.2]) (fun y => l.length - y.1) (0, .slice none 0 0, []) ⟨Nat.zero_le _, OS.nil⟩ ((((((EnvLe.nil _).cons rfl).cons rfl).cons rfl).cons rfl).cons rfl) (HLe.refl _) ?_
  rintro ⟨i, vo, To⟩ ⟨hi, hO⟩
  simp only at hi hO ⊢
  have io := hO.oneCell
  have hgl : (gpre tlt t (l.take i)).length ≤ 100001 := Nat.le_trans gpre_len (by rw [List.length_take]; omega)
  refine .seq ?_
  refine .seq (.region ?_)
  refine .q .move ?_
  refine .q .move ?_
  refine .q (.lenR h) ?_
  refine .q .lss ?_
  refine .nil (seqQ_n ?_)
  refine .cond rfl (fun h1 => ?_) (fun h1 => ?_)
  have hlt : i < l.length := by have := of_decide_eq_true h1; omega
  obtain ⟨x, hx⟩ : ∃ x, l[i]? = some x := ⟨_, List.getElem?_eq_getElem hlt⟩
  have e4 := gmid_next (lt := tlt) (p := t) hx
  refine .skip ?_
  refine seqQ_n ?_
  refine .seq ?_
  refine .block ?_
  refine .seq ?_
  refine Tri.cut (X := Value × Seg) (fun z => OS 36 7 Tpl.enc z.1 (gmid tlt t (l.take i) x) z.2) (fun z => [(0, .slice pv l.length kv_), (3, .pointer (some ⟨b3, 0, none⟩)), (5, z.1), (6, .bool ((l.take (i + 1)).any (tlt t))), (7, .int .i64 (i : Nat))]) (fun z => [[(b3, .cells t.enc.toArray 36 (0, 0))], z.2]) ?_ ?_
  refine .seq ?_
  refine .region_tail 8 mixed (by kernel_rfl) ?_
  conv => arg 6; dsimp only [List.take]
  refine .q .move ?_
  refine .q .not ?_
  refine .q .move ?_
  refine TriOps.split (t := 16) rfl (fun g6_2 => ?_) (fun g6_2 => ?_)
  refine TriOps.gT g6_2 ?_
  refine .q (.loadA rfl) ?_
  refine TriOps.gT g6_2 ?_
  refine .q .move ?_
  refine TriOps.gT g6_2 ?_
  refine .q .move ?_
  refine TriOps.gT g6_2 ?_
  refine TriOps.indexR i h hx (fun p20 => ?_)
  refine TriOps.gT g6_2 ?_
  refine .q (.loadA rfl) ?_
  refine .nil ?_
  refine TriOps.gT g6_2 ?_
  refine TriOps.callR (rless_spec t x _) (fun v hv => ?_)
  subst hv
  refine .q (.pickTh g6_2) ?_
  refine .nil (seqQ_n ?_)
  refine .cond rfl (fun h2 => ?_) (fun h2 => ?_)
  first | have hput := gmid_put hx g6_2 h2 | skip
  refine .seq (.region ?_)
  refine .q .move ?_
  refine .q (.loadA rfl) ?_
  refine TriOps.buildSlice1A (fun b26 => ?_)
  refine TriOps.append hO (RS.lits (xs := [t]) rfl (by simp [Tpl.enc]) (by simp [Tpl.enc, oneCell])) (by simp only [List.length_singleton]; omega) (fun v5 T5 hO5 => ?_)
  refine .q .assign ?_
  refine .nil (seqQ_n ?_)
  refine .region ?_
  refine .q .assign ?_
  refine .nil ?_
  · first
      | (obtain ⟨hm, hA⟩ := hput
         exact joinQ_n (v5, T5) (by simp only; rw [hm]; exact hO5) (by simp only; rw [hA]; exact (((((EnvLe.nil _).cons rfl).cons rfl).cons rfl).cons rfl).cons rfl) (HLe.pick [1, 1] _))
      | (obtain ⟨hm, hA⟩ := hnot
         exact joinQ_n (vo, To) (by simp only; rw [hm]; simpa using hO) (by simp only; rw [hA]; exact (((((EnvLe.nil _).cons rfl).cons rfl).cons rfl).cons rfl).cons rfl) (HLe.refl _))
  first | have hnot := gmid_not (p := t) hx (.inr h2) | skip
  refine .skip ?_
  · first
      | (obtain ⟨hm, hA⟩ := hput
         exact joinQ_n (v5, T5) (by simp only; rw [hm]; exact hO5) (by simp only; rw [hA]; exact (((((EnvLe.nil _).cons rfl).cons rfl).cons rfl).cons rfl).cons rfl) (HLe.pick [1, 1] _))
      | (obtain ⟨hm, hA⟩ := hnot
         exact joinQ_n (vo, To) (by simp only; rw [hm]; simpa using hO) (by simp only; rw [hA]; exact (((((EnvLe.nil _).cons rfl).cons rfl).cons rfl).cons rfl).cons rfl) (HLe.refl _))
  have hnot := gmid_not (p := t) hx (.inl g6_2)
  refine TriOps.gF g6_2 ?_
  refine TriOps.gF g6_2 ?_
  refine TriOps.gF g6_2 ?_
  refine TriOps.gF g6_2 ?_
  refine TriOps.gF g6_2 ?_
  refine .nil ?_
  refine TriOps.gF g6_2 ?_
  refine .q (.pickFh g6_2) ?_
  refine .nil (seqQ_n ?_)
  refine .condF ?_
  first | have hnot := gmid_not (p := t) hx (.inr h2) | skip
  refine .skip ?_
  · first
      | (obtain ⟨hm, hA⟩ := hput
         exact joinQ_n (v5, T5) (by simp only; rw [hm]; exact hO5) (by simp only; rw [hA]; exact (((((EnvLe.nil _).cons rfl).cons rfl).cons rfl).cons rfl).cons rfl) (HLe.pick [1, 1] _))
      | (obtain ⟨hm, hA⟩ := hnot
         exact joinQ_n (vo, To) (by simp only; rw [hm]; simpa using hO) (by simp only; rw [hA]; exact (((((EnvLe.nil _).cons rfl).cons rfl).cons rfl).cons rfl).cons rfl) (HLe.refl _))
  intro y hy
  obtain ⟨vm, Tm⟩ := y
  have hO6 : OS 36 7 Tpl.enc vm (gmid tlt t (l.take i) x) Tm := hy
  have i6 := hO6.oneCell
  simp only
  refine seqQ_n ?_
  refine .region ?_
  refine .q .move ?_
  refine .q .move ?_
  refine .q .move ?_
  refine TriOps.indexR i h hx (fun p31 => ?_)
  refine .q (.loadA rfl) ?_
  refine TriOps.buildSlice1A (fun b33 => ?_)
  refine TriOps.append hO6 (RS.lits (xs := [x]) rfl (by simp [Tpl.enc]) (by simp [Tpl.enc, oneCell])) (by have := gpre_len (lt := tlt) (p := t) (X := l.take (i + 1)); rw [← e4, List.length_take] at this; simp at this ⊢; omega) (fun v7 T7 hO7 => ?_)
  rw [e4] at hO7
  refine .q .assign ?_
  refine .nil ?_
  refine blkQ_n (seqQ_n ?_)
  refine .region ?_
  refine .q .move ?_
  refine .q (.i64 ((i + 1 : Nat) : Int) .add ⟨by omega, by omega, by omega⟩) ?_
  refine .q .assign ?_
  refine .nil ?_
  · exact loopQ_i (i + 1, v7, T7) ⟨hlt, hO7⟩ (by simp only; omega) ((((((EnvLe.nil _).cons rfl).cons rfl).cons rfl).cons rfl).cons rfl) (HLe.pick [1, 1] _)
  have hk3 : i = l.length := by have := of_decide_eq_false h1; omega
  subst hk3
  rw [List.take_length] at hO hgl ⊢
  refine .exit (seqQ_x (loopQ_x (blkQ_x ?_)))
  refine seqQ_n ?_
  refine .seq ?_
  refine .seq (.region ?_)
  refine .q .move ?_
  refine .q .not ?_
  refine .nil (seqQ_n ?_)
  refine .cond rfl (fun h3 => ?_) (fun h3 => ?_)
  refine .region ?_
  refine .q .move ?_
  refine .q (.loadA rfl) ?_
  refine TriOps.buildSlice1A (fun b39 => ?_)
  refine TriOps.append hO (RS.lits (xs := [t]) rfl (by simp [Tpl.enc]) (by simp [Tpl.enc, oneCell])) (by simp; omega) (fun v5 T5 hO5 => ?_)
  refine .q .assign ?_
  refine .nil (seqQ_n ?_)
  refine .seq (.region ?_)
  refine .q .move ?_
  refine .q .assign ?_
  refine .nil (seqQ_n ?_)
  refine .ret (retQ_r _ (.one (.tmp rfl)) ((HLe.pick [2] _)) ?_)
  · have han : l.any (tlt t) = false := by simpa using h3
    refine ⟨_, by simp [take, dropAt]; rfl, ?_⟩
    have e0 : gpre tlt t l = l := by unfold gpre; rw [han]; rfl
    rw [e0] at hO5
    rw [gins_end han]; exact hO5
  refine .skip ?_
  refine seqQ_n ?_
  refine .seq (.region ?_)
  refine .q .move ?_
  refine .q .assign ?_
  refine .nil (seqQ_n ?_)
  refine .ret (retQ_r _ (.one (.tmp rfl)) ((HLe.pick [1] _)) ?_)
  · have han : l.any (tlt t) = true := by simpa using h3
    refine ⟨_, by simp [take, dropAt]; rfl, ?_⟩
    have e0 : gpre tlt t l = gins tlt t l := by unfold gpre; rw [han]; rfl
    rw [e0] at hO; exact hO
end Go.Proofs.YtkepgbimlolemaaGreat
set_option linter.unusedVariables false
set_option linter.unusedSimpArgs false
set_option maxRecDepth 4000
namespace Go.Proofs.YtkepgbimlolemaaGreat
theorem risRef_spec (s i : ByteArray) (hs : s.size ≤ 9223372036854775807) (hi : i.size ≤ 9223372036854775807) (R : Rds) : Spec Tryz.prog 49 [.agg [.string s, .string i].toArray] R [] fun v H' => v = .bool (isRef s i) ∧ H' = [] := by
  refine Spec.body Tryz.func49 rfl Tryz.results49 Tryz.ntmps49 rfl ?_
  refine .seq (.region ?_)
  refine TriOps.boxA rfl (fun b1 => ?_)
  refine .q .assign ?_
  refine .nil (seqQ_n ?_)
  refine .seq (.region ?_)
  refine .q (.fieldAddr rfl) ?_
  refine .q (.load1 rfl) ?_
  refine TriOps.callR (rword_spec s hs _) (fun v hv => ?_)
  subst hv
  refine .q .move ?_
  refine TriOps.split (t := 6) rfl (fun g1_3 => ?_) (fun g1_3 => ?_)
  refine TriOps.gT g1_3 ?_
  refine .q (.fieldAddr rfl) ?_
  refine TriOps.gT g1_3 ?_
  refine .q (.load1 rfl) ?_
  refine TriOps.gT g1_3 ?_
  refine TriOps.callR (rid_spec i hi _) (fun v hv => ?_)
  subst hv
  refine .q (.pickTh g1_3) ?_
  refine .q .assign ?_
  refine .nil (seqQ_n ?_)
  refine .ret (retQ_r _ (.one (.tmp rfl)) (.none _) ?_)
  · exact ⟨by unfold isRef; simp_all, rfl⟩
  refine TriOps.gF g1_3 ?_
  refine TriOps.gF g1_3 ?_
  refine TriOps.gF g1_3 ?_
  refine .q (.pickFh g1_3) ?_
  refine .q .assign ?_
  refine .nil (seqQ_n ?_)
  refine .ret (retQ_r _ (.one (.tmp rfl)) (.none _) ?_)
  · exact ⟨by unfold isRef; simp_all, rfl⟩
theorem risSub_spec (s : Sub) (h1_ : s.us.size ≤ 9223372036854775807) (h2_ : s.ss.size ≤ 9223372036854775807) (h3_ : s.si.size ≤ 9223372036854775807) (h4_ : s.sr.size ≤ 9223372036854775807) (R : Rds) : Spec Tryz.prog 51 [.agg s.enc.toArray] R [] fun v H' => v = .bool (isSub s) ∧ H' = [] := by
  obtain ⟨us, ss, si, sr⟩ := s
  simp only at h1_ h2_ h3_ h4_
  refine Spec.body Tryz.func51 rfl Tryz.results51 Tryz.ntmps51 rfl ?_
  refine .seq (.region ?_)
  refine TriOps.boxA rfl (fun b1 => ?_)
  refine .q .assign ?_
  refine .nil (seqQ_n ?_)
  refine .seq ?_
  refine .seq (.region ?_)
  refine .q (.fieldAddr rfl) ?_
  refine .q (.load1 rfl) ?_
  refine .q .eqS ?_
  refine .nil (seqQ_n ?_)
  refine .cond rfl (fun h1 => ?_) (fun h1 => ?_)
  refine .seq (.region ?_)
  refine .q (.fieldAddr rfl) ?_
  refine .q (.loadT rfl) ?_
  refine TriOps.callR (risRef_spec ss si h2_ h3_ _) (fun v hv => ?_)
  subst hv
  refine .q .move ?_
  refine TriOps.split (t := 9) rfl (fun g2_3 => ?_) (fun g2_3 => ?_)
  refine TriOps.gT g2_3 ?_
  refine .q (.fieldAddr rfl) ?_
  refine TriOps.gT g2_3 ?_
  refine .q (.load1 rfl) ?_
  refine TriOps.gT g2_3 ?_
  refine TriOps.callR (rword_spec sr h4_ _) (fun v hv => ?_)
  subst hv
  refine .q (.pickTh g2_3) ?_
  refine .q .assign ?_
  refine .nil (seqQ_n ?_)
  refine .ret (seqQ_r (retQ_r _ (.one (.tmp rfl)) (.none _) ?_))
  · refine ⟨congrArg _ ?_, rfl⟩
    unfold isSub
    by_cases hu : us = ⟨#[]⟩
    · simp only [hu, if_true]
      simp_all
    · simp only [hu, if_false]
      simp_all
  refine TriOps.gF g2_3 ?_
  refine TriOps.gF g2_3 ?_
  refine TriOps.gF g2_3 ?_
  refine .q (.pickFh g2_3) ?_
  refine .q .assign ?_
  refine .nil (seqQ_n ?_)
  refine .ret (seqQ_r (retQ_r _ (.one (.tmp rfl)) (.none _) ?_))
  · refine ⟨congrArg _ ?_, rfl⟩
    unfold isSub
    by_cases hu : us = ⟨#[]⟩
    · simp only [hu, if_true]
      simp_all
    · simp only [hu, if_false]
      simp_all
  refine .skip ?_
  refine seqQ_n ?_
  refine .seq (.region ?_)
  refine .q (.fieldAddr rfl) ?_
  refine .q (.load1 rfl) ?_
  refine TriOps.callR (rid_spec us h1_ _) (fun v hv => ?_)
  subst hv
  refine .q .move ?_
  refine TriOps.split (t := 17) rfl (fun g3_3 => ?_) (fun g3_3 => ?_)
  refine TriOps.gT g3_3 ?_
  refine .q (.fieldAddr rfl) ?_
  refine TriOps.gT g3_3 ?_
  refine .q (.fieldAddr rfl) ?_
  refine TriOps.gT g3_3 ?_
  refine .q (.load1 rfl) ?_
  refine TriOps.gT g3_3 ?_
  refine .q .eqS ?_
  refine .q (.pickTh g3_3) ?_
  refine .q .move ?_
  refine TriOps.split (t := 23) rfl (fun g3_9 => ?_) (fun g3_9 => ?_)
  refine TriOps.gT g3_9 ?_
  refine .q (.fieldAddr rfl) ?_
  refine TriOps.gT g3_9 ?_
  refine .q (.fieldAddr rfl) ?_
  refine TriOps.gT g3_9 ?_
  refine .q (.load1 rfl) ?_
  refine TriOps.gT g3_9 ?_
  refine .q .eqS ?_
  refine .q (.pickTh g3_9) ?_
  refine .q .move ?_
  refine TriOps.split (t := 29) rfl (fun g3_15 => ?_) (fun g3_15 => ?_)
  refine TriOps.gT g3_15 ?_
  refine .q (.fieldAddr rfl) ?_
  refine TriOps.gT g3_15 ?_
  refine .q (.load1 rfl) ?_
  refine TriOps.gT g3_15 ?_
  refine .q .eqS ?_
  refine .q (.pickTh g3_15) ?_
  refine .q .assign ?_
  refine .nil (seqQ_n ?_)
  refine .ret (retQ_r _ (.one (.tmp rfl)) (.none _) ?_)
  · refine ⟨congrArg _ ?_, rfl⟩
    unfold isSub
    by_cases hu : us = ⟨#[]⟩
    · simp only [hu, if_true]
      simp_all
    · simp only [hu, if_false]
      simp_all
  refine TriOps.gF g3_15 ?_
  refine TriOps.gF g3_15 ?_
  refine TriOps.gF g3_15 ?_
  refine .q (.pickFh g3_15) ?_
  refine .q .assign ?_
  refine .nil (seqQ_n ?_)
  refine .ret (retQ_r _ (.one (.tmp rfl)) (.none _) ?_)
  · refine ⟨congrArg _ ?_, rfl⟩
    unfold isSub
    by_cases hu : us = ⟨#[]⟩
    · simp only [hu, if_true]
      simp_all
    · simp only [hu, if_false]
      simp_all
  refine TriOps.gF g3_9 ?_
  refine TriOps.gF g3_9 ?_
  refine TriOps.gF g3_9 ?_
  refine TriOps.gF g3_9 ?_
  refine .q (.pickFh g3_9) ?_
  refine .q .move ?_
  refine TriOps.gf rfl rfl ?_
  refine TriOps.gf rfl rfl ?_
  refine TriOps.gf rfl rfl ?_
  refine .q .pickF ?_
  refine .q .assign ?_
  refine .nil (seqQ_n ?_)
  refine .ret (retQ_r _ (.one (.tmp rfl)) (.none _) ?_)
  · refine ⟨congrArg _ ?_, rfl⟩
    unfold isSub
    by_cases hu : us = ⟨#[]⟩
    · simp only [hu, if_true]
      simp_all
    · simp only [hu, if_false]
      simp_all
  refine TriOps.gF g3_3 ?_
  refine TriOps.gF g3_3 ?_
  refine TriOps.gF g3_3 ?_
  refine TriOps.gF g3_3 ?_
  refine .q (.pickFh g3_3) ?_
  refine .q .move ?_
  refine TriOps.gf rfl rfl ?_
  refine TriOps.gf rfl rfl ?_
  refine TriOps.gf rfl rfl ?_
  refine TriOps.gf rfl rfl ?_
  refine .q .pickF ?_
  refine .q .move ?_
  refine TriOps.gf rfl rfl ?_
  refine TriOps.gf rfl rfl ?_
  refine TriOps.gf rfl rfl ?_
  refine .q .pickF ?_
  refine .q .assign ?_
  refine .nil (seqQ_n ?_)
  refine .ret (retQ_r _ (.one (.tmp rfl)) (.none _) ?_)
  · refine ⟨congrArg _ ?_, rfl⟩
    unfold isSub
    by_cases hu : us = ⟨#[]⟩
    · simp only [hu, if_true]
      simp_all
    · simp only [hu, if_false]
      simp_all
theorem risTpl_spec (t : Tpl) (ht : t.fits) (R : Rds) : Spec Tryz.prog 19 [.agg t.enc.toArray] R [] fun v H' => v = .bool (isTpl t) ∧ H' = [] := by
  obtain ⟨a1, a2, a3, a4, a5, a6, a7⟩ := ht
  refine Spec.body Tryz.func19 rfl Tryz.results19 Tryz.ntmps19 rfl ?_
  refine .seq (.region ?_)
  refine TriOps.boxA rfl (fun b1 => ?_)
  refine .q .assign ?_
  refine .nil (seqQ_n ?_)
  refine .seq (.region ?_)
  refine .q (.fieldAddr rfl) ?_
  refine .q (.loadT rfl) ?_
  refine TriOps.callR (risRef_spec t.os t.oi a1 a2 _) (fun v hv => ?_)
  subst hv
  refine .q .move ?_
  refine TriOps.split (t := 6) rfl (fun g1_3 => ?_) (fun g1_3 => ?_)
  refine TriOps.gT g1_3 ?_
  refine .q (.fieldAddr rfl) ?_
  refine TriOps.gT g1_3 ?_
  refine .q (.load1 rfl) ?_
  refine TriOps.gT g1_3 ?_
  refine TriOps.callR (rword_spec t.rel a3 _) (fun v hv => ?_)
  subst hv
  refine .q (.pickTh g1_3) ?_
  refine .q .move ?_
  refine TriOps.split (t := 11) rfl (fun g1_8 => ?_) (fun g1_8 => ?_)
  refine TriOps.gT g1_8 ?_
  refine .q (.fieldAddr rfl) ?_
  refine TriOps.gT g1_8 ?_
  refine .q (.loadT rfl) ?_
  refine TriOps.gT g1_8 ?_
  refine TriOps.callR (risSub_spec t.sub a4 a5 a6 a7 _) (fun v hv => ?_)
  subst hv
  refine .q (.pickTh g1_8) ?_
  refine .q .assign ?_
  refine .nil (seqQ_n ?_)
  refine .ret (retQ_r _ (.one (.tmp rfl)) (.none _) ?_)
  · exact ⟨by unfold isTpl; simp_all, rfl⟩
  refine TriOps.gF g1_8 ?_
  refine TriOps.gF g1_8 ?_
  refine TriOps.gF g1_8 ?_
  refine .q (.pickFh g1_8) ?_
  refine .q .assign ?_
  refine .nil (seqQ_n ?_)
  refine .ret (retQ_r _ (.one (.tmp rfl)) (.none _) ?_)
  · exact ⟨by unfold isTpl; simp_all, rfl⟩
  refine TriOps.gF g1_3 ?_
  refine TriOps.gF g1_3 ?_
  refine TriOps.gF g1_3 ?_
  refine .q (.pickFh g1_3) ?_
  refine .q .move ?_
  refine TriOps.gf rfl rfl ?_
  refine TriOps.gf rfl rfl ?_
  refine TriOps.gf rfl rfl ?_
  refine .q .pickF ?_
  refine .q .assign ?_
  refine .nil (seqQ_n ?_)
  refine .ret (retQ_r _ (.one (.tmp rfl)) (.none _) ?_)
  · exact ⟨by unfold isTpl; simp_all, rfl⟩
end Go.Proofs.YtkepgbimlolemaaGreat
