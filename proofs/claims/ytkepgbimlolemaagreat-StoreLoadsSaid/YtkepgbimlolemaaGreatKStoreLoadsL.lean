/- What the law 'StoreLoads' uses of this prover's engine, facts and walks. No condition. -/
import Derived.Test.YtkepgbimlolemaaGreatKStoreLoadsF
import Derived.Test.YtkepgbimlolemaaGreatKStoreLoadsH
import Derived.Test.YtkepgbimlolemaaGreatKStoreLoadsI
import Derived.Test.YtkepgbimlolemaaGreatKStoreLoadsK
set_option linter.unusedVariables false
set_option linter.unusedSimpArgs false
set_option maxRecDepth 4000
namespace Go.Proofs.YtkepgbimlolemaaGreat
def tkind (t : Tpl) : ByteArray := if t.us = ⟨#[]⟩ then ⟨#[49]⟩ else ⟨#[48]⟩
def tflds (t : Tpl) : List ByteArray := [t.os, t.oi, t.rel, tkind t, t.us, t.ss, t.si, t.sr]
theorem scmp_kind (a b : Tpl) : scmp (tkind a) (tkind b) = icmp (srank a.us) (srank b.us) := by
  unfold tkind srank
  split <;> split <;> decide
theorem tplcmp_flds (a b : Tpl) : tplcmp a b = orI (List.zipWith scmp (tflds a) (tflds b)) := by
  unfold tplcmp tflds
  simp only [List.zipWith_cons_cons, List.zipWith_nil_left]
  rw [scmp_kind]
theorem orI_first : ∀ {X Y : List ByteArray} {i : Nat} {x y : ByteArray}, X.take i = Y.take i → X[i]? = some x → Y[i]? = some y → x ≠ y → orI (List.zipWith scmp X Y) = scmp x y
  | x0 :: X, y0 :: Y, 0, x, y, _, hx, hy, hn => by
    simp only [List.getElem?_cons_zero, Option.some.injEq] at hx hy
    subst hx hy
    rw [List.zipWith_cons_cons, orI_cons, if_neg fun e => hn (scmp_eq.1 e)]
  | x0 :: X, y0 :: Y, i + 1, x, y, ht, hx, hy, hn => by
    simp only [List.take_succ_cons, List.cons.injEq] at ht
    simp only [List.getElem?_cons_succ] at hx hy
    rw [List.zipWith_cons_cons, orI_cons, if_pos (scmp_eq.2 ht.1)]
    exact orI_first ht.2 hx hy hn
  | [], _, i, x, y, _, hx, _, _ => by simp at hx
  | _ :: _, [], i, x, y, _, _, hy, _ => by simp at hy
theorem tlt_first {a b : Tpl} {i : Nat} {x y : ByteArray} (ht : (tflds a).take i = (tflds b).take i) (hx : (tflds a)[i]? = some x) (hy : (tflds b)[i]? = some y) (hn : x ≠ y) : tlt a b = sLt x y := by
  unfold tlt
  rw [tplcmp_flds, orI_first ht hx hy hn, Bool.eq_iff_iff, decide_eq_true_eq, sLt_iff]
theorem tflds_inj {a b : Tpl} (h : tflds a = tflds b) : a = b := by
  obtain ⟨a1, a2, a3, a4, a5, a6, a7⟩ := a
  obtain ⟨b1, b2, b3, b4, b5, b6, b7⟩ := b
  simp only [tflds, List.cons.injEq] at h
  obtain ⟨h1, h2, h3, h4, h5, h6, h7, h8, _⟩ := h
  simp only [Tpl.mk.injEq]
  exact ⟨h1, h2, h3, h5, h6, h7, h8⟩
theorem same11_spec (v w : Value) (l m : List Tpl) (R : Rds) (h : RS R 7 Tpl.enc v l) (h' : RS R 7 Tpl.enc w m) :
    Spec Tryz.prog 21 [v, w] R [] fun u H' => u = .bool (decide (l = m)) ∧ H' = [] := by
  have hle := h.le
  obtain ⟨pv, kv_, rfl⟩ := h.val
  obtain ⟨pw, kw_, rfl⟩ := h'.val
  refine Spec.body Tryz.func21 rfl Tryz.results21 Tryz.ntmps21 rfl ?_
  refine .seq (.region ?_)
  refine .q .assign ?_
  refine .nil (seqQ_n ?_)
  refine .seq ?_
  refine .seq (.region ?_)
  refine .q .move ?_
  refine .q (.lenR h) ?_
  refine .q .move ?_
  refine .q (.lenR h') ?_
  refine .q .neI ?_
  refine .nil (seqQ_n ?_)
  refine .cond rfl (fun h1 => ?_) (fun h1 => ?_)
  refine .seq (.region ?_)
  refine .q .assign ?_
  refine .nil (seqQ_n ?_)
  refine .ret (seqQ_r (retQ_r _ (.one (.tmp rfl)) (.none _) ?_))
  · exact ⟨by rw [decide_eq_false (fun e : l = m => by simp [e] at h1)], rfl⟩
  have hlen : l.length = m.length := by simp at h1; omega
  refine .skip ?_
  refine seqQ_n ?_
  refine .seq ?_
  refine .seq (.region ?_)
  refine .q .assign ?_
  refine .nil (seqQ_n ?_)
  refine .block ?_
  refine .loop (X := Nat) (fun i => i ≤ l.length ∧ l.take i = m.take i) (fun i => [(0, .slice pv l.length kv_), (1, .slice pw m.length kw_), (5, .int .i64 (i : Nat))]) (fun _ => []) (fun i => l.length - i) 0 ⟨by omega, by simp⟩ ((((EnvLe.nil _).cons rfl).cons rfl).cons rfl) (HLe.refl _) ?_
  rintro i ⟨hi, hs⟩
  refine .seq ?_
  refine .seq (.region ?_)
  refine .q .move ?_
  refine .q .move ?_
  refine .q (.lenR h) ?_
  refine .q .lss ?_
  refine .nil (seqQ_n ?_)
  refine .cond rfl (fun h2 => ?_) (fun h2 => ?_)
  have hlt : i < l.length := by simp at h2; omega
  obtain ⟨z, hz⟩ : ∃ z, l[i]? = some z := ⟨_, List.getElem?_eq_getElem hlt⟩
  obtain ⟨y, hy⟩ : ∃ y, m[i]? = some y := ⟨_, List.getElem?_eq_getElem (by omega)⟩
  refine .skip ?_
  refine seqQ_n ?_
  refine .seq ?_
  refine .block ?_
  refine .seq ?_
  refine .region_still mixed (by kernel_rfl) ?_
  refine .q .move ?_
  refine .q .move ?_
  refine TriOps.indexR i h hz (fun p19 => ?_)
  refine .q (.loadA rfl) ?_
  refine .q .move ?_
  refine .q .move ?_
  refine TriOps.indexR i h' hy (fun p23 => ?_)
  refine .q (.loadA rfl) ?_
  refine .q (.neA rfl rfl (Tpl.kinds z) (Tpl.kinds y)) ?_
  rw [Tpl.eq z y]
  refine .nil (seqQ_n ?_)
  refine .cond rfl (fun h3 => ?_) (fun h3 => ?_)
  refine .seq (.region ?_)
  refine .q .assign ?_
  refine .nil (seqQ_n ?_)
  refine .ret (blkQ_r (seqQ_r (loopQ_r (blkQ_r (seqQ_r (retQ_r _ (.one (.tmp rfl)) (.none _) ?_))))))
  · refine ⟨?_, rfl⟩
    have hne : z ≠ y := by simpa [Tpl.eq] using h3
    rw [decide_eq_false (fun e : l = m => hne (by rw [e, hy] at hz; cases hz; rfl))]
  refine .skip ?_
  refine blkQ_n (seqQ_n ?_)
  refine .region ?_
  refine .q .move ?_
  refine .q (.i64 ((i + 1 : Nat) : Int) .add ⟨by omega, by omega, by omega⟩) ?_
  refine .q .assign ?_
  refine .nil ?_
  · exact loopQ_i (i + 1) ⟨by omega, by
      have e : z = y := by simpa [Tpl.eq] using h3
      rw [List.take_add_one, List.take_add_one, hs, hz, hy, e]⟩ (by omega) ((((EnvLe.nil _).cons rfl).cons rfl).cons rfl) (HLe.refl _)
  refine .exit (seqQ_x (loopQ_x (blkQ_x ?_)))
  refine seqQ_n ?_
  refine .seq (.region ?_)
  refine .q .assign ?_
  refine .nil (seqQ_n ?_)
  refine .ret (retQ_r _ (.one (.tmp rfl)) (.none _) ?_)
  · refine ⟨?_, rfl⟩
    have he : i = l.length := by simp at h2; omega
    rw [he, List.take_length, List.take_of_length_le (by omega)] at hs
    rw [decide_eq_true hs]
theorem OS.lits {α : Type} {b n E sz : Nat} {cs : List Value} {enc : α → List Value} {xs : List α} (he : xs.flatMap enc = cs) (hl : ∀ x ∈ xs, (enc x).length = sz) (ho : ∀ x ∈ xs, ∀ u ∈ enc x, Go.Proofs.YtkepgbimlolemaaGreat.oneCell u = true) (hn : xs.length = n := by rfl) (hm : Nat.ble n 9223372036854775807 = true := by rfl) : OS E sz enc (.slice (some ⟨b, 0, none⟩) n n) xs [(b, .cells cs.toArray E (0, 0))] :=
  ⟨hl, ho, .inr ⟨b, 0, _, n, by rw [hn], rfl, by omega, by have := Nat.le_of_ble_eq_true hm; unfold maxLen; omega, by subst he; rw [List.size_toArray, flatMap_length hl, hn]; omega, fun k hk => by subst he; simp⟩⟩
theorem fields_spec (t : Tpl) (R : Rds) : Spec Tryz.prog 60 [.agg t.enc.toArray] R [] fun u H' => ∃ T, H' = [T] ∧ OS 9 1 encS u (tflds t) T := by
  refine Spec.segs (H' := []) (by simp) ?_
  refine Spec.body Tryz.func60 rfl Tryz.results60 Tryz.ntmps60 rfl ?_
  refine .seq (.region ?_)
  refine TriOps.boxA rfl (fun b1 => ?_)
  refine .q .assign ?_
  refine .nil (seqQ_n ?_)
  refine .seq (.region ?_)
  refine .q .assign ?_
  refine .nil (seqQ_n ?_)
  refine .seq ?_
  refine .seq (.region ?_)
  refine .q (.fieldAddr rfl) ?_
  refine .q (.fieldAddr rfl) ?_
  refine .q (.load1 rfl) ?_
  refine .q .neS ?_
  refine .nil (seqQ_n ?_)
  refine Tri.cut (X := ByteArray) (fun k => k = tkind t) (fun k => [(1, .pointer (some ⟨b1, 0, none⟩)), (3, .string k)]) (fun k => [[(b1, .cells t.enc.toArray 36 (0, 0))]]) ?_ ?_
  refine .cond rfl (fun h1 => ?_) (fun h1 => ?_)
  refine .region ?_
  refine .q .assign ?_
  refine .nil ?_
  · first
      | exact joinQ_n ⟨#[48]⟩ (by unfold tkind; rw [if_neg (by simpa using h1)]) (((EnvLe.nil _).cons rfl).cons rfl) (HLe.refl _)
      | exact joinQ_n ⟨#[49]⟩ (by unfold tkind; rw [if_pos (by simpa using h1)]) (((EnvLe.nil _).cons rfl).cons rfl) (HLe.refl _)
  refine .skip ?_
  · first
      | exact joinQ_n ⟨#[48]⟩ (by unfold tkind; rw [if_neg (by simpa using h1)]) (((EnvLe.nil _).cons rfl).cons rfl) (HLe.refl _)
      | exact joinQ_n ⟨#[49]⟩ (by unfold tkind; rw [if_pos (by simpa using h1)]) (((EnvLe.nil _).cons rfl).cons rfl) (HLe.refl _)
  intro x hx
  subst hx
  refine seqQ_n ?_
  refine .seq (.region ?_)
  refine .q (.fieldAddr rfl) ?_
  refine .q (.fieldAddr rfl) ?_
  refine .q (.load1 rfl) ?_
  refine .q (.fieldAddr rfl) ?_
  refine .q (.fieldAddr rfl) ?_
  refine .q (.load1 rfl) ?_
  refine .q (.fieldAddr rfl) ?_
  refine .q (.load1 rfl) ?_
  refine .q .move ?_
  refine .q (.fieldAddr rfl) ?_
  refine .q (.fieldAddr rfl) ?_
  refine .q (.load1 rfl) ?_
  refine .q (.fieldAddr rfl) ?_
  refine .q (.fieldAddr rfl) ?_
  refine .q (.fieldAddr rfl) ?_
  refine .q (.load1 rfl) ?_
  refine .q (.fieldAddr rfl) ?_
  refine .q (.fieldAddr rfl) ?_
  refine .q (.fieldAddr rfl) ?_
  refine .q (.load1 rfl) ?_
  refine .q (.fieldAddr rfl) ?_
  refine .q (.fieldAddr rfl) ?_
  refine .q (.load1 rfl) ?_
  refine TriOps.buildSliceN1 [_, _, _, _, _, _, _, _] (fun b31 => ?_)
  refine .q .assign ?_
  refine .nil (seqQ_n ?_)
  refine .ret (retQ_r _ (.one (.tmp rfl)) (.one [0] _) ?_)
  · refine ⟨_, by simp [take]; rfl, ?_⟩
    exact OS.lits (E := 9) (xs := tflds t) (enc := encS) rfl (by simp [tflds, encS]) (by simp [tflds, encS, oneCell])
theorem rless_spec (a b : Tpl) (R : Rds) : Spec Tryz.prog 28 [.agg a.enc.toArray, .agg b.enc.toArray] R [] fun v H' => v = .bool (tlt a b) ∧ H' = [] := by
  refine Spec.body Tryz.func28 rfl Tryz.results28 Tryz.ntmps28 rfl ?_
  refine .seq (.region ?_)
  refine TriOps.boxA rfl (fun b2 => ?_)
  refine TriOps.boxA rfl (fun b3 => ?_)
  refine .q .assign ?_
  refine .nil (seqQ_n ?_)
  refine .seq ?_
  refine .region_all [] mixed ?_
  refine .takeO 0 rfl (.loadA rfl) (by kernel_rfl) ?_
  refine .takeO 2 rfl (.loadA rfl) (by kernel_rfl) ?_
  refine RA.step 1 rfl (by kernel_rfl) rfl ?_
  refine TriOps.callN (fields_spec a _) (fun u T1 hO1 => ?_)
  have i1 := hO1.oneCell
  refine .nil (Next.sub ?_)
  refine RA.step 3 rfl (by kernel_rfl) rfl ?_
  refine TriOps.callN (fields_spec b _) (fun w T2 hO2 => ?_)
  have i2 := hO2.oneCell
  refine .nil (Next.sub ?_)
  refine .takeO 4 rfl .assign (by kernel_rfl) ?_
  refine .takeO 5 rfl .assign (by kernel_rfl) ?_
  refine RA.nil (by kernel_rfl) ?_
  refine seqQ_n ?_
  refine .seq ?_
  refine .seq (.region ?_)
  refine .q .assign ?_
  refine .nil (seqQ_n ?_)
  refine .block ?_
  refine .loop (X := Nat) (fun i => i ≤ 8 ∧ (tflds a).take i = (tflds b).take i) (fun i => [(5, u), (6, w), (7, .int .i64 (i : Nat))]) (fun _ => [T1, T2]) (fun i => 8 - i) 0 ⟨by omega, by simp⟩ ((((EnvLe.nil _).cons rfl).cons rfl).cons rfl) (HLe.pick [1, 0] _) ?_
  rintro i ⟨hi, hs⟩
  refine .seq ?_
  refine .seq (.region ?_)
  refine .q .move ?_
  refine .q .move ?_
  refine .q (.lenO hO1) ?_
  refine .q .lss ?_
  refine .nil (seqQ_n ?_)
  refine .cond rfl (fun h1 => ?_) (fun h1 => ?_)
  have hlt : i < 8 := by have := of_decide_eq_true h1; simp only [tflds, List.length_cons, List.length_nil] at this; omega
  obtain ⟨z, hz⟩ : ∃ z, (tflds a)[i]? = some z := ⟨_, List.getElem?_eq_getElem (by simpa [tflds] using hlt)⟩
  obtain ⟨y, hy⟩ : ∃ y, (tflds b)[i]? = some y := ⟨_, List.getElem?_eq_getElem (by simpa [tflds] using hlt)⟩
  refine .skip ?_
  refine seqQ_n ?_
  refine .seq ?_
  refine .block ?_
  refine .seq ?_
  refine .region_still mixed (by kernel_rfl) ?_
  refine .q .move ?_
  refine .q .move ?_
  refine TriOps.indexO i hO1 hz (fun p20 => ?_)
  refine .q (.load1 rfl) ?_
  refine .q .move ?_
  refine .q .move ?_
  refine TriOps.indexO i hO2 hy (fun p24 => ?_)
  refine .q (.load1 rfl) ?_
  refine .q .neS ?_
  refine .nil (seqQ_n ?_)
  refine .cond rfl (fun h2 => ?_) (fun h2 => ?_)
  refine .seq ?_
  refine .region_still mixed (by kernel_rfl) ?_
  refine .q .move ?_
  refine .q .move ?_
  refine TriOps.indexO i hO1 hz (fun p29 => ?_)
  refine .q (.load1 rfl) ?_
  refine .q .move ?_
  refine .q .move ?_
  refine TriOps.indexO i hO2 hy (fun p33 => ?_)
  refine .q (.load1 rfl) ?_
  refine .q .ltS ?_
  refine .q .assign ?_
  refine .nil (seqQ_n ?_)
  refine .ret (blkQ_r (seqQ_r (loopQ_r (blkQ_r (seqQ_r (retQ_r _ (.one (.tmp rfl)) (.none _) ?_))))))
  · have hne : z ≠ y := by simpa using h2
    exact ⟨by rw [tlt_first hs hz hy hne], rfl⟩
  refine .skip ?_
  refine blkQ_n (seqQ_n ?_)
  refine .region ?_
  refine .q .move ?_
  refine .q (.i64 ((i + 1 : Nat) : Int) .add ⟨by omega, by omega, by omega⟩) ?_
  refine .q .assign ?_
  refine .nil ?_
  · exact loopQ_i (i + 1) ⟨hlt, by
      have e : z = y := by simpa using h2
      rw [List.take_add_one, List.take_add_one, hs, hz, hy, e]⟩ (by omega) ((((EnvLe.nil _).cons rfl).cons rfl).cons rfl) (HLe.refl _)
  refine .exit (seqQ_x (loopQ_x (blkQ_x ?_)))
  refine seqQ_n ?_
  refine .seq (.region ?_)
  refine .q .assign ?_
  refine .nil (seqQ_n ?_)
  refine .ret (retQ_r _ (.one (.tmp rfl)) (.none _) ?_)
  · have he : i = 8 := by have := of_decide_eq_false h1; simp only [tflds, List.length_cons, List.length_nil] at this; omega
    subst he
    have : a = b := tflds_inj (by simpa [tflds] using hs)
    exact ⟨by rw [this, tlt_irr], rfl⟩
end Go.Proofs.YtkepgbimlolemaaGreat
set_option linter.unusedVariables false
set_option linter.unusedSimpArgs false
set_option maxRecDepth 4000
namespace Go.Proofs.YtkepgbimlolemaaGreat
structure DV (R : Rds) (b : Nat) (S : Sto) (vL : Value) (L : List SRow) : Prop where
  pc : PC R (.pointer (some ⟨b, 0, none⟩)) [vL, .int .u64 S.head, .int .u64 S.hor]
  rs : RS R 9 SRow.enc vL L
theorem DV.mono {R R' : Rds} {b : Nat} {S : Sto} {vL : Value} {L : List SRow} (h : DV R b S vL L) (hR : ∀ b o, R b o → R' b o) : DV R' b S vL L := ⟨h.pc.mono hR, h.rs.mono hR⟩
theorem rthere_spec (x : SRow) (r : Int) (R : Rds) : Spec Tryz.prog 75 [.agg x.enc.toArray, .int .u64 r] R [] fun v H' => v = .bool (x.there r) ∧ H' = [] := by
  obtain ⟨⟨a1, a2, a3, a4, a5, a6, a7⟩, fr, to⟩ := x
  refine Spec.body Tryz.func75 rfl Tryz.results75 Tryz.ntmps75 rfl ?_
  refine .seq (.region ?_)
  refine TriOps.boxA rfl (fun b2 => ?_)
  refine .q .assign ?_
  refine .nil (seqQ_n ?_)
  refine .seq (.region ?_)
  refine .q (.fieldAddr rfl) ?_
  refine .q (.load1 rfl) ?_
  refine .q .move ?_
  refine .q .leq ?_
  refine .q .move ?_
  refine TriOps.split (t := 9) rfl (fun g1_4 => ?_) (fun g1_4 => ?_)
  refine TriOps.gT g1_4 ?_
  refine .q (.fieldAddr rfl) ?_
  refine TriOps.gT g1_4 ?_
  refine .q (.load1 rfl) ?_
  refine TriOps.gT g1_4 ?_
  refine .q .eqI ?_
  refine TriOps.gT g1_4 ?_
  refine .q .move ?_
  refine TriOps.split (t := 13) rfl (fun g1_8 => ?_) (fun g1_8 => ?_)
  refine TriOps.gF g1_8 ?_
  refine TriOps.gF g1_8 ?_
  refine TriOps.gF g1_8 ?_
  refine TriOps.gF g1_8 ?_
  refine TriOps.gT g1_4 ?_
  refine .q (.pickTh g1_8) ?_
  refine .q (.pickTh g1_4) ?_
  refine .q .assign ?_
  refine .nil (seqQ_n ?_)
  refine .ret (retQ_r _ (.one (.tmp rfl)) (.none _) ?_)
  · refine ⟨congrArg _ ?_, rfl⟩
    unfold SRow.there
    simp_all
    try omega
  refine TriOps.gT g1_8 ?_
  refine .q .move ?_
  refine TriOps.gT g1_8 ?_
  refine .q (.fieldAddr rfl) ?_
  refine TriOps.gT g1_8 ?_
  refine .q (.load1 rfl) ?_
  refine TriOps.gT g1_8 ?_
  refine .q .lss ?_
  refine TriOps.gT g1_4 ?_
  refine .q (.pickFh g1_8) ?_
  refine .q (.pickTh g1_4) ?_
  refine .q .assign ?_
  refine .nil (seqQ_n ?_)
  refine .ret (retQ_r _ (.one (.tmp rfl)) (.none _) ?_)
  · refine ⟨congrArg _ ?_, rfl⟩
    unfold SRow.there
    simp_all
    try omega
  refine TriOps.gF g1_4 ?_
  refine TriOps.gF g1_4 ?_
  refine TriOps.gF g1_4 ?_
  refine TriOps.gF g1_4 ?_
  refine TriOps.gfU rfl ?_
  refine TriOps.gfU rfl ?_
  refine TriOps.gfU rfl ?_
  refine TriOps.gfU rfl ?_
  refine TriOps.gF g1_4 ?_
  refine .q (.pickFh g1_4) ?_
  refine .q .assign ?_
  refine .nil (seqQ_n ?_)
  refine .ret (retQ_r _ (.one (.tmp rfl)) (.none _) ?_)
  · refine ⟨congrArg _ ?_, rfl⟩
    unfold SRow.there
    simp_all
    try omega
def mask (t : Tpl) : List ByteArray := [t.os, t.oi, t.rel, t.us, t.ss, t.si, t.sr]
def zok (p : ByteArray × ByteArray) : Bool := decide (p.1 = ⟨#[]⟩) || decide (p.1 = p.2)
theorem tmatch_zip (f t : Tpl) : tmatch f t = ((mask f).zip (mask t)).all zok := by
  unfold tmatch mask
  simp only [List.zip_cons_cons, List.zip_nil_right, List.all_cons, List.all_nil, zok, Bool.and_true, Bool.and_assoc]
theorem rmatch_spec (f t : Tpl) (R : Rds) : Spec Tryz.prog 76 [.agg f.enc.toArray, .agg t.enc.toArray] R [] fun v H' => v = .bool (tmatch f t) ∧ H' = [] := by
  refine Spec.body Tryz.func76 rfl Tryz.results76 Tryz.ntmps76 rfl ?_
  refine .seq (.region ?_)
  refine TriOps.boxA rfl (fun b2 => ?_)
  refine TriOps.boxA rfl (fun b3 => ?_)
  refine .q .assign ?_
  refine .nil (seqQ_n ?_)
  refine .seq (.region ?_)
  refine .q (.fieldAddr rfl) ?_
  refine .q (.load1 rfl) ?_
  refine .q (.fieldAddr rfl) ?_
  refine .q (.load1 rfl) ?_
  refine .q (.fieldAddr rfl) ?_
  refine .q (.load1 rfl) ?_
  refine .q (.fieldAddr rfl) ?_
  refine .q (.load1 rfl) ?_
  refine .q (.fieldAddr rfl) ?_
  refine .q (.fieldAddr rfl) ?_
  refine .q (.load1 rfl) ?_
  refine .q (.fieldAddr rfl) ?_
  refine .q (.fieldAddr rfl) ?_
  refine .q (.load1 rfl) ?_
  refine .q (.fieldAddr rfl) ?_
  refine .q (.load1 rfl) ?_
  refine TriOps.buildSliceN1 [_, _, _, _, _, _, _] (fun b24 => ?_)
  refine .q .assign ?_
  refine .nil (seqQ_n ?_)
  refine .seq (.region ?_)
  refine .q (.fieldAddr rfl) ?_
  refine .q (.fieldAddr rfl) ?_
  refine .q (.load1 rfl) ?_
  refine .q (.fieldAddr rfl) ?_
  refine .q (.fieldAddr rfl) ?_
  refine .q (.load1 rfl) ?_
  refine .q (.fieldAddr rfl) ?_
  refine .q (.load1 rfl) ?_
  refine .q (.fieldAddr rfl) ?_
  refine .q (.fieldAddr rfl) ?_
  refine .q (.load1 rfl) ?_
  refine .q (.fieldAddr rfl) ?_
  refine .q (.fieldAddr rfl) ?_
  refine .q (.fieldAddr rfl) ?_
  refine .q (.load1 rfl) ?_
  refine .q (.fieldAddr rfl) ?_
  refine .q (.fieldAddr rfl) ?_
  refine .q (.fieldAddr rfl) ?_
  refine .q (.load1 rfl) ?_
  refine .q (.fieldAddr rfl) ?_
  refine .q (.fieldAddr rfl) ?_
  refine .q (.load1 rfl) ?_
  refine TriOps.buildSliceN1 [_, _, _, _, _, _, _] (fun b47 => ?_)
  refine .q .assign ?_
  refine .nil (seqQ_n ?_)
  refine .seq ?_
  refine .seq (.region ?_)
  refine .q .assign ?_
  refine .nil (seqQ_n ?_)
  refine .block ?_
  refine .loop (X := Nat) (fun i => i ≤ 7 ∧ (((mask f).zip (mask t)).take i).all zok = true) (fun i => [(5, .slice (some ⟨b24, 0, none⟩) 7 7), (6, .slice (some ⟨b47, 0, none⟩) 7 7), (7, .int .i64 (i : Nat))]) (fun _ => [[(b47, .cells ((mask t).flatMap encS).toArray 9 (0, 0))], [(b24, .cells ((mask f).flatMap encS).toArray 9 (0, 0))]]) (fun i => 7 - i) 0 ⟨by omega, by simp⟩ ((((EnvLe.nil _).cons rfl).cons rfl).cons rfl) (HLe.pick [0, 0] _) ?_
  rintro i ⟨hi, hs⟩
  have hA : OS 9 1 encS (.slice (some ⟨b24, 0, none⟩) 7 7) (mask f) [(b24, .cells ((mask f).flatMap encS).toArray 9 (0, 0))] := OS.lits rfl (by simp [mask, encS]) (by simp [mask, encS, oneCell])
  have hB : OS 9 1 encS (.slice (some ⟨b47, 0, none⟩) 7 7) (mask t) [(b47, .cells ((mask t).flatMap encS).toArray 9 (0, 0))] := OS.lits rfl (by simp [mask, encS]) (by simp [mask, encS, oneCell])
  refine .seq ?_
  refine .seq (.region ?_)
  refine .q .move ?_
  refine .q .move ?_
  refine .q (.lenO hA) ?_
  refine .q .lss ?_
  refine .nil (seqQ_n ?_)
  refine .cond rfl (fun h1 => ?_) (fun h1 => ?_)
  have hlt : i < 7 := by have := of_decide_eq_true h1; simp only [mask, List.length_cons, List.length_nil] at this; omega
  obtain ⟨z, hz⟩ : ∃ z, (mask f)[i]? = some z := ⟨_, List.getElem?_eq_getElem (by simpa [mask] using hlt)⟩
  obtain ⟨y, hy⟩ : ∃ y, (mask t)[i]? = some y := ⟨_, List.getElem?_eq_getElem (by simpa [mask] using hlt)⟩
  have hzy : ((mask f).zip (mask t))[i]? = some (z, y) := by rw [List.getElem?_zip_eq_some]; exact ⟨hz, hy⟩
  have htk : (((mask f).zip (mask t)).take (i + 1)).all zok = ((((mask f).zip (mask t)).take i).all zok && zok (z, y)) := by rw [List.take_add_one, hzy, List.all_append]; simp
  have hbad : zok (z, y) = false → tmatch f t = false := fun hb => by
    rw [tmatch_zip, List.all_eq_false]
    exact ⟨(z, y), List.mem_of_getElem? hzy, by rw [hb]; simp⟩
  refine .skip ?_
  refine seqQ_n ?_
  refine .seq ?_
  refine .block ?_
  refine .seq ?_
  refine .region_still mixed (by kernel_rfl) ?_
  refine .q .move ?_
  refine .q .move ?_
  refine TriOps.indexO i hA hz (fun p56 => ?_)
  refine .q (.load1 rfl) ?_
  refine .q .neS ?_
  refine .q .move ?_
  refine TriOps.split (t := 59) rfl (fun g6_5 => ?_) (fun g6_5 => ?_)
  refine TriOps.gT g6_5 ?_
  refine .q .move ?_
  refine TriOps.gT g6_5 ?_
  refine .q .move ?_
  refine TriOps.gT g6_5 ?_
  refine TriOps.indexO i hA hz (fun p62 => ?_)
  refine TriOps.gT g6_5 ?_
  refine .q (.load1 rfl) ?_
  refine TriOps.gT g6_5 ?_
  refine .q .move ?_
  refine TriOps.gT g6_5 ?_
  refine .q .move ?_
  refine TriOps.gT g6_5 ?_
  refine TriOps.indexO i hB hy (fun p66 => ?_)
  refine TriOps.gT g6_5 ?_
  refine .q (.load1 rfl) ?_
  refine TriOps.gT g6_5 ?_
  refine .q .neS ?_
  refine .q (.pickTh g6_5) ?_
  refine .nil (seqQ_n ?_)
  refine .cond rfl (fun h2 => ?_) (fun h2 => ?_)
  refine .seq (.region ?_)
  refine .q .assign ?_
  refine .nil (seqQ_n ?_)
  refine .ret (blkQ_r (seqQ_r (loopQ_r (blkQ_r (seqQ_r (retQ_r _ (.one (.tmp rfl)) (.none _) ?_))))))
  · exact ⟨by rw [hbad (by unfold zok; simp_all)], rfl⟩
  refine .skip ?_
  refine blkQ_n (seqQ_n ?_)
  refine .region ?_
  refine .q .move ?_
  refine .q (.i64 ((i + 1 : Nat) : Int) .add ⟨by omega, by omega, by omega⟩) ?_
  refine .q .assign ?_
  refine .nil ?_
  · exact loopQ_i (i + 1) ⟨hlt, by rw [htk, hs]; unfold zok; simp_all⟩ (by omega) ((((EnvLe.nil _).cons rfl).cons rfl).cons rfl) (HLe.refl _)
  refine TriOps.gF g6_5 ?_
  refine TriOps.gF g6_5 ?_
  refine TriOps.gF g6_5 ?_
  refine TriOps.gF g6_5 ?_
  refine TriOps.gF g6_5 ?_
  refine TriOps.gF g6_5 ?_
  refine TriOps.gF g6_5 ?_
  refine TriOps.gF g6_5 ?_
  refine TriOps.gF g6_5 ?_
  refine .q (.pickFh g6_5) ?_
  refine .nil (seqQ_n ?_)
  refine .condF ?_
  refine .skip ?_
  refine blkQ_n (seqQ_n ?_)
  refine .region ?_
  refine .q .move ?_
  refine .q (.i64 ((i + 1 : Nat) : Int) .add ⟨by omega, by omega, by omega⟩) ?_
  refine .q .assign ?_
  refine .nil ?_
  · exact loopQ_i (i + 1) ⟨hlt, by rw [htk, hs]; unfold zok; simp_all⟩ (by omega) ((((EnvLe.nil _).cons rfl).cons rfl).cons rfl) (HLe.refl _)
  have hie : i = 7 := by have := of_decide_eq_false h1; simp only [mask, List.length_cons, List.length_nil] at this; omega
  subst hie
  have hall : tmatch f t = true := by
    rw [tmatch_zip]
    have e : (((mask f).zip (mask t)).take 7) = (mask f).zip (mask t) := List.take_of_length_le (by simp [mask])
    rw [e] at hs
    exact hs
  refine .exit (seqQ_x (loopQ_x (blkQ_x ?_)))
  refine seqQ_n ?_
  refine .seq (.region ?_)
  refine .q .assign ?_
  refine .nil (seqQ_n ?_)
  refine .ret (retQ_r _ (.one (.tmp rfl)) (.none _) ?_)
  · exact ⟨by rw [hall], rfl⟩
section
variable {R : Rds} {b : Nat} {S : Sto} {vL : Value} {L : List SRow}
theorem DV.can (h : DV R b S vL L) (r : Int) : Spec Tryz.prog 48 [.pointer (some ⟨b, 0, none⟩), .int .u64 r] R [] fun v H' => v = .bool (scan S r) ∧ H' = [] := by
  have pc := h.pc
  have ivl := h.rs.oneCell
  refine Spec.body Tryz.func48 rfl Tryz.results48 Tryz.ntmps48 rfl ?_
  refine .seq (.region ?_)
  refine .q .assign ?_
  refine .nil (seqQ_n ?_)
  refine .seq (.region ?_)
  refine .q .move ?_
  refine .q (.nilCheck rfl) ?_
  refine .q (.fieldAddr rfl) ?_
  refine .q (.load1 rfl) ?_
  refine .q .move ?_
  refine .q .leq ?_
  refine .q .move ?_
  refine TriOps.split (t := 11) rfl (fun g1_6 => ?_) (fun g1_6 => ?_)
  refine TriOps.gT g1_6 ?_
  refine .q .move ?_
  refine TriOps.gT g1_6 ?_
  refine .q .move ?_
  refine TriOps.gT g1_6 ?_
  refine .q (.nilCheck rfl) ?_
  refine TriOps.gT g1_6 ?_
  refine .q (.fieldAddr rfl) ?_
  refine TriOps.gT g1_6 ?_
  refine .q (.load1 rfl) ?_
  refine TriOps.gT g1_6 ?_
  refine .q .leq ?_
  refine .q (.pickTh g1_6) ?_
  refine .q .assign ?_
  refine .nil (seqQ_n ?_)
  refine .ret (retQ_r _ (.one (.tmp rfl)) (.none _) ?_)
  · refine ⟨congrArg _ ?_, rfl⟩
    unfold scan
    simp_all
    try omega
  refine TriOps.gF g1_6 ?_
  refine TriOps.gF g1_6 ?_
  refine TriOps.gF g1_6 ?_
  refine TriOps.gF g1_6 ?_
  refine TriOps.gF g1_6 ?_
  refine TriOps.gF g1_6 ?_
  refine .q (.pickFh g1_6) ?_
  refine .q .assign ?_
  refine .nil (seqQ_n ?_)
  refine .ret (retQ_r _ (.one (.tmp rfl)) (.none _) ?_)
  · refine ⟨congrArg _ ?_, rfl⟩
    unfold scan
    simp_all
    try omega
theorem DV.has (h : DV R b S vL L) (hL : RL S L) (t : Tpl) (r : Int) : Spec Tryz.prog 36 [.pointer (some ⟨b, 0, none⟩), .agg t.enc.toArray, .int .u64 r] R [] fun v H' => v = .bool (shas S t r) ∧ H' = [] := by
  have pc := h.pc
  have ivl := h.rs.oneCell
  have hle := h.rs.le
  have hsh : shas S t r = (scan S r && L.any fun x => decide (x.t = t) && x.there r) := by unfold shas; rw [any_perm hL.pm]
  obtain ⟨pv, kv_, rfl⟩ := h.rs.val
  have hrs := h.rs
  refine Spec.body Tryz.func36 rfl Tryz.results36 Tryz.ntmps36 rfl ?_
  refine .seq (.region ?_)
  refine TriOps.boxA rfl (fun b4 => ?_)
  refine .q .assign ?_
  refine .nil (seqQ_n ?_)
  refine .seq ?_
  refine .seq (.region ?_)
  refine .q .assign ?_
  refine .nil (seqQ_n ?_)
  refine .block ?_
  refine .loop (X := Nat) (fun i => i ≤ L.length ∧ (L.take i).any (fun x => decide (x.t = t) && x.there r) = false) (fun i => [(0, .pointer (some ⟨b, 0, none⟩)), (2, .int .u64 r), (4, .pointer (some ⟨b4, 0, none⟩)), (7, .int .i64 (i : Nat))]) (fun _ => [[(b4, .cells t.enc.toArray 36 (0, 0))]]) (fun i => L.length - i) 0 ⟨Nat.zero_le _, by simp⟩ (((((EnvLe.nil _).cons rfl).cons rfl).cons rfl).cons rfl) (HLe.refl _) ?_
  rintro i ⟨hi, hs⟩
  refine .seq ?_
  refine .seq (.region ?_)
  refine .q .move ?_
  refine .q .move ?_
  refine .q (.nilCheck rfl) ?_
  refine .q (.fieldAddr rfl) ?_
  refine .q (.load1 rfl) ?_
  refine .q (.lenR hrs) ?_
  refine .q .lss ?_
  refine .q .move ?_
  refine TriOps.split (t := 15) rfl (fun g2_7 => ?_) (fun g2_7 => ?_)
  have hlt : i < L.length := by have := of_decide_eq_true g2_7; omega
  obtain ⟨x, hx⟩ : ∃ x, L[i]? = some x := ⟨_, List.getElem?_eq_getElem hlt⟩
  have htk : (L.take (i + 1)).any (fun x => decide (x.t = t) && x.there r) = (decide (x.t = t) && x.there r) := by rw [List.take_add_one, hx, List.any_append, hs]; simp
  refine TriOps.gT g2_7 ?_
  refine .q .move ?_
  refine TriOps.gT g2_7 ?_
  refine .q .move ?_
  refine TriOps.gT g2_7 ?_
  refine TriOps.callR ((h.mono fun b o hb => .inl hb).can r) (fun v hv => ?_)
  subst hv
  refine .q (.pickTh g2_7) ?_
  refine .nil (seqQ_n ?_)
  refine .cond rfl (fun h1 => ?_) (fun h1 => ?_)
  refine .skip ?_
  refine seqQ_n ?_
  refine .seq ?_
  refine .block ?_
  refine .seq ?_
  refine .region_tail 19 mixed (by kernel_rfl) ?_
  conv => arg 6; dsimp only [List.take]
  refine .q .move ?_
  refine .q (.nilCheck rfl) ?_
  refine .q (.fieldAddr rfl) ?_
  refine .q (.load1 rfl) ?_
  refine .q .move ?_
  refine TriOps.indexR i hrs hx (fun p27 => ?_)
  refine .q (.fieldAddr rfl) ?_
  refine .q (.loadT rfl) ?_
  refine .q (.loadA rfl) ?_
  refine .q (.eqA rfl rfl (Tpl.kinds x.t) (Tpl.kinds t)) ?_
  rw [show cellsEq (List.take 7 (List.drop 0 x.enc)) t.enc = decide (x.t = t) from Tpl.eq x.t t]
  refine .q .move ?_
  refine TriOps.split (t := 32) rfl (fun g4_10 => ?_) (fun g4_10 => ?_)
  refine TriOps.gT g4_10 ?_
  refine .q .move ?_
  refine TriOps.gT g4_10 ?_
  refine .q (.nilCheck rfl) ?_
  refine TriOps.gT g4_10 ?_
  refine .q (.fieldAddr rfl) ?_
  refine TriOps.gT g4_10 ?_
  refine .q (.load1 rfl) ?_
  refine TriOps.gT g4_10 ?_
  refine .q .move ?_
  refine TriOps.gT g4_10 ?_
  refine TriOps.indexR i hrs hx (fun p38 => ?_)
  refine TriOps.gT g4_10 ?_
  refine .q (.loadA rfl) ?_
  refine TriOps.gT g4_10 ?_
  refine .q .move ?_
  refine .nil ?_
  refine TriOps.gT g4_10 ?_
  refine TriOps.callR (rthere_spec x r _) (fun v hv => ?_)
  subst hv
  refine .q (.pickTh g4_10) ?_
  refine .nil (seqQ_n ?_)
  refine .cond rfl (fun h2 => ?_) (fun h2 => ?_)
  refine .seq (.region ?_)
  refine .q .assign ?_
  refine .nil (seqQ_n ?_)
  refine .ret (blkQ_r (seqQ_r (loopQ_r (blkQ_r (seqQ_r (retQ_r _ (.one (.tmp rfl)) (.none _) ?_))))))
  · refine ⟨?_, rfl⟩
    have ha : (L.any fun x => decide (x.t = t) && x.there r) = true := by
      rw [List.any_eq_true]
      exact ⟨x, List.mem_of_getElem? hx, by simp_all⟩
    rw [hsh, h1, ha]; rfl
  refine .skip ?_
  refine blkQ_n (seqQ_n ?_)
  refine .region ?_
  refine .q .move ?_
  refine .q (.i64 ((i + 1 : Nat) : Int) .add ⟨by omega, by omega, by omega⟩) ?_
  refine .q .assign ?_
  refine .nil ?_
  · exact loopQ_i (i + 1) ⟨hlt, by rw [htk]; simp_all⟩ (by omega) (((((EnvLe.nil _).cons rfl).cons rfl).cons rfl).cons rfl) (HLe.refl _)
  refine TriOps.gF g4_10 ?_
  refine TriOps.gF g4_10 ?_
  refine TriOps.gF g4_10 ?_
  refine TriOps.gF g4_10 ?_
  refine TriOps.gF g4_10 ?_
  refine TriOps.gF g4_10 ?_
  refine TriOps.gF g4_10 ?_
  refine TriOps.gF g4_10 ?_
  refine .nil ?_
  refine TriOps.gF g4_10 ?_
  refine .q (.pickFh g4_10) ?_
  refine .nil (seqQ_n ?_)
  refine .condF ?_
  refine .skip ?_
  refine blkQ_n (seqQ_n ?_)
  refine .region ?_
  refine .q .move ?_
  refine .q (.i64 ((i + 1 : Nat) : Int) .add ⟨by omega, by omega, by omega⟩) ?_
  refine .q .assign ?_
  refine .nil ?_
  · exact loopQ_i (i + 1) ⟨hlt, by rw [htk]; simp_all⟩ (by omega) (((((EnvLe.nil _).cons rfl).cons rfl).cons rfl).cons rfl) (HLe.refl _)
  refine .exit (seqQ_x (loopQ_x (blkQ_x ?_)))
  refine seqQ_n ?_
  refine .seq (.region ?_)
  refine .q .assign ?_
  refine .nil (seqQ_n ?_)
  refine .ret (retQ_r _ (.one (.tmp rfl)) (.none _) ?_)
  · exact ⟨by rw [hsh, h1]; rfl, rfl⟩
  have hie : i = L.length := by have := of_decide_eq_false g2_7; omega
  subst hie
  rw [List.take_length] at hs
  refine TriOps.gF g2_7 ?_
  refine TriOps.gF g2_7 ?_
  refine TriOps.gF g2_7 ?_
  refine .q (.pickFh g2_7) ?_
  refine .nil (seqQ_n ?_)
  refine .condF ?_
  refine .exit (seqQ_x (loopQ_x (blkQ_x ?_)))
  refine seqQ_n ?_
  refine .seq (.region ?_)
  refine .q .assign ?_
  refine .nil (seqQ_n ?_)
  refine .ret (retQ_r _ (.one (.tmp rfl)) (.none _) ?_)
  · exact ⟨by rw [hsh, hs, Bool.and_false], rfl⟩
theorem DV.read (h : DV R b S vL L) (hl : L.length ≤ 5000) (f : Tpl) (r : Int) : Spec Tryz.prog 35 [.pointer (some ⟨b, 0, none⟩), .agg f.enc.toArray, .int .u64 r] R [] fun u H' => ∃ T, H' = [T] ∧ ∃ w, u = .tuple [w, .int .i64 (if scan S r then 0 else 12)].toArray ∧ OS 36 7 Tpl.enc w (if scan S r then (L.filter fun x => x.there r && tmatch f x.t).map (·.t) else []) T := by
  have pc := h.pc
  have ivl := h.rs.oneCell
  obtain ⟨pv, kv_, rfl⟩ := h.rs.val
  have hrs := h.rs
  refine Spec.segs (H' := [[]]) (by simp) ?_
  refine Spec.body Tryz.func35 rfl Tryz.results35 Tryz.ntmps35 rfl ?_
  refine .seq (.region ?_)
  refine TriOps.boxA rfl (fun b4 => ?_)
  refine .q .assign ?_
  refine .q .assign ?_
  refine .nil (seqQ_n ?_)
  refine .seq ?_
  refine .seq (.region ?_)
  refine .q .move ?_
  refine .q .move ?_
  refine TriOps.callR ((h.mono fun b o hb => .inl hb).can r) (fun v hv => ?_)
  subst hv
  refine .q .not ?_
  refine .nil (seqQ_n ?_)
  refine .cond rfl (fun h1 => ?_) (fun h1 => ?_)
  have hsc : scan S r = false := by simpa using h1
  refine .seq (.region ?_)
  refine .q .assign ?_
  refine .q .assign ?_
  refine .nil (seqQ_n ?_)
  refine .ret (seqQ_r (retQ_r _ (.two (.tmp rfl) (.tmp rfl)) ((HLe.pick [1] _)) ?_))
  · exact ⟨_, by simp [take]; rfl, _, by rw [hsc]; rfl, by rw [hsc]; exact OS.nil⟩
  have hsc : scan S r = true := by simpa using h1
  refine .skip ?_
  refine seqQ_n ?_
  refine .seq (.region ?_)
  refine .q .assign ?_
  refine .nil (seqQ_n ?_)
  refine .seq ?_
  refine .seq (.region ?_)
  refine .q .assign ?_
  refine .nil (seqQ_n ?_)
  refine .block ?_
  refine .loop (X := Nat × Value × Seg) (fun y => y.1 ≤ L.length ∧ OS 36 7 Tpl.enc y.2.1 (((L.take y.1).filter fun x => x.there r && tmatch f x.t).map (·.t)) y.2.2) (fun y => [(0, .pointer (some ⟨b, 0, none⟩)), (2, .int .u64 r), (4, .pointer (some ⟨b4, 0, none⟩)), (8, y.2.1), (9, .int .i64 (y.1 : Nat))]) (fun y => [[(b4, .cells f.enc.toArray 29 (0, 0))], y.2.2]) (fun y => L.length - y.1) (0, .slice none 0 0, []) ⟨Nat.zero_le _, OS.nil⟩ ((((((EnvLe.nil _).cons rfl).cons rfl).cons rfl).cons rfl).cons rfl) (HLe.refl _) ?_
  rintro ⟨i, vo, To⟩ ⟨hi, hO⟩
  simp only at hi hO ⊢
  have io := hO.oneCell
  have hol : (((L.take i).filter fun x => x.there r && tmatch f x.t).map (·.t)).length ≤ 5000 := by
    rw [List.length_map]
    exact Nat.le_trans (List.length_filter_le _ _) (by rw [List.length_take]; omega)
  refine .seq ?_
  refine .seq (.region ?_)
  refine .q .move ?_
  refine .q .move ?_
  refine .q (.nilCheck rfl) ?_
  refine .q (.fieldAddr rfl) ?_
  refine .q (.load1 rfl) ?_
  refine .q (.lenR hrs) ?_
  refine .q .lss ?_
  refine .nil (seqQ_n ?_)
  refine .cond rfl (fun h2 => ?_) (fun h2 => ?_)
  have hlt : i < L.length := by have := of_decide_eq_true h2; omega
  obtain ⟨x, hx⟩ : ∃ x, L[i]? = some x := ⟨_, List.getElem?_eq_getElem hlt⟩
  have htk : L.take (i + 1) = L.take i ++ [x] := by rw [List.take_add_one, hx]; rfl
  have pxi := hrs.pc hx
  refine .skip ?_
  refine seqQ_n ?_
  refine .seq ?_
  refine .block ?_
  refine .seq ?_
  refine .region_all [] mixed ?_
  refine .takeO 0 rfl .move (by kernel_rfl) ?_
  refine .takeO 1 rfl (.nilCheck rfl) (by kernel_rfl) ?_
  refine .takeO 2 rfl (.fieldAddr rfl) (by kernel_rfl) ?_
  refine .takeO 3 rfl (.load1 rfl) (by kernel_rfl) ?_
  refine .takeO 4 rfl .move (by kernel_rfl) ?_
  refine .takeO 5 rfl (.indexR i hrs hx rfl rfl rfl) (by kernel_rfl) ?_
  refine .takeO 6 rfl (.loadA rfl) (by kernel_rfl) ?_
  refine .takeO 7 rfl .move (by kernel_rfl) ?_
  refine RA.step 8 rfl (by kernel_rfl) rfl ?_
  refine TriOps.callR (rthere_spec x r _) (fun v hv => ?_)
  subst hv
  refine .nil (Next.sub ?_)
  refine .takeO 9 rfl .move (by kernel_rfl) ?_
  refine RA.split (t := 32) rfl (fun g7_9 => ?_) (fun g7_9 => ?_)
  refine .takeGhO 10 rfl rfl g7_9 (.loadA rfl) (by kernel_rfl) ?_
  refine .takeGhO 11 rfl rfl g7_9 .move (by kernel_rfl) ?_
  refine .takeGhO 12 rfl rfl g7_9 (.nilCheck rfl) (by kernel_rfl) ?_
  refine .takeGhO 13 rfl rfl g7_9 (.fieldAddr rfl) (by kernel_rfl) ?_
  refine .takeGhO 14 rfl rfl g7_9 (.load1 rfl) (by kernel_rfl) ?_
  refine .takeGhO 15 rfl rfl g7_9 .move (by kernel_rfl) ?_
  refine .takeGhO 16 rfl rfl g7_9 (.indexR i hrs hx rfl rfl rfl) (by kernel_rfl) ?_
  refine .takeGhO 17 rfl rfl g7_9 (.fieldAddr rfl) (by kernel_rfl) ?_
  refine .takeGhO 18 rfl rfl g7_9 (.loadT rfl) (by kernel_rfl) ?_
  refine RA.step 19 rfl (by kernel_rfl) rfl ?_
  refine TriOps.gT g7_9 ?_
  refine TriOps.callR (rmatch_spec f x.t _) (fun v hv => ?_)
  subst hv
  refine .nil (Next.sub ?_)
  refine .takeO 20 rfl (.pickTh g7_9) (by kernel_rfl) ?_
  refine RA.nil (by kernel_rfl) ?_
  refine seqQ_n ?_
  refine .cond rfl (fun h3 => ?_) (fun h3 => ?_)
  refine .region ?_
  refine .q .move ?_
  refine .q .move ?_
  refine .q (.nilCheck rfl) ?_
  refine .q (.fieldAddr rfl) ?_
  refine .q (.load1 rfl) ?_
  refine .q .move ?_
  refine TriOps.indexR i hrs hx (fun p50 => ?_)
  refine .q (.fieldAddr rfl) ?_
  refine .q (.loadT rfl) ?_
  refine TriOps.buildSlice1A (fun b53 => ?_)
  refine TriOps.append hO (RS.lits (xs := [x.t]) rfl (by simp [Tpl.enc]) (by simp [Tpl.enc, oneCell])) (by simp only [List.length_singleton]; omega) (fun v5 T5 hO5 => ?_)
  refine .q .assign ?_
  refine .nil ?_
  refine blkQ_n (seqQ_n ?_)
  refine .region ?_
  refine .q .move ?_
  refine .q (.i64 ((i + 1 : Nat) : Int) .add ⟨by omega, by omega, by omega⟩) ?_
  refine .q .assign ?_
  refine .nil ?_
  · first
      | exact loopQ_i (i + 1, v5, T5) ⟨hlt, by simp only; rw [htk, List.filter_append, List.map_append, List.filter_cons, if_pos (by simp_all)]; exact hO5⟩ (by simp only; omega) ((((((EnvLe.nil _).cons rfl).cons rfl).cons rfl).cons rfl).cons rfl) (HLe.pick [1, 1] _)
      | exact loopQ_i (i + 1, vo, To) ⟨hlt, by simp only; rw [htk, List.filter_append, List.map_append, List.filter_cons, if_neg (by simp_all)]; simpa using hO⟩ (by simp only; omega) ((((((EnvLe.nil _).cons rfl).cons rfl).cons rfl).cons rfl).cons rfl) (HLe.refl _)
  refine .skip ?_
  refine blkQ_n (seqQ_n ?_)
  refine .region ?_
  refine .q .move ?_
  refine .q (.i64 ((i + 1 : Nat) : Int) .add ⟨by omega, by omega, by omega⟩) ?_
  refine .q .assign ?_
  refine .nil ?_
  · first
      | exact loopQ_i (i + 1, v5, T5) ⟨hlt, by simp only; rw [htk, List.filter_append, List.map_append, List.filter_cons, if_pos (by simp_all)]; exact hO5⟩ (by simp only; omega) ((((((EnvLe.nil _).cons rfl).cons rfl).cons rfl).cons rfl).cons rfl) (HLe.pick [1, 1] _)
      | exact loopQ_i (i + 1, vo, To) ⟨hlt, by simp only; rw [htk, List.filter_append, List.map_append, List.filter_cons, if_neg (by simp_all)]; simpa using hO⟩ (by simp only; omega) ((((((EnvLe.nil _).cons rfl).cons rfl).cons rfl).cons rfl).cons rfl) (HLe.refl _)
  refine .takeFh 10 rfl rfl g7_9 rfl (by kernel_rfl) ?_
  refine .takeFh 11 rfl rfl g7_9 rfl (by kernel_rfl) ?_
  refine .takeFh 12 rfl rfl g7_9 rfl (by kernel_rfl) ?_
  refine .takeFh 13 rfl rfl g7_9 rfl (by kernel_rfl) ?_
  refine .takeFh 14 rfl rfl g7_9 rfl (by kernel_rfl) ?_
  refine .takeFh 15 rfl rfl g7_9 rfl (by kernel_rfl) ?_
  refine .takeFh 16 rfl rfl g7_9 rfl (by kernel_rfl) ?_
  refine .takeFh 17 rfl rfl g7_9 rfl (by kernel_rfl) ?_
  refine .takeFh 18 rfl rfl g7_9 rfl (by kernel_rfl) ?_
  refine RA.step 19 rfl (by kernel_rfl) rfl ?_
  refine TriOps.gF g7_9 ?_
  refine .nil (Next.sub ?_)
  refine .takeO 20 rfl (.pickFh g7_9) (by kernel_rfl) ?_
  refine RA.nil (by kernel_rfl) ?_
  refine seqQ_n ?_
  refine .condF ?_
  refine .skip ?_
  refine blkQ_n (seqQ_n ?_)
  refine .region ?_
  refine .q .move ?_
  refine .q (.i64 ((i + 1 : Nat) : Int) .add ⟨by omega, by omega, by omega⟩) ?_
  refine .q .assign ?_
  refine .nil ?_
  · first
      | exact loopQ_i (i + 1, v5, T5) ⟨hlt, by simp only; rw [htk, List.filter_append, List.map_append, List.filter_cons, if_pos (by simp_all)]; exact hO5⟩ (by simp only; omega) ((((((EnvLe.nil _).cons rfl).cons rfl).cons rfl).cons rfl).cons rfl) (HLe.pick [1, 1] _)
      | exact loopQ_i (i + 1, vo, To) ⟨hlt, by simp only; rw [htk, List.filter_append, List.map_append, List.filter_cons, if_neg (by simp_all)]; simpa using hO⟩ (by simp only; omega) ((((((EnvLe.nil _).cons rfl).cons rfl).cons rfl).cons rfl).cons rfl) (HLe.refl _)
  refine .exit (seqQ_x (loopQ_x (blkQ_x ?_)))
  refine seqQ_n ?_
  refine .seq (.region ?_)
  refine .q .move ?_
  refine .q .assign ?_
  refine .q .assign ?_
  refine .nil (seqQ_n ?_)
  refine .ret (retQ_r _ (.two (.tmp rfl) (.tmp rfl)) ((HLe.pick [1] _)) ?_)
  · have hie : i = L.length := by have := of_decide_eq_false h2; omega
    subst hie
    rw [List.take_length] at hO
    exact ⟨To, by simp [take, dropAt], _, by rw [hsc]; rfl, by rw [hsc]; exact hO⟩
theorem DV.subjects (h : DV R b S vL L) (hl : L.length ≤ 5000) (k : Obr) (r : Int) : Spec Tryz.prog 39 [.pointer (some ⟨b, 0, none⟩), .agg [.string k.os, .string k.oi].toArray, .string k.rel, .int .u64 r] R [] fun u H' => ∃ T, H' = [T] ∧ OS 34 4 Sub.enc u (if scan S r then (L.filter fun x => x.there r && decide (x.t.obr = k)).map (·.t.sub) else []) T := by
  obtain ⟨k1, k2, k3⟩ := k
  have pc := h.pc
  have ivl := h.rs.oneCell
  obtain ⟨pv, kv_, rfl⟩ := h.rs.val
  have hrs := h.rs
  have hq : ∀ x : SRow, decide (x.t.obr = (⟨k1, k2, k3⟩ : Obr)) = (decide (x.t.os = k1 ∧ x.t.oi = k2) && decide (x.t.rel = k3)) := fun x => by
    rw [Bool.eq_iff_iff]
    simp [Tpl.obr, and_assoc]
  refine Spec.segs (H' := [[]]) (by simp) ?_
  refine Spec.body Tryz.func39 rfl Tryz.results39 Tryz.ntmps39 rfl ?_
  refine .seq (.region ?_)
  refine TriOps.boxA rfl (fun b5 => ?_)
  refine .q .assign ?_
  refine .nil (seqQ_n ?_)
  refine .seq (.region ?_)
  refine .q .assign ?_
  refine .nil (seqQ_n ?_)
  refine .seq ?_
  refine .seq (.region ?_)
  refine .q .assign ?_
  refine .nil (seqQ_n ?_)
  refine .block ?_
  refine .loop (X := Nat × Value × Seg) (fun y => (y.1 ≤ L.length ∧ (scan S r = false → y.1 = 0)) ∧ OS 34 4 Sub.enc y.2.1 (((L.take y.1).filter fun x => x.there r && decide (x.t.obr = (⟨k1, k2, k3⟩ : Obr))).map (·.t.sub)) y.2.2) (fun y => [(0, .pointer (some ⟨b, 0, none⟩)), (2, .string k3), (3, .int .u64 r), (5, .pointer (some ⟨b5, 0, none⟩)), (9, y.2.1), (10, .int .i64 (y.1 : Nat))]) (fun y => [[(b5, .cells [.string k1, .string k2].toArray 27 (0, 0))], y.2.2]) (fun y => L.length - y.1) (0, .slice none 0 0, []) ⟨⟨Nat.zero_le _, fun _ => rfl⟩, OS.nil⟩ (((((((EnvLe.nil _).cons rfl).cons rfl).cons rfl).cons rfl).cons rfl).cons rfl) (HLe.refl _) ?_
  rintro ⟨i, vo, To⟩ ⟨⟨hi, hi0⟩, hO⟩
  simp only at hi hi0 hO ⊢
  have io := hO.oneCell
  have hol : (((L.take i).filter fun x => x.there r && decide (x.t.obr = (⟨k1, k2, k3⟩ : Obr))).map (·.t.sub)).length ≤ 5000 := by
    rw [List.length_map]
    exact Nat.le_trans (List.length_filter_le _ _) (by rw [List.length_take]; omega)
  refine .seq ?_
  refine .seq (.region ?_)
  refine .q .move ?_
  refine .q .move ?_
  refine .q (.nilCheck rfl) ?_
  refine .q (.fieldAddr rfl) ?_
  refine .q (.load1 rfl) ?_
  refine .q (.lenR hrs) ?_
  refine .q .lss ?_
  refine .q .move ?_
  refine TriOps.split (t := 19) rfl (fun g3_7 => ?_) (fun g3_7 => ?_)
  have hlt : i < L.length := by have := of_decide_eq_true g3_7; omega
  obtain ⟨x, hx⟩ : ∃ x, L[i]? = some x := ⟨_, List.getElem?_eq_getElem hlt⟩
  have htk : L.take (i + 1) = L.take i ++ [x] := by rw [List.take_add_one, hx]; rfl
  have hqx := hq x
  refine TriOps.gT g3_7 ?_
  refine .q .move ?_
  refine TriOps.gT g3_7 ?_
  refine .q .move ?_
  refine TriOps.gT g3_7 ?_
  refine TriOps.callR ((h.mono fun b o hb => .inl hb).can r) (fun v hv => ?_)
  subst hv
  refine .q (.pickTh g3_7) ?_
  refine .nil (seqQ_n ?_)
  refine .cond rfl (fun h1 => ?_) (fun h1 => ?_)
  refine .skip ?_
  refine seqQ_n ?_
  refine .seq ?_
  refine .block ?_
  refine .seq (.region ?_)
  refine .q .move ?_
  refine .q (.nilCheck rfl) ?_
  refine .q (.fieldAddr rfl) ?_
  refine .q (.load1 rfl) ?_
  refine .q .move ?_
  refine TriOps.indexR i hrs hx (fun p31 => ?_)
  refine .q (.fieldAddr rfl) ?_
  refine .q (.loadT rfl) ?_
  refine TriOps.allocA (fun b11 => ?_)
  refine TriOps.storeA rfl rfl ?_
  refine .nil (seqQ_n ?_)
  refine .seq (.region ?_)
  refine TriOps.sub (H' := [[(b11, .cells x.t.enc.toArray 36 (0, 0))], [(b5, .cells [.string k1, .string k2].toArray 27 (0, 0))], To]) (HLe.refl _) ?_
  refine .q .move ?_
  refine .q (.nilCheck rfl) ?_
  refine .q (.fieldAddr rfl) ?_
  refine .q (.load1 rfl) ?_
  refine .q .move ?_
  refine TriOps.indexR i hrs hx (fun p39 => ?_)
  refine .q (.loadA rfl) ?_
  refine .q .move ?_
  refine TriOps.callR (rthere_spec x r _) (fun v hv => ?_)
  subst hv
  refine .q .move ?_
  refine TriOps.split (t := 43) rfl (fun g6_9 => ?_) (fun g6_9 => ?_)
  refine TriOps.gT g6_9 ?_
  refine .q (.fieldAddr rfl) ?_
  refine TriOps.gT g6_9 ?_
  refine .q (.loadT rfl) ?_
  refine TriOps.gT g6_9 ?_
  refine .q (.loadA rfl) ?_
  refine TriOps.gT g6_9 ?_
  refine .q (.eqA rfl rfl (show HasK [.s, .s] (List.take 2 (List.drop 0 x.t.enc)) from ⟨trivial, trivial, trivial⟩) (show HasK [.s, .s] [.string k1, .string k2] from ⟨trivial, trivial, trivial⟩)) ?_
  rw [show cellsEq (List.take 2 (List.drop 0 x.t.enc)) [.string k1, .string k2] = decide (x.t.os = k1 ∧ x.t.oi = k2) from by rw [Bool.eq_iff_iff]; simp [Tpl.enc, cellsEq, cellEq]]
  refine .q (.pickTh g6_9) ?_
  refine .q .move ?_
  refine TriOps.split (t := 49) rfl (fun g6_15 => ?_) (fun g6_15 => ?_)
  refine TriOps.gT g6_15 ?_
  refine .q (.fieldAddr rfl) ?_
  refine TriOps.gT g6_15 ?_
  refine .q (.load1 rfl) ?_
  refine TriOps.gT g6_15 ?_
  refine .q .move ?_
  refine TriOps.gT g6_15 ?_
  refine .q .eqS ?_
  refine .q (.pickTh g6_15) ?_
  refine .nil (seqQ_n ?_)
  refine .cond rfl (fun h2 => ?_) (fun h2 => ?_)
  refine .region ?_
  refine .q .move ?_
  refine .q (.fieldAddr rfl) ?_
  refine .q (.loadT rfl) ?_
  refine TriOps.buildSlice1A (fun b58 => ?_)
  refine TriOps.append hO (RS.lits (xs := [x.t.sub]) rfl (by simp [Sub.enc]) (by simp [Sub.enc, oneCell])) (by simp only [List.length_singleton]; omega) (fun v5 T5 hO5 => ?_)
  refine .q .assign ?_
  refine .nil ?_
  refine blkQ_n (seqQ_n ?_)
  refine .region ?_
  refine .q .move ?_
  refine .q (.i64 ((i + 1 : Nat) : Int) .add ⟨by omega, by omega, by omega⟩) ?_
  refine .q .assign ?_
  refine .nil ?_
  · first
      | exact loopQ_i (i + 1, v5, T5) ⟨⟨hlt, fun hc => by rw [hc] at h1; cases h1⟩, by simp only; rw [htk, List.filter_append, List.map_append, List.filter_cons, if_pos (by rw [hqx, g6_9, g6_15, h2]; rfl)]; exact hO5⟩ (by simp only; omega) (((((((EnvLe.nil _).cons rfl).cons rfl).cons rfl).cons rfl).cons rfl).cons rfl) (HLe.pick [2, 2] _)
      | exact loopQ_i (i + 1, vo, To) ⟨⟨hlt, fun hc => by rw [hc] at h1; cases h1⟩, by simp only; rw [htk, List.filter_append, List.map_append, List.filter_cons, if_neg (by rw [hqx]; simp_all)]; simpa using hO⟩ (by simp only; omega) (((((((EnvLe.nil _).cons rfl).cons rfl).cons rfl).cons rfl).cons rfl).cons rfl) (HLe.pick [1, 1] _)
  refine .skip ?_
  refine blkQ_n (seqQ_n ?_)
  refine .region ?_
  refine .q .move ?_
  refine .q (.i64 ((i + 1 : Nat) : Int) .add ⟨by omega, by omega, by omega⟩) ?_
  refine .q .assign ?_
  refine .nil ?_
  · first
      | exact loopQ_i (i + 1, v5, T5) ⟨⟨hlt, fun hc => by rw [hc] at h1; cases h1⟩, by simp only; rw [htk, List.filter_append, List.map_append, List.filter_cons, if_pos (by rw [hqx, g6_9, g6_15, h2]; rfl)]; exact hO5⟩ (by simp only; omega) (((((((EnvLe.nil _).cons rfl).cons rfl).cons rfl).cons rfl).cons rfl).cons rfl) (HLe.pick [2, 2] _)
      | exact loopQ_i (i + 1, vo, To) ⟨⟨hlt, fun hc => by rw [hc] at h1; cases h1⟩, by simp only; rw [htk, List.filter_append, List.map_append, List.filter_cons, if_neg (by rw [hqx]; simp_all)]; simpa using hO⟩ (by simp only; omega) (((((((EnvLe.nil _).cons rfl).cons rfl).cons rfl).cons rfl).cons rfl).cons rfl) (HLe.pick [1, 1] _)
  refine TriOps.gF g6_15 ?_
  refine TriOps.gF g6_15 ?_
  refine TriOps.gF g6_15 ?_
  refine TriOps.gF g6_15 ?_
  refine .q (.pickFh g6_15) ?_
  refine .nil (seqQ_n ?_)
  refine .condF ?_
  refine .skip ?_
  refine blkQ_n (seqQ_n ?_)
  refine .region ?_
  refine .q .move ?_
  refine .q (.i64 ((i + 1 : Nat) : Int) .add ⟨by omega, by omega, by omega⟩) ?_
  refine .q .assign ?_
  refine .nil ?_
  · first
      | exact loopQ_i (i + 1, v5, T5) ⟨⟨hlt, fun hc => by rw [hc] at h1; cases h1⟩, by simp only; rw [htk, List.filter_append, List.map_append, List.filter_cons, if_pos (by rw [hqx, g6_9, g6_15, h2]; rfl)]; exact hO5⟩ (by simp only; omega) (((((((EnvLe.nil _).cons rfl).cons rfl).cons rfl).cons rfl).cons rfl).cons rfl) (HLe.pick [2, 2] _)
      | exact loopQ_i (i + 1, vo, To) ⟨⟨hlt, fun hc => by rw [hc] at h1; cases h1⟩, by simp only; rw [htk, List.filter_append, List.map_append, List.filter_cons, if_neg (by rw [hqx]; simp_all)]; simpa using hO⟩ (by simp only; omega) (((((((EnvLe.nil _).cons rfl).cons rfl).cons rfl).cons rfl).cons rfl).cons rfl) (HLe.pick [1, 1] _)
  refine TriOps.gF g6_9 ?_
  refine TriOps.gF g6_9 ?_
  refine TriOps.gF g6_9 ?_
  refine TriOps.gF g6_9 ?_
  refine .q (.pickFh g6_9) ?_
  refine .q .move ?_
  refine TriOps.gf rfl rfl ?_
  refine TriOps.gf rfl rfl ?_
  refine TriOps.gf rfl rfl ?_
  refine TriOps.gf rfl rfl ?_
  refine .q .pickF ?_
  refine .nil (seqQ_n ?_)
  refine .condF ?_
  refine .skip ?_
  refine blkQ_n (seqQ_n ?_)
  refine .region ?_
  refine .q .move ?_
  refine .q (.i64 ((i + 1 : Nat) : Int) .add ⟨by omega, by omega, by omega⟩) ?_
  refine .q .assign ?_
  refine .nil ?_
  · first
      | exact loopQ_i (i + 1, v5, T5) ⟨⟨hlt, fun hc => by rw [hc] at h1; cases h1⟩, by simp only; rw [htk, List.filter_append, List.map_append, List.filter_cons, if_pos (by rw [hqx, g6_9, g6_15, h2]; rfl)]; exact hO5⟩ (by simp only; omega) (((((((EnvLe.nil _).cons rfl).cons rfl).cons rfl).cons rfl).cons rfl).cons rfl) (HLe.pick [2, 2] _)
      | exact loopQ_i (i + 1, vo, To) ⟨⟨hlt, fun hc => by rw [hc] at h1; cases h1⟩, by simp only; rw [htk, List.filter_append, List.map_append, List.filter_cons, if_neg (by rw [hqx]; simp_all)]; simpa using hO⟩ (by simp only; omega) (((((((EnvLe.nil _).cons rfl).cons rfl).cons rfl).cons rfl).cons rfl).cons rfl) (HLe.pick [1, 1] _)
  refine .exit (seqQ_x (loopQ_x (blkQ_x ?_)))
  refine seqQ_n ?_
  refine .seq (.region ?_)
  refine .q .move ?_
  refine .q .assign ?_
  refine .nil (seqQ_n ?_)
  refine .ret (retQ_r _ (.one (.tmp rfl)) ((HLe.pick [1] _)) ?_)
  · have h0 := hi0 h1
    subst h0
    exact ⟨To, by simp [take, dropAt], by rw [h1]; exact hO⟩
  have hie : i = L.length := by have := of_decide_eq_false g3_7; omega
  subst hie
  rw [List.take_length] at hO
  refine TriOps.gF g3_7 ?_
  refine TriOps.gF g3_7 ?_
  refine TriOps.gF g3_7 ?_
  refine .q (.pickFh g3_7) ?_
  refine .nil (seqQ_n ?_)
  refine .condF ?_
  refine .exit (seqQ_x (loopQ_x (blkQ_x ?_)))
  refine seqQ_n ?_
  refine .seq (.region ?_)
  refine .q .move ?_
  refine .q .assign ?_
  refine .nil (seqQ_n ?_)
  refine .ret (retQ_r _ (.one (.tmp rfl)) ((HLe.pick [1] _)) ?_)
  · refine ⟨To, by simp [take, dropAt], ?_⟩
    split
    · exact hO
    · rename_i hc
      have h0 := hi0 (by simpa using hc)
      rw [List.eq_nil_of_length_eq_zero h0] at hO
      exact hO
theorem DV.sets (h : DV R b S vL L) (hl : L.length ≤ 5000) (k : Sub) (r : Int) : Spec Tryz.prog 41 [.pointer (some ⟨b, 0, none⟩), .agg k.enc.toArray, .int .u64 r] R [] fun u H' => ∃ T, H' = [T] ∧ OS 34 4 Sub.enc u (if scan S r then (L.filter fun x => x.there r && decide (x.t.sub = k)).map (fun x => (⟨⟨#[]⟩, x.t.os, x.t.oi, x.t.rel⟩ : Sub)) else []) T := by
  have pc := h.pc
  have ivl := h.rs.oneCell
  obtain ⟨pv, kv_, rfl⟩ := h.rs.val
  have hrs := h.rs
  refine Spec.segs (H' := [[]]) (by simp) ?_
  refine Spec.body Tryz.func41 rfl Tryz.results41 Tryz.ntmps41 rfl ?_
  refine .seq (.region ?_)
  refine TriOps.boxA rfl (fun b4 => ?_)
  refine .q .assign ?_
  refine .nil (seqQ_n ?_)
  refine .seq (.region ?_)
  refine .q .assign ?_
  refine .nil (seqQ_n ?_)
  refine .seq ?_
  refine .seq (.region ?_)
  refine .q .assign ?_
  refine .nil (seqQ_n ?_)
  refine .block ?_
  refine .loop (X := Nat × Value × Seg) (fun y => (y.1 ≤ L.length ∧ (scan S r = false → y.1 = 0)) ∧ OS 34 4 Sub.enc y.2.1 (((L.take y.1).filter fun x => x.there r && decide (x.t.sub = k)).map (fun x => (⟨⟨#[]⟩, x.t.os, x.t.oi, x.t.rel⟩ : Sub))) y.2.2) (fun y => [(0, .pointer (some ⟨b, 0, none⟩)), (2, .int .u64 r), (4, .pointer (some ⟨b4, 0, none⟩)), (7, y.2.1), (8, .int .i64 (y.1 : Nat))]) (fun y => [[(b4, .cells k.enc.toArray 34 (0, 0))], y.2.2]) (fun y => L.length - y.1) (0, .slice none 0 0, []) ⟨⟨Nat.zero_le _, fun _ => rfl⟩, OS.nil⟩ ((((((EnvLe.nil _).cons rfl).cons rfl).cons rfl).cons rfl).cons rfl) (HLe.refl _) ?_
  rintro ⟨i, vo, To⟩ ⟨⟨hi, hi0⟩, hO⟩
  simp only at hi hi0 hO ⊢
  have io := hO.oneCell
  have hol : (((L.take i).filter fun x => x.there r && decide (x.t.sub = k)).map (fun x => (⟨⟨#[]⟩, x.t.os, x.t.oi, x.t.rel⟩ : Sub))).length ≤ 5000 := by
    rw [List.length_map]
    exact Nat.le_trans (List.length_filter_le _ _) (by rw [List.length_take]; omega)
  refine .seq ?_
  refine .seq (.region ?_)
  refine .q .move ?_
  refine .q .move ?_
  refine .q (.nilCheck rfl) ?_
  refine .q (.fieldAddr rfl) ?_
  refine .q (.load1 rfl) ?_
  refine .q (.lenR hrs) ?_
  refine .q .lss ?_
  refine .q .move ?_
  refine TriOps.split (t := 17) rfl (fun g3_7 => ?_) (fun g3_7 => ?_)
  have hlt : i < L.length := by have := of_decide_eq_true g3_7; omega
  obtain ⟨x, hx⟩ : ∃ x, L[i]? = some x := ⟨_, List.getElem?_eq_getElem hlt⟩
  have htk : L.take (i + 1) = L.take i ++ [x] := by rw [List.take_add_one, hx]; rfl
  refine TriOps.gT g3_7 ?_
  refine .q .move ?_
  refine TriOps.gT g3_7 ?_
  refine .q .move ?_
  refine TriOps.gT g3_7 ?_
  refine TriOps.callR ((h.mono fun b o hb => .inl hb).can r) (fun v hv => ?_)
  subst hv
  refine .q (.pickTh g3_7) ?_
  refine .nil (seqQ_n ?_)
  refine .cond rfl (fun h1 => ?_) (fun h1 => ?_)
  refine .skip ?_
  refine seqQ_n ?_
  refine .seq ?_
  refine .block ?_
  refine .seq (.region ?_)
  refine .q .move ?_
  refine .q (.nilCheck rfl) ?_
  refine .q (.fieldAddr rfl) ?_
  refine .q (.load1 rfl) ?_
  refine .q .move ?_
  refine TriOps.indexR i hrs hx (fun p29 => ?_)
  refine .q (.fieldAddr rfl) ?_
  refine .q (.loadT rfl) ?_
  refine TriOps.allocA (fun b9 => ?_)
  refine TriOps.storeA rfl rfl ?_
  refine .nil (seqQ_n ?_)
  refine .seq (.region ?_)
  refine TriOps.sub (H' := [[(b9, .cells x.t.enc.toArray 36 (0, 0))], [(b4, .cells k.enc.toArray 34 (0, 0))], To]) (HLe.refl _) ?_
  refine .q .move ?_
  refine .q (.nilCheck rfl) ?_
  refine .q (.fieldAddr rfl) ?_
  refine .q (.load1 rfl) ?_
  refine .q .move ?_
  refine TriOps.indexR i hrs hx (fun p37 => ?_)
  refine .q (.loadA rfl) ?_
  refine .q .move ?_
  refine TriOps.callR (rthere_spec x r _) (fun v hv => ?_)
  subst hv
  refine .q .move ?_
  refine TriOps.split (t := 41) rfl (fun g6_9 => ?_) (fun g6_9 => ?_)
  refine TriOps.gT g6_9 ?_
  refine .q (.fieldAddr rfl) ?_
  refine TriOps.gT g6_9 ?_
  refine .q (.loadT rfl) ?_
  refine TriOps.gT g6_9 ?_
  refine .q (.loadA rfl) ?_
  refine TriOps.gT g6_9 ?_
  refine .q (.eqA rfl rfl (Sub.kinds x.t.sub) (Sub.kinds k)) ?_
  rw [show cellsEq (List.take 4 (List.drop 3 x.t.enc)) k.enc = decide (x.t.sub = k) from Sub.eq x.t.sub k]
  refine .q (.pickTh g6_9) ?_
  refine .nil (seqQ_n ?_)
  refine .cond rfl (fun h2 => ?_) (fun h2 => ?_)
  refine .region ?_
  refine .q .move ?_
  refine .q (.fieldAddr rfl) ?_
  refine .q (.loadT rfl) ?_
  refine .q (.fieldAddr rfl) ?_
  refine .q (.load1 rfl) ?_
  refine .q .bld ?_
  refine TriOps.buildSlice1A (fun b53 => ?_)
  refine TriOps.append hO (RS.lits (xs := [(⟨⟨#[]⟩, x.t.os, x.t.oi, x.t.rel⟩ : Sub)]) rfl (by simp [Sub.enc]) (by simp [Sub.enc, oneCell])) (by simp only [List.length_singleton]; omega) (fun v5 T5 hO5 => ?_)
  refine .q .assign ?_
  refine .nil ?_
  refine blkQ_n (seqQ_n ?_)
  refine .region ?_
  refine .q .move ?_
  refine .q (.i64 ((i + 1 : Nat) : Int) .add ⟨by omega, by omega, by omega⟩) ?_
  refine .q .assign ?_
  refine .nil ?_
  · first
      | exact loopQ_i (i + 1, v5, T5) ⟨⟨hlt, fun hc => by rw [hc] at h1; cases h1⟩, by simp only; rw [htk, List.filter_append, List.map_append, List.filter_cons, if_pos (by rw [g6_9, h2]; rfl)]; exact hO5⟩ (by simp only; omega) ((((((EnvLe.nil _).cons rfl).cons rfl).cons rfl).cons rfl).cons rfl) (HLe.pick [2, 2] _)
      | exact loopQ_i (i + 1, vo, To) ⟨⟨hlt, fun hc => by rw [hc] at h1; cases h1⟩, by simp only; rw [htk, List.filter_append, List.map_append, List.filter_cons, if_neg (by simp_all)]; simpa using hO⟩ (by simp only; omega) ((((((EnvLe.nil _).cons rfl).cons rfl).cons rfl).cons rfl).cons rfl) (HLe.pick [1, 1] _)
  refine .skip ?_
  refine blkQ_n (seqQ_n ?_)
  refine .region ?_
  refine .q .move ?_
  refine .q (.i64 ((i + 1 : Nat) : Int) .add ⟨by omega, by omega, by omega⟩) ?_
  refine .q .assign ?_
  refine .nil ?_
  · first
      | exact loopQ_i (i + 1, v5, T5) ⟨⟨hlt, fun hc => by rw [hc] at h1; cases h1⟩, by simp only; rw [htk, List.filter_append, List.map_append, List.filter_cons, if_pos (by rw [g6_9, h2]; rfl)]; exact hO5⟩ (by simp only; omega) ((((((EnvLe.nil _).cons rfl).cons rfl).cons rfl).cons rfl).cons rfl) (HLe.pick [2, 2] _)
      | exact loopQ_i (i + 1, vo, To) ⟨⟨hlt, fun hc => by rw [hc] at h1; cases h1⟩, by simp only; rw [htk, List.filter_append, List.map_append, List.filter_cons, if_neg (by simp_all)]; simpa using hO⟩ (by simp only; omega) ((((((EnvLe.nil _).cons rfl).cons rfl).cons rfl).cons rfl).cons rfl) (HLe.pick [1, 1] _)
  refine TriOps.gF g6_9 ?_
  refine TriOps.gF g6_9 ?_
  refine TriOps.gF g6_9 ?_
  refine TriOps.gF g6_9 ?_
  refine .q (.pickFh g6_9) ?_
  refine .nil (seqQ_n ?_)
  refine .condF ?_
  refine .skip ?_
  refine blkQ_n (seqQ_n ?_)
  refine .region ?_
  refine .q .move ?_
  refine .q (.i64 ((i + 1 : Nat) : Int) .add ⟨by omega, by omega, by omega⟩) ?_
  refine .q .assign ?_
  refine .nil ?_
  · first
      | exact loopQ_i (i + 1, v5, T5) ⟨⟨hlt, fun hc => by rw [hc] at h1; cases h1⟩, by simp only; rw [htk, List.filter_append, List.map_append, List.filter_cons, if_pos (by rw [g6_9, h2]; rfl)]; exact hO5⟩ (by simp only; omega) ((((((EnvLe.nil _).cons rfl).cons rfl).cons rfl).cons rfl).cons rfl) (HLe.pick [2, 2] _)
      | exact loopQ_i (i + 1, vo, To) ⟨⟨hlt, fun hc => by rw [hc] at h1; cases h1⟩, by simp only; rw [htk, List.filter_append, List.map_append, List.filter_cons, if_neg (by simp_all)]; simpa using hO⟩ (by simp only; omega) ((((((EnvLe.nil _).cons rfl).cons rfl).cons rfl).cons rfl).cons rfl) (HLe.pick [1, 1] _)
  refine .exit (seqQ_x (loopQ_x (blkQ_x ?_)))
  refine seqQ_n ?_
  refine .seq (.region ?_)
  refine .q .move ?_
  refine .q .assign ?_
  refine .nil (seqQ_n ?_)
  refine .ret (retQ_r _ (.one (.tmp rfl)) ((HLe.pick [1] _)) ?_)
  · have h0 := hi0 h1
    subst h0
    exact ⟨To, by simp [take, dropAt], by rw [h1]; exact hO⟩
  have hie : i = L.length := by have := of_decide_eq_false g3_7; omega
  subst hie
  rw [List.take_length] at hO
  refine TriOps.gF g3_7 ?_
  refine TriOps.gF g3_7 ?_
  refine TriOps.gF g3_7 ?_
  refine .q (.pickFh g3_7) ?_
  refine .nil (seqQ_n ?_)
  refine .condF ?_
  refine .exit (seqQ_x (loopQ_x (blkQ_x ?_)))
  refine seqQ_n ?_
  refine .seq (.region ?_)
  refine .q .move ?_
  refine .q .assign ?_
  refine .nil (seqQ_n ?_)
  refine .ret (retQ_r _ (.one (.tmp rfl)) ((HLe.pick [1] _)) ?_)
  · refine ⟨To, by simp [take, dropAt], ?_⟩
    split
    · exact hO
    · rename_i hc
      have h0 := hi0 (by simpa using hc)
      rw [List.eq_nil_of_length_eq_zero h0] at hO
      exact hO
end
theorem sameSubs_spec (v w : Value) (l m : List Sub) (R : Rds) (h : RS R 4 Sub.enc v l) (h' : RS R 4 Sub.enc w m) :
    Spec Tryz.prog 37 [v, w] R [] fun u H' => u = .bool (decide (l = m)) ∧ H' = [] := by
  have hle := h.le
  obtain ⟨pv, kv_, rfl⟩ := h.val
  obtain ⟨pw, kw_, rfl⟩ := h'.val
  refine Spec.body Tryz.func37 rfl Tryz.results37 Tryz.ntmps37 rfl ?_
  refine .seq (.region ?_)
  refine .q .assign ?_
  refine .nil (seqQ_n ?_)
  refine .seq ?_
  refine .seq (.region ?_)
  refine .q .move ?_
  refine .q (.lenR h) ?_
  refine .q .move ?_
  refine .q (.lenR h') ?_
  refine .q .neI ?_
  refine .nil (seqQ_n ?_)
  refine .cond rfl (fun h1 => ?_) (fun h1 => ?_)
  refine .seq (.region ?_)
  refine .q .assign ?_
  refine .nil (seqQ_n ?_)
  refine .ret (seqQ_r (retQ_r _ (.one (.tmp rfl)) (.none _) ?_))
  · exact ⟨by rw [decide_eq_false (fun e : l = m => by simp [e] at h1)], rfl⟩
  have hlen : l.length = m.length := by simp at h1; omega
  refine .skip ?_
  refine seqQ_n ?_
  refine .seq ?_
  refine .seq (.region ?_)
  refine .q .assign ?_
  refine .nil (seqQ_n ?_)
  refine .block ?_
  refine .loop (X := Nat) (fun i => i ≤ l.length ∧ l.take i = m.take i) (fun i => [(0, .slice pv l.length kv_), (1, .slice pw m.length kw_), (5, .int .i64 (i : Nat))]) (fun _ => []) (fun i => l.length - i) 0 ⟨by omega, by simp⟩ ((((EnvLe.nil _).cons rfl).cons rfl).cons rfl) (HLe.refl _) ?_
  rintro i ⟨hi, hs⟩
  refine .seq ?_
  refine .seq (.region ?_)
  refine .q .move ?_
  refine .q .move ?_
  refine .q (.lenR h) ?_
  refine .q .lss ?_
  refine .nil (seqQ_n ?_)
  refine .cond rfl (fun h2 => ?_) (fun h2 => ?_)
  have hlt : i < l.length := by simp at h2; omega
  obtain ⟨z, hz⟩ : ∃ z, l[i]? = some z := ⟨_, List.getElem?_eq_getElem hlt⟩
  obtain ⟨y, hy⟩ : ∃ y, m[i]? = some y := ⟨_, List.getElem?_eq_getElem (by omega)⟩
  refine .skip ?_
  refine seqQ_n ?_
  refine .seq ?_
  refine .block ?_
  refine .seq ?_
  refine .region_still mixed (by kernel_rfl) ?_
  refine .q .move ?_
  refine .q .move ?_
  refine TriOps.indexR i h hz (fun p19 => ?_)
  refine .q (.loadA rfl) ?_
  refine .q .move ?_
  refine .q .move ?_
  refine TriOps.indexR i h' hy (fun p23 => ?_)
  refine .q (.loadA rfl) ?_
  refine .q (.neA rfl rfl (Sub.kinds z) (Sub.kinds y)) ?_
  rw [Sub.eq z y]
  refine .nil (seqQ_n ?_)
  refine .cond rfl (fun h3 => ?_) (fun h3 => ?_)
  refine .seq (.region ?_)
  refine .q .assign ?_
  refine .nil (seqQ_n ?_)
  refine .ret (blkQ_r (seqQ_r (loopQ_r (blkQ_r (seqQ_r (retQ_r _ (.one (.tmp rfl)) (.none _) ?_))))))
  · refine ⟨?_, rfl⟩
    have hne : z ≠ y := by simpa using h3
    rw [decide_eq_false (fun e : l = m => hne (by rw [e, hy] at hz; cases hz; rfl))]
  refine .skip ?_
  refine blkQ_n (seqQ_n ?_)
  refine .region ?_
  refine .q .move ?_
  refine .q (.i64 ((i + 1 : Nat) : Int) .add ⟨by omega, by omega, by omega⟩) ?_
  refine .q .assign ?_
  refine .nil ?_
  · exact loopQ_i (i + 1) ⟨by omega, by
      have e : z = y := by simpa using h3
      rw [List.take_add_one, List.take_add_one, hs, hz, hy, e]⟩ (by omega) ((((EnvLe.nil _).cons rfl).cons rfl).cons rfl) (HLe.refl _)
  refine .exit (seqQ_x (loopQ_x (blkQ_x ?_)))
  refine seqQ_n ?_
  refine .seq (.region ?_)
  refine .q .assign ?_
  refine .nil (seqQ_n ?_)
  refine .ret (retQ_r _ (.one (.tmp rfl)) (.none _) ?_)
  · refine ⟨?_, rfl⟩
    have he : i = l.length := by simp at h2; omega
    rw [he, List.take_length, List.take_of_length_le (by omega)] at hs
    rw [decide_eq_true hs]
end Go.Proofs.YtkepgbimlolemaaGreat
set_option linter.unusedVariables false
set_option linter.unusedSimpArgs false
set_option maxRecDepth 4000
namespace Go.Proofs.YtkepgbimlolemaaGreat
theorem risRef_spec (s i : ByteArray) (hs : s.size ≤ 9223372036854775807) (hi : i.size ≤ 9223372036854775807) (R : Rds) : Spec Tryz.prog 49 [.agg [.string s, .string i].toArray] R [] fun v H' => v = .bool (isRef s i) ∧ H' = [] := by
  refine Spec.body Tryz.func49 rfl Tryz.results49 Tryz.ntmps49 rfl ?_
  refine .seq (.region ?_)
  refine TriOps.boxA rfl (fun b1 => ?_)
  refine .q .assign ?_
  refine .nil (seqQ_n ?_)
  refine .seq (.region ?_)
  refine .q (.fieldAddr rfl) ?_
  refine .q (.load1 rfl) ?_
  refine TriOps.callR (rword_spec s hs _) (fun v hv => ?_)
  subst hv
  refine .q .move ?_
  refine TriOps.split (t := 6) rfl (fun g1_3 => ?_) (fun g1_3 => ?_)
  refine TriOps.gT g1_3 ?_
  refine .q (.fieldAddr rfl) ?_
  refine TriOps.gT g1_3 ?_
  refine .q (.load1 rfl) ?_
  refine TriOps.gT g1_3 ?_
  refine TriOps.callR (rid_spec i hi _) (fun v hv => ?_)
  subst hv
  refine .q (.pickTh g1_3) ?_
  refine .q .assign ?_
  refine .nil (seqQ_n ?_)
  refine .ret (retQ_r _ (.one (.tmp rfl)) (.none _) ?_)
  · exact ⟨by unfold isRef; simp_all, rfl⟩
  refine TriOps.gF g1_3 ?_
  refine TriOps.gF g1_3 ?_
  refine TriOps.gF g1_3 ?_
  refine .q (.pickFh g1_3) ?_
  refine .q .assign ?_
  refine .nil (seqQ_n ?_)
  refine .ret (retQ_r _ (.one (.tmp rfl)) (.none _) ?_)
  · exact ⟨by unfold isRef; simp_all, rfl⟩
theorem risSub_spec (s : Sub) (h1_ : s.us.size ≤ 9223372036854775807) (h2_ : s.ss.size ≤ 9223372036854775807) (h3_ : s.si.size ≤ 9223372036854775807) (h4_ : s.sr.size ≤ 9223372036854775807) (R : Rds) : Spec Tryz.prog 51 [.agg s.enc.toArray] R [] fun v H' => v = .bool (isSub s) ∧ H' = [] := by
  obtain ⟨us, ss, si, sr⟩ := s
  simp only at h1_ h2_ h3_ h4_
  refine Spec.body Tryz.func51 rfl Tryz.results51 Tryz.ntmps51 rfl ?_
  refine .seq (.region ?_)
  refine TriOps.boxA rfl (fun b1 => ?_)
  refine .q .assign ?_
  refine .nil (seqQ_n ?_)
  refine .seq ?_
  refine .seq (.region ?_)
  refine .q (.fieldAddr rfl) ?_
  refine .q (.load1 rfl) ?_
  refine .q .eqS ?_
  refine .nil (seqQ_n ?_)
  refine .cond rfl (fun h1 => ?_) (fun h1 => ?_)
  refine .seq (.region ?_)
  refine .q (.fieldAddr rfl) ?_
  refine .q (.loadT rfl) ?_
  refine TriOps.callR (risRef_spec ss si h2_ h3_ _) (fun v hv => ?_)
  subst hv
  refine .q .move ?_
  refine TriOps.split (t := 9) rfl (fun g2_3 => ?_) (fun g2_3 => ?_)
  refine TriOps.gT g2_3 ?_
  refine .q (.fieldAddr rfl) ?_
  refine TriOps.gT g2_3 ?_
  refine .q (.load1 rfl) ?_
  refine TriOps.gT g2_3 ?_
  refine TriOps.callR (rword_spec sr h4_ _) (fun v hv => ?_)
  subst hv
  refine .q (.pickTh g2_3) ?_
  refine .q .assign ?_
  refine .nil (seqQ_n ?_)
  refine .ret (seqQ_r (retQ_r _ (.one (.tmp rfl)) (.none _) ?_))
  · refine ⟨congrArg _ ?_, rfl⟩
    unfold isSub
    by_cases hu : us = ⟨#[]⟩
    · simp only [hu, if_true]
      simp_all
    · simp only [hu, if_false]
      simp_all
  refine TriOps.gF g2_3 ?_
  refine TriOps.gF g2_3 ?_
  refine TriOps.gF g2_3 ?_
  refine .q (.pickFh g2_3) ?_
  refine .q .assign ?_
  refine .nil (seqQ_n ?_)
  refine .ret (seqQ_r (retQ_r _ (.one (.tmp rfl)) (.none _) ?_))
  · refine ⟨congrArg _ ?_, rfl⟩
    unfold isSub
    by_cases hu : us = ⟨#[]⟩
    · simp only [hu, if_true]
      simp_all
    · simp only [hu, if_false]
      simp_all
  refine .skip ?_
  refine seqQ_n ?_
  refine .seq (.region ?_)
  refine .q (.fieldAddr rfl) ?_
  refine .q (.load1 rfl) ?_
  refine TriOps.callR (rid_spec us h1_ _) (fun v hv => ?_)
  subst hv
  refine .q .move ?_
  refine TriOps.split (t := 17) rfl (fun g3_3 => ?_) (fun g3_3 => ?_)
  refine TriOps.gT g3_3 ?_
  refine .q (.fieldAddr rfl) ?_
  refine TriOps.gT g3_3 ?_
  refine .q (.fieldAddr rfl) ?_
  refine TriOps.gT g3_3 ?_
  refine .q (.load1 rfl) ?_
  refine TriOps.gT g3_3 ?_
  refine .q .eqS ?_
  refine .q (.pickTh g3_3) ?_
  refine .q .move ?_
  refine TriOps.split (t := 23) rfl (fun g3_9 => ?_) (fun g3_9 => ?_)
  refine TriOps.gT g3_9 ?_
  refine .q (.fieldAddr rfl) ?_
  refine TriOps.gT g3_9 ?_
  refine .q (.fieldAddr rfl) ?_
  refine TriOps.gT g3_9 ?_
  refine .q (.load1 rfl) ?_
  refine TriOps.gT g3_9 ?_
  refine .q .eqS ?_
  refine .q (.pickTh g3_9) ?_
  refine .q .move ?_
  refine TriOps.split (t := 29) rfl (fun g3_15 => ?_) (fun g3_15 => ?_)
  refine TriOps.gT g3_15 ?_
  refine .q (.fieldAddr rfl) ?_
  refine TriOps.gT g3_15 ?_
  refine .q (.load1 rfl) ?_
  refine TriOps.gT g3_15 ?_
  refine .q .eqS ?_
  refine .q (.pickTh g3_15) ?_
  refine .q .assign ?_
  refine .nil (seqQ_n ?_)
  refine .ret (retQ_r _ (.one (.tmp rfl)) (.none _) ?_)
  · refine ⟨congrArg _ ?_, rfl⟩
    unfold isSub
    by_cases hu : us = ⟨#[]⟩
    · simp only [hu, if_true]
      simp_all
    · simp only [hu, if_false]
      simp_all
  refine TriOps.gF g3_15 ?_
  refine TriOps.gF g3_15 ?_
  refine TriOps.gF g3_15 ?_
  refine .q (.pickFh g3_15) ?_
  refine .q .assign ?_
  refine .nil (seqQ_n ?_)
  refine .ret (retQ_r _ (.one (.tmp rfl)) (.none _) ?_)
  · refine ⟨congrArg _ ?_, rfl⟩
    unfold isSub
    by_cases hu : us = ⟨#[]⟩
    · simp only [hu, if_true]
      simp_all
    · simp only [hu, if_false]
      simp_all
  refine TriOps.gF g3_9 ?_
  refine TriOps.gF g3_9 ?_
  refine TriOps.gF g3_9 ?_
  refine TriOps.gF g3_9 ?_
  refine .q (.pickFh g3_9) ?_
  refine .q .move ?_
  refine TriOps.gf rfl rfl ?_
  refine TriOps.gf rfl rfl ?_
  refine TriOps.gf rfl rfl ?_
  refine .q .pickF ?_
  refine .q .assign ?_
  refine .nil (seqQ_n ?_)
  refine .ret (retQ_r _ (.one (.tmp rfl)) (.none _) ?_)
  · refine ⟨congrArg _ ?_, rfl⟩
    unfold isSub
    by_cases hu : us = ⟨#[]⟩
    · simp only [hu, if_true]
      simp_all
    · simp only [hu, if_false]
      simp_all
  refine TriOps.gF g3_3 ?_
  refine TriOps.gF g3_3 ?_
  refine TriOps.gF g3_3 ?_
  refine TriOps.gF g3_3 ?_
  refine .q (.pickFh g3_3) ?_
  refine .q .move ?_
  refine TriOps.gf rfl rfl ?_
  refine TriOps.gf rfl rfl ?_
  refine TriOps.gf rfl rfl ?_
  refine TriOps.gf rfl rfl ?_
  refine .q .pickF ?_
  refine .q .move ?_
  refine TriOps.gf rfl rfl ?_
  refine TriOps.gf rfl rfl ?_
  refine TriOps.gf rfl rfl ?_
  refine .q .pickF ?_
  refine .q .assign ?_
  refine .nil (seqQ_n ?_)
  refine .ret (retQ_r _ (.one (.tmp rfl)) (.none _) ?_)
  · refine ⟨congrArg _ ?_, rfl⟩
    unfold isSub
    by_cases hu : us = ⟨#[]⟩
    · simp only [hu, if_true]
      simp_all
    · simp only [hu, if_false]
      simp_all
theorem risTpl_spec (t : Tpl) (ht : t.fits) (R : Rds) : Spec Tryz.prog 19 [.agg t.enc.toArray] R [] fun v H' => v = .bool (isTpl t) ∧ H' = [] := by
  obtain ⟨a1, a2, a3, a4, a5, a6, a7⟩ := ht
  refine Spec.body Tryz.func19 rfl Tryz.results19 Tryz.ntmps19 rfl ?_
  refine .seq (.region ?_)
  refine TriOps.boxA rfl (fun b1 => ?_)
  refine .q .assign ?_
  refine .nil (seqQ_n ?_)
  refine .seq (.region ?_)
  refine .q (.fieldAddr rfl) ?_
  refine .q (.loadT rfl) ?_
  refine TriOps.callR (risRef_spec t.os t.oi a1 a2 _) (fun v hv => ?_)
  subst hv
  refine .q .move ?_
  refine TriOps.split (t := 6) rfl (fun g1_3 => ?_) (fun g1_3 => ?_)
  refine TriOps.gT g1_3 ?_
  refine .q (.fieldAddr rfl) ?_
  refine TriOps.gT g1_3 ?_
  refine .q (.load1 rfl) ?_
  refine TriOps.gT g1_3 ?_
  refine TriOps.callR (rword_spec t.rel a3 _) (fun v hv => ?_)
  subst hv
  refine .q (.pickTh g1_3) ?_
  refine .q .move ?_
  refine TriOps.split (t := 11) rfl (fun g1_8 => ?_) (fun g1_8 => ?_)
  refine TriOps.gT g1_8 ?_
  refine .q (.fieldAddr rfl) ?_
  refine TriOps.gT g1_8 ?_
  refine .q (.loadT rfl) ?_
  refine TriOps.gT g1_8 ?_
  refine TriOps.callR (risSub_spec t.sub a4 a5 a6 a7 _) (fun v hv => ?_)
  subst hv
  refine .q (.pickTh g1_8) ?_
  refine .q .assign ?_
  refine .nil (seqQ_n ?_)
  refine .ret (retQ_r _ (.one (.tmp rfl)) (.none _) ?_)
  · exact ⟨by unfold isTpl; simp_all, rfl⟩
  refine TriOps.gF g1_8 ?_
  refine TriOps.gF g1_8 ?_
  refine TriOps.gF g1_8 ?_
  refine .q (.pickFh g1_8) ?_
  refine .q .assign ?_
  refine .nil (seqQ_n ?_)
  refine .ret (retQ_r _ (.one (.tmp rfl)) (.none _) ?_)
  · exact ⟨by unfold isTpl; simp_all, rfl⟩
  refine TriOps.gF g1_3 ?_
  refine TriOps.gF g1_3 ?_
  refine TriOps.gF g1_3 ?_
  refine .q (.pickFh g1_3) ?_
  refine .q .move ?_
  refine TriOps.gf rfl rfl ?_
  refine TriOps.gf rfl rfl ?_
  refine TriOps.gf rfl rfl ?_
  refine .q .pickF ?_
  refine .q .assign ?_
  refine .nil (seqQ_n ?_)
  refine .ret (retQ_r _ (.one (.tmp rfl)) (.none _) ?_)
  · exact ⟨by unfold isTpl; simp_all, rfl⟩
theorem rright_spec (v : Value) (xs : List SRow) (head hor : Int) (R : Rds) (h : RS R 9 SRow.enc v xs) (hf : ∀ x ∈ xs, x.t.fits) :
    Spec Tryz.prog 9 [v, .int .u64 head, .int .u64 hor] R [] fun u H' => (∃ β, u = .bool β ∧ (β = true ↔ rright xs head hor)) ∧ H' = [] := by
  have hle := h.le
  obtain ⟨pv, kv_, rfl⟩ := h.val
  refine Spec.body Tryz.func9 rfl Tryz.results9 Tryz.ntmps9 rfl ?_
  refine .seq (.region ?_)
  refine .q .assign ?_
  refine .nil (seqQ_n ?_)
  refine .seq ?_
  refine .seq (.region ?_)
  refine .q .move ?_
  refine .q .move ?_
  refine .q .gtr ?_
  refine .q .move ?_
  refine TriOps.split (t := 13) rfl (fun g1_3 => ?_) (fun g1_3 => ?_)
  refine TriOps.gF g1_3 ?_
  refine TriOps.gF g1_3 ?_
  refine .q (.pickTh g1_3) ?_
  refine .q .move ?_
  refine TriOps.gf rfl rfl ?_
  refine TriOps.gf rfl rfl ?_
  refine TriOps.gf rfl rfl ?_
  refine .q .pickT ?_
  refine .nil (seqQ_n ?_)
  refine .condT ?_
  have hno : ¬ rright xs head hor := fun hr => by
    obtain ⟨⟨a1, a2, a3⟩, _⟩ := hr
    have := hle
    simp_all
    try omega
  refine .seq (.region ?_)
  refine .q .assign ?_
  refine .nil (seqQ_n ?_)
  refine .ret (seqQ_r (retQ_r _ (.one (.tmp rfl)) (.none _) ?_))
  · first
      | exact ⟨⟨false, rfl, by simp; exact hno⟩, rfl⟩
      | exact ⟨⟨true, rfl, by simp; exact ⟨hyes, hgood⟩⟩, rfl⟩
  refine TriOps.gT g1_3 ?_
  refine .q .move ?_
  refine TriOps.gT g1_3 ?_
  refine .q .gtr ?_
  refine .q (.pickFh g1_3) ?_
  refine .q .move ?_
  refine TriOps.split (t := 17) rfl (fun g1_7 => ?_) (fun g1_7 => ?_)
  refine TriOps.gF g1_7 ?_
  refine TriOps.gF g1_7 ?_
  refine TriOps.gF g1_7 ?_
  refine .q (.pickTh g1_7) ?_
  refine .nil (seqQ_n ?_)
  refine .condT ?_
  have hno : ¬ rright xs head hor := fun hr => by
    obtain ⟨⟨a1, a2, a3⟩, _⟩ := hr
    have := hle
    simp_all
    try omega
  refine .seq (.region ?_)
  refine .q .assign ?_
  refine .nil (seqQ_n ?_)
  refine .ret (seqQ_r (retQ_r _ (.one (.tmp rfl)) (.none _) ?_))
  · first
      | exact ⟨⟨false, rfl, by simp; exact hno⟩, rfl⟩
      | exact ⟨⟨true, rfl, by simp; exact ⟨hyes, hgood⟩⟩, rfl⟩
  refine TriOps.gT g1_7 ?_
  refine .q .move ?_
  refine TriOps.gT g1_7 ?_
  refine .q (.lenR h) ?_
  refine TriOps.gT g1_7 ?_
  refine .q .gtr ?_
  refine .q (.pickFh g1_7) ?_
  refine .nil (seqQ_n ?_)
  refine .cond rfl (fun h1 => ?_) (fun h1 => ?_)
  have hno : ¬ rright xs head hor := fun hr => by
    obtain ⟨⟨a1, a2, a3⟩, _⟩ := hr
    have := hle
    simp_all
    try omega
  refine .seq (.region ?_)
  refine .q .assign ?_
  refine .nil (seqQ_n ?_)
  refine .ret (seqQ_r (retQ_r _ (.one (.tmp rfl)) (.none _) ?_))
  · first
      | exact ⟨⟨false, rfl, by simp; exact hno⟩, rfl⟩
      | exact ⟨⟨true, rfl, by simp; exact ⟨hyes, hgood⟩⟩, rfl⟩
  have hyes : hor ≤ head ∧ head ≤ 4611686018427387903 ∧ xs.length ≤ 4096 := by
    simp_all
    try omega
  refine .skip ?_
  refine seqQ_n ?_
  refine .seq ?_
  refine .seq (.region ?_)
  refine .q .assign ?_
  refine .nil (seqQ_n ?_)
  refine .block ?_
  refine .loop (X := Nat) (fun i => i ≤ xs.length ∧ rgood head hor xs i) (fun i => [(0, .slice pv xs.length kv_), (1, .int .u64 head), (2, .int .u64 hor), (7, .int .i64 (i : Nat))]) (fun _ => []) (fun i => xs.length - i) 0 ⟨Nat.zero_le _, rgood_zero⟩ (((((EnvLe.nil _).cons rfl).cons rfl).cons rfl).cons rfl) (HLe.refl _) ?_
  rintro i ⟨hi, hgood⟩
  refine .seq ?_
  refine .seq (.region ?_)
  refine .q .move ?_
  refine .q .move ?_
  refine .q (.lenR h) ?_
  refine .q .lss ?_
  refine .nil (seqQ_n ?_)
  refine .cond rfl (fun h2 => ?_) (fun h2 => ?_)
  have hlt : i < xs.length := by have := of_decide_eq_true h2; omega
  obtain ⟨x, hx⟩ : ∃ x, xs[i]? = some x := ⟨_, List.getElem?_eq_getElem hlt⟩
  have hxf := hf x (List.mem_of_getElem? hx)
  obtain ⟨a, ha⟩ : ∃ a, xs[i - 1]? = some a := ⟨_, List.getElem?_eq_getElem (by omega)⟩
  have hrw := rrow_iff (head := head) (hor := hor) (x := x)
  refine .skip ?_
  refine seqQ_n ?_
  refine .seq ?_
  refine .block ?_
  refine .seq (.region ?_)
  refine .q .move ?_
  refine .q .move ?_
  refine TriOps.indexR i h hx (fun p30 => ?_)
  refine .q (.loadA rfl) ?_
  refine TriOps.allocA (fun b8 => ?_)
  refine TriOps.storeA rfl rfl ?_
  refine .nil (seqQ_n ?_)
  refine .seq ?_
  refine .seq (.region ?_)
  refine TriOps.sub (H' := [[(b8, .cells x.enc.toArray 38 (0, 0))]]) (HLe.refl _) ?_
  refine .q (.fieldAddr rfl) ?_
  refine .q (.loadT rfl) ?_
  refine TriOps.callR (risTpl_spec x.t hxf _) (fun v hv => ?_)
  subst hv
  refine .q .not ?_
  refine .q .move ?_
  refine TriOps.split (t := 36) rfl (fun g7_4 => ?_) (fun g7_4 => ?_)
  refine TriOps.gF g7_4 ?_
  refine TriOps.gF g7_4 ?_
  refine TriOps.gF g7_4 ?_
  refine .q (.pickTh g7_4) ?_
  refine .q .move ?_
  refine TriOps.gf rfl rfl ?_
  refine TriOps.gf rfl rfl ?_
  refine TriOps.gf rfl rfl ?_
  refine TriOps.gf rfl rfl ?_
  refine .q .pickT ?_
  refine .q .move ?_
  refine TriOps.gf rfl rfl ?_
  refine TriOps.gf rfl rfl ?_
  refine TriOps.gf rfl rfl ?_
  refine TriOps.gf rfl rfl ?_
  refine TriOps.gfU rfl ?_
  refine TriOps.gfU rfl ?_
  refine TriOps.gfU rfl ?_
  refine TriOps.gfU rfl ?_
  refine TriOps.gfU rfl ?_
  refine TriOps.gfU rfl ?_
  refine TriOps.gfU rfl ?_
  refine TriOps.gfU rfl ?_
  refine TriOps.gfU rfl ?_
  refine TriOps.gfU rfl ?_
  refine TriOps.gfU rfl ?_
  refine TriOps.gfU rfl ?_
  refine TriOps.gfU rfl ?_
  refine TriOps.gfU rfl ?_
  refine TriOps.gfU rfl ?_
  refine TriOps.gfU rfl ?_
  refine TriOps.gfU rfl ?_
  refine TriOps.gf rfl rfl ?_
  refine .q .pickT ?_
  refine .nil (seqQ_n ?_)
  refine .condT ?_
  have hno : ¬ rright xs head hor := fun hr => by
    obtain ⟨q1, q2, q3, q4⟩ := hrw.1 (hr.2 i x hlt hx).1
    simp_all
    try omega
  refine .seq (.region ?_)
  refine .q .assign ?_
  refine .nil (seqQ_n ?_)
  refine .ret (seqQ_r (blkQ_r (seqQ_r (loopQ_r (blkQ_r (seqQ_r (retQ_r _ (.one (.tmp rfl)) (.none _) ?_)))))))
  · first
      | exact ⟨⟨false, rfl, by simp; exact hno⟩, rfl⟩
      | exact ⟨⟨true, rfl, by simp; exact ⟨hyes, hgood⟩⟩, rfl⟩
  refine TriOps.gT g7_4 ?_
  refine .q (.fieldAddr rfl) ?_
  refine TriOps.gT g7_4 ?_
  refine .q (.load1 rfl) ?_
  refine TriOps.gT g7_4 ?_
  refine .q .lss ?_
  refine .q (.pickFh g7_4) ?_
  refine .q .move ?_
  refine TriOps.split (t := 41) rfl (fun g7_9 => ?_) (fun g7_9 => ?_)
  refine TriOps.gF g7_9 ?_
  refine TriOps.gF g7_9 ?_
  refine TriOps.gF g7_9 ?_
  refine TriOps.gF g7_9 ?_
  refine .q (.pickTh g7_9) ?_
  refine .q .move ?_
  refine TriOps.gf rfl rfl ?_
  refine TriOps.gf rfl rfl ?_
  refine TriOps.gf rfl rfl ?_
  refine TriOps.gf rfl rfl ?_
  refine TriOps.gfU rfl ?_
  refine TriOps.gfU rfl ?_
  refine TriOps.gfU rfl ?_
  refine TriOps.gfU rfl ?_
  refine TriOps.gfU rfl ?_
  refine TriOps.gfU rfl ?_
  refine TriOps.gfU rfl ?_
  refine TriOps.gfU rfl ?_
  refine TriOps.gfU rfl ?_
  refine TriOps.gfU rfl ?_
  refine TriOps.gfU rfl ?_
  refine TriOps.gfU rfl ?_
  refine TriOps.gfU rfl ?_
  refine TriOps.gfU rfl ?_
  refine TriOps.gfU rfl ?_
  refine TriOps.gfU rfl ?_
  refine TriOps.gfU rfl ?_
  refine TriOps.gf rfl rfl ?_
  refine .q .pickT ?_
  refine .nil (seqQ_n ?_)
  refine .condT ?_
  have hno : ¬ rright xs head hor := fun hr => by
    obtain ⟨q1, q2, q3, q4⟩ := hrw.1 (hr.2 i x hlt hx).1
    simp_all
    try omega
  refine .seq (.region ?_)
  refine .q .assign ?_
  refine .nil (seqQ_n ?_)
  refine .ret (seqQ_r (blkQ_r (seqQ_r (loopQ_r (blkQ_r (seqQ_r (retQ_r _ (.one (.tmp rfl)) (.none _) ?_)))))))
  · first
      | exact ⟨⟨false, rfl, by simp; exact hno⟩, rfl⟩
      | exact ⟨⟨true, rfl, by simp; exact ⟨hyes, hgood⟩⟩, rfl⟩
  refine TriOps.gT g7_9 ?_
  refine .q (.fieldAddr rfl) ?_
  refine TriOps.gT g7_9 ?_
  refine .q (.load1 rfl) ?_
  refine TriOps.gT g7_9 ?_
  refine .q .move ?_
  refine TriOps.gT g7_9 ?_
  refine .q .gtr ?_
  refine .q (.pickFh g7_9) ?_
  refine .q .move ?_
  refine TriOps.split (t := 47) rfl (fun g7_15 => ?_) (fun g7_15 => ?_)
  refine TriOps.gF g7_15 ?_
  refine TriOps.gF g7_15 ?_
  refine TriOps.gF g7_15 ?_
  refine TriOps.gF g7_15 ?_
  refine TriOps.gfU rfl ?_
  refine TriOps.gfU rfl ?_
  refine TriOps.gfU rfl ?_
  refine TriOps.gfU rfl ?_
  refine TriOps.gfU rfl ?_
  refine TriOps.gfU rfl ?_
  refine TriOps.gfU rfl ?_
  refine TriOps.gfU rfl ?_
  refine TriOps.gfU rfl ?_
  refine TriOps.gfU rfl ?_
  refine TriOps.gfU rfl ?_
  refine TriOps.gfU rfl ?_
  refine TriOps.gfU rfl ?_
  refine TriOps.gfU rfl ?_
  refine TriOps.gfU rfl ?_
  refine TriOps.gfU rfl ?_
  refine TriOps.gfU rfl ?_
  refine TriOps.gF g7_15 ?_
  refine .q (.pickTh g7_15) ?_
  refine .nil (seqQ_n ?_)
  refine .condT ?_
  have hno : ¬ rright xs head hor := fun hr => by
    obtain ⟨q1, q2, q3, q4⟩ := hrw.1 (hr.2 i x hlt hx).1
    simp_all
    try omega
  refine .seq (.region ?_)
  refine .q .assign ?_
  refine .nil (seqQ_n ?_)
  refine .ret (seqQ_r (blkQ_r (seqQ_r (loopQ_r (blkQ_r (seqQ_r (retQ_r _ (.one (.tmp rfl)) (.none _) ?_)))))))
  · first
      | exact ⟨⟨false, rfl, by simp; exact hno⟩, rfl⟩
      | exact ⟨⟨true, rfl, by simp; exact ⟨hyes, hgood⟩⟩, rfl⟩
  refine TriOps.gT g7_15 ?_
  refine .q (.fieldAddr rfl) ?_
  refine TriOps.gT g7_15 ?_
  refine .q (.load1 rfl) ?_
  refine TriOps.gT g7_15 ?_
  refine .q .neI ?_
  refine TriOps.gT g7_15 ?_
  refine .q .move ?_
  refine TriOps.split (t := 51) rfl (fun g7_19 => ?_) (fun g7_19 => ?_)
  refine TriOps.gT g7_19 ?_
  refine .q (.fieldAddr rfl) ?_
  refine TriOps.gT g7_19 ?_
  refine .q (.load1 rfl) ?_
  refine TriOps.gT g7_19 ?_
  refine .q (.fieldAddr rfl) ?_
  refine TriOps.gT g7_19 ?_
  refine .q (.load1 rfl) ?_
  refine TriOps.gT g7_19 ?_
  refine .q .leq ?_
  refine TriOps.gT g7_19 ?_
  refine .q .move ?_
  refine TriOps.split (t := 57) rfl (fun g7_25 => ?_) (fun g7_25 => ?_)
  refine TriOps.gF g7_25 ?_
  refine TriOps.gF g7_25 ?_
  refine TriOps.gF g7_25 ?_
  refine TriOps.gF g7_25 ?_
  refine TriOps.gT g7_19 ?_
  refine .q (.pickTh g7_25) ?_
  refine TriOps.gT g7_19 ?_
  refine .q .move ?_
  refine TriOps.gf rfl rfl ?_
  refine TriOps.gf rfl rfl ?_
  refine TriOps.gf rfl rfl ?_
  refine TriOps.gf rfl rfl ?_
  refine TriOps.gT g7_19 ?_
  refine .q .pickT ?_
  refine TriOps.gT g7_15 ?_
  refine .q (.pickTh g7_19) ?_
  refine .q (.pickFh g7_15) ?_
  refine .nil (seqQ_n ?_)
  refine .condT ?_
  have hno : ¬ rright xs head hor := fun hr => by
    obtain ⟨q1, q2, q3, q4⟩ := hrw.1 (hr.2 i x hlt hx).1
    simp_all
    try omega
  refine .seq (.region ?_)
  refine .q .assign ?_
  refine .nil (seqQ_n ?_)
  refine .ret (seqQ_r (blkQ_r (seqQ_r (loopQ_r (blkQ_r (seqQ_r (retQ_r _ (.one (.tmp rfl)) (.none _) ?_)))))))
  · first
      | exact ⟨⟨false, rfl, by simp; exact hno⟩, rfl⟩
      | exact ⟨⟨true, rfl, by simp; exact ⟨hyes, hgood⟩⟩, rfl⟩
  refine TriOps.gT g7_25 ?_
  refine .q (.fieldAddr rfl) ?_
  refine TriOps.gT g7_25 ?_
  refine .q (.load1 rfl) ?_
  refine TriOps.gT g7_25 ?_
  refine .q .move ?_
  refine TriOps.gT g7_25 ?_
  refine .q .leq ?_
  refine TriOps.gT g7_19 ?_
  refine .q (.pickFh g7_25) ?_
  refine TriOps.gT g7_19 ?_
  refine .q .move ?_
  refine TriOps.split (t := 63) rfl (fun g7_31 => ?_) (fun g7_31 => ?_)
  refine TriOps.gF g7_31 ?_
  refine TriOps.gF g7_31 ?_
  refine TriOps.gF g7_31 ?_
  refine TriOps.gF g7_31 ?_
  refine TriOps.gT g7_19 ?_
  refine .q (.pickTh g7_31) ?_
  refine TriOps.gT g7_15 ?_
  refine .q (.pickTh g7_19) ?_
  refine .q (.pickFh g7_15) ?_
  refine .nil (seqQ_n ?_)
  refine .condT ?_
  have hno : ¬ rright xs head hor := fun hr => by
    obtain ⟨q1, q2, q3, q4⟩ := hrw.1 (hr.2 i x hlt hx).1
    simp_all
    try omega
  refine .seq (.region ?_)
  refine .q .assign ?_
  refine .nil (seqQ_n ?_)
  refine .ret (seqQ_r (blkQ_r (seqQ_r (loopQ_r (blkQ_r (seqQ_r (retQ_r _ (.one (.tmp rfl)) (.none _) ?_)))))))
  · first
      | exact ⟨⟨false, rfl, by simp; exact hno⟩, rfl⟩
      | exact ⟨⟨true, rfl, by simp; exact ⟨hyes, hgood⟩⟩, rfl⟩
  refine TriOps.gT g7_31 ?_
  refine .q (.fieldAddr rfl) ?_
  refine TriOps.gT g7_31 ?_
  refine .q (.load1 rfl) ?_
  refine TriOps.gT g7_31 ?_
  refine .q .move ?_
  refine TriOps.gT g7_31 ?_
  refine .q .gtr ?_
  refine TriOps.gT g7_19 ?_
  refine .q (.pickFh g7_31) ?_
  refine TriOps.gT g7_15 ?_
  refine .q (.pickTh g7_19) ?_
  refine .q (.pickFh g7_15) ?_
  refine .nil (seqQ_n ?_)
  refine .cond rfl (fun h3 => ?_) (fun h3 => ?_)
  have hno : ¬ rright xs head hor := fun hr => by
    obtain ⟨q1, q2, q3, q4⟩ := hrw.1 (hr.2 i x hlt hx).1
    simp_all
    try omega
  refine .seq (.region ?_)
  refine .q .assign ?_
  refine .nil (seqQ_n ?_)
  refine .ret (seqQ_r (blkQ_r (seqQ_r (loopQ_r (blkQ_r (seqQ_r (retQ_r _ (.one (.tmp rfl)) (.none _) ?_)))))))
  · first
      | exact ⟨⟨false, rfl, by simp; exact hno⟩, rfl⟩
      | exact ⟨⟨true, rfl, by simp; exact ⟨hyes, hgood⟩⟩, rfl⟩
  have hrow : rrow head hor x = true := hrw.2 (by simp_all; try omega)
  refine .skip ?_
  refine seqQ_n ?_
  refine .seq ?_
  refine .seq (.region ?_)
  refine .q .move ?_
  refine .q .eqI ?_
  refine .nil (seqQ_n ?_)
  refine .cond rfl (fun h4 => ?_) (fun h4 => ?_)
  have hfa : ∀ a', 0 < i → xs[i - 1]? = some a' → rfol x a' = true := fun a' h9 _ => by simp at h4; omega
  refine .exit (seqQ_x (blkQ_x ?_))
  refine seqQ_n ?_
  refine .region ?_
  refine .q .move ?_
  refine .q (.i64 ((i + 1 : Nat) : Int) .add ⟨by omega, by omega, by omega⟩) ?_
  refine .q .assign ?_
  refine .nil ?_
  · exact loopQ_i (i + 1) ⟨hlt, rgood_next hgood hx hrow hfa⟩ (by omega) (((((EnvLe.nil _).cons rfl).cons rfl).cons rfl).cons rfl) (HLe.pick [] _)
  have h0i : 0 < i := by simp at h4; omega
  refine .skip ?_
  refine seqQ_n ?_
  refine .seq (.region ?_)
  refine .q .move ?_
  refine .q .move ?_
  refine .q (.i64 ((i - 1 : Nat) : Int) .sub ⟨by omega, by omega, by omega⟩) ?_
  refine TriOps.indexR (i - 1) h ha (fun p76 => ?_)
  refine .q (.loadA rfl) ?_
  refine TriOps.allocA (fun b9 => ?_)
  refine TriOps.storeA rfl rfl ?_
  refine .nil (seqQ_n ?_)
  refine .seq (.region ?_)
  refine TriOps.sub (H' := [[(b9, .cells a.enc.toArray 38 (0, 0))], [(b8, .cells x.enc.toArray 38 (0, 0))]]) (HLe.refl _) ?_
  refine .q (.fieldAddr rfl) ?_
  refine .q (.loadT rfl) ?_
  refine .q (.fieldAddr rfl) ?_
  refine .q (.loadT rfl) ?_
  refine .q (.eqA rfl rfl (Tpl.kinds a.t) (Tpl.kinds x.t)) ?_
  rw [show cellsEq (List.take 7 (List.drop 0 a.enc)) (List.take 7 (List.drop 0 x.enc)) = decide (a.t = x.t) from Tpl.eq a.t x.t]
  refine .q .move ?_
  refine TriOps.split (t := 83) rfl (fun g11_5 => ?_) (fun g11_5 => ?_)
  refine TriOps.gT g11_5 ?_
  refine .q (.fieldAddr rfl) ?_
  refine TriOps.gT g11_5 ?_
  refine .q (.load1 rfl) ?_
  refine TriOps.gT g11_5 ?_
  refine .q .eqI ?_
  refine TriOps.gT g11_5 ?_
  refine .q .move ?_
  refine TriOps.split (t := 87) rfl (fun g11_9 => ?_) (fun g11_9 => ?_)
  refine TriOps.gF g11_9 ?_
  refine TriOps.gF g11_9 ?_
  refine TriOps.gF g11_9 ?_
  refine TriOps.gF g11_9 ?_
  refine TriOps.gF g11_9 ?_
  refine TriOps.gT g11_5 ?_
  refine .q (.pickTh g11_9) ?_
  refine .q (.pickTh g11_5) ?_
  refine .q .move ?_
  refine TriOps.gf rfl rfl ?_
  refine TriOps.gf rfl rfl ?_
  refine TriOps.gf rfl rfl ?_
  refine TriOps.gf rfl rfl ?_
  refine TriOps.gf rfl rfl ?_
  refine TriOps.gf rfl rfl ?_
  refine TriOps.gfU rfl ?_
  refine TriOps.gfU rfl ?_
  refine TriOps.gfU rfl ?_
  refine TriOps.gfU rfl ?_
  refine TriOps.gfU rfl ?_
  refine TriOps.gfU rfl ?_
  refine TriOps.gf rfl rfl ?_
  refine .q .pickT ?_
  refine .nil (seqQ_n ?_)
  refine .condT ?_
  have hno : ¬ rright xs head hor := fun hr => by
    have q1 := (hr.2 i x hlt hx).2 a h0i ha
    unfold rfol at q1
    by_cases e : x.t = a.t
    · rw [if_pos e] at q1
      have e2 : decide (a.t = x.t) = true := decide_eq_true e.symm
      simp only [Bool.and_eq_true, Bool.not_eq_true', beq_eq_false_iff_ne, decide_eq_true_eq] at q1
      first
        | (rw [e2] at g11_5; cases g11_5; done)
        | (have := of_decide_eq_true h5; omega)
        | (have g9 := eq_of_beq g11_9; exact q1.1 g9)
        | (have g9 := eq_of_beq h5; exact q1.1 g9)
        | (have g9 := of_decide_eq_true g11_17; omega)
        | (rw [e2] at g11_23; cases g11_23; done)
    · rw [if_neg e] at q1
      have e2 : decide (a.t = x.t) = false := decide_eq_false fun h => e h.symm
      first
        | (rw [e2] at g11_5; cases g11_5; done)
        | (rw [q1] at h5; cases h5; done)
  refine .seq (.region ?_)
  refine .q .assign ?_
  refine .nil (seqQ_n ?_)
  refine .ret (blkQ_r (seqQ_r (loopQ_r (blkQ_r (seqQ_r (retQ_r _ (.one (.tmp rfl)) (.none _) ?_))))))
  · first
      | exact ⟨⟨false, rfl, by simp; exact hno⟩, rfl⟩
      | exact ⟨⟨true, rfl, by simp; exact ⟨hyes, hgood⟩⟩, rfl⟩
  refine TriOps.gT g11_9 ?_
  refine .q (.fieldAddr rfl) ?_
  refine TriOps.gT g11_9 ?_
  refine .q (.load1 rfl) ?_
  refine TriOps.gT g11_9 ?_
  refine .q (.fieldAddr rfl) ?_
  refine TriOps.gT g11_9 ?_
  refine .q (.load1 rfl) ?_
  refine TriOps.gT g11_9 ?_
  refine .q .gtr ?_
  refine TriOps.gT g11_5 ?_
  refine .q (.pickFh g11_9) ?_
  refine .q (.pickTh g11_5) ?_
  refine .q .move ?_
  refine TriOps.split (t := 95) rfl (fun g11_17 => ?_) (fun g11_17 => ?_)
  refine TriOps.gF g11_17 ?_
  refine TriOps.gF g11_17 ?_
  refine TriOps.gF g11_17 ?_
  refine TriOps.gF g11_17 ?_
  refine TriOps.gF g11_17 ?_
  refine TriOps.gF g11_17 ?_
  refine TriOps.gfU rfl ?_
  refine TriOps.gfU rfl ?_
  refine TriOps.gfU rfl ?_
  refine TriOps.gfU rfl ?_
  refine TriOps.gfU rfl ?_
  refine TriOps.gfU rfl ?_
  refine TriOps.gF g11_17 ?_
  refine .q (.pickTh g11_17) ?_
  refine .nil (seqQ_n ?_)
  refine .condT ?_
  have hno : ¬ rright xs head hor := fun hr => by
    have q1 := (hr.2 i x hlt hx).2 a h0i ha
    unfold rfol at q1
    by_cases e : x.t = a.t
    · rw [if_pos e] at q1
      have e2 : decide (a.t = x.t) = true := decide_eq_true e.symm
      simp only [Bool.and_eq_true, Bool.not_eq_true', beq_eq_false_iff_ne, decide_eq_true_eq] at q1
      first
        | (rw [e2] at g11_5; cases g11_5; done)
        | (have := of_decide_eq_true h5; omega)
        | (have g9 := eq_of_beq g11_9; exact q1.1 g9)
        | (have g9 := eq_of_beq h5; exact q1.1 g9)
        | (have g9 := of_decide_eq_true g11_17; omega)
        | (rw [e2] at g11_23; cases g11_23; done)
    · rw [if_neg e] at q1
      have e2 : decide (a.t = x.t) = false := decide_eq_false fun h => e h.symm
      first
        | (rw [e2] at g11_5; cases g11_5; done)
        | (rw [q1] at h5; cases h5; done)
  refine .seq (.region ?_)
  refine .q .assign ?_
  refine .nil (seqQ_n ?_)
  refine .ret (blkQ_r (seqQ_r (loopQ_r (blkQ_r (seqQ_r (retQ_r _ (.one (.tmp rfl)) (.none _) ?_))))))
  · first
      | exact ⟨⟨false, rfl, by simp; exact hno⟩, rfl⟩
      | exact ⟨⟨true, rfl, by simp; exact ⟨hyes, hgood⟩⟩, rfl⟩
  refine TriOps.gT g11_17 ?_
  refine .q (.fieldAddr rfl) ?_
  refine TriOps.gT g11_17 ?_
  refine .q (.loadT rfl) ?_
  refine TriOps.gT g11_17 ?_
  refine .q (.fieldAddr rfl) ?_
  refine TriOps.gT g11_17 ?_
  refine .q (.loadT rfl) ?_
  refine TriOps.gT g11_17 ?_
  refine .q (.neA rfl rfl (Tpl.kinds a.t) (Tpl.kinds x.t)) ?_
  rw [show cellsEq (List.take 7 (List.drop 0 a.enc)) (List.take 7 (List.drop 0 x.enc)) = decide (a.t = x.t) from Tpl.eq a.t x.t]
  refine TriOps.gT g11_17 ?_
  refine .q .move ?_
  refine TriOps.split (t := 101) rfl (fun g11_23 => ?_) (fun g11_23 => ?_)
  refine TriOps.gT g11_23 ?_
  refine .q (.fieldAddr rfl) ?_
  refine TriOps.gT g11_23 ?_
  refine .q (.loadT rfl) ?_
  refine TriOps.gT g11_23 ?_
  refine .q (.fieldAddr rfl) ?_
  refine TriOps.gT g11_23 ?_
  refine .q (.loadT rfl) ?_
  refine TriOps.gT g11_23 ?_
  refine TriOps.callR (rless_spec a.t x.t _) (fun v hv => ?_)
  subst hv
  refine TriOps.gT g11_23 ?_
  refine .q .not ?_
  refine TriOps.gT g11_17 ?_
  refine .q (.pickTh g11_23) ?_
  refine .q (.pickFh g11_17) ?_
  refine .nil (seqQ_n ?_)
  refine .cond rfl (fun h5 => ?_) (fun h5 => ?_)
  have hno : ¬ rright xs head hor := fun hr => by
    have q1 := (hr.2 i x hlt hx).2 a h0i ha
    unfold rfol at q1
    by_cases e : x.t = a.t
    · rw [if_pos e] at q1
      have e2 : decide (a.t = x.t) = true := decide_eq_true e.symm
      simp only [Bool.and_eq_true, Bool.not_eq_true', beq_eq_false_iff_ne, decide_eq_true_eq] at q1
      first
        | (rw [e2] at g11_5; cases g11_5; done)
        | (have := of_decide_eq_true h5; omega)
        | (have g9 := eq_of_beq g11_9; exact q1.1 g9)
        | (have g9 := eq_of_beq h5; exact q1.1 g9)
        | (have g9 := of_decide_eq_true g11_17; omega)
        | (rw [e2] at g11_23; cases g11_23; done)
    · rw [if_neg e] at q1
      have e2 : decide (a.t = x.t) = false := decide_eq_false fun h => e h.symm
      first
        | (rw [e2] at g11_5; cases g11_5; done)
        | (rw [q1] at h5; cases h5; done)
  refine .seq (.region ?_)
  refine .q .assign ?_
  refine .nil (seqQ_n ?_)
  refine .ret (blkQ_r (seqQ_r (loopQ_r (blkQ_r (seqQ_r (retQ_r _ (.one (.tmp rfl)) (.none _) ?_))))))
  · first
      | exact ⟨⟨false, rfl, by simp; exact hno⟩, rfl⟩
      | exact ⟨⟨true, rfl, by simp; exact ⟨hyes, hgood⟩⟩, rfl⟩
  have hfol : rfol x a = true := by
    unfold rfol
    by_cases e : x.t = a.t
    · rw [if_pos e]
      have e2 : decide (a.t = x.t) = true := decide_eq_true e.symm
      simp only [Bool.and_eq_true, Bool.not_eq_true', beq_eq_false_iff_ne, decide_eq_true_eq]
      first
        | (rw [e2] at g11_5; cases g11_5; done)
        | (simp at g11_9; have := of_decide_eq_false g11_17; omega)
        | (simp at g11_9; have := of_decide_eq_false h5; omega)
    · rw [if_neg e]
      have e2 : decide (a.t = x.t) = false := decide_eq_false fun h => e h.symm
      first
        | (rw [e2] at g11_5; cases g11_5; done)
        | (rw [e2] at g11_23; cases g11_23; done)
        | (rw [e2] at h5; cases h5; done)
        | simpa using h5
  have hfa : ∀ a', 0 < i → xs[i - 1]? = some a' → rfol x a' = true := fun a' _ h9 => by rw [ha] at h9; cases h9; exact hfol
  refine .skip ?_
  refine blkQ_n (seqQ_n ?_)
  refine .region ?_
  refine .q .move ?_
  refine .q (.i64 ((i + 1 : Nat) : Int) .add ⟨by omega, by omega, by omega⟩) ?_
  refine .q .assign ?_
  refine .nil ?_
  · exact loopQ_i (i + 1) ⟨hlt, rgood_next hgood hx hrow hfa⟩ (by omega) (((((EnvLe.nil _).cons rfl).cons rfl).cons rfl).cons rfl) (HLe.pick [] _)
  refine TriOps.gF g11_23 ?_
  refine TriOps.gF g11_23 ?_
  refine TriOps.gF g11_23 ?_
  refine TriOps.gF g11_23 ?_
  refine TriOps.gF g11_23 ?_
  refine TriOps.gF g11_23 ?_
  refine TriOps.gT g11_17 ?_
  refine .q (.pickFh g11_23) ?_
  refine .q (.pickFh g11_17) ?_
  refine .nil (seqQ_n ?_)
  refine .condF ?_
  have hfol : rfol x a = true := by
    unfold rfol
    by_cases e : x.t = a.t
    · rw [if_pos e]
      have e2 : decide (a.t = x.t) = true := decide_eq_true e.symm
      simp only [Bool.and_eq_true, Bool.not_eq_true', beq_eq_false_iff_ne, decide_eq_true_eq]
      first
        | (rw [e2] at g11_5; cases g11_5; done)
        | (simp at g11_9; have := of_decide_eq_false g11_17; omega)
        | (simp at g11_9; have := of_decide_eq_false h5; omega)
    · rw [if_neg e]
      have e2 : decide (a.t = x.t) = false := decide_eq_false fun h => e h.symm
      first
        | (rw [e2] at g11_5; cases g11_5; done)
        | (rw [e2] at g11_23; cases g11_23; done)
        | (rw [e2] at h5; cases h5; done)
        | simpa using h5
  have hfa : ∀ a', 0 < i → xs[i - 1]? = some a' → rfol x a' = true := fun a' _ h9 => by rw [ha] at h9; cases h9; exact hfol
  refine .skip ?_
  refine blkQ_n (seqQ_n ?_)
  refine .region ?_
  refine .q .move ?_
  refine .q (.i64 ((i + 1 : Nat) : Int) .add ⟨by omega, by omega, by omega⟩) ?_
  refine .q .assign ?_
  refine .nil ?_
  · exact loopQ_i (i + 1) ⟨hlt, rgood_next hgood hx hrow hfa⟩ (by omega) (((((EnvLe.nil _).cons rfl).cons rfl).cons rfl).cons rfl) (HLe.pick [] _)
  refine TriOps.gF g11_5 ?_
  refine TriOps.gF g11_5 ?_
  refine TriOps.gF g11_5 ?_
  refine TriOps.gF g11_5 ?_
  refine TriOps.gfU rfl ?_
  refine TriOps.gfU rfl ?_
  refine TriOps.gfU rfl ?_
  refine TriOps.gfU rfl ?_
  refine TriOps.gfU rfl ?_
  refine TriOps.gF g11_5 ?_
  refine .q (.pickFh g11_5) ?_
  refine .q .move ?_
  refine TriOps.gt rfl ?_
  refine .q (.fieldAddr rfl) ?_
  refine TriOps.gt rfl ?_
  refine .q (.loadT rfl) ?_
  refine TriOps.gt rfl ?_
  refine .q (.fieldAddr rfl) ?_
  refine TriOps.gt rfl ?_
  refine .q (.loadT rfl) ?_
  refine TriOps.gt rfl ?_
  refine .q (.neA rfl rfl (Tpl.kinds a.t) (Tpl.kinds x.t)) ?_
  rw [show cellsEq (List.take 7 (List.drop 0 a.enc)) (List.take 7 (List.drop 0 x.enc)) = decide (a.t = x.t) from Tpl.eq a.t x.t]
  refine TriOps.gt rfl ?_
  refine .q .move ?_
  refine TriOps.split (t := 101) rfl (fun g11_23 => ?_) (fun g11_23 => ?_)
  refine TriOps.gT g11_23 ?_
  refine .q (.fieldAddr rfl) ?_
  refine TriOps.gT g11_23 ?_
  refine .q (.loadT rfl) ?_
  refine TriOps.gT g11_23 ?_
  refine .q (.fieldAddr rfl) ?_
  refine TriOps.gT g11_23 ?_
  refine .q (.loadT rfl) ?_
  refine TriOps.gT g11_23 ?_
  refine TriOps.callR (rless_spec a.t x.t _) (fun v hv => ?_)
  subst hv
  refine TriOps.gT g11_23 ?_
  refine .q .not ?_
  refine TriOps.gt rfl ?_
  refine .q (.pickTh g11_23) ?_
  refine .q .pickF ?_
  refine .nil (seqQ_n ?_)
  refine .cond rfl (fun h5 => ?_) (fun h5 => ?_)
  have hno : ¬ rright xs head hor := fun hr => by
    have q1 := (hr.2 i x hlt hx).2 a h0i ha
    unfold rfol at q1
    by_cases e : x.t = a.t
    · rw [if_pos e] at q1
      have e2 : decide (a.t = x.t) = true := decide_eq_true e.symm
      simp only [Bool.and_eq_true, Bool.not_eq_true', beq_eq_false_iff_ne, decide_eq_true_eq] at q1
      first
        | (rw [e2] at g11_5; cases g11_5; done)
        | (have := of_decide_eq_true h5; omega)
        | (have g9 := eq_of_beq g11_9; exact q1.1 g9)
        | (have g9 := eq_of_beq h5; exact q1.1 g9)
        | (have g9 := of_decide_eq_true g11_17; omega)
        | (rw [e2] at g11_23; cases g11_23; done)
    · rw [if_neg e] at q1
      have e2 : decide (a.t = x.t) = false := decide_eq_false fun h => e h.symm
      first
        | (rw [e2] at g11_5; cases g11_5; done)
        | (rw [q1] at h5; cases h5; done)
  refine .seq (.region ?_)
  refine .q .assign ?_
  refine .nil (seqQ_n ?_)
  refine .ret (blkQ_r (seqQ_r (loopQ_r (blkQ_r (seqQ_r (retQ_r _ (.one (.tmp rfl)) (.none _) ?_))))))
  · first
      | exact ⟨⟨false, rfl, by simp; exact hno⟩, rfl⟩
      | exact ⟨⟨true, rfl, by simp; exact ⟨hyes, hgood⟩⟩, rfl⟩
  have hfol : rfol x a = true := by
    unfold rfol
    by_cases e : x.t = a.t
    · rw [if_pos e]
      have e2 : decide (a.t = x.t) = true := decide_eq_true e.symm
      simp only [Bool.and_eq_true, Bool.not_eq_true', beq_eq_false_iff_ne, decide_eq_true_eq]
      first
        | (rw [e2] at g11_5; cases g11_5; done)
        | (simp at g11_9; have := of_decide_eq_false g11_17; omega)
        | (simp at g11_9; have := of_decide_eq_false h5; omega)
    · rw [if_neg e]
      have e2 : decide (a.t = x.t) = false := decide_eq_false fun h => e h.symm
      first
        | (rw [e2] at g11_5; cases g11_5; done)
        | (rw [e2] at g11_23; cases g11_23; done)
        | (rw [e2] at h5; cases h5; done)
        | simpa using h5
  have hfa : ∀ a', 0 < i → xs[i - 1]? = some a' → rfol x a' = true := fun a' _ h9 => by rw [ha] at h9; cases h9; exact hfol
  refine .skip ?_
  refine blkQ_n (seqQ_n ?_)
  refine .region ?_
  refine .q .move ?_
  refine .q (.i64 ((i + 1 : Nat) : Int) .add ⟨by omega, by omega, by omega⟩) ?_
  refine .q .assign ?_
  refine .nil ?_
  · exact loopQ_i (i + 1) ⟨hlt, rgood_next hgood hx hrow hfa⟩ (by omega) (((((EnvLe.nil _).cons rfl).cons rfl).cons rfl).cons rfl) (HLe.pick [] _)
  refine TriOps.gF g11_23 ?_
  refine TriOps.gF g11_23 ?_
  refine TriOps.gF g11_23 ?_
  refine TriOps.gF g11_23 ?_
  refine TriOps.gF g11_23 ?_
  refine TriOps.gF g11_23 ?_
  refine TriOps.gt rfl ?_
  refine .q (.pickFh g11_23) ?_
  refine .q .pickF ?_
  refine .nil (seqQ_n ?_)
  refine .condF ?_
  have hfol : rfol x a = true := by
    unfold rfol
    by_cases e : x.t = a.t
    · rw [if_pos e]
      have e2 : decide (a.t = x.t) = true := decide_eq_true e.symm
      simp only [Bool.and_eq_true, Bool.not_eq_true', beq_eq_false_iff_ne, decide_eq_true_eq]
      first
        | (rw [e2] at g11_5; cases g11_5; done)
        | (simp at g11_9; have := of_decide_eq_false g11_17; omega)
        | (simp at g11_9; have := of_decide_eq_false h5; omega)
    · rw [if_neg e]
      have e2 : decide (a.t = x.t) = false := decide_eq_false fun h => e h.symm
      first
        | (rw [e2] at g11_5; cases g11_5; done)
        | (rw [e2] at g11_23; cases g11_23; done)
        | (rw [e2] at h5; cases h5; done)
        | simpa using h5
  have hfa : ∀ a', 0 < i → xs[i - 1]? = some a' → rfol x a' = true := fun a' _ h9 => by rw [ha] at h9; cases h9; exact hfol
  refine .skip ?_
  refine blkQ_n (seqQ_n ?_)
  refine .region ?_
  refine .q .move ?_
  refine .q (.i64 ((i + 1 : Nat) : Int) .add ⟨by omega, by omega, by omega⟩) ?_
  refine .q .assign ?_
  refine .nil ?_
  · exact loopQ_i (i + 1) ⟨hlt, rgood_next hgood hx hrow hfa⟩ (by omega) (((((EnvLe.nil _).cons rfl).cons rfl).cons rfl).cons rfl) (HLe.pick [] _)
  refine TriOps.gF g7_19 ?_
  refine TriOps.gF g7_19 ?_
  refine TriOps.gF g7_19 ?_
  refine TriOps.gF g7_19 ?_
  refine TriOps.gF g7_19 ?_
  refine TriOps.gF g7_19 ?_
  refine TriOps.gfU rfl ?_
  refine TriOps.gfU rfl ?_
  refine TriOps.gfU rfl ?_
  refine TriOps.gfU rfl ?_
  refine TriOps.gF g7_19 ?_
  refine TriOps.gF g7_19 ?_
  refine TriOps.gfU rfl ?_
  refine TriOps.gfU rfl ?_
  refine TriOps.gfU rfl ?_
  refine TriOps.gfU rfl ?_
  refine TriOps.gF g7_19 ?_
  refine TriOps.gT g7_15 ?_
  refine .q (.pickFh g7_19) ?_
  refine .q (.pickFh g7_15) ?_
  refine .nil (seqQ_n ?_)
  refine .condF ?_
  have hrow : rrow head hor x = true := hrw.2 (by simp_all; try omega)
  refine .skip ?_
  refine seqQ_n ?_
  refine .seq ?_
  refine .seq (.region ?_)
  refine .q .move ?_
  refine .q .eqI ?_
  refine .nil (seqQ_n ?_)
  refine .cond rfl (fun h4 => ?_) (fun h4 => ?_)
  have hfa : ∀ a', 0 < i → xs[i - 1]? = some a' → rfol x a' = true := fun a' h9 _ => by simp at h4; omega
  refine .exit (seqQ_x (blkQ_x ?_))
  refine seqQ_n ?_
  refine .region ?_
  refine .q .move ?_
  refine .q (.i64 ((i + 1 : Nat) : Int) .add ⟨by omega, by omega, by omega⟩) ?_
  refine .q .assign ?_
  refine .nil ?_
  · exact loopQ_i (i + 1) ⟨hlt, rgood_next hgood hx hrow hfa⟩ (by omega) (((((EnvLe.nil _).cons rfl).cons rfl).cons rfl).cons rfl) (HLe.pick [] _)
  have h0i : 0 < i := by simp at h4; omega
  refine .skip ?_
  refine seqQ_n ?_
  refine .seq (.region ?_)
  refine .q .move ?_
  refine .q .move ?_
  refine .q (.i64 ((i - 1 : Nat) : Int) .sub ⟨by omega, by omega, by omega⟩) ?_
  refine TriOps.indexR (i - 1) h ha (fun p76 => ?_)
  refine .q (.loadA rfl) ?_
  refine TriOps.allocA (fun b9 => ?_)
  refine TriOps.storeA rfl rfl ?_
  refine .nil (seqQ_n ?_)
  refine .seq (.region ?_)
  refine TriOps.sub (H' := [[(b9, .cells a.enc.toArray 38 (0, 0))], [(b8, .cells x.enc.toArray 38 (0, 0))]]) (HLe.refl _) ?_
  refine .q (.fieldAddr rfl) ?_
  refine .q (.loadT rfl) ?_
  refine .q (.fieldAddr rfl) ?_
  refine .q (.loadT rfl) ?_
  refine .q (.eqA rfl rfl (Tpl.kinds a.t) (Tpl.kinds x.t)) ?_
  rw [show cellsEq (List.take 7 (List.drop 0 a.enc)) (List.take 7 (List.drop 0 x.enc)) = decide (a.t = x.t) from Tpl.eq a.t x.t]
  refine .q .move ?_
  refine TriOps.split (t := 83) rfl (fun g11_5 => ?_) (fun g11_5 => ?_)
  refine TriOps.gT g11_5 ?_
  refine .q (.fieldAddr rfl) ?_
  refine TriOps.gT g11_5 ?_
  refine .q (.load1 rfl) ?_
  refine TriOps.gT g11_5 ?_
  refine .q .eqI ?_
  refine TriOps.gT g11_5 ?_
  refine .q .move ?_
  refine TriOps.split (t := 87) rfl (fun g11_9 => ?_) (fun g11_9 => ?_)
  refine TriOps.gF g11_9 ?_
  refine TriOps.gF g11_9 ?_
  refine TriOps.gF g11_9 ?_
  refine TriOps.gF g11_9 ?_
  refine TriOps.gF g11_9 ?_
  refine TriOps.gT g11_5 ?_
  refine .q (.pickTh g11_9) ?_
  refine .q (.pickTh g11_5) ?_
  refine .q .move ?_
  refine TriOps.gf rfl rfl ?_
  refine TriOps.gf rfl rfl ?_
  refine TriOps.gf rfl rfl ?_
  refine TriOps.gf rfl rfl ?_
  refine TriOps.gf rfl rfl ?_
  refine TriOps.gf rfl rfl ?_
  refine TriOps.gfU rfl ?_
  refine TriOps.gfU rfl ?_
  refine TriOps.gfU rfl ?_
  refine TriOps.gfU rfl ?_
  refine TriOps.gfU rfl ?_
  refine TriOps.gfU rfl ?_
  refine TriOps.gf rfl rfl ?_
  refine .q .pickT ?_
  refine .nil (seqQ_n ?_)
  refine .condT ?_
  have hno : ¬ rright xs head hor := fun hr => by
    have q1 := (hr.2 i x hlt hx).2 a h0i ha
    unfold rfol at q1
    by_cases e : x.t = a.t
    · rw [if_pos e] at q1
      have e2 : decide (a.t = x.t) = true := decide_eq_true e.symm
      simp only [Bool.and_eq_true, Bool.not_eq_true', beq_eq_false_iff_ne, decide_eq_true_eq] at q1
      first
        | (rw [e2] at g11_5; cases g11_5; done)
        | (have := of_decide_eq_true h5; omega)
        | (have g9 := eq_of_beq g11_9; exact q1.1 g9)
        | (have g9 := eq_of_beq h5; exact q1.1 g9)
        | (have g9 := of_decide_eq_true g11_17; omega)
        | (rw [e2] at g11_23; cases g11_23; done)
    · rw [if_neg e] at q1
      have e2 : decide (a.t = x.t) = false := decide_eq_false fun h => e h.symm
      first
        | (rw [e2] at g11_5; cases g11_5; done)
        | (rw [q1] at h5; cases h5; done)
  refine .seq (.region ?_)
  refine .q .assign ?_
  refine .nil (seqQ_n ?_)
  refine .ret (blkQ_r (seqQ_r (loopQ_r (blkQ_r (seqQ_r (retQ_r _ (.one (.tmp rfl)) (.none _) ?_))))))
  · first
      | exact ⟨⟨false, rfl, by simp; exact hno⟩, rfl⟩
      | exact ⟨⟨true, rfl, by simp; exact ⟨hyes, hgood⟩⟩, rfl⟩
  refine TriOps.gT g11_9 ?_
  refine .q (.fieldAddr rfl) ?_
  refine TriOps.gT g11_9 ?_
  refine .q (.load1 rfl) ?_
  refine TriOps.gT g11_9 ?_
  refine .q (.fieldAddr rfl) ?_
  refine TriOps.gT g11_9 ?_
  refine .q (.load1 rfl) ?_
  refine TriOps.gT g11_9 ?_
  refine .q .gtr ?_
  refine TriOps.gT g11_5 ?_
  refine .q (.pickFh g11_9) ?_
  refine .q (.pickTh g11_5) ?_
  refine .q .move ?_
  refine TriOps.split (t := 95) rfl (fun g11_17 => ?_) (fun g11_17 => ?_)
  refine TriOps.gF g11_17 ?_
  refine TriOps.gF g11_17 ?_
  refine TriOps.gF g11_17 ?_
  refine TriOps.gF g11_17 ?_
  refine TriOps.gF g11_17 ?_
  refine TriOps.gF g11_17 ?_
  refine TriOps.gfU rfl ?_
  refine TriOps.gfU rfl ?_
  refine TriOps.gfU rfl ?_
  refine TriOps.gfU rfl ?_
  refine TriOps.gfU rfl ?_
  refine TriOps.gfU rfl ?_
  refine TriOps.gF g11_17 ?_
  refine .q (.pickTh g11_17) ?_
  refine .nil (seqQ_n ?_)
  refine .condT ?_
  have hno : ¬ rright xs head hor := fun hr => by
    have q1 := (hr.2 i x hlt hx).2 a h0i ha
    unfold rfol at q1
    by_cases e : x.t = a.t
    · rw [if_pos e] at q1
      have e2 : decide (a.t = x.t) = true := decide_eq_true e.symm
      simp only [Bool.and_eq_true, Bool.not_eq_true', beq_eq_false_iff_ne, decide_eq_true_eq] at q1
      first
        | (rw [e2] at g11_5; cases g11_5; done)
        | (have := of_decide_eq_true h5; omega)
        | (have g9 := eq_of_beq g11_9; exact q1.1 g9)
        | (have g9 := eq_of_beq h5; exact q1.1 g9)
        | (have g9 := of_decide_eq_true g11_17; omega)
        | (rw [e2] at g11_23; cases g11_23; done)
    · rw [if_neg e] at q1
      have e2 : decide (a.t = x.t) = false := decide_eq_false fun h => e h.symm
      first
        | (rw [e2] at g11_5; cases g11_5; done)
        | (rw [q1] at h5; cases h5; done)
  refine .seq (.region ?_)
  refine .q .assign ?_
  refine .nil (seqQ_n ?_)
  refine .ret (blkQ_r (seqQ_r (loopQ_r (blkQ_r (seqQ_r (retQ_r _ (.one (.tmp rfl)) (.none _) ?_))))))
  · first
      | exact ⟨⟨false, rfl, by simp; exact hno⟩, rfl⟩
      | exact ⟨⟨true, rfl, by simp; exact ⟨hyes, hgood⟩⟩, rfl⟩
  refine TriOps.gT g11_17 ?_
  refine .q (.fieldAddr rfl) ?_
  refine TriOps.gT g11_17 ?_
  refine .q (.loadT rfl) ?_
  refine TriOps.gT g11_17 ?_
  refine .q (.fieldAddr rfl) ?_
  refine TriOps.gT g11_17 ?_
  refine .q (.loadT rfl) ?_
  refine TriOps.gT g11_17 ?_
  refine .q (.neA rfl rfl (Tpl.kinds a.t) (Tpl.kinds x.t)) ?_
  rw [show cellsEq (List.take 7 (List.drop 0 a.enc)) (List.take 7 (List.drop 0 x.enc)) = decide (a.t = x.t) from Tpl.eq a.t x.t]
  refine TriOps.gT g11_17 ?_
  refine .q .move ?_
  refine TriOps.split (t := 101) rfl (fun g11_23 => ?_) (fun g11_23 => ?_)
  refine TriOps.gT g11_23 ?_
  refine .q (.fieldAddr rfl) ?_
  refine TriOps.gT g11_23 ?_
  refine .q (.loadT rfl) ?_
  refine TriOps.gT g11_23 ?_
  refine .q (.fieldAddr rfl) ?_
  refine TriOps.gT g11_23 ?_
  refine .q (.loadT rfl) ?_
  refine TriOps.gT g11_23 ?_
  refine TriOps.callR (rless_spec a.t x.t _) (fun v hv => ?_)
  subst hv
  refine TriOps.gT g11_23 ?_
  refine .q .not ?_
  refine TriOps.gT g11_17 ?_
  refine .q (.pickTh g11_23) ?_
  refine .q (.pickFh g11_17) ?_
  refine .nil (seqQ_n ?_)
  refine .cond rfl (fun h5 => ?_) (fun h5 => ?_)
  have hno : ¬ rright xs head hor := fun hr => by
    have q1 := (hr.2 i x hlt hx).2 a h0i ha
    unfold rfol at q1
    by_cases e : x.t = a.t
    · rw [if_pos e] at q1
      have e2 : decide (a.t = x.t) = true := decide_eq_true e.symm
      simp only [Bool.and_eq_true, Bool.not_eq_true', beq_eq_false_iff_ne, decide_eq_true_eq] at q1
      first
        | (rw [e2] at g11_5; cases g11_5; done)
        | (have := of_decide_eq_true h5; omega)
        | (have g9 := eq_of_beq g11_9; exact q1.1 g9)
        | (have g9 := eq_of_beq h5; exact q1.1 g9)
        | (have g9 := of_decide_eq_true g11_17; omega)
        | (rw [e2] at g11_23; cases g11_23; done)
    · rw [if_neg e] at q1
      have e2 : decide (a.t = x.t) = false := decide_eq_false fun h => e h.symm
      first
        | (rw [e2] at g11_5; cases g11_5; done)
        | (rw [q1] at h5; cases h5; done)
  refine .seq (.region ?_)
  refine .q .assign ?_
  refine .nil (seqQ_n ?_)
  refine .ret (blkQ_r (seqQ_r (loopQ_r (blkQ_r (seqQ_r (retQ_r _ (.one (.tmp rfl)) (.none _) ?_))))))
  · first
      | exact ⟨⟨false, rfl, by simp; exact hno⟩, rfl⟩
      | exact ⟨⟨true, rfl, by simp; exact ⟨hyes, hgood⟩⟩, rfl⟩
  have hfol : rfol x a = true := by
    unfold rfol
    by_cases e : x.t = a.t
    · rw [if_pos e]
      have e2 : decide (a.t = x.t) = true := decide_eq_true e.symm
      simp only [Bool.and_eq_true, Bool.not_eq_true', beq_eq_false_iff_ne, decide_eq_true_eq]
      first
        | (rw [e2] at g11_5; cases g11_5; done)
        | (simp at g11_9; have := of_decide_eq_false g11_17; omega)
        | (simp at g11_9; have := of_decide_eq_false h5; omega)
    · rw [if_neg e]
      have e2 : decide (a.t = x.t) = false := decide_eq_false fun h => e h.symm
      first
        | (rw [e2] at g11_5; cases g11_5; done)
        | (rw [e2] at g11_23; cases g11_23; done)
        | (rw [e2] at h5; cases h5; done)
        | simpa using h5
  have hfa : ∀ a', 0 < i → xs[i - 1]? = some a' → rfol x a' = true := fun a' _ h9 => by rw [ha] at h9; cases h9; exact hfol
  refine .skip ?_
  refine blkQ_n (seqQ_n ?_)
  refine .region ?_
  refine .q .move ?_
  refine .q (.i64 ((i + 1 : Nat) : Int) .add ⟨by omega, by omega, by omega⟩) ?_
  refine .q .assign ?_
  refine .nil ?_
  · exact loopQ_i (i + 1) ⟨hlt, rgood_next hgood hx hrow hfa⟩ (by omega) (((((EnvLe.nil _).cons rfl).cons rfl).cons rfl).cons rfl) (HLe.pick [] _)
  refine TriOps.gF g11_23 ?_
  refine TriOps.gF g11_23 ?_
  refine TriOps.gF g11_23 ?_
  refine TriOps.gF g11_23 ?_
  refine TriOps.gF g11_23 ?_
  refine TriOps.gF g11_23 ?_
  refine TriOps.gT g11_17 ?_
  refine .q (.pickFh g11_23) ?_
  refine .q (.pickFh g11_17) ?_
  refine .nil (seqQ_n ?_)
  refine .condF ?_
  have hfol : rfol x a = true := by
    unfold rfol
    by_cases e : x.t = a.t
    · rw [if_pos e]
      have e2 : decide (a.t = x.t) = true := decide_eq_true e.symm
      simp only [Bool.and_eq_true, Bool.not_eq_true', beq_eq_false_iff_ne, decide_eq_true_eq]
      first
        | (rw [e2] at g11_5; cases g11_5; done)
        | (simp at g11_9; have := of_decide_eq_false g11_17; omega)
        | (simp at g11_9; have := of_decide_eq_false h5; omega)
    · rw [if_neg e]
      have e2 : decide (a.t = x.t) = false := decide_eq_false fun h => e h.symm
      first
        | (rw [e2] at g11_5; cases g11_5; done)
        | (rw [e2] at g11_23; cases g11_23; done)
        | (rw [e2] at h5; cases h5; done)
        | simpa using h5
  have hfa : ∀ a', 0 < i → xs[i - 1]? = some a' → rfol x a' = true := fun a' _ h9 => by rw [ha] at h9; cases h9; exact hfol
  refine .skip ?_
  refine blkQ_n (seqQ_n ?_)
  refine .region ?_
  refine .q .move ?_
  refine .q (.i64 ((i + 1 : Nat) : Int) .add ⟨by omega, by omega, by omega⟩) ?_
  refine .q .assign ?_
  refine .nil ?_
  · exact loopQ_i (i + 1) ⟨hlt, rgood_next hgood hx hrow hfa⟩ (by omega) (((((EnvLe.nil _).cons rfl).cons rfl).cons rfl).cons rfl) (HLe.pick [] _)
  refine TriOps.gF g11_5 ?_
  refine TriOps.gF g11_5 ?_
  refine TriOps.gF g11_5 ?_
  refine TriOps.gF g11_5 ?_
  refine TriOps.gfU rfl ?_
  refine TriOps.gfU rfl ?_
  refine TriOps.gfU rfl ?_
  refine TriOps.gfU rfl ?_
  refine TriOps.gfU rfl ?_
  refine TriOps.gF g11_5 ?_
  refine .q (.pickFh g11_5) ?_
  refine .q .move ?_
  refine TriOps.gt rfl ?_
  refine .q (.fieldAddr rfl) ?_
  refine TriOps.gt rfl ?_
  refine .q (.loadT rfl) ?_
  refine TriOps.gt rfl ?_
  refine .q (.fieldAddr rfl) ?_
  refine TriOps.gt rfl ?_
  refine .q (.loadT rfl) ?_
  refine TriOps.gt rfl ?_
  refine .q (.neA rfl rfl (Tpl.kinds a.t) (Tpl.kinds x.t)) ?_
  rw [show cellsEq (List.take 7 (List.drop 0 a.enc)) (List.take 7 (List.drop 0 x.enc)) = decide (a.t = x.t) from Tpl.eq a.t x.t]
  refine TriOps.gt rfl ?_
  refine .q .move ?_
  refine TriOps.split (t := 101) rfl (fun g11_23 => ?_) (fun g11_23 => ?_)
  refine TriOps.gT g11_23 ?_
  refine .q (.fieldAddr rfl) ?_
  refine TriOps.gT g11_23 ?_
  refine .q (.loadT rfl) ?_
  refine TriOps.gT g11_23 ?_
  refine .q (.fieldAddr rfl) ?_
  refine TriOps.gT g11_23 ?_
  refine .q (.loadT rfl) ?_
  refine TriOps.gT g11_23 ?_
  refine TriOps.callR (rless_spec a.t x.t _) (fun v hv => ?_)
  subst hv
  refine TriOps.gT g11_23 ?_
  refine .q .not ?_
  refine TriOps.gt rfl ?_
  refine .q (.pickTh g11_23) ?_
  refine .q .pickF ?_
  refine .nil (seqQ_n ?_)
  refine .cond rfl (fun h5 => ?_) (fun h5 => ?_)
  have hno : ¬ rright xs head hor := fun hr => by
    have q1 := (hr.2 i x hlt hx).2 a h0i ha
    unfold rfol at q1
    by_cases e : x.t = a.t
    · rw [if_pos e] at q1
      have e2 : decide (a.t = x.t) = true := decide_eq_true e.symm
      simp only [Bool.and_eq_true, Bool.not_eq_true', beq_eq_false_iff_ne, decide_eq_true_eq] at q1
      first
        | (rw [e2] at g11_5; cases g11_5; done)
        | (have := of_decide_eq_true h5; omega)
        | (have g9 := eq_of_beq g11_9; exact q1.1 g9)
        | (have g9 := eq_of_beq h5; exact q1.1 g9)
        | (have g9 := of_decide_eq_true g11_17; omega)
        | (rw [e2] at g11_23; cases g11_23; done)
    · rw [if_neg e] at q1
      have e2 : decide (a.t = x.t) = false := decide_eq_false fun h => e h.symm
      first
        | (rw [e2] at g11_5; cases g11_5; done)
        | (rw [q1] at h5; cases h5; done)
  refine .seq (.region ?_)
  refine .q .assign ?_
  refine .nil (seqQ_n ?_)
  refine .ret (blkQ_r (seqQ_r (loopQ_r (blkQ_r (seqQ_r (retQ_r _ (.one (.tmp rfl)) (.none _) ?_))))))
  · first
      | exact ⟨⟨false, rfl, by simp; exact hno⟩, rfl⟩
      | exact ⟨⟨true, rfl, by simp; exact ⟨hyes, hgood⟩⟩, rfl⟩
  have hfol : rfol x a = true := by
    unfold rfol
    by_cases e : x.t = a.t
    · rw [if_pos e]
      have e2 : decide (a.t = x.t) = true := decide_eq_true e.symm
      simp only [Bool.and_eq_true, Bool.not_eq_true', beq_eq_false_iff_ne, decide_eq_true_eq]
      first
        | (rw [e2] at g11_5; cases g11_5; done)
        | (simp at g11_9; have := of_decide_eq_false g11_17; omega)
        | (simp at g11_9; have := of_decide_eq_false h5; omega)
    · rw [if_neg e]
      have e2 : decide (a.t = x.t) = false := decide_eq_false fun h => e h.symm
      first
        | (rw [e2] at g11_5; cases g11_5; done)
        | (rw [e2] at g11_23; cases g11_23; done)
        | (rw [e2] at h5; cases h5; done)
        | simpa using h5
  have hfa : ∀ a', 0 < i → xs[i - 1]? = some a' → rfol x a' = true := fun a' _ h9 => by rw [ha] at h9; cases h9; exact hfol
  refine .skip ?_
  refine blkQ_n (seqQ_n ?_)
  refine .region ?_
  refine .q .move ?_
  refine .q (.i64 ((i + 1 : Nat) : Int) .add ⟨by omega, by omega, by omega⟩) ?_
  refine .q .assign ?_
  refine .nil ?_
  · exact loopQ_i (i + 1) ⟨hlt, rgood_next hgood hx hrow hfa⟩ (by omega) (((((EnvLe.nil _).cons rfl).cons rfl).cons rfl).cons rfl) (HLe.pick [] _)
  refine TriOps.gF g11_23 ?_
  refine TriOps.gF g11_23 ?_
  refine TriOps.gF g11_23 ?_
  refine TriOps.gF g11_23 ?_
  refine TriOps.gF g11_23 ?_
  refine TriOps.gF g11_23 ?_
  refine TriOps.gt rfl ?_
  refine .q (.pickFh g11_23) ?_
  refine .q .pickF ?_
  refine .nil (seqQ_n ?_)
  refine .condF ?_
  have hfol : rfol x a = true := by
    unfold rfol
    by_cases e : x.t = a.t
    · rw [if_pos e]
      have e2 : decide (a.t = x.t) = true := decide_eq_true e.symm
      simp only [Bool.and_eq_true, Bool.not_eq_true', beq_eq_false_iff_ne, decide_eq_true_eq]
      first
        | (rw [e2] at g11_5; cases g11_5; done)
        | (simp at g11_9; have := of_decide_eq_false g11_17; omega)
        | (simp at g11_9; have := of_decide_eq_false h5; omega)
    · rw [if_neg e]
      have e2 : decide (a.t = x.t) = false := decide_eq_false fun h => e h.symm
      first
        | (rw [e2] at g11_5; cases g11_5; done)
        | (rw [e2] at g11_23; cases g11_23; done)
        | (rw [e2] at h5; cases h5; done)
        | simpa using h5
  have hfa : ∀ a', 0 < i → xs[i - 1]? = some a' → rfol x a' = true := fun a' _ h9 => by rw [ha] at h9; cases h9; exact hfol
  refine .skip ?_
  refine blkQ_n (seqQ_n ?_)
  refine .region ?_
  refine .q .move ?_
  refine .q (.i64 ((i + 1 : Nat) : Int) .add ⟨by omega, by omega, by omega⟩) ?_
  refine .q .assign ?_
  refine .nil ?_
  · exact loopQ_i (i + 1) ⟨hlt, rgood_next hgood hx hrow hfa⟩ (by omega) (((((EnvLe.nil _).cons rfl).cons rfl).cons rfl).cons rfl) (HLe.pick [] _)
  have hie : i = xs.length := by have := of_decide_eq_false h2; omega
  subst hie
  refine .exit (seqQ_x (loopQ_x (blkQ_x ?_)))
  refine seqQ_n ?_
  refine .seq (.region ?_)
  refine .q .assign ?_
  refine .nil (seqQ_n ?_)
  refine .ret (retQ_r _ (.one (.tmp rfl)) (.none _) ?_)
  · first
      | exact ⟨⟨false, rfl, by simp; exact hno⟩, rfl⟩
      | exact ⟨⟨true, rfl, by simp; exact ⟨hyes, hgood⟩⟩, rfl⟩
theorem SV.subs {R : Rds} {g : Nat} {S : Sto} {ps : List RB} {vf vr : Value} {Mf : List (Obr × (Value × Seg))} {Mr : List (Sub × (Value × Seg))} (h : SV R g S ps vf vr Mf Mr) (hl : S.rows.length ≤ 4096) (k : Obr) (r : Int) {L : List SRow} (hL : RL S L) :
    Spec Tryz.prog 38 [.pointer (some ⟨g, 0, none⟩), .agg [.string k.os, .string k.oi].toArray, .string k.rel, .int .u64 r] R [] fun u H' => ∃ T, H' = [T] ∧ OS 34 4 Sub.enc u (if scan S r then (L.filter fun x => x.there r && decide (x.t.obr = k)).map (·.t.sub) else []) T := by
  have pc := h.pc
  have iof := h.of
  have ior := h.or
  have hpl : ps.length ≤ 4096 := by rw [← h.eq, List.length_map] at hl; exact hl
  obtain ⟨pf, cf, hlk, hrs⟩ := h.lf k
  have hF : RS R 1 encRB (.slice pf (ids (fun x => x.t.obr) k ps).length cf) (frows (fun x => x.t.obr) k ps) := RS.of_map (enc := encPt) (f := fun p : RB => p.1) hrs
  have hFl : (frows (fun x => x.t.obr) k ps).length ≤ 4096 := Nat.le_trans (List.length_filter_le _ _) hpl
  refine Spec.segs (H' := [[]]) (by simp) ?_
  refine Spec.body Tryz.func38 rfl Tryz.results38 Tryz.ntmps38 rfl ?_
  refine .seq (.region ?_)
  refine TriOps.boxA rfl (fun b5 => ?_)
  refine .q .assign ?_
  refine .nil (seqQ_n ?_)
  refine .seq ?_
  refine .seq (.region ?_)
  refine .q .move ?_
  refine .q .move ?_
  refine TriOps.callR ((h.mono fun b o hb => .inl hb).can r) (fun v hv => ?_)
  subst hv
  refine .q .not ?_
  refine .nil (seqQ_n ?_)
  refine .cond rfl (fun h1 => ?_) (fun h1 => ?_)
  have hsc : scan S r = false := by simpa using h1
  refine .seq (.region ?_)
  refine .q .assign ?_
  refine .nil (seqQ_n ?_)
  refine .ret (seqQ_r (retQ_r _ (.one (.tmp rfl)) ((HLe.pick [1] _)) ?_))
  · exact ⟨_, by simp [take]; rfl, by rw [hsc]; exact OS.nil⟩
  have hsc : scan S r = true := by simpa using h1
  refine .skip ?_
  refine seqQ_n ?_
  refine .seq (.region ?_)
  refine .q .assign ?_
  refine .nil (seqQ_n ?_)
  refine .seq ?_
  refine .seq ?_
  refine .region_all [] mixed ?_
  refine .takeO 0 rfl .move (by kernel_rfl) ?_
  refine .takeO 1 rfl (.nilCheck rfl) (by kernel_rfl) ?_
  refine .takeO 2 rfl (.fieldAddr rfl) (by kernel_rfl) ?_
  refine .takeO 3 rfl (.load1 rfl) (by kernel_rfl) ?_
  refine .takeO 4 rfl (.loadA rfl) (by kernel_rfl) ?_
  refine .takeO 5 rfl .move (by kernel_rfl) ?_
  refine .takeO 6 rfl .bld (by kernel_rfl) ?_
  refine .takeO 7 rfl (.lookupE (h.mono fun b o hb => .inl hb).mf rfl rfl (key := k) hlk) (by kernel_rfl) ?_
  refine .takeO 8 rfl .move (by kernel_rfl) ?_
  refine .takeO 11 rfl .move (by kernel_rfl) ?_
  refine RA.step 9 rfl (by kernel_rfl) rfl ?_
  refine TriOps.callN (at_spec _ (frows (fun x => x.t.obr) k ps) r _ hF.rx (fun p hp => (h.pr p (List.mem_filter.1 hp).1).mono fun b o hb => .inl hb) (by omega)) (fun u T1 hu => ?_)
  obtain ⟨ys, hY, hyp, hyo⟩ := hu
  have iu := hY.oneCell
  have hyl : ys.length ≤ 4096 := by
    rw [hyp.length_eq, List.length_map]
    exact Nat.le_trans (List.length_filter_le _ _) hFl
  have hyL : ys = (L.filter fun x => x.there r && decide (x.t.obr = k)).map (·.t) := hL.at_ (by
    refine hyp.trans (.of_eq ?_)
    rw [← h.eq, List.filter_map, List.map_map]
    unfold frows
    rw [List.filter_filter]; rfl) hyo
  refine .nil (Next.sub ?_)
  refine .takeO 10 rfl (.lenO hY) (by kernel_rfl) ?_
  refine RA.nil (by kernel_rfl) ?_
  refine seqQ_n ?_
  refine .block ?_
  refine .loop (X := Nat × Value × Seg) (fun y => y.1 ≤ ys.length ∧ OS 34 4 Sub.enc y.2.1 ((ys.take y.1).map Tpl.sub) y.2.2) (fun y => [(9, y.2.1), (25, u), (26, .int .i64 (ys.length : Nat)), (27, .int .i64 (y.1 : Nat))]) (fun y => [T1, y.2.2]) (fun y => ys.length - y.1) (0, .slice none 0 0, []) ⟨Nat.zero_le _, OS.nil⟩ (((((EnvLe.nil _).cons rfl).cons rfl).cons rfl).cons rfl) (HLe.pick [0, 1] _) ?_
  rintro ⟨i, vo, To⟩ ⟨hi, hO⟩
  simp only at hi hO ⊢
  have io := hO.oneCell
  refine .seq (.region ?_)
  refine .q .lss ?_
  refine .nil (seqQ_n ?_)
  refine .seq ?_
  refine .cond rfl (fun h2 => ?_) (fun h2 => ?_)
  have hlt : i < ys.length := by have := of_decide_eq_true h2; omega
  obtain ⟨x, hx⟩ : ∃ x, ys[i]? = some x := ⟨_, List.getElem?_eq_getElem hlt⟩
  have htk : ys.take (i + 1) = ys.take i ++ [x] := by rw [List.take_add_one, hx]; rfl
  refine .skip ?_
  refine seqQ_n ?_
  refine .seq ?_
  refine .block ?_
  refine .seq (.region ?_)
  refine TriOps.indexO i hY hx (fun p29 => ?_)
  refine .q (.loadA rfl) ?_
  refine TriOps.allocA (fun b11 => ?_)
  refine TriOps.storeA rfl rfl ?_
  refine .nil (seqQ_n ?_)
  refine .region ?_
  refine .q .move ?_
  refine .q (.fieldAddr rfl) ?_
  refine .q (.loadT rfl) ?_
  refine TriOps.buildSlice1A (fun b34 => ?_)
  refine TriOps.append hO (RS.lits (xs := [x.sub]) rfl (by simp [Sub.enc]) (by simp [Sub.enc, oneCell])) (by simp only [List.length_singleton, List.length_map, List.length_take]; omega) (fun v5 T5 hO5 => ?_)
  refine .q .assign ?_
  refine .nil ?_
  refine blkQ_n (seqQ_n ?_)
  refine .region ?_
  refine .q (.i64 ((i + 1 : Nat) : Int) .add ⟨by omega, by omega, by omega⟩) ?_
  refine .q .move ?_
  refine .nil ?_
  · exact loopQ_i (i + 1, v5, T5) ⟨hlt, by simp only; rw [htk, List.map_append]; exact hO5⟩ (by simp only; omega) (((((EnvLe.nil _).cons rfl).cons rfl).cons rfl).cons rfl) (HLe.pick [2, 2] _)
  refine .exit (seqQ_x (loopQ_x (blkQ_x ?_)))
  refine seqQ_n ?_
  refine .seq (.region ?_)
  refine .q .move ?_
  refine .q .assign ?_
  refine .nil (seqQ_n ?_)
  refine .ret (retQ_r _ (.one (.tmp rfl)) ((HLe.pick [1] _)) ?_)
  · have hie : i = ys.length := by have := of_decide_eq_false h2; omega
    subst hie
    rw [List.take_length, hyL, List.map_map] at hO
    exact ⟨To, by simp [take, dropAt], by rw [hsc]; exact hO⟩
theorem SV.sets {R : Rds} {g : Nat} {S : Sto} {ps : List RB} {vf vr : Value} {Mf : List (Obr × (Value × Seg))} {Mr : List (Sub × (Value × Seg))} (h : SV R g S ps vf vr Mf Mr) (hl : S.rows.length ≤ 4096) (k : Sub) (r : Int) {L : List SRow} (hL : RL S L) :
    Spec Tryz.prog 40 [.pointer (some ⟨g, 0, none⟩), .agg k.enc.toArray, .int .u64 r] R [] fun u H' => ∃ T, H' = [T] ∧ OS 34 4 Sub.enc u (if scan S r then (L.filter fun x => x.there r && decide (x.t.sub = k)).map (fun x => (⟨⟨#[]⟩, x.t.os, x.t.oi, x.t.rel⟩ : Sub)) else []) T := by
  have pc := h.pc
  have iof := h.of
  have ior := h.or
  have hpl : ps.length ≤ 4096 := by rw [← h.eq, List.length_map] at hl; exact hl
  obtain ⟨pf, cf, hlk, hrs⟩ := h.lr k
  have hF : RS R 1 encRB (.slice pf (ids (fun x => x.t.sub) k ps).length cf) (frows (fun x => x.t.sub) k ps) := RS.of_map (enc := encPt) (f := fun p : RB => p.1) hrs
  have hFl : (frows (fun x => x.t.sub) k ps).length ≤ 4096 := Nat.le_trans (List.length_filter_le _ _) hpl
  refine Spec.segs (H' := [[]]) (by simp) ?_
  refine Spec.body Tryz.func40 rfl Tryz.results40 Tryz.ntmps40 rfl ?_
  refine .seq (.region ?_)
  refine TriOps.boxA rfl (fun b4 => ?_)
  refine .q .assign ?_
  refine .nil (seqQ_n ?_)
  refine .seq ?_
  refine .seq (.region ?_)
  refine .q .move ?_
  refine .q .move ?_
  refine TriOps.callR ((h.mono fun b o hb => .inl hb).can r) (fun v hv => ?_)
  subst hv
  refine .q .not ?_
  refine .nil (seqQ_n ?_)
  refine .cond rfl (fun h1 => ?_) (fun h1 => ?_)
  have hsc : scan S r = false := by simpa using h1
  refine .seq (.region ?_)
  refine .q .assign ?_
  refine .nil (seqQ_n ?_)
  refine .ret (seqQ_r (retQ_r _ (.one (.tmp rfl)) ((HLe.pick [1] _)) ?_))
  · exact ⟨_, by simp [take]; rfl, by rw [hsc]; exact OS.nil⟩
  have hsc : scan S r = true := by simpa using h1
  refine .skip ?_
  refine seqQ_n ?_
  refine .seq (.region ?_)
  refine .q .assign ?_
  refine .nil (seqQ_n ?_)
  refine .seq ?_
  refine .seq ?_
  refine .region_all [] mixed ?_
  refine .takeO 0 rfl .move (by kernel_rfl) ?_
  refine .takeO 1 rfl (.nilCheck rfl) (by kernel_rfl) ?_
  refine .takeO 2 rfl (.fieldAddr rfl) (by kernel_rfl) ?_
  refine .takeO 3 rfl (.load1 rfl) (by kernel_rfl) ?_
  refine .takeO 4 rfl (.loadA rfl) (by kernel_rfl) ?_
  refine .takeO 5 rfl (.lookupE (h.mono fun b o hb => .inl hb).mr rfl rfl (key := k) hlk) (by kernel_rfl) ?_
  refine .takeO 6 rfl .move (by kernel_rfl) ?_
  refine .takeO 9 rfl .move (by kernel_rfl) ?_
  refine RA.step 7 rfl (by kernel_rfl) rfl ?_
  refine TriOps.callN (at_spec _ (frows (fun x => x.t.sub) k ps) r _ hF.rx (fun p hp => (h.pr p (List.mem_filter.1 hp).1).mono fun b o hb => .inl hb) (by omega)) (fun u T1 hu => ?_)
  obtain ⟨ys, hY, hyp, hyo⟩ := hu
  have iu := hY.oneCell
  have hyl : ys.length ≤ 4096 := by
    rw [hyp.length_eq, List.length_map]
    exact Nat.le_trans (List.length_filter_le _ _) hFl
  have hyL : ys = (L.filter fun x => x.there r && decide (x.t.sub = k)).map (·.t) := hL.at_ (by
    refine hyp.trans (.of_eq ?_)
    rw [← h.eq, List.filter_map, List.map_map]
    unfold frows
    rw [List.filter_filter]; rfl) hyo
  refine .nil (Next.sub ?_)
  refine .takeO 8 rfl (.lenO hY) (by kernel_rfl) ?_
  refine RA.nil (by kernel_rfl) ?_
  refine seqQ_n ?_
  refine .block ?_
  refine .loop (X := Nat × Value × Seg) (fun y => y.1 ≤ ys.length ∧ OS 34 4 Sub.enc y.2.1 ((ys.take y.1).map fun t => (⟨⟨#[]⟩, t.os, t.oi, t.rel⟩ : Sub)) y.2.2) (fun y => [(7, y.2.1), (21, u), (22, .int .i64 (ys.length : Nat)), (23, .int .i64 (y.1 : Nat))]) (fun y => [T1, y.2.2]) (fun y => ys.length - y.1) (0, .slice none 0 0, []) ⟨Nat.zero_le _, OS.nil⟩ (((((EnvLe.nil _).cons rfl).cons rfl).cons rfl).cons rfl) (HLe.pick [0, 1] _) ?_
  rintro ⟨i, vo, To⟩ ⟨hi, hO⟩
  simp only at hi hO ⊢
  have io := hO.oneCell
  refine .seq (.region ?_)
  refine .q .lss ?_
  refine .nil (seqQ_n ?_)
  refine .seq ?_
  refine .cond rfl (fun h2 => ?_) (fun h2 => ?_)
  have hlt : i < ys.length := by have := of_decide_eq_true h2; omega
  obtain ⟨x, hx⟩ : ∃ x, ys[i]? = some x := ⟨_, List.getElem?_eq_getElem hlt⟩
  have htk : ys.take (i + 1) = ys.take i ++ [x] := by rw [List.take_add_one, hx]; rfl
  refine .skip ?_
  refine seqQ_n ?_
  refine .seq ?_
  refine .block ?_
  refine .seq (.region ?_)
  refine TriOps.indexO i hY hx (fun p25 => ?_)
  refine .q (.loadA rfl) ?_
  refine TriOps.allocA (fun b9 => ?_)
  refine TriOps.storeA rfl rfl ?_
  refine .nil (seqQ_n ?_)
  refine .region ?_
  refine .q .move ?_
  refine .q (.fieldAddr rfl) ?_
  refine .q (.loadT rfl) ?_
  refine .q (.fieldAddr rfl) ?_
  refine .q (.load1 rfl) ?_
  refine .q .bld ?_
  refine TriOps.buildSlice1A (fun b33 => ?_)
  refine TriOps.append hO (RS.lits (xs := [(⟨⟨#[]⟩, x.os, x.oi, x.rel⟩ : Sub)]) rfl (by simp [Sub.enc]) (by simp [Sub.enc, oneCell])) (by simp only [List.length_singleton, List.length_map, List.length_take]; omega) (fun v5 T5 hO5 => ?_)
  refine .q .assign ?_
  refine .nil ?_
  refine blkQ_n (seqQ_n ?_)
  refine .region ?_
  refine .q (.i64 ((i + 1 : Nat) : Int) .add ⟨by omega, by omega, by omega⟩) ?_
  refine .q .move ?_
  refine .nil ?_
  · exact loopQ_i (i + 1, v5, T5) ⟨hlt, by simp only; rw [htk, List.map_append]; exact hO5⟩ (by simp only; omega) (((((EnvLe.nil _).cons rfl).cons rfl).cons rfl).cons rfl) (HLe.pick [2, 2] _)
  refine .exit (seqQ_x (loopQ_x (blkQ_x ?_)))
  refine seqQ_n ?_
  refine .seq (.region ?_)
  refine .q .move ?_
  refine .q .assign ?_
  refine .nil (seqQ_n ?_)
  refine .ret (retQ_r _ (.one (.tmp rfl)) ((HLe.pick [1] _)) ?_)
  · have hie : i = ys.length := by have := of_decide_eq_false h2; omega
    subst hie
    rw [List.take_length, hyL, List.map_map] at hO
    exact ⟨To, by simp [take, dropAt], by rw [hsc]; exact hO⟩
section
variable {R : Rds} {g b : Nat} {S : Sto} {ps : List RB} {vf vr vL : Value} {Mf : List (Obr × (Value × Seg))} {Mr : List (Sub × (Value × Seg))} {L : List SRow}
theorem lrows_spec (h : SV R g S ps vf vr Mf Mr) (hS : SOK S) (hD : DV R b S vL L) (hL : RL S L) : Spec Tryz.prog 12 [.pointer (some ⟨g, 0, none⟩), .pointer (some ⟨b, 0, none⟩)] R [] fun u H' => u = .bool true ∧ H' = [] := by
  have pcd := hD.pc
  have ivl := hD.rs.oneCell
  obtain ⟨pv, kv_, rfl⟩ := hD.rs.val
  have hrs := hD.rs
  refine Spec.body Tryz.func12 rfl Tryz.results12 Tryz.ntmps12 rfl ?_
  refine .seq (.region ?_)
  refine .q .assign ?_
  refine .nil (seqQ_n ?_)
  refine .seq (.region ?_)
  refine .q .move ?_
  refine TriOps.callN (rows_spec (h.mono fun b o hb => .inl hb) hS.len) (fun u T hu => ?_)
  obtain ⟨ys, hO, hyp, hyo⟩ := hu
  have iu := hO.oneCell
  have hyL : ys = L := RL.uniq ⟨hyp, hS.strict hyp hyo⟩ hL
  subst hyL
  have hle5 := hO.le
  refine .q .assign ?_
  refine .nil (seqQ_n ?_)
  refine .seq ?_
  refine .seq ?_
  refine .region_all [] mixed ?_
  refine .takeO 0 rfl .move (by kernel_rfl) ?_
  refine .takeO 1 rfl (.lenO hO) (by kernel_rfl) ?_
  refine .takeO 2 rfl .move (by kernel_rfl) ?_
  refine .takeO 3 rfl (.nilCheck rfl) (by kernel_rfl) ?_
  refine .takeO 4 rfl (.fieldAddr rfl) (by kernel_rfl) ?_
  refine .takeO 5 rfl (.load1 rfl) (by kernel_rfl) ?_
  refine .takeO 6 rfl (.lenR hrs) (by kernel_rfl) ?_
  refine .takeO 7 rfl .neI (by kernel_rfl) ?_
  refine .takeO 8 rfl .move (by kernel_rfl) ?_
  refine RA.split (t := 17) rfl (fun g2_8 => ?_) (fun g2_8 => ?_)
  · simp at g2_8
  refine .takeGhO 9 rfl rfl g2_8 .move (by kernel_rfl) ?_
  refine .takeGhO 11 rfl rfl g2_8 .move (by kernel_rfl) ?_
  refine .takeGhO 12 rfl rfl g2_8 (.nilCheck rfl) (by kernel_rfl) ?_
  refine .takeGhO 13 rfl rfl g2_8 (.fieldAddr rfl) (by kernel_rfl) ?_
  refine .takeGhO 14 rfl rfl g2_8 (.load1 rfl) (by kernel_rfl) ?_
  refine RA.step 10 rfl (by kernel_rfl) rfl ?_
  refine TriOps.gT g2_8 ?_
  refine TriOps.callR (h.mono fun b o hb => .inl hb).head (fun v hv => ?_)
  subst hv
  refine .nil (Next.sub ?_)
  refine .takeGhO 15 rfl rfl g2_8 .neI (by kernel_rfl) ?_
  refine .takeO 16 rfl (.pickFh g2_8) (by kernel_rfl) ?_
  refine .takeO 17 rfl .move (by kernel_rfl) ?_
  refine RA.split (t := 26) rfl (fun g2_17 => ?_) (fun g2_17 => ?_)
  · simp at g2_17
  refine .takeGhO 18 rfl rfl g2_17 .move (by kernel_rfl) ?_
  refine .takeGhO 20 rfl rfl g2_17 .move (by kernel_rfl) ?_
  refine .takeGhO 21 rfl rfl g2_17 (.nilCheck rfl) (by kernel_rfl) ?_
  refine .takeGhO 22 rfl rfl g2_17 (.fieldAddr rfl) (by kernel_rfl) ?_
  refine .takeGhO 23 rfl rfl g2_17 (.load1 rfl) (by kernel_rfl) ?_
  refine RA.step 19 rfl (by kernel_rfl) rfl ?_
  refine TriOps.gT g2_17 ?_
  refine TriOps.callR (h.mono fun b o hb => .inl hb).horizon (fun v hv => ?_)
  subst hv
  refine .nil (Next.sub ?_)
  refine .takeGhO 24 rfl rfl g2_17 .neI (by kernel_rfl) ?_
  refine .takeO 25 rfl (.pickFh g2_17) (by kernel_rfl) ?_
  refine RA.nil (by kernel_rfl) ?_
  refine seqQ_n ?_
  refine .cond rfl (fun h1 => ?_) (fun h1 => ?_)
  · simp at h1
  refine .skip ?_
  refine seqQ_n ?_
  refine .seq ?_
  refine .seq (.region ?_)
  refine .q .assign ?_
  refine .nil (seqQ_n ?_)
  refine .block ?_
  refine .loop (X := Nat) (fun i => i ≤ ys.length) (fun i => [(1, .pointer (some ⟨b, 0, none⟩)), (5, u), (6, .int .i64 (i : Nat))]) (fun _ => [T]) (fun i => ys.length - i) 0 (Nat.zero_le _) ((((EnvLe.nil _).cons rfl).cons rfl).cons rfl) (HLe.refl _) ?_
  rintro i hi
  refine .seq ?_
  refine .seq (.region ?_)
  refine .q .move ?_
  refine .q .move ?_
  refine .q (.lenO hO) ?_
  refine .q .lss ?_
  refine .nil (seqQ_n ?_)
  refine .cond rfl (fun h2 => ?_) (fun h2 => ?_)
  have hlt : i < ys.length := by have := of_decide_eq_true h2; omega
  obtain ⟨x, hx⟩ : ∃ x, ys[i]? = some x := ⟨_, List.getElem?_eq_getElem hlt⟩
  refine .skip ?_
  refine seqQ_n ?_
  refine .seq ?_
  refine .block ?_
  refine .seq ?_
  refine .region_still mixed (by kernel_rfl) ?_
  refine .q .move ?_
  refine .q .move ?_
  refine TriOps.indexO i hO hx (fun p43 => ?_)
  refine .q (.fieldAddr rfl) ?_
  refine .q (.loadT rfl) ?_
  refine .q .move ?_
  refine .q (.nilCheck rfl) ?_
  refine .q (.fieldAddr rfl) ?_
  refine .q (.load1 rfl) ?_
  refine .q .move ?_
  refine TriOps.indexR i hrs hx (fun p51 => ?_)
  refine .q (.fieldAddr rfl) ?_
  refine .q (.loadT rfl) ?_
  refine .q (.neA rfl rfl (Tpl.kinds x.t) (Tpl.kinds x.t)) ?_
  rw [show cellsEq (List.take 7 (List.drop 0 x.enc)) (List.take 7 (List.drop 0 x.enc)) = decide (x.t = x.t) from Tpl.eq x.t x.t]
  refine .q .move ?_
  refine TriOps.split (t := 55) rfl (fun g7_14 => ?_) (fun g7_14 => ?_)
  · simp at g7_14
  refine TriOps.gT g7_14 ?_
  refine .q .move ?_
  refine TriOps.gT g7_14 ?_
  refine .q .move ?_
  refine TriOps.gT g7_14 ?_
  refine TriOps.indexO i hO hx (fun p58 => ?_)
  refine TriOps.gT g7_14 ?_
  refine .q (.fieldAddr rfl) ?_
  refine TriOps.gT g7_14 ?_
  refine .q (.load1 rfl) ?_
  refine TriOps.gT g7_14 ?_
  refine .q .move ?_
  refine TriOps.gT g7_14 ?_
  refine .q (.nilCheck rfl) ?_
  refine TriOps.gT g7_14 ?_
  refine .q (.fieldAddr rfl) ?_
  refine TriOps.gT g7_14 ?_
  refine .q (.load1 rfl) ?_
  refine TriOps.gT g7_14 ?_
  refine .q .move ?_
  refine TriOps.gT g7_14 ?_
  refine TriOps.indexR i hrs hx (fun p66 => ?_)
  refine TriOps.gT g7_14 ?_
  refine .q (.fieldAddr rfl) ?_
  refine TriOps.gT g7_14 ?_
  refine .q (.load1 rfl) ?_
  refine TriOps.gT g7_14 ?_
  refine .q .neI ?_
  refine .q (.pickFh g7_14) ?_
  refine .q .move ?_
  refine TriOps.split (t := 71) rfl (fun g7_30 => ?_) (fun g7_30 => ?_)
  · simp at g7_30
  refine TriOps.gT g7_30 ?_
  refine .q .move ?_
  refine TriOps.gT g7_30 ?_
  refine .q .move ?_
  refine TriOps.gT g7_30 ?_
  refine TriOps.indexO i hO hx (fun p74 => ?_)
  refine TriOps.gT g7_30 ?_
  refine .q (.fieldAddr rfl) ?_
  refine TriOps.gT g7_30 ?_
  refine .q (.load1 rfl) ?_
  refine TriOps.gT g7_30 ?_
  refine .q .move ?_
  refine TriOps.gT g7_30 ?_
  refine .q (.nilCheck rfl) ?_
  refine TriOps.gT g7_30 ?_
  refine .q (.fieldAddr rfl) ?_
  refine TriOps.gT g7_30 ?_
  refine .q (.load1 rfl) ?_
  refine TriOps.gT g7_30 ?_
  refine .q .move ?_
  refine TriOps.gT g7_30 ?_
  refine TriOps.indexR i hrs hx (fun p82 => ?_)
  refine TriOps.gT g7_30 ?_
  refine .q (.fieldAddr rfl) ?_
  refine TriOps.gT g7_30 ?_
  refine .q (.load1 rfl) ?_
  refine TriOps.gT g7_30 ?_
  refine .q .neI ?_
  refine .q (.pickFh g7_30) ?_
  refine .nil (seqQ_n ?_)
  refine .cond rfl (fun h3 => ?_) (fun h3 => ?_)
  · simp at h3
  refine .skip ?_
  refine blkQ_n (seqQ_n ?_)
  refine .region ?_
  refine .q .move ?_
  refine .q (.i64 ((i + 1 : Nat) : Int) .add ⟨by omega, by omega, by omega⟩) ?_
  refine .q .assign ?_
  refine .nil ?_
  · exact loopQ_i (i + 1) hlt (by omega) ((((EnvLe.nil _).cons rfl).cons rfl).cons rfl) (HLe.refl _)
  refine .exit (seqQ_x (loopQ_x (blkQ_x ?_)))
  refine seqQ_n ?_
  refine .seq (.region ?_)
  refine .q .assign ?_
  refine .nil (seqQ_n ?_)
  refine .ret (retQ_r _ (.one (.tmp rfl)) (.none _) ?_)
  · exact ⟨rfl, rfl⟩
theorem asks_spec (h : SV R g S ps vf vr Mf Mr) (hS : SOK S) (hD : DV R b S vL L) (hL : RL S L) (c : SCall) (hc : c.is R) : Spec Tryz.prog 13 [.pointer (some ⟨g, 0, none⟩), .pointer (some ⟨b, 0, none⟩), .agg c.enc.toArray] R [] fun u H' => u = .bool true ∧ H' = [] := by
  have hll : L.length ≤ 5000 := by have := hS.len; rw [hL.pm.length_eq]; omega
  have ic := hc.ones
  obtain ⟨kd, wm, wn, wc, f, rev, must, no, ss⟩ := c
  have hch : RS R 8 Chg.enc wc ss := hc.hc
  have hm : RS R 7 Tpl.enc wm must := hc.hm
  have hno : RS R 7 Tpl.enc wn no := hc.hn
  have hle := hch.le
  obtain ⟨pm, km, rfl⟩ := hm.val
  obtain ⟨pn, kn, rfl⟩ := hno.val
  obtain ⟨pc, kc, rfl⟩ := hch.val
  have ien : Ones (SCall.enc ⟨kd, .slice pm must.length km, .slice pn no.length kn, .slice pc ss.length kc, f, rev, must, no, ss⟩) := hc.ones
  refine Spec.body Tryz.func13 rfl Tryz.results13 Tryz.ntmps13 rfl ?_
  refine .seq (.region ?_)
  refine TriOps.boxA rfl (fun b5 => ?_)
  refine .q .assign ?_
  refine .nil (seqQ_n ?_)
  refine .seq (.region ?_)
  refine .q .move ?_
  refine .q (.fieldAddr rfl) ?_
  refine .q (.loadT rfl) ?_
  refine .q (.fieldAddr rfl) ?_
  refine .q (.load1 rfl) ?_
  refine TriOps.callN (read_spec (h.mono fun b o hb => .inl hb) hS.len f rev) (fun u T1 hu => ?_)
  obtain ⟨w, ys, rfl, hO1, hy⟩ := hu
  have i1 := hO1.oneCell
  refine .q .move ?_
  refine .q .extract ?_
  refine .q .extract ?_
  refine .q .assign ?_
  refine .q .assign ?_
  refine .nil (seqQ_n ?_)
  refine .seq (.region ?_)
  refine .q .move ?_
  refine .q (.fieldAddr rfl) ?_
  refine .q (.loadT rfl) ?_
  refine .q (.fieldAddr rfl) ?_
  refine .q (.load1 rfl) ?_
  refine TriOps.callN ((hD.mono fun b o hb => .inl hb).read hll f rev) (fun u T2 hu => ?_)
  obtain ⟨w2, rfl, hO2⟩ := hu
  have i2 := hO2.oneCell
  rw [← hL.read hy] at hO2
  refine .q .move ?_
  refine .q .extract ?_
  refine .q .extract ?_
  refine .q .assign ?_
  refine .q .assign ?_
  refine .nil (seqQ_n ?_)
  refine .seq ?_
  refine .seq (.region ?_)
  refine .q .move ?_
  refine .q .move ?_
  refine TriOps.callR (same11_spec _ _ ys ys _ hO1.rx hO2.rx) (fun v hv => ?_)
  subst hv
  rw [decide_eq_true rfl]
  refine .q .not ?_
  refine .q .move ?_
  refine TriOps.gt rfl ?_
  refine .q .move ?_
  refine TriOps.gt rfl ?_
  refine .q .move ?_
  refine TriOps.gt rfl ?_
  refine .q .neI ?_
  refine .q .pickF ?_
  refine .nil (seqQ_n ?_)
  refine .cond rfl (fun h1 => ?_) (fun h1 => ?_)
  · simp at h1
  refine .skip ?_
  refine seqQ_n ?_
  refine .seq ?_
  refine .seq (.region ?_)
  refine .q .assign ?_
  refine .nil (seqQ_n ?_)
  refine .block ?_
  refine .loop (X := Nat) (fun i => i ≤ ss.length) (fun i => [(0, .pointer (some ⟨g, 0, none⟩)), (1, .pointer (some ⟨b, 0, none⟩)), (5, .pointer (some ⟨b5, 0, none⟩)), (11, .int .i64 (i : Nat))]) (fun _ => [[(b5, .cells (SCall.enc ⟨kd, .slice pm must.length km, .slice pn no.length kn, .slice pc ss.length kc, f, rev, must, no, ss⟩).toArray 31 (0, 0))]]) (fun i => ss.length - i) 0 (Nat.zero_le _) (((((EnvLe.nil _).cons rfl).cons rfl).cons rfl).cons rfl) (HLe.pick [2] _) ?_
  rintro i hi
  refine .seq ?_
  refine .seq (.region ?_)
  refine .q .move ?_
  refine .q (.fieldAddr rfl) ?_
  refine .q (.load1 rfl) ?_
  refine .q (.lenR hch) ?_
  refine .q .lss ?_
  refine .nil (seqQ_n ?_)
  refine .cond rfl (fun h2 => ?_) (fun h2 => ?_)
  have hlt : i < ss.length := by have := of_decide_eq_true h2; omega
  obtain ⟨e, he⟩ : ∃ x, ss[i]? = some x := ⟨_, List.getElem?_eq_getElem hlt⟩
  refine .skip ?_
  refine seqQ_n ?_
  refine .seq ?_
  refine .block ?_
  refine .seq (.region ?_)
  refine .q (.fieldAddr rfl) ?_
  refine .q (.load1 rfl) ?_
  refine .q .move ?_
  refine TriOps.indexR i hch he (fun p50 => ?_)
  refine .q (.fieldAddr rfl) ?_
  refine .q (.loadT rfl) ?_
  refine TriOps.allocA (fun b12 => ?_)
  refine TriOps.storeA rfl rfl ?_
  refine .nil (seqQ_n ?_)
  refine .seq ?_
  refine .region_all [] mixed ?_
  refine .takeO 0 rfl .move (by kernel_rfl) ?_
  refine .takeO 1 rfl (.loadA rfl) (by kernel_rfl) ?_
  refine .takeO 2 rfl (.fieldAddr rfl) (by kernel_rfl) ?_
  refine .takeO 3 rfl (.load1 rfl) (by kernel_rfl) ?_
  refine .takeO 5 rfl .move (by kernel_rfl) ?_
  refine .takeO 6 rfl (.loadA rfl) (by kernel_rfl) ?_
  refine .takeO 7 rfl (.fieldAddr rfl) (by kernel_rfl) ?_
  refine .takeO 8 rfl (.load1 rfl) (by kernel_rfl) ?_
  refine RA.step 4 rfl (by kernel_rfl) rfl ?_
  refine TriOps.callR (has_spec (h.mono fun b o hb => .inl hb) e.t rev) (fun v hv => ?_)
  subst hv
  refine .nil (Next.sub ?_)
  refine RA.step 9 rfl (by kernel_rfl) rfl ?_
  refine TriOps.callR ((hD.mono fun b o hb => .inl hb).has hL e.t rev) (fun v hv => ?_)
  subst hv
  refine .nil (Next.sub ?_)
  refine .takeO 10 rfl .neB (by kernel_rfl) ?_
  refine .takeO 11 rfl .move (by kernel_rfl) ?_
  refine RA.split (t := 64) rfl (fun g9_11 => ?_) (fun g9_11 => ?_)
  · simp at g9_11
  refine .takeGhO 12 rfl rfl g9_11 .move (by kernel_rfl) ?_
  refine .takeGhO 13 rfl rfl g9_11 (.fieldAddr rfl) (by kernel_rfl) ?_
  refine .takeGhO 14 rfl rfl g9_11 (.loadT rfl) (by kernel_rfl) ?_
  refine .takeGhO 15 rfl rfl g9_11 (.fieldAddr rfl) (by kernel_rfl) ?_
  refine .takeGhO 16 rfl rfl g9_11 (.load1 rfl) (by kernel_rfl) ?_
  refine .takeGhO 17 rfl rfl g9_11 (.fieldAddr rfl) (by kernel_rfl) ?_
  refine .takeGhO 18 rfl rfl g9_11 (.load1 rfl) (by kernel_rfl) ?_
  refine .takeGhO 20 rfl rfl g9_11 .move (by kernel_rfl) ?_
  refine .takeGhO 21 rfl rfl g9_11 (.fieldAddr rfl) (by kernel_rfl) ?_
  refine .takeGhO 22 rfl rfl g9_11 (.loadT rfl) (by kernel_rfl) ?_
  refine .takeGhO 23 rfl rfl g9_11 (.fieldAddr rfl) (by kernel_rfl) ?_
  refine .takeGhO 24 rfl rfl g9_11 (.load1 rfl) (by kernel_rfl) ?_
  refine .takeGhO 25 rfl rfl g9_11 (.fieldAddr rfl) (by kernel_rfl) ?_
  refine .takeGhO 26 rfl rfl g9_11 (.load1 rfl) (by kernel_rfl) ?_
  refine RA.step 19 rfl (by kernel_rfl) rfl ?_
  refine TriOps.gT g9_11 ?_
  refine TriOps.callN (SV.subs (h.mono fun b o hb => .inl hb) hS.len e.t.obr rev hL) (fun u T3 hO3 => ?_)
  have i3 := hO3.oneCell
  refine .nil (Next.sub ?_)
  refine RA.step 27 rfl (by kernel_rfl) rfl ?_
  refine TriOps.gT g9_11 ?_
  refine TriOps.callN ((hD.mono fun b o hb => .inl hb).subjects hll e.t.obr rev) (fun u T4 hO4 => ?_)
  have i4 := hO4.oneCell
  refine .nil (Next.sub ?_)
  refine RA.step 28 rfl (by kernel_rfl) rfl ?_
  refine TriOps.gT g9_11 ?_
  refine TriOps.callR (sameSubs_spec _ _ _ _ _ hO3.rx hO4.rx) (fun v hv => ?_)
  subst hv
  rw [decide_eq_true rfl]
  refine .nil (Next.sub ?_)
  refine .takeGhO 29 rfl rfl g9_11 .not (by kernel_rfl) ?_
  refine .takeO 30 rfl (.pickFh g9_11) (by kernel_rfl) ?_
  refine .takeO 31 rfl .move (by kernel_rfl) ?_
  refine .takeGO 32 rfl rfl .move (by kernel_rfl) ?_
  refine .takeGO 33 rfl rfl (.fieldAddr rfl) (by kernel_rfl) ?_
  refine .takeGO 34 rfl rfl (.loadT rfl) (by kernel_rfl) ?_
  refine .takeGO 35 rfl rfl (.fieldAddr rfl) (by kernel_rfl) ?_
  refine .takeGO 36 rfl rfl (.load1 rfl) (by kernel_rfl) ?_
  refine .takeGO 38 rfl rfl .move (by kernel_rfl) ?_
  refine .takeGO 39 rfl rfl (.fieldAddr rfl) (by kernel_rfl) ?_
  refine .takeGO 40 rfl rfl (.loadT rfl) (by kernel_rfl) ?_
  refine .takeGO 41 rfl rfl (.fieldAddr rfl) (by kernel_rfl) ?_
  refine .takeGO 42 rfl rfl (.load1 rfl) (by kernel_rfl) ?_
  refine RA.step 37 rfl (by kernel_rfl) rfl ?_
  refine TriOps.gt rfl ?_
  refine TriOps.callN (SV.sets (h.mono fun b o hb => .inl hb) hS.len e.t.sub rev hL) (fun u T5 hO5 => ?_)
  have i5 := hO5.oneCell
  refine .nil (Next.sub ?_)
  refine RA.step 43 rfl (by kernel_rfl) rfl ?_
  refine TriOps.gt rfl ?_
  refine TriOps.callN ((hD.mono fun b o hb => .inl hb).sets hll e.t.sub rev) (fun u T6 hO6 => ?_)
  have i6 := hO6.oneCell
  refine .nil (Next.sub ?_)
  refine RA.step 44 rfl (by kernel_rfl) rfl ?_
  refine TriOps.gt rfl ?_
  refine TriOps.callR (sameSubs_spec _ _ _ _ _ hO5.rx hO6.rx) (fun v hv => ?_)
  subst hv
  rw [decide_eq_true rfl]
  refine .nil (Next.sub ?_)
  refine .takeGO 45 rfl rfl .not (by kernel_rfl) ?_
  refine .takeO 46 rfl .pickF (by kernel_rfl) ?_
  refine RA.nil (by kernel_rfl) ?_
  refine seqQ_n ?_
  refine .condF ?_
  refine .skip ?_
  refine blkQ_n (seqQ_n ?_)
  refine .region ?_
  refine .q .move ?_
  refine .q (.i64 ((i + 1 : Nat) : Int) .add ⟨by omega, by omega, by omega⟩) ?_
  refine .q .assign ?_
  refine .nil ?_
  · exact loopQ_i (i + 1) hlt (by omega) (((((EnvLe.nil _).cons rfl).cons rfl).cons rfl).cons rfl) (HLe.pick [5] _)
  refine .exit (seqQ_x (loopQ_x (blkQ_x ?_)))
  refine seqQ_n ?_
  refine .seq (.region ?_)
  refine .q .assign ?_
  refine .nil (seqQ_n ?_)
  refine .ret (retQ_r _ (.one (.tmp rfl)) (.none _) ?_)
  · exact ⟨rfl, rfl⟩
end
end Go.Proofs.YtkepgbimlolemaaGreat
set_option linter.unusedVariables false
set_option linter.unusedSimpArgs false
set_option maxRecDepth 4000
namespace Go.Proofs.YtkepgbimlolemaaGreat
theorem sloads_spec (v : Value) (xs0 : List SRow) (head hor : Int) (c : SCall) (R : Rds) (h0_ : RS R 9 SRow.enc v xs0) (hf0 : ∀ x ∈ xs0, x.t.fits) (hh0 : 0 ≤ hor) (hc : c.is R) :
    Spec Tryz.prog 3 [v, .int .u64 head, .int .u64 hor, .agg c.enc.toArray] R [] fun u H' => u = .bool true ∧ H' = [] := by
  have ic := hc.ones
  obtain ⟨pv, kv_, rfl⟩ := h0_.val
  refine Spec.body Tryz.func3 rfl Tryz.results3 Tryz.ntmps3 rfl ?_
  refine .seq (.region ?_)
  refine TriOps.boxA rfl (fun b7 => ?_)
  refine .q .assign ?_
  refine .nil (seqQ_n ?_)
  refine .seq ?_
  refine .seq (.region ?_)
  refine .q .move ?_
  refine .q (.lenR h0_) ?_
  refine .q .gtr ?_
  refine .nil (seqQ_n ?_)
  refine Tri.cut (X := Value × List SRow) (fun y => RS R 9 SRow.enc y.1 y.2 ∧ (∀ x ∈ y.2, x.t.fits) ∧ y.2.length ≤ 20) (fun y => [(0, y.1), (1, .int .u64 head), (2, .int .u64 hor), (7, .pointer (some ⟨b7, 0, none⟩))]) (fun y => [[(b7, .cells c.enc.toArray 31 (0, 0))]]) ?_ ?_
  refine .cond rfl (fun h1 => ?_) (fun h1 => ?_)
  refine .region ?_
  refine .q .move ?_
  refine TriOps.sliceR (R' := R) 0 20 h0_ rfl ⟨_, rfl⟩ (by omega) (by have := of_decide_eq_true h1; omega) (fun v2 hv2 => ?_)
  have iv2 := hv2.oneCell
  refine .q .assign ?_
  refine .nil ?_
  · first
      | exact joinQ_n (v2, (xs0.drop 0).take (20 - 0)) ⟨hv2, fun x hx => hf0 x (List.mem_of_mem_drop (List.mem_of_mem_take hx)), by simp; omega⟩ (((((EnvLe.nil _).cons rfl).cons rfl).cons rfl).cons rfl) (HLe.refl _)
      | exact joinQ_n (.slice pv xs0.length kv_, xs0) ⟨h0_, hf0, by have := of_decide_eq_false h1; simp only; omega⟩ (((((EnvLe.nil _).cons rfl).cons rfl).cons rfl).cons rfl) (HLe.refl _)
  refine .skip ?_
  · first
      | exact joinQ_n (v2, (xs0.drop 0).take (20 - 0)) ⟨hv2, fun x hx => hf0 x (List.mem_of_mem_drop (List.mem_of_mem_take hx)), by simp; omega⟩ (((((EnvLe.nil _).cons rfl).cons rfl).cons rfl).cons rfl) (HLe.refl _)
      | exact joinQ_n (.slice pv xs0.length kv_, xs0) ⟨h0_, hf0, by have := of_decide_eq_false h1; simp only; omega⟩ (((((EnvLe.nil _).cons rfl).cons rfl).cons rfl).cons rfl) (HLe.refl _)
  intro x hx
  obtain ⟨vx, xs⟩ := x
  obtain ⟨hX, hf, hxl⟩ := hx
  simp only at hX hf hxl ⊢
  obtain ⟨px, kx_, rfl⟩ := hX.val
  refine seqQ_n ?_
  refine .seq (.region ?_)
  refine .q .assign ?_
  refine .nil (seqQ_n ?_)
  refine .seq ?_
  refine .seq (.region ?_)
  refine .q .assign ?_
  refine .nil (seqQ_n ?_)
  refine .block ?_
  refine .loop (X := Nat × Value × Seg) (fun y => y.1 ≤ xs.length ∧ OS 39 9 SRow.enc y.2.1 (xs.take y.1) y.2.2) (fun y => [(0, .slice px xs.length kx_), (1, .int .u64 head), (2, .int .u64 hor), (7, .pointer (some ⟨b7, 0, none⟩)), (9, y.2.1), (10, .int .i64 (y.1 : Nat))]) (fun y => [[(b7, .cells c.enc.toArray 31 (0, 0))], y.2.2]) (fun y => xs.length - y.1) (0, .slice none 0 0, []) ⟨Nat.zero_le _, OS.nil⟩ (((((((EnvLe.nil _).cons rfl).cons rfl).cons rfl).cons rfl).cons rfl).cons rfl) (HLe.refl _) ?_
  rintro ⟨i, vo, To⟩ ⟨hi, hO⟩
  simp only at hi hO ⊢
  have io := hO.oneCell
  refine .seq ?_
  refine .seq (.region ?_)
  refine .q .move ?_
  refine .q .move ?_
  refine .q (.lenR hX) ?_
  refine .q .lss ?_
  refine .nil (seqQ_n ?_)
  refine .cond rfl (fun h2 => ?_) (fun h2 => ?_)
  have hlt : i < xs.length := by have := of_decide_eq_true h2; omega
  obtain ⟨x, hx⟩ : ∃ x, xs[i]? = some x := ⟨_, List.getElem?_eq_getElem hlt⟩
  have htk : xs.take (i + 1) = xs.take i ++ [x] := by rw [List.take_add_one, hx]; rfl
  have pxi := hX.pc hx
  refine .skip ?_
  refine seqQ_n ?_
  refine .seq ?_
  refine .block ?_
  refine .region_all [18] mixed ?_
  refine .takeO 0 rfl .move (by kernel_rfl) ?_
  refine .takeO 1 rfl .move (by kernel_rfl) ?_
  refine .takeO 2 rfl .move (by kernel_rfl) ?_
  refine .takeO 3 rfl (.indexR i hX hx rfl rfl rfl) (by kernel_rfl) ?_
  refine .takeO 4 rfl (.fieldAddr rfl) (by kernel_rfl) ?_
  refine .takeO 5 rfl (.loadT rfl) (by kernel_rfl) ?_
  refine .takeO 6 rfl .move (by kernel_rfl) ?_
  refine .takeO 7 rfl .move (by kernel_rfl) ?_
  refine .takeO 8 rfl (.indexR i hX hx rfl rfl rfl) (by kernel_rfl) ?_
  refine .takeO 9 rfl (.fieldAddr rfl) (by kernel_rfl) ?_
  refine .takeO 10 rfl (.load1 rfl) (by kernel_rfl) ?_
  refine .takeO 11 rfl .move (by kernel_rfl) ?_
  refine .takeO 12 rfl .move (by kernel_rfl) ?_
  refine .takeO 13 rfl (.indexR i hX hx rfl rfl rfl) (by kernel_rfl) ?_
  refine .takeO 14 rfl (.fieldAddr rfl) (by kernel_rfl) ?_
  refine .takeO 15 rfl (.load1 rfl) (by kernel_rfl) ?_
  refine .takeO 16 rfl .bld (by kernel_rfl) ?_
  refine RA.step 17 rfl (by kernel_rfl) rfl ?_
  refine TriOps.buildSlice1A (fun b43 => ?_)
  refine .nil (Next.sub ?_)
  refine RA.step 18 rfl (by kernel_rfl) rfl ?_
  refine TriOps.append hO (RS.lits (xs := [x]) rfl (by simp [SRow.enc, Tpl.enc]) (by simp [SRow.enc, Tpl.enc, oneCell])) (by simp; omega) (fun v5 T5 hO5 => ?_)
  refine .nil (Next.mod rfl ?_)
  refine .take 19 rfl .assign (by kernel_rfl) ?_
  refine RA.nil (by kernel_rfl) ?_
  refine blkQ_n (seqQ_n ?_)
  refine .region ?_
  refine .q .move ?_
  refine .q (.i64 ((i + 1 : Nat) : Int) .add ⟨by omega, by omega, by omega⟩) ?_
  refine .q .assign ?_
  refine .nil ?_
  · exact loopQ_i (i + 1, v5, T5) ⟨hlt, by simp only; rw [htk]; exact hO5⟩ (by simp only; omega) (((((((EnvLe.nil _).cons rfl).cons rfl).cons rfl).cons rfl).cons rfl).cons rfl) (HLe.pick [1, 1] _)
  have hie : i = xs.length := by have := of_decide_eq_false h2; omega
  subst hie
  rw [List.take_length] at hO
  refine .exit (seqQ_x (loopQ_x (blkQ_x ?_)))
  refine seqQ_n ?_
  refine .seq (.region ?_)
  refine .q .move ?_
  refine .q .move ?_
  refine .q .move ?_
  refine TriOps.callN (load_spec _ xs head hor _ hO.rx hf) (fun u T5 hu => ?_)
  obtain ⟨p, e, rfl, hu⟩ := hu
  have ip : One p := ⟨by rcases hu with ⟨_, _, g, rfl, _⟩ | ⟨_, _, rfl⟩ <;> rfl⟩
  refine .q .move ?_
  refine .q .extract ?_
  refine .q .extract ?_
  refine .q .assign ?_
  refine .q .assign ?_
  refine .nil (seqQ_n ?_)
  refine .seq ?_
  refine .seq (.region ?_)
  refine .q .move ?_
  refine .q .move ?_
  refine .q .move ?_
  refine TriOps.callR (rright_spec _ xs head hor _ hX.rx hf) (fun u hu2 => ?_)
  obtain ⟨β, rfl, hβ⟩ := hu2
  refine .q .not ?_
  refine .nil (seqQ_n ?_)
  refine .cond rfl (fun h3 => ?_) (fun h3 => ?_)
  have hno : ¬ rright xs head hor := fun hr => by rw [hβ.2 hr] at h3; cases h3
  obtain ⟨rfl, rfl⟩ : e = 4 ∧ p = .pointer none := by
    rcases hu with ⟨h, _⟩ | ⟨_, h1, h2⟩
    · exact absurd h hno
    · exact ⟨h1, h2⟩
  refine .seq (.region ?_)
  refine .q .move ?_
  refine .q (.eqNilA rfl rfl) ?_
  refine .q .move ?_
  refine TriOps.gt rfl ?_
  refine .q .move ?_
  refine TriOps.gt rfl ?_
  refine .q .eqI ?_
  refine .q .pickT ?_
  refine .q .move ?_
  refine TriOps.split (t := 63) rfl (fun g10_6 => ?_) (fun g10_6 => ?_)
  refine TriOps.gT g10_6 ?_
  refine TriOps.callR (lives12_spec _) (fun v hv => ?_)
  subst hv
  refine .q (.pickTh g10_6) ?_
  refine .q .assign ?_
  refine .nil (seqQ_n ?_)
  refine .ret (seqQ_r (retQ_r _ (.one (.tmp rfl)) (.none _) ?_))
  · exact ⟨rfl, rfl⟩
  · cases g10_6
  have hr : rright xs head hor := hβ.1 (by simpa using h3)
  obtain ⟨g, rfl, rfl, hI⟩ : ∃ g, e = 0 ∧ p = .pointer (some ⟨g, 0, none⟩) ∧ SI g ⟨xs, head, hor⟩ T5 := by
    rcases hu with ⟨_, h2, g, h3, h4⟩ | ⟨h1, _⟩
    · exact ⟨g, h2, h3, h4⟩
    · exact absurd hr h1
  have hS := SOK.load hr hh0
  have hL : RL ⟨xs, head, hor⟩ xs := ⟨.refl _, rright_strict hr⟩
  obtain ⟨ps, vf, vr, Mf, Mr, hV⟩ := hI.view (R := sg T5) fun p hp => hp
  refine .skip ?_
  refine seqQ_n ?_
  refine .seq (.region ?_)
  refine .q .assign ?_
  refine .nil (seqQ_n ?_)
  refine .seq (.region ?_)
  refine TriOps.sub (H' := [T5, [(b7, .cells c.enc.toArray 31 (0, 0))], To, []]) (HLe.ofPerm (by simp)) ?_
  refine .q .move ?_
  refine .q .move ?_
  refine TriOps.append (OS.nil (E := 38) (sz := 9) (enc := SRow.enc)) hX.rx (by simp; omega) (fun v6 T6 hO6 => ?_)
  have i6 := hO6.oneCell
  rw [List.nil_append] at hO6
  obtain ⟨p6, c6, rfl, _⟩ := hO6.shape
  refine .q .assign ?_
  refine .nil (seqQ_n ?_)
  refine .seq (.region ?_)
  refine .q .move ?_
  refine .q .move ?_
  refine .q .move ?_
  refine .q .bld ?_
  refine TriOps.boxA rfl (fun b73 => ?_)
  refine .q .assign ?_
  refine .nil (seqQ_n ?_)
  refine .seq (.region ?_)
  refine .q (.loadA rfl) ?_
  refine TriOps.buildSlice1A (fun b75 => ?_)
  refine TriOps.callN (few12_spec _ [c] 1 (by omega) _ R (RS.lits (enc := SCall.enc) (xs := [c]) rfl (by simp [SCall.enc, Tpl.enc]) (by have := ic.h; simpa using this)) (by simpa using hc)) (fun u Tc hu => ?_)
  obtain ⟨es, hO1, hes, hdl⟩ := hu
  obtain ⟨d, rfl⟩ : ∃ d, es = [d] := by
    match es, hdl with
    | [d], _ => exact ⟨d, rfl⟩
  obtain ⟨hdis, hfew⟩ := hes d (by simp)
  have idn := hdis.ones
  refine TriOps.indexO 0 hO1 (show [d][0]? = some d from rfl) (fun p77 => ?_)
  refine .q (.loadA rfl) ?_
  refine TriOps.storeA rfl rfl ?_
  refine .nil (seqQ_n ?_)
  refine .seq (.region ?_)
  refine .q .move ?_
  refine .q .eqI ?_
  refine .q .move ?_
  refine TriOps.split (t := 81) rfl (fun g15_2 => ?_) (fun g15_2 => ?_)
  refine TriOps.gT g15_2 ?_
  refine .q .move ?_
  refine TriOps.gT g15_2 ?_
  refine .q .move ?_
  refine TriOps.gT g15_2 ?_
  refine TriOps.callR (lrows_spec (b := b73) (S := ⟨xs, head, hor⟩) (hV.mono fun b o hb => .inr (by have hb' : (b, o) ∈ T5 := hb; simp [hb'])) hS ⟨PC.of (E := 48) (fr := (0, 0)) (.inr (by simp [setL])), hO6.rx⟩ hL) (fun v hv => ?_)
  subst hv
  refine .q (.pickTh g15_2) ?_
  refine .q .move ?_
  refine TriOps.gt rfl ?_
  refine .q .move ?_
  refine TriOps.gt rfl ?_
  refine .q .move ?_
  refine TriOps.gt rfl ?_
  refine .q (.loadA rfl) ?_
  refine TriOps.gt rfl ?_
  refine TriOps.callR (asks_spec (b := b73) (S := ⟨xs, head, hor⟩) (hV.mono fun b o hb => .inr (by have hb' : (b, o) ∈ T5 := hb; simp [hb'])) hS ⟨PC.of (E := 48) (fr := (0, 0)) (.inr (by simp [setL])), hO6.rx⟩ hL d (hdis.mono fun b o hb => .inl hb)) (fun v hv => ?_)
  subst hv
  refine .q .pickT ?_
  refine .q .move ?_
  refine TriOps.gt rfl ?_
  refine TriOps.callR (lives12_spec _) (fun v hv => ?_)
  subst hv
  refine .q .pickT ?_
  refine .q .assign ?_
  refine .nil (seqQ_n ?_)
  refine .ret (retQ_r _ (.one (.tmp rfl)) (.none _) ?_)
  · exact ⟨rfl, rfl⟩
  · cases g15_2
end Go.Proofs.YtkepgbimlolemaaGreat
