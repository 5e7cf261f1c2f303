/- What the law 'WM' uses of this prover's engine, facts and walks. No condition. -/
import Derived.Test.YtconfddhmnipjaaGreatKWMG
import Derived.Test.YtconfddhmnipjaaGreatKWMI
import Derived.Test.YtconfddhmnipjaaGreatKWMJ
import Derived.Test.YtconfddhmnipjaaGreatKWMK
import Derived.Test.YtconfddhmnipjaaGreatKWMM
set_option linter.unusedVariables false
set_option linter.unusedSimpArgs false
set_option maxRecDepth 4000
namespace Go.Proofs.YtconfddhmnipjaaGreat
def tkind (t : Tpl) : ByteArray := if t.us = ⟨#[]⟩ then ⟨#[49]⟩ else ⟨#[48]⟩
def tflds (t : Tpl) : List ByteArray := [t.os, t.oi, t.rel, tkind t, t.us, t.ss, t.si, t.sr]
theorem scmp_kind (a b : Tpl) : scmp (tkind a) (tkind b) = icmp (srank a.us) (srank b.us) := by
  unfold tkind srank
  split <;> split <;> decide
theorem tplcmp_flds (a b : Tpl) : tplcmp a b = orI (List.zipWith scmp (tflds a) (tflds b)) := by
  unfold tplcmp tflds
  simp only [List.zipWith_cons_cons, List.zipWith_nil_left]
  rw [scmp_kind]
theorem orI_first : ∀ {X Y : List ByteArray} {i : Nat} {x y : ByteArray}, X.take i = Y.take i → X[i]? = some x → Y[i]? = some y → x ≠ y → orI (List.zipWith scmp X Y) = scmp x y
  | x0 :: X, y0 :: Y, 0, x, y, _, hx, hy, hn => by
    simp only [List.getElem?_cons_zero, Option.some.injEq] at hx hy
    subst hx hy
    rw [List.zipWith_cons_cons, orI_cons, if_neg fun e => hn (scmp_eq.1 e)]
  | x0 :: X, y0 :: Y, i + 1, x, y, ht, hx, hy, hn => by
    simp only [List.take_succ_cons, List.cons.injEq] at ht
    simp only [List.getElem?_cons_succ] at hx hy
    rw [List.zipWith_cons_cons, orI_cons, if_pos (scmp_eq.2 ht.1)]
    exact orI_first ht.2 hx hy hn
  | [], _, i, x, y, _, hx, _, _ => by simp at hx
  | _ :: _, [], i, x, y, _, _, hy, _ => by simp at hy
theorem tlt_first {a b : Tpl} {i : Nat} {x y : ByteArray} (ht : (tflds a).take i = (tflds b).take i) (hx : (tflds a)[i]? = some x) (hy : (tflds b)[i]? = some y) (hn : x ≠ y) : tlt a b = sLt x y := by
  unfold tlt
  rw [tplcmp_flds, orI_first ht hx hy hn, Bool.eq_iff_iff, decide_eq_true_eq, sLt_iff]
theorem tflds_inj {a b : Tpl} (h : tflds a = tflds b) : a = b := by
  obtain ⟨a1, a2, a3, a4, a5, a6, a7⟩ := a
  obtain ⟨b1, b2, b3, b4, b5, b6, b7⟩ := b
  simp only [tflds, List.cons.injEq] at h
  obtain ⟨h1, h2, h3, h4, h5, h6, h7, h8, _⟩ := h
  simp only [Tpl.mk.injEq]
  exact ⟨h1, h2, h3, h5, h6, h7, h8⟩
theorem same11_spec (v w : Value) (l m : List Tpl) (R : Rds) (h : RS R 7 Tpl.enc v l) (h' : RS R 7 Tpl.enc w m) :
    Spec Tryz.prog 9 [v, w] R [] fun u H' => u = .bool (decide (l = m)) ∧ H' = [] := by
  have hle := h.le
  obtain ⟨pv, kv_, rfl⟩ := h.val
  obtain ⟨pw, kw_, rfl⟩ := h'.val
  refine Spec.body Tryz.func9 rfl Tryz.results9 Tryz.ntmps9 rfl ?_
  refine .seq (.region ?_)
  refine .q .assign ?_
  refine .nil (seqQ_n ?_)
  refine .seq ?_
  refine .seq (.region ?_)
  refine .q .move ?_
  refine .q (.lenR h) ?_
  refine .q .move ?_
  refine .q (.lenR h') ?_
  refine .q .neI ?_
  refine .nil (seqQ_n ?_)
  refine .cond rfl (fun h1 => ?_) (fun h1 => ?_)
  refine .seq (.region ?_)
  refine .q .assign ?_
  refine .nil (seqQ_n ?_)
  refine .ret (seqQ_r (retQ_r _ (.one (.tmp rfl)) (.none _) ?_))
  · exact ⟨by rw [decide_eq_false (fun e : l = m => by simp [e] at h1)], rfl⟩
  have hlen : l.length = m.length := by simp at h1; omega
  refine .skip ?_
  refine seqQ_n ?_
  refine .seq ?_
  refine .seq (.region ?_)
  refine .q .assign ?_
  refine .nil (seqQ_n ?_)
  refine .block ?_
  refine .loop (X := Nat) (fun i => i ≤ l.length ∧ l.take i = m.take i) (fun i => [(0, .slice pv l.length kv_), (1, .slice pw m.length kw_), (5, .int .i64 (i : Nat))]) (fun _ => []) (fun i => l.length - i) 0 ⟨by omega, by simp⟩ ((((EnvLe.nil _).cons rfl).cons rfl).cons rfl) (HLe.refl _) ?_
  rintro i ⟨hi, hs⟩
  refine .seq ?_
  refine .seq (.region ?_)
  refine .q .move ?_
  refine .q .move ?_
  refine .q (.lenR h) ?_
  refine .q .lss ?_
  refine .nil (seqQ_n ?_)
  refine .cond rfl (fun h2 => ?_) (fun h2 => ?_)
  have hlt : i < l.length := by simp at h2; omega
  obtain ⟨z, hz⟩ : ∃ z, l[i]? = some z := ⟨_, List.getElem?_eq_getElem hlt⟩
  obtain ⟨y, hy⟩ : ∃ y, m[i]? = some y := ⟨_, List.getElem?_eq_getElem (by omega)⟩
  refine .skip ?_
  refine seqQ_n ?_
  refine .seq ?_
  refine .block ?_
  refine .seq ?_
  refine .region_still mixed (by kernel_rfl) ?_
  refine .q .move ?_
  refine .q .move ?_
  refine TriOps.indexR i h hz (fun p19 => ?_)
  refine .q (.loadA rfl) ?_
  refine .q .move ?_
  refine .q .move ?_
  refine TriOps.indexR i h' hy (fun p23 => ?_)
  refine .q (.loadA rfl) ?_
  refine .q (.neA rfl rfl (Tpl.kinds z) (Tpl.kinds y)) ?_
  rw [Tpl.eq z y]
  refine .nil (seqQ_n ?_)
  refine .cond rfl (fun h3 => ?_) (fun h3 => ?_)
  refine .seq (.region ?_)
  refine .q .assign ?_
  refine .nil (seqQ_n ?_)
  refine .ret (blkQ_r (seqQ_r (loopQ_r (blkQ_r (seqQ_r (retQ_r _ (.one (.tmp rfl)) (.none _) ?_))))))
  · refine ⟨?_, rfl⟩
    have hne : z ≠ y := by simpa [Tpl.eq] using h3
    rw [decide_eq_false (fun e : l = m => hne (by rw [e, hy] at hz; cases hz; rfl))]
  refine .skip ?_
  refine blkQ_n (seqQ_n ?_)
  refine .region ?_
  refine .q .move ?_
  refine .q (.i64 ((i + 1 : Nat) : Int) .add ⟨by omega, by omega, by omega⟩) ?_
  refine .q .assign ?_
  refine .nil ?_
  · exact loopQ_i (i + 1) ⟨by omega, by
      have e : z = y := by simpa [Tpl.eq] using h3
      rw [List.take_add_one, List.take_add_one, hs, hz, hy, e]⟩ (by omega) ((((EnvLe.nil _).cons rfl).cons rfl).cons rfl) (HLe.refl _)
  refine .exit (seqQ_x (loopQ_x (blkQ_x ?_)))
  refine seqQ_n ?_
  refine .seq (.region ?_)
  refine .q .assign ?_
  refine .nil (seqQ_n ?_)
  refine .ret (retQ_r _ (.one (.tmp rfl)) (.none _) ?_)
  · refine ⟨?_, rfl⟩
    have he : i = l.length := by simp at h2; omega
    rw [he, List.take_length, List.take_of_length_le (by omega)] at hs
    rw [decide_eq_true hs]
theorem OS.lits {α : Type} {b n E sz : Nat} {cs : List Value} {enc : α → List Value} {xs : List α} (he : xs.flatMap enc = cs) (hl : ∀ x ∈ xs, (enc x).length = sz) (ho : ∀ x ∈ xs, ∀ u ∈ enc x, Go.Proofs.YtconfddhmnipjaaGreat.oneCell u = true) (hn : xs.length = n := by rfl) (hm : Nat.ble n 9223372036854775807 = true := by rfl) : OS E sz enc (.slice (some ⟨b, 0, none⟩) n n) xs [(b, .cells cs.toArray E (0, 0))] :=
  ⟨hl, ho, .inr ⟨b, 0, _, n, by rw [hn], rfl, by omega, by have := Nat.le_of_ble_eq_true hm; unfold maxLen; omega, by subst he; rw [List.size_toArray, flatMap_length hl, hn]; omega, fun k hk => by subst he; simp⟩⟩
theorem fields_spec (t : Tpl) (R : Rds) : Spec Tryz.prog 122 [.agg t.enc.toArray] R [] fun u H' => ∃ T, H' = [T] ∧ OS 9 1 encS u (tflds t) T := by
  refine Spec.segs (H' := []) (by simp) ?_
  refine Spec.body Tryz.func122 rfl Tryz.results122 Tryz.ntmps122 rfl ?_
  refine .seq (.region ?_)
  refine TriOps.boxA rfl (fun b1 => ?_)
  refine .q .assign ?_
  refine .nil (seqQ_n ?_)
  refine .seq (.region ?_)
  refine .q .assign ?_
  refine .nil (seqQ_n ?_)
  refine .seq ?_
  refine .seq (.region ?_)
  refine .q (.fieldAddr rfl) ?_
  refine .q (.fieldAddr rfl) ?_
  refine .q (.load1 rfl) ?_
  refine .q .neS ?_
  refine .nil (seqQ_n ?_)
  refine Tri.cut (X := ByteArray) (fun k => k = tkind t) (fun k => [(1, .pointer (some ⟨b1, 0, none⟩)), (3, .string k)]) (fun k => [[(b1, .cells t.enc.toArray 70 (0, 0))]]) ?_ ?_
  refine .cond rfl (fun h1 => ?_) (fun h1 => ?_)
  refine .region ?_
  refine .q .assign ?_
  refine .nil ?_
  · first
      | exact joinQ_n ⟨#[48]⟩ (by unfold tkind; rw [if_neg (by simpa using h1)]) (((EnvLe.nil _).cons rfl).cons rfl) (HLe.refl _)
      | exact joinQ_n ⟨#[49]⟩ (by unfold tkind; rw [if_pos (by simpa using h1)]) (((EnvLe.nil _).cons rfl).cons rfl) (HLe.refl _)
  refine .skip ?_
  · first
      | exact joinQ_n ⟨#[48]⟩ (by unfold tkind; rw [if_neg (by simpa using h1)]) (((EnvLe.nil _).cons rfl).cons rfl) (HLe.refl _)
      | exact joinQ_n ⟨#[49]⟩ (by unfold tkind; rw [if_pos (by simpa using h1)]) (((EnvLe.nil _).cons rfl).cons rfl) (HLe.refl _)
  intro x hx
  subst hx
  refine seqQ_n ?_
  refine .seq (.region ?_)
  refine .q (.fieldAddr rfl) ?_
  refine .q (.fieldAddr rfl) ?_
  refine .q (.load1 rfl) ?_
  refine .q (.fieldAddr rfl) ?_
  refine .q (.fieldAddr rfl) ?_
  refine .q (.load1 rfl) ?_
  refine .q (.fieldAddr rfl) ?_
  refine .q (.load1 rfl) ?_
  refine .q .move ?_
  refine .q (.fieldAddr rfl) ?_
  refine .q (.fieldAddr rfl) ?_
  refine .q (.load1 rfl) ?_
  refine .q (.fieldAddr rfl) ?_
  refine .q (.fieldAddr rfl) ?_
  refine .q (.fieldAddr rfl) ?_
  refine .q (.load1 rfl) ?_
  refine .q (.fieldAddr rfl) ?_
  refine .q (.fieldAddr rfl) ?_
  refine .q (.fieldAddr rfl) ?_
  refine .q (.load1 rfl) ?_
  refine .q (.fieldAddr rfl) ?_
  refine .q (.fieldAddr rfl) ?_
  refine .q (.load1 rfl) ?_
  refine TriOps.buildSliceN1 [_, _, _, _, _, _, _, _] (fun b31 => ?_)
  refine .q .assign ?_
  refine .nil (seqQ_n ?_)
  refine .ret (retQ_r _ (.one (.tmp rfl)) (.one [0] _) ?_)
  · refine ⟨_, by simp [take]; rfl, ?_⟩
    exact OS.lits (E := 9) (xs := tflds t) (enc := encS) rfl (by simp [tflds, encS]) (by simp [tflds, encS, oneCell])
theorem rless_spec (a b : Tpl) (R : Rds) : Spec Tryz.prog 95 [.agg a.enc.toArray, .agg b.enc.toArray] R [] fun v H' => v = .bool (tlt a b) ∧ H' = [] := by
  refine Spec.body Tryz.func95 rfl Tryz.results95 Tryz.ntmps95 rfl ?_
  refine .seq (.region ?_)
  refine TriOps.boxA rfl (fun b2 => ?_)
  refine TriOps.boxA rfl (fun b3 => ?_)
  refine .q .assign ?_
  refine .nil (seqQ_n ?_)
  refine .seq ?_
  refine .region_all [] mixed ?_
  refine .takeO 0 rfl (.loadA rfl) (by kernel_rfl) ?_
  refine .takeO 2 rfl (.loadA rfl) (by kernel_rfl) ?_
  refine RA.step 1 rfl (by kernel_rfl) rfl ?_
  refine TriOps.callN (fields_spec a _) (fun u T1 hO1 => ?_)
  have i1 := hO1.oneCell
  refine .nil (Next.sub ?_)
  refine RA.step 3 rfl (by kernel_rfl) rfl ?_
  refine TriOps.callN (fields_spec b _) (fun w T2 hO2 => ?_)
  have i2 := hO2.oneCell
  refine .nil (Next.sub ?_)
  refine .takeO 4 rfl .assign (by kernel_rfl) ?_
  refine .takeO 5 rfl .assign (by kernel_rfl) ?_
  refine RA.nil (by kernel_rfl) ?_
  refine seqQ_n ?_
  refine .seq ?_
  refine .seq (.region ?_)
  refine .q .assign ?_
  refine .nil (seqQ_n ?_)
  refine .block ?_
  refine .loop (X := Nat) (fun i => i ≤ 8 ∧ (tflds a).take i = (tflds b).take i) (fun i => [(5, u), (6, w), (7, .int .i64 (i : Nat))]) (fun _ => [T1, T2]) (fun i => 8 - i) 0 ⟨by omega, by simp⟩ ((((EnvLe.nil _).cons rfl).cons rfl).cons rfl) (HLe.pick [1, 0] _) ?_
  rintro i ⟨hi, hs⟩
  refine .seq ?_
  refine .seq (.region ?_)
  refine .q .move ?_
  refine .q .move ?_
  refine .q (.lenO hO1) ?_
  refine .q .lss ?_
  refine .nil (seqQ_n ?_)
  refine .cond rfl (fun h1 => ?_) (fun h1 => ?_)
  have hlt : i < 8 := by have := of_decide_eq_true h1; simp only [tflds, List.length_cons, List.length_nil] at this; omega
  obtain ⟨z, hz⟩ : ∃ z, (tflds a)[i]? = some z := ⟨_, List.getElem?_eq_getElem (by simpa [tflds] using hlt)⟩
  obtain ⟨y, hy⟩ : ∃ y, (tflds b)[i]? = some y := ⟨_, List.getElem?_eq_getElem (by simpa [tflds] using hlt)⟩
  refine .skip ?_
  refine seqQ_n ?_
  refine .seq ?_
  refine .block ?_
  refine .seq ?_
  refine .region_still mixed (by kernel_rfl) ?_
  refine .q .move ?_
  refine .q .move ?_
  refine TriOps.indexO i hO1 hz (fun p20 => ?_)
  refine .q (.load1 rfl) ?_
  refine .q .move ?_
  refine .q .move ?_
  refine TriOps.indexO i hO2 hy (fun p24 => ?_)
  refine .q (.load1 rfl) ?_
  refine .q .neS ?_
  refine .nil (seqQ_n ?_)
  refine .cond rfl (fun h2 => ?_) (fun h2 => ?_)
  refine .seq ?_
  refine .region_still mixed (by kernel_rfl) ?_
  refine .q .move ?_
  refine .q .move ?_
  refine TriOps.indexO i hO1 hz (fun p29 => ?_)
  refine .q (.load1 rfl) ?_
  refine .q .move ?_
  refine .q .move ?_
  refine TriOps.indexO i hO2 hy (fun p33 => ?_)
  refine .q (.load1 rfl) ?_
  refine .q .ltS ?_
  refine .q .assign ?_
  refine .nil (seqQ_n ?_)
  refine .ret (blkQ_r (seqQ_r (loopQ_r (blkQ_r (seqQ_r (retQ_r _ (.one (.tmp rfl)) (.none _) ?_))))))
  · have hne : z ≠ y := by simpa using h2
    exact ⟨by rw [tlt_first hs hz hy hne], rfl⟩
  refine .skip ?_
  refine blkQ_n (seqQ_n ?_)
  refine .region ?_
  refine .q .move ?_
  refine .q (.i64 ((i + 1 : Nat) : Int) .add ⟨by omega, by omega, by omega⟩) ?_
  refine .q .assign ?_
  refine .nil ?_
  · exact loopQ_i (i + 1) ⟨hlt, by
      have e : z = y := by simpa using h2
      rw [List.take_add_one, List.take_add_one, hs, hz, hy, e]⟩ (by omega) ((((EnvLe.nil _).cons rfl).cons rfl).cons rfl) (HLe.refl _)
  refine .exit (seqQ_x (loopQ_x (blkQ_x ?_)))
  refine seqQ_n ?_
  refine .seq (.region ?_)
  refine .q .assign ?_
  refine .nil (seqQ_n ?_)
  refine .ret (retQ_r _ (.one (.tmp rfl)) (.none _) ?_)
  · have he : i = 8 := by have := of_decide_eq_false h1; simp only [tflds, List.length_cons, List.length_nil] at this; omega
    subst he
    have : a = b := tflds_inj (by simpa [tflds] using hs)
    exact ⟨by rw [this, tlt_irr], rfl⟩
end Go.Proofs.YtconfddhmnipjaaGreat
set_option linter.unusedVariables false
set_option linter.unusedSimpArgs false
set_option maxRecDepth 4000
namespace Go.Proofs.YtconfddhmnipjaaGreat
structure DV (R : Rds) (b : Nat) (S : Sto) (vL : Value) (L : List SRow) : Prop where
  pc : PC R (.pointer (some ⟨b, 0, none⟩)) [vL, .int .u64 S.head, .int .u64 S.hor]
  rs : RS R 9 SRow.enc vL L
theorem DV.mono {R R' : Rds} {b : Nat} {S : Sto} {vL : Value} {L : List SRow} (h : DV R b S vL L) (hR : ∀ b o, R b o → R' b o) : DV R' b S vL L := ⟨h.pc.mono hR, h.rs.mono hR⟩
section
variable {R : Rds} {b : Nat} {S : Sto} {vL : Value} {L : List SRow}
theorem DV.can (h : DV R b S vL L) (r : Int) : Spec Tryz.prog 41 [.pointer (some ⟨b, 0, none⟩), .int .u64 r] R [] fun v H' => v = .bool (scan S r) ∧ H' = [] := by
  have pc := h.pc
  have ivl := h.rs.oneCell
  refine Spec.body Tryz.func41 rfl Tryz.results41 Tryz.ntmps41 rfl ?_
  refine .seq (.region ?_)
  refine .q .assign ?_
  refine .nil (seqQ_n ?_)
  refine .seq (.region ?_)
  refine .q .move ?_
  refine .q (.nilCheck rfl) ?_
  refine .q (.fieldAddr rfl) ?_
  refine .q (.load1 rfl) ?_
  refine .q .move ?_
  refine .q .leq ?_
  refine .q .move ?_
  refine TriOps.split (t := 11) rfl (fun g1_6 => ?_) (fun g1_6 => ?_)
  refine TriOps.gT g1_6 ?_
  refine .q .move ?_
  refine TriOps.gT g1_6 ?_
  refine .q .move ?_
  refine TriOps.gT g1_6 ?_
  refine .q (.nilCheck rfl) ?_
  refine TriOps.gT g1_6 ?_
  refine .q (.fieldAddr rfl) ?_
  refine TriOps.gT g1_6 ?_
  refine .q (.load1 rfl) ?_
  refine TriOps.gT g1_6 ?_
  refine .q .leq ?_
  refine .q (.pickTh g1_6) ?_
  refine .q .assign ?_
  refine .nil (seqQ_n ?_)
  refine .ret (retQ_r _ (.one (.tmp rfl)) (.none _) ?_)
  · refine ⟨congrArg _ ?_, rfl⟩
    unfold scan
    simp_all
    try omega
  refine TriOps.gF g1_6 ?_
  refine TriOps.gF g1_6 ?_
  refine TriOps.gF g1_6 ?_
  refine TriOps.gF g1_6 ?_
  refine TriOps.gF g1_6 ?_
  refine TriOps.gF g1_6 ?_
  refine .q (.pickFh g1_6) ?_
  refine .q .assign ?_
  refine .nil (seqQ_n ?_)
  refine .ret (retQ_r _ (.one (.tmp rfl)) (.none _) ?_)
  · refine ⟨congrArg _ ?_, rfl⟩
    unfold scan
    simp_all
    try omega
end
end Go.Proofs.YtconfddhmnipjaaGreat
set_option linter.unusedVariables false
set_option linter.unusedSimpArgs false
set_option maxRecDepth 4000
namespace Go.Proofs.YtconfddhmnipjaaGreat
theorem risRef_spec (s i : ByteArray) (hs : s.size ≤ 9223372036854775807) (hi : i.size ≤ 9223372036854775807) (R : Rds) : Spec Tryz.prog 92 [.agg [.string s, .string i].toArray] R [] fun v H' => v = .bool (isRef s i) ∧ H' = [] := by
  refine Spec.body Tryz.func92 rfl Tryz.results92 Tryz.ntmps92 rfl ?_
  refine .seq (.region ?_)
  refine TriOps.boxA rfl (fun b1 => ?_)
  refine .q .assign ?_
  refine .nil (seqQ_n ?_)
  refine .seq (.region ?_)
  refine .q (.fieldAddr rfl) ?_
  refine .q (.load1 rfl) ?_
  refine TriOps.callR (rword_spec s hs _) (fun v hv => ?_)
  subst hv
  refine .q .move ?_
  refine TriOps.split (t := 6) rfl (fun g1_3 => ?_) (fun g1_3 => ?_)
  refine TriOps.gT g1_3 ?_
  refine .q (.fieldAddr rfl) ?_
  refine TriOps.gT g1_3 ?_
  refine .q (.load1 rfl) ?_
  refine TriOps.gT g1_3 ?_
  refine TriOps.callR (rid_spec i hi _) (fun v hv => ?_)
  subst hv
  refine .q (.pickTh g1_3) ?_
  refine .q .assign ?_
  refine .nil (seqQ_n ?_)
  refine .ret (retQ_r _ (.one (.tmp rfl)) (.none _) ?_)
  · exact ⟨by unfold isRef; simp_all, rfl⟩
  refine TriOps.gF g1_3 ?_
  refine TriOps.gF g1_3 ?_
  refine TriOps.gF g1_3 ?_
  refine .q (.pickFh g1_3) ?_
  refine .q .assign ?_
  refine .nil (seqQ_n ?_)
  refine .ret (retQ_r _ (.one (.tmp rfl)) (.none _) ?_)
  · exact ⟨by unfold isRef; simp_all, rfl⟩
theorem risSub_spec (s : Sub) (h1_ : s.us.size ≤ 9223372036854775807) (h2_ : s.ss.size ≤ 9223372036854775807) (h3_ : s.si.size ≤ 9223372036854775807) (h4_ : s.sr.size ≤ 9223372036854775807) (R : Rds) : Spec Tryz.prog 94 [.agg s.enc.toArray] R [] fun v H' => v = .bool (isSub s) ∧ H' = [] := by
  obtain ⟨us, ss, si, sr⟩ := s
  simp only at h1_ h2_ h3_ h4_
  refine Spec.body Tryz.func94 rfl Tryz.results94 Tryz.ntmps94 rfl ?_
  refine .seq (.region ?_)
  refine TriOps.boxA rfl (fun b1 => ?_)
  refine .q .assign ?_
  refine .nil (seqQ_n ?_)
  refine .seq ?_
  refine .seq (.region ?_)
  refine .q (.fieldAddr rfl) ?_
  refine .q (.load1 rfl) ?_
  refine .q .eqS ?_
  refine .nil (seqQ_n ?_)
  refine .cond rfl (fun h1 => ?_) (fun h1 => ?_)
  refine .seq (.region ?_)
  refine .q (.fieldAddr rfl) ?_
  refine .q (.loadT rfl) ?_
  refine TriOps.callR (risRef_spec ss si h2_ h3_ _) (fun v hv => ?_)
  subst hv
  refine .q .move ?_
  refine TriOps.split (t := 9) rfl (fun g2_3 => ?_) (fun g2_3 => ?_)
  refine TriOps.gT g2_3 ?_
  refine .q (.fieldAddr rfl) ?_
  refine TriOps.gT g2_3 ?_
  refine .q (.load1 rfl) ?_
  refine TriOps.gT g2_3 ?_
  refine TriOps.callR (rword_spec sr h4_ _) (fun v hv => ?_)
  subst hv
  refine .q (.pickTh g2_3) ?_
  refine .q .assign ?_
  refine .nil (seqQ_n ?_)
  refine .ret (seqQ_r (retQ_r _ (.one (.tmp rfl)) (.none _) ?_))
  · refine ⟨congrArg _ ?_, rfl⟩
    unfold isSub
    by_cases hu : us = ⟨#[]⟩
    · simp only [hu, if_true]
      simp_all
    · simp only [hu, if_false]
      simp_all
  refine TriOps.gF g2_3 ?_
  refine TriOps.gF g2_3 ?_
  refine TriOps.gF g2_3 ?_
  refine .q (.pickFh g2_3) ?_
  refine .q .assign ?_
  refine .nil (seqQ_n ?_)
  refine .ret (seqQ_r (retQ_r _ (.one (.tmp rfl)) (.none _) ?_))
  · refine ⟨congrArg _ ?_, rfl⟩
    unfold isSub
    by_cases hu : us = ⟨#[]⟩
    · simp only [hu, if_true]
      simp_all
    · simp only [hu, if_false]
      simp_all
  refine .skip ?_
  refine seqQ_n ?_
  refine .seq (.region ?_)
  refine .q (.fieldAddr rfl) ?_
  refine .q (.load1 rfl) ?_
  refine TriOps.callR (rid_spec us h1_ _) (fun v hv => ?_)
  subst hv
  refine .q .move ?_
  refine TriOps.split (t := 17) rfl (fun g3_3 => ?_) (fun g3_3 => ?_)
  refine TriOps.gT g3_3 ?_
  refine .q (.fieldAddr rfl) ?_
  refine TriOps.gT g3_3 ?_
  refine .q (.fieldAddr rfl) ?_
  refine TriOps.gT g3_3 ?_
  refine .q (.load1 rfl) ?_
  refine TriOps.gT g3_3 ?_
  refine .q .eqS ?_
  refine .q (.pickTh g3_3) ?_
  refine .q .move ?_
  refine TriOps.split (t := 23) rfl (fun g3_9 => ?_) (fun g3_9 => ?_)
  refine TriOps.gT g3_9 ?_
  refine .q (.fieldAddr rfl) ?_
  refine TriOps.gT g3_9 ?_
  refine .q (.fieldAddr rfl) ?_
  refine TriOps.gT g3_9 ?_
  refine .q (.load1 rfl) ?_
  refine TriOps.gT g3_9 ?_
  refine .q .eqS ?_
  refine .q (.pickTh g3_9) ?_
  refine .q .move ?_
  refine TriOps.split (t := 29) rfl (fun g3_15 => ?_) (fun g3_15 => ?_)
  refine TriOps.gT g3_15 ?_
  refine .q (.fieldAddr rfl) ?_
  refine TriOps.gT g3_15 ?_
  refine .q (.load1 rfl) ?_
  refine TriOps.gT g3_15 ?_
  refine .q .eqS ?_
  refine .q (.pickTh g3_15) ?_
  refine .q .assign ?_
  refine .nil (seqQ_n ?_)
  refine .ret (retQ_r _ (.one (.tmp rfl)) (.none _) ?_)
  · refine ⟨congrArg _ ?_, rfl⟩
    unfold isSub
    by_cases hu : us = ⟨#[]⟩
    · simp only [hu, if_true]
      simp_all
    · simp only [hu, if_false]
      simp_all
  refine TriOps.gF g3_15 ?_
  refine TriOps.gF g3_15 ?_
  refine TriOps.gF g3_15 ?_
  refine .q (.pickFh g3_15) ?_
  refine .q .assign ?_
  refine .nil (seqQ_n ?_)
  refine .ret (retQ_r _ (.one (.tmp rfl)) (.none _) ?_)
  · refine ⟨congrArg _ ?_, rfl⟩
    unfold isSub
    by_cases hu : us = ⟨#[]⟩
    · simp only [hu, if_true]
      simp_all
    · simp only [hu, if_false]
      simp_all
  refine TriOps.gF g3_9 ?_
  refine TriOps.gF g3_9 ?_
  refine TriOps.gF g3_9 ?_
  refine TriOps.gF g3_9 ?_
  refine .q (.pickFh g3_9) ?_
  refine .q .move ?_
  refine TriOps.gf rfl rfl ?_
  refine TriOps.gf rfl rfl ?_
  refine TriOps.gf rfl rfl ?_
  refine .q .pickF ?_
  refine .q .assign ?_
  refine .nil (seqQ_n ?_)
  refine .ret (retQ_r _ (.one (.tmp rfl)) (.none _) ?_)
  · refine ⟨congrArg _ ?_, rfl⟩
    unfold isSub
    by_cases hu : us = ⟨#[]⟩
    · simp only [hu, if_true]
      simp_all
    · simp only [hu, if_false]
      simp_all
  refine TriOps.gF g3_3 ?_
  refine TriOps.gF g3_3 ?_
  refine TriOps.gF g3_3 ?_
  refine TriOps.gF g3_3 ?_
  refine .q (.pickFh g3_3) ?_
  refine .q .move ?_
  refine TriOps.gf rfl rfl ?_
  refine TriOps.gf rfl rfl ?_
  refine TriOps.gf rfl rfl ?_
  refine TriOps.gf rfl rfl ?_
  refine .q .pickF ?_
  refine .q .move ?_
  refine TriOps.gf rfl rfl ?_
  refine TriOps.gf rfl rfl ?_
  refine TriOps.gf rfl rfl ?_
  refine .q .pickF ?_
  refine .q .assign ?_
  refine .nil (seqQ_n ?_)
  refine .ret (retQ_r _ (.one (.tmp rfl)) (.none _) ?_)
  · refine ⟨congrArg _ ?_, rfl⟩
    unfold isSub
    by_cases hu : us = ⟨#[]⟩
    · simp only [hu, if_true]
      simp_all
    · simp only [hu, if_false]
      simp_all
theorem risTpl_spec (t : Tpl) (ht : t.fits) (R : Rds) : Spec Tryz.prog 62 [.agg t.enc.toArray] R [] fun v H' => v = .bool (isTpl t) ∧ H' = [] := by
  obtain ⟨a1, a2, a3, a4, a5, a6, a7⟩ := ht
  refine Spec.body Tryz.func62 rfl Tryz.results62 Tryz.ntmps62 rfl ?_
  refine .seq (.region ?_)
  refine TriOps.boxA rfl (fun b1 => ?_)
  refine .q .assign ?_
  refine .nil (seqQ_n ?_)
  refine .seq (.region ?_)
  refine .q (.fieldAddr rfl) ?_
  refine .q (.loadT rfl) ?_
  refine TriOps.callR (risRef_spec t.os t.oi a1 a2 _) (fun v hv => ?_)
  subst hv
  refine .q .move ?_
  refine TriOps.split (t := 6) rfl (fun g1_3 => ?_) (fun g1_3 => ?_)
  refine TriOps.gT g1_3 ?_
  refine .q (.fieldAddr rfl) ?_
  refine TriOps.gT g1_3 ?_
  refine .q (.load1 rfl) ?_
  refine TriOps.gT g1_3 ?_
  refine TriOps.callR (rword_spec t.rel a3 _) (fun v hv => ?_)
  subst hv
  refine .q (.pickTh g1_3) ?_
  refine .q .move ?_
  refine TriOps.split (t := 11) rfl (fun g1_8 => ?_) (fun g1_8 => ?_)
  refine TriOps.gT g1_8 ?_
  refine .q (.fieldAddr rfl) ?_
  refine TriOps.gT g1_8 ?_
  refine .q (.loadT rfl) ?_
  refine TriOps.gT g1_8 ?_
  refine TriOps.callR (risSub_spec t.sub a4 a5 a6 a7 _) (fun v hv => ?_)
  subst hv
  refine .q (.pickTh g1_8) ?_
  refine .q .assign ?_
  refine .nil (seqQ_n ?_)
  refine .ret (retQ_r _ (.one (.tmp rfl)) (.none _) ?_)
  · exact ⟨by unfold isTpl; simp_all, rfl⟩
  refine TriOps.gF g1_8 ?_
  refine TriOps.gF g1_8 ?_
  refine TriOps.gF g1_8 ?_
  refine .q (.pickFh g1_8) ?_
  refine .q .assign ?_
  refine .nil (seqQ_n ?_)
  refine .ret (retQ_r _ (.one (.tmp rfl)) (.none _) ?_)
  · exact ⟨by unfold isTpl; simp_all, rfl⟩
  refine TriOps.gF g1_3 ?_
  refine TriOps.gF g1_3 ?_
  refine TriOps.gF g1_3 ?_
  refine .q (.pickFh g1_3) ?_
  refine .q .move ?_
  refine TriOps.gf rfl rfl ?_
  refine TriOps.gf rfl rfl ?_
  refine TriOps.gf rfl rfl ?_
  refine .q .pickF ?_
  refine .q .assign ?_
  refine .nil (seqQ_n ?_)
  refine .ret (retQ_r _ (.one (.tmp rfl)) (.none _) ?_)
  · exact ⟨by unfold isTpl; simp_all, rfl⟩
end Go.Proofs.YtconfddhmnipjaaGreat
set_option linter.unusedVariables false
set_option linter.unusedSimpArgs false
set_option maxRecDepth 4000
namespace Go.Proofs.YtconfddhmnipjaaGreat
theorem rahead_spec (a b : SRow) (R : Rds) : Spec Tryz.prog 63 [.agg a.enc.toArray, .agg b.enc.toArray] R [] fun v H' => v = .bool (rlt a b) ∧ H' = [] := by
  refine Spec.body Tryz.func63 rfl Tryz.results63 Tryz.ntmps63 rfl ?_
  refine .seq (.region ?_)
  refine TriOps.boxA rfl (fun b2 => ?_)
  refine TriOps.boxA rfl (fun b3 => ?_)
  refine .q .assign ?_
  refine .nil (seqQ_n ?_)
  refine .seq (.region ?_)
  refine .q (.fieldAddr rfl) ?_
  refine .q (.loadT rfl) ?_
  refine .q (.fieldAddr rfl) ?_
  refine .q (.loadT rfl) ?_
  refine TriOps.callR (rless_spec a.t b.t _) (fun v hv => ?_)
  subst hv
  refine .q .move ?_
  refine TriOps.split (t := 10) rfl (fun g1_5 => ?_) (fun g1_5 => ?_)
  refine TriOps.gF g1_5 ?_
  refine TriOps.gF g1_5 ?_
  refine TriOps.gF g1_5 ?_
  refine TriOps.gF g1_5 ?_
  refine TriOps.gF g1_5 ?_
  refine TriOps.gF g1_5 ?_
  refine TriOps.gfU rfl ?_
  refine TriOps.gfU rfl ?_
  refine TriOps.gfU rfl ?_
  refine TriOps.gfU rfl ?_
  refine TriOps.gfU rfl ?_
  refine TriOps.gF g1_5 ?_
  refine .q (.pickTh g1_5) ?_
  refine .q .assign ?_
  refine .nil (seqQ_n ?_)
  refine .ret (retQ_r _ (.one (.tmp rfl)) (.none _) ?_)
  · refine ⟨congrArg _ ?_, rfl⟩
    unfold rlt
    simp_all
  refine TriOps.gT g1_5 ?_
  refine .q (.fieldAddr rfl) ?_
  refine TriOps.gT g1_5 ?_
  refine .q (.loadT rfl) ?_
  refine TriOps.gT g1_5 ?_
  refine .q (.fieldAddr rfl) ?_
  refine TriOps.gT g1_5 ?_
  refine .q (.loadT rfl) ?_
  refine TriOps.gT g1_5 ?_
  refine .q (.eqA rfl rfl (Tpl.kinds a.t) (Tpl.kinds b.t)) ?_
  rw [show cellsEq (List.take 7 (List.drop 0 a.enc)) (List.take 7 (List.drop 0 b.enc)) = decide (a.t = b.t) from Tpl.eq a.t b.t]
  refine TriOps.gT g1_5 ?_
  refine .q .move ?_
  refine TriOps.split (t := 16) rfl (fun g1_11 => ?_) (fun g1_11 => ?_)
  refine TriOps.gT g1_11 ?_
  refine .q (.fieldAddr rfl) ?_
  refine TriOps.gT g1_11 ?_
  refine .q (.load1 rfl) ?_
  refine TriOps.gT g1_11 ?_
  refine .q (.fieldAddr rfl) ?_
  refine TriOps.gT g1_11 ?_
  refine .q (.load1 rfl) ?_
  refine TriOps.gT g1_11 ?_
  refine .q .lss ?_
  refine TriOps.gT g1_5 ?_
  refine .q (.pickTh g1_11) ?_
  refine .q (.pickFh g1_5) ?_
  refine .q .assign ?_
  refine .nil (seqQ_n ?_)
  refine .ret (retQ_r _ (.one (.tmp rfl)) (.none _) ?_)
  · refine ⟨congrArg _ ?_, rfl⟩
    unfold rlt
    simp_all
  refine TriOps.gF g1_11 ?_
  refine TriOps.gF g1_11 ?_
  refine TriOps.gF g1_11 ?_
  refine TriOps.gF g1_11 ?_
  refine TriOps.gF g1_11 ?_
  refine TriOps.gT g1_5 ?_
  refine .q (.pickFh g1_11) ?_
  refine .q (.pickFh g1_5) ?_
  refine .q .assign ?_
  refine .nil (seqQ_n ?_)
  refine .ret (retQ_r _ (.one (.tmp rfl)) (.none _) ?_)
  · refine ⟨congrArg _ ?_, rfl⟩
    unfold rlt
    simp_all
theorem rins12_spec (v : Value) (l : List SRow) (t : SRow) (R : Rds) (h : RS R 9 SRow.enc v l) (hl : l.length ≤ 100000) :
    Spec Tryz.prog 38 [v, .agg t.enc.toArray] R [] fun u H' => ∃ T, H' = [T] ∧ OS 95 9 SRow.enc u (gins rlt t l) T := by
  obtain ⟨pv, kv_, rfl⟩ := h.val
  refine Spec.segs (H' := [[]]) (by simp) ?_
  refine Spec.body Tryz.func38 rfl Tryz.results38 Tryz.ntmps38 rfl ?_
  refine .seq (.region ?_)
  refine TriOps.boxA rfl (fun b3 => ?_)
  refine .q .assign ?_
  refine .nil (seqQ_n ?_)
  refine .seq (.region ?_)
  refine .q .assign ?_
  refine .nil (seqQ_n ?_)
  refine .seq (.region ?_)
  refine .q .assign ?_
  refine .nil (seqQ_n ?_)
  refine .seq ?_
  refine .seq (.region ?_)
  refine .q .assign ?_
  refine .nil (seqQ_n ?_)
  refine .block ?_
  refine .loop (X := Nat × Value × Seg) (fun y => y.1 ≤ l.length ∧ OS 95 9 SRow.enc y.2.1 (gpre rlt t (l.take y.1)) y.2.2) (fun y => [(0, .slice pv l.length kv_), (3, .pointer (some ⟨b3, 0, none⟩)), (5, y.2.1), (6, .bool ((l.take y.1).any (rlt t))), (7, .int .i64 (y.1 : Nat))]) (fun y => [[(b3, .cells t.enc.toArray 95 (0, 0))], y.2.2]) (fun y => l.length - y.1) (0, .slice none 0 0, []) ⟨Nat.zero_le _, OS.nil⟩ ((((((EnvLe.nil _).cons rfl).cons rfl).cons rfl).cons rfl).cons rfl) (HLe.refl _) ?_
  rintro ⟨i, vo, To⟩ ⟨hi, hO⟩
  simp only at hi hO ⊢
  have io := hO.oneCell
  have hgl : (gpre rlt t (l.take i)).length ≤ 100001 := Nat.le_trans gpre_len (by rw [List.length_take]; omega)
  refine .seq ?_
  refine .seq (.region ?_)
  refine .q .move ?_
  refine .q .move ?_
  refine .q (.lenR h) ?_
  refine .q .lss ?_
  refine .nil (seqQ_n ?_)
  refine .cond rfl (fun h1 => ?_) (fun h1 => ?_)
  have hlt : i < l.length := by have := of_decide_eq_true h1; omega
  obtain ⟨x, hx⟩ : ∃ x, l[i]? = some x := ⟨_, List.getElem?_eq_getElem hlt⟩
  have e4 := gmid_next (lt := rlt) (p := t) hx
  refine .skip ?_
  refine seqQ_n ?_
  refine .seq ?_
  refine .block ?_
  refine .seq ?_
  refine Tri.cut (X := Value × Seg) (fun z => OS 95 9 SRow.enc z.1 (gmid rlt t (l.take i) x) z.2) (fun z => [(0, .slice pv l.length kv_), (3, .pointer (some ⟨b3, 0, none⟩)), (5, z.1), (6, .bool ((l.take (i + 1)).any (rlt t))), (7, .int .i64 (i : Nat))]) (fun z => [[(b3, .cells t.enc.toArray 95 (0, 0))], z.2]) ?_ ?_
  refine .seq ?_
  refine .region_tail 8 mixed (by kernel_rfl) ?_
  conv => arg 6; dsimp only [List.take]
  refine .q .move ?_
  refine .q .not ?_
  refine .q .move ?_
  refine TriOps.split (t := 16) rfl (fun g6_2 => ?_) (fun g6_2 => ?_)
  refine TriOps.gT g6_2 ?_
  refine .q (.loadA rfl) ?_
  refine TriOps.gT g6_2 ?_
  refine .q .move ?_
  refine TriOps.gT g6_2 ?_
  refine .q .move ?_
  refine TriOps.gT g6_2 ?_
  refine TriOps.indexR i h hx (fun p20 => ?_)
  refine TriOps.gT g6_2 ?_
  refine .q (.loadA rfl) ?_
  refine .nil ?_
  refine TriOps.gT g6_2 ?_
  refine TriOps.callR (rahead_spec t x _) (fun v hv => ?_)
  subst hv
  refine .q (.pickTh g6_2) ?_
  refine .nil (seqQ_n ?_)
  refine .cond rfl (fun h2 => ?_) (fun h2 => ?_)
  first | have hput := gmid_put hx g6_2 h2 | skip
  refine .seq (.region ?_)
  refine .q .move ?_
  refine .q (.loadA rfl) ?_
  refine TriOps.buildSlice1A (fun b26 => ?_)
  refine TriOps.append hO (RS.lits (xs := [t]) rfl (by simp [SRow.enc, Tpl.enc]) (by simp [SRow.enc, Tpl.enc, oneCell])) (by simp only [List.length_singleton]; omega) (fun v5 T5 hO5 => ?_)
  refine .q .assign ?_
  refine .nil (seqQ_n ?_)
  refine .region ?_
  refine .q .assign ?_
  refine .nil ?_
  · first
      | (obtain ⟨hm, hA⟩ := hput
         exact joinQ_n (v5, T5) (by simp only; rw [hm]; exact hO5) (by simp only; rw [hA]; exact (((((EnvLe.nil _).cons rfl).cons rfl).cons rfl).cons rfl).cons rfl) (HLe.pick [1, 1] _))
      | (obtain ⟨hm, hA⟩ := hnot
         exact joinQ_n (vo, To) (by simp only; rw [hm]; simpa using hO) (by simp only; rw [hA]; exact (((((EnvLe.nil _).cons rfl).cons rfl).cons rfl).cons rfl).cons rfl) (HLe.refl _))
  first | have hnot := gmid_not (p := t) hx (.inr h2) | skip
  refine .skip ?_
  · first
      | (obtain ⟨hm, hA⟩ := hput
         exact joinQ_n (v5, T5) (by simp only; rw [hm]; exact hO5) (by simp only; rw [hA]; exact (((((EnvLe.nil _).cons rfl).cons rfl).cons rfl).cons rfl).cons rfl) (HLe.pick [1, 1] _))
      | (obtain ⟨hm, hA⟩ := hnot
         exact joinQ_n (vo, To) (by simp only; rw [hm]; simpa using hO) (by simp only; rw [hA]; exact (((((EnvLe.nil _).cons rfl).cons rfl).cons rfl).cons rfl).cons rfl) (HLe.refl _))
  have hnot := gmid_not (p := t) hx (.inl g6_2)
  refine TriOps.gF g6_2 ?_
  refine TriOps.gF g6_2 ?_
  refine TriOps.gF g6_2 ?_
  refine TriOps.gF g6_2 ?_
  refine TriOps.gF g6_2 ?_
  refine .nil ?_
  refine TriOps.gF g6_2 ?_
  refine .q (.pickFh g6_2) ?_
  refine .nil (seqQ_n ?_)
  refine .condF ?_
  first | have hnot := gmid_not (p := t) hx (.inr h2) | skip
  refine .skip ?_
  · first
      | (obtain ⟨hm, hA⟩ := hput
         exact joinQ_n (v5, T5) (by simp only; rw [hm]; exact hO5) (by simp only; rw [hA]; exact (((((EnvLe.nil _).cons rfl).cons rfl).cons rfl).cons rfl).cons rfl) (HLe.pick [1, 1] _))
      | (obtain ⟨hm, hA⟩ := hnot
         exact joinQ_n (vo, To) (by simp only; rw [hm]; simpa using hO) (by simp only; rw [hA]; exact (((((EnvLe.nil _).cons rfl).cons rfl).cons rfl).cons rfl).cons rfl) (HLe.refl _))
  intro y hy
  obtain ⟨vm, Tm⟩ := y
  have hO6 : OS 95 9 SRow.enc vm (gmid rlt t (l.take i) x) Tm := hy
  have i6 := hO6.oneCell
  simp only
  refine seqQ_n ?_
  refine .region ?_
  refine .q .move ?_
  refine .q .move ?_
  refine .q .move ?_
  refine TriOps.indexR i h hx (fun p31 => ?_)
  refine .q (.loadA rfl) ?_
  refine TriOps.buildSlice1A (fun b33 => ?_)
  refine TriOps.append hO6 (RS.lits (xs := [x]) rfl (by simp [SRow.enc, Tpl.enc]) (by simp [SRow.enc, Tpl.enc, oneCell])) (by have := gpre_len (lt := rlt) (p := t) (X := l.take (i + 1)); rw [← e4, List.length_take] at this; simp at this ⊢; omega) (fun v7 T7 hO7 => ?_)
  rw [e4] at hO7
  refine .q .assign ?_
  refine .nil ?_
  refine blkQ_n (seqQ_n ?_)
  refine .region ?_
  refine .q .move ?_
  refine .q (.i64 ((i + 1 : Nat) : Int) .add ⟨by omega, by omega, by omega⟩) ?_
  refine .q .assign ?_
  refine .nil ?_
  · exact loopQ_i (i + 1, v7, T7) ⟨hlt, hO7⟩ (by simp only; omega) ((((((EnvLe.nil _).cons rfl).cons rfl).cons rfl).cons rfl).cons rfl) (HLe.pick [1, 1] _)
  have hk3 : i = l.length := by have := of_decide_eq_false h1; omega
  subst hk3
  rw [List.take_length] at hO hgl ⊢
  refine .exit (seqQ_x (loopQ_x (blkQ_x ?_)))
  refine seqQ_n ?_
  refine .seq ?_
  refine .seq (.region ?_)
  refine .q .move ?_
  refine .q .not ?_
  refine .nil (seqQ_n ?_)
  refine .cond rfl (fun h3 => ?_) (fun h3 => ?_)
  refine .region ?_
  refine .q .move ?_
  refine .q (.loadA rfl) ?_
  refine TriOps.buildSlice1A (fun b39 => ?_)
  refine TriOps.append hO (RS.lits (xs := [t]) rfl (by simp [SRow.enc, Tpl.enc]) (by simp [SRow.enc, Tpl.enc, oneCell])) (by simp; omega) (fun v5 T5 hO5 => ?_)
  refine .q .assign ?_
  refine .nil (seqQ_n ?_)
  refine .seq (.region ?_)
  refine .q .move ?_
  refine .q .assign ?_
  refine .nil (seqQ_n ?_)
  refine .ret (retQ_r _ (.one (.tmp rfl)) ((HLe.pick [2] _)) ?_)
  · have han : l.any (rlt t) = false := by simpa using h3
    refine ⟨_, by simp [take, dropAt]; rfl, ?_⟩
    have e0 : gpre rlt t l = l := by unfold gpre; rw [han]; rfl
    rw [e0] at hO5
    rw [gins_end han]; exact hO5
  refine .skip ?_
  refine seqQ_n ?_
  refine .seq (.region ?_)
  refine .q .move ?_
  refine .q .assign ?_
  refine .nil (seqQ_n ?_)
  refine .ret (retQ_r _ (.one (.tmp rfl)) ((HLe.pick [1] _)) ?_)
  · have han : l.any (rlt t) = true := by simpa using h3
    refine ⟨_, by simp [take, dropAt]; rfl, ?_⟩
    have e0 : gpre rlt t l = gins rlt t l := by unfold gpre; rw [han]; rfl
    rw [e0] at hO; exact hO
/-- What 'Find' answers. -/
def FndR (L : List SRow) (t : Tpl) (z : Int) : Prop := (∃ (j : Nat) (x : SRow), z = j ∧ L[j]? = some x ∧ x.openOf t = true ∧ ∀ k y, k < j → L[k]? = some y → y.openOf t = false) ∨ (z = -1 ∧ sthere L t = false)
theorem FndR.lt {L : List SRow} {t : Tpl} {z : Int} (h : FndR L t z) : decide (z < 0) = !sthere L t := by
  rcases h with ⟨j, x, rfl, hx, ho, _⟩ | ⟨rfl, h⟩
  · rw [decide_eq_false (by omega), sthere, List.any_eq_true.2 ⟨x, List.mem_of_getElem? hx, ho⟩]; rfl
  · rw [h]; rfl
theorem FndR.ge {L : List SRow} {t : Tpl} {z : Int} (h : FndR L t z) : decide (0 ≤ z) = sthere L t := by
  have h1 := h.lt
  have h2 : decide (0 ≤ z) = !decide (z < 0) := by rw [Bool.eq_iff_iff]; simp
  rw [h2, h1, Bool.not_not]
section
variable {R : Rds} {b : Nat} {S : Sto} {vL : Value} {L : List SRow}
theorem DV.find (h : DV R b S vL L) (t : Tpl) : Spec Tryz.prog 39 [.pointer (some ⟨b, 0, none⟩), .agg t.enc.toArray] R [] fun u H' => (∃ z, u = .int .i64 z ∧ FndR L t z) ∧ H' = [] := by
  have pc := h.pc
  have ivl := h.rs.oneCell
  have hle := h.rs.le
  obtain ⟨pv, kv_, rfl⟩ := h.rs.val
  have hrs := h.rs
  refine Spec.body Tryz.func39 rfl Tryz.results39 Tryz.ntmps39 rfl ?_
  refine .seq (.region ?_)
  refine TriOps.boxA rfl (fun b3 => ?_)
  refine .q .assign ?_
  refine .nil (seqQ_n ?_)
  refine .seq ?_
  refine .seq (.region ?_)
  refine .q .assign ?_
  refine .nil (seqQ_n ?_)
  refine .block ?_
  refine .loop (X := Nat) (fun i => i ≤ L.length ∧ ∀ k y, k < i → L[k]? = some y → y.openOf t = false) (fun i => [(0, .pointer (some ⟨b, 0, none⟩)), (3, .pointer (some ⟨b3, 0, none⟩)), (5, .int .i64 (i : Nat))]) (fun _ => [[(b3, .cells t.enc.toArray 70 (0, 0))]]) (fun i => L.length - i) 0 ⟨Nat.zero_le _, fun k y hk => absurd hk (Nat.not_lt_zero _)⟩ ((((EnvLe.nil _).cons rfl).cons rfl).cons rfl) (HLe.refl _) ?_
  rintro i ⟨hi, hn⟩
  refine .seq ?_
  refine .seq (.region ?_)
  refine .q .move ?_
  refine .q .move ?_
  refine .q (.nilCheck rfl) ?_
  refine .q (.fieldAddr rfl) ?_
  refine .q (.load1 rfl) ?_
  refine .q (.lenR hrs) ?_
  refine .q .lss ?_
  refine .nil (seqQ_n ?_)
  refine .cond rfl (fun h1 => ?_) (fun h1 => ?_)
  have hlt : i < L.length := by have := of_decide_eq_true h1; omega
  obtain ⟨x, hx⟩ : ∃ x, L[i]? = some x := ⟨_, List.getElem?_eq_getElem hlt⟩
  refine .skip ?_
  refine seqQ_n ?_
  refine .seq ?_
  refine .block ?_
  refine .seq ?_
  refine .region_still mixed (by kernel_rfl) ?_
  refine .q .move ?_
  refine .q (.nilCheck rfl) ?_
  refine .q (.fieldAddr rfl) ?_
  refine .q (.load1 rfl) ?_
  refine .q .move ?_
  refine TriOps.indexR i hrs hx (fun p20 => ?_)
  refine .q (.fieldAddr rfl) ?_
  refine .q (.loadT rfl) ?_
  refine .q (.loadA rfl) ?_
  refine .q (.eqA rfl rfl (Tpl.kinds x.t) (Tpl.kinds t)) ?_
  rw [show cellsEq (List.take 7 (List.drop 0 x.enc)) t.enc = decide (x.t = t) from Tpl.eq x.t t]
  refine .q .move ?_
  refine TriOps.split (t := 25) rfl (fun g4_10 => ?_) (fun g4_10 => ?_)
  refine TriOps.gT g4_10 ?_
  refine .q .move ?_
  refine TriOps.gT g4_10 ?_
  refine .q (.nilCheck rfl) ?_
  refine TriOps.gT g4_10 ?_
  refine .q (.fieldAddr rfl) ?_
  refine TriOps.gT g4_10 ?_
  refine .q (.load1 rfl) ?_
  refine TriOps.gT g4_10 ?_
  refine .q .move ?_
  refine TriOps.gT g4_10 ?_
  refine TriOps.indexR i hrs hx (fun p31 => ?_)
  refine TriOps.gT g4_10 ?_
  refine .q (.fieldAddr rfl) ?_
  refine TriOps.gT g4_10 ?_
  refine .q (.load1 rfl) ?_
  refine TriOps.gT g4_10 ?_
  refine .q .eqI ?_
  refine .q (.pickTh g4_10) ?_
  refine .nil (seqQ_n ?_)
  refine .cond rfl (fun h2 => ?_) (fun h2 => ?_)
  refine .seq (.region ?_)
  refine .q .move ?_
  refine .q .assign ?_
  refine .nil (seqQ_n ?_)
  refine .ret (blkQ_r (seqQ_r (loopQ_r (blkQ_r (seqQ_r (retQ_r _ (.one (.tmp rfl)) (.none _) ?_))))))
  · exact ⟨⟨_, rfl, .inl ⟨i, x, rfl, hx, by unfold SRow.openOf; simp_all, hn⟩⟩, rfl⟩
  refine .skip ?_
  refine blkQ_n (seqQ_n ?_)
  refine .region ?_
  refine .q .move ?_
  refine .q (.i64 ((i + 1 : Nat) : Int) .add ⟨by omega, by omega, by omega⟩) ?_
  refine .q .assign ?_
  refine .nil ?_
  · exact loopQ_i (i + 1) ⟨hlt, fun k y hk hy => by
      rcases Nat.lt_or_eq_of_le (Nat.le_of_lt_succ hk) with h3 | h3
      · exact hn k y h3 hy
      · subst h3
        rw [hx] at hy
        cases hy
        unfold SRow.openOf
        simp_all⟩ (by omega) ((((EnvLe.nil _).cons rfl).cons rfl).cons rfl) (HLe.refl _)
  refine TriOps.gF g4_10 ?_
  refine TriOps.gF g4_10 ?_
  refine TriOps.gF g4_10 ?_
  refine TriOps.gF g4_10 ?_
  refine TriOps.gF g4_10 ?_
  refine TriOps.gF g4_10 ?_
  refine TriOps.gF g4_10 ?_
  refine TriOps.gF g4_10 ?_
  refine TriOps.gF g4_10 ?_
  refine .q (.pickFh g4_10) ?_
  refine .nil (seqQ_n ?_)
  refine .condF ?_
  refine .skip ?_
  refine blkQ_n (seqQ_n ?_)
  refine .region ?_
  refine .q .move ?_
  refine .q (.i64 ((i + 1 : Nat) : Int) .add ⟨by omega, by omega, by omega⟩) ?_
  refine .q .assign ?_
  refine .nil ?_
  · exact loopQ_i (i + 1) ⟨hlt, fun k y hk hy => by
      rcases Nat.lt_or_eq_of_le (Nat.le_of_lt_succ hk) with h3 | h3
      · exact hn k y h3 hy
      · subst h3
        rw [hx] at hy
        cases hy
        unfold SRow.openOf
        simp_all⟩ (by omega) ((((EnvLe.nil _).cons rfl).cons rfl).cons rfl) (HLe.refl _)
  refine .exit (seqQ_x (loopQ_x (blkQ_x ?_)))
  refine seqQ_n ?_
  refine .seq (.region ?_)
  refine .q .assign ?_
  refine .nil (seqQ_n ?_)
  refine .ret (retQ_r _ (.one (.tmp rfl)) (.none _) ?_)
  · have hie : i = L.length := by have := of_decide_eq_false h1; omega
    refine ⟨⟨_, rfl, .inr ⟨rfl, ?_⟩⟩, rfl⟩
    unfold sthere
    rw [List.any_eq_false]
    intro y hy ho
    obtain ⟨j, hj, rfl⟩ := List.mem_iff_getElem.1 hy
    have := hn j _ (by omega) (List.getElem?_eq_getElem hj)
    rw [this] at ho
    cases ho
theorem rcheck_spec (vm vn vc : Value) (must no : List Tpl) (cs : List Chg) (R : Rds) (hM : RS R 7 Tpl.enc vm must) (hN : RS R 7 Tpl.enc vn no) (hC : RS R 8 Chg.enc vc cs) (fm : ∀ t ∈ must, t.fits) (fn : ∀ t ∈ no, t.fits) (fc : ∀ c ∈ cs, c.t.fits) :
    Spec Tryz.prog 36 [vm, vn, vc] R [] fun u H' => u = .int .i64 (scheck must no cs) ∧ H' = [] := by
  have lm := hM.le
  have ln := hN.le
  have lc := hC.le
  obtain ⟨pm, km, rfl⟩ := hM.val
  obtain ⟨pn, kn, rfl⟩ := hN.val
  obtain ⟨pv, kc, rfl⟩ := hC.val
  refine Spec.body Tryz.func36 rfl Tryz.results36 Tryz.ntmps36 rfl ?_
  refine .seq (.region ?_)
  refine .q .assign ?_
  refine .nil (seqQ_n ?_)
  refine .seq ?_
  refine .seq (.region ?_)
  refine .q .move ?_
  refine .q (.lenR hC) ?_
  refine .q .gtr ?_
  refine .q .move ?_
  refine TriOps.split (t := 15) rfl (fun g1_3 => ?_) (fun g1_3 => ?_)
  refine TriOps.gF g1_3 ?_
  refine TriOps.gF g1_3 ?_
  refine TriOps.gF g1_3 ?_
  refine .q (.pickTh g1_3) ?_
  refine .q .move ?_
  refine TriOps.gf rfl rfl ?_
  refine TriOps.gf rfl rfl ?_
  refine TriOps.gf rfl rfl ?_
  refine .q .pickT ?_
  refine .q .move ?_
  refine TriOps.gf rfl rfl ?_
  refine TriOps.gf rfl rfl ?_
  refine TriOps.gf rfl rfl ?_
  refine .q .pickT ?_
  refine .nil (seqQ_n ?_)
  refine .condT ?_
  have hl : 32 < cs.length ∨ cs.length = 0 ∨ 32 < must.length ∨ 32 < no.length := by simp_all; try omega
  refine .seq (.region ?_)
  refine .q .assign ?_
  refine .nil (seqQ_n ?_)
  refine .ret (seqQ_r (retQ_r _ (.one (.tmp rfl)) (.none _) ?_))
  · first
      | (refine ⟨?_, rfl⟩; rw [hc]; done)
      | (refine ⟨?_, rfl⟩; rw [scheck_len hl]; done)
      | (refine ⟨?_, rfl⟩; rw [scheck_end hl hA hB hD2 false (by simp [hU])]; rfl)
  refine TriOps.gT g1_3 ?_
  refine .q .move ?_
  refine TriOps.gT g1_3 ?_
  refine .q (.lenR hC) ?_
  refine TriOps.gT g1_3 ?_
  refine .q .eqI ?_
  refine .q (.pickFh g1_3) ?_
  refine .q .move ?_
  refine TriOps.split (t := 20) rfl (fun g1_8 => ?_) (fun g1_8 => ?_)
  refine TriOps.gF g1_8 ?_
  refine TriOps.gF g1_8 ?_
  refine TriOps.gF g1_8 ?_
  refine .q (.pickTh g1_8) ?_
  refine .q .move ?_
  refine TriOps.gf rfl rfl ?_
  refine TriOps.gf rfl rfl ?_
  refine TriOps.gf rfl rfl ?_
  refine .q .pickT ?_
  refine .nil (seqQ_n ?_)
  refine .condT ?_
  have hl : 32 < cs.length ∨ cs.length = 0 ∨ 32 < must.length ∨ 32 < no.length := by simp_all; try omega
  refine .seq (.region ?_)
  refine .q .assign ?_
  refine .nil (seqQ_n ?_)
  refine .ret (seqQ_r (retQ_r _ (.one (.tmp rfl)) (.none _) ?_))
  · first
      | (refine ⟨?_, rfl⟩; rw [hc]; done)
      | (refine ⟨?_, rfl⟩; rw [scheck_len hl]; done)
      | (refine ⟨?_, rfl⟩; rw [scheck_end hl hA hB hD2 false (by simp [hU])]; rfl)
  refine TriOps.gT g1_8 ?_
  refine .q .move ?_
  refine TriOps.gT g1_8 ?_
  refine .q (.lenR hM) ?_
  refine TriOps.gT g1_8 ?_
  refine .q .gtr ?_
  refine .q (.pickFh g1_8) ?_
  refine .q .move ?_
  refine TriOps.split (t := 25) rfl (fun g1_13 => ?_) (fun g1_13 => ?_)
  refine TriOps.gF g1_13 ?_
  refine TriOps.gF g1_13 ?_
  refine TriOps.gF g1_13 ?_
  refine .q (.pickTh g1_13) ?_
  refine .nil (seqQ_n ?_)
  refine .condT ?_
  have hl : 32 < cs.length ∨ cs.length = 0 ∨ 32 < must.length ∨ 32 < no.length := by simp_all; try omega
  refine .seq (.region ?_)
  refine .q .assign ?_
  refine .nil (seqQ_n ?_)
  refine .ret (seqQ_r (retQ_r _ (.one (.tmp rfl)) (.none _) ?_))
  · first
      | (refine ⟨?_, rfl⟩; rw [hc]; done)
      | (refine ⟨?_, rfl⟩; rw [scheck_len hl]; done)
      | (refine ⟨?_, rfl⟩; rw [scheck_end hl hA hB hD2 false (by simp [hU])]; rfl)
  refine TriOps.gT g1_13 ?_
  refine .q .move ?_
  refine TriOps.gT g1_13 ?_
  refine .q (.lenR hN) ?_
  refine TriOps.gT g1_13 ?_
  refine .q .gtr ?_
  refine .q (.pickFh g1_13) ?_
  refine .nil (seqQ_n ?_)
  refine .cond rfl (fun h1 => ?_) (fun h1 => ?_)
  have hl : 32 < cs.length ∨ cs.length = 0 ∨ 32 < must.length ∨ 32 < no.length := by simp_all; try omega
  refine .seq (.region ?_)
  refine .q .assign ?_
  refine .nil (seqQ_n ?_)
  refine .ret (seqQ_r (retQ_r _ (.one (.tmp rfl)) (.none _) ?_))
  · first
      | (refine ⟨?_, rfl⟩; rw [hc]; done)
      | (refine ⟨?_, rfl⟩; rw [scheck_len hl]; done)
      | (refine ⟨?_, rfl⟩; rw [scheck_end hl hA hB hD2 false (by simp [hU])]; rfl)
  have hl : ¬ (32 < cs.length ∨ cs.length = 0 ∨ 32 < must.length ∨ 32 < no.length) := by simp_all; try omega
  refine .skip ?_
  refine seqQ_n ?_
  refine .seq ?_
  refine .seq (.region ?_)
  refine .q .assign ?_
  refine .nil (seqQ_n ?_)
  refine .block ?_
  refine .loop (X := Nat) (fun i => i ≤ must.length ∧ (must.take i).any (fun t => !isTpl t) = false) (fun i => [(0, .slice pm must.length km), (1, .slice pn no.length kn), (2, .slice pv cs.length kc), (7, .int .i64 (i : Nat))]) (fun _ => []) (fun i => must.length - i) 0 ⟨Nat.zero_le _, by simp⟩ (((((EnvLe.nil _).cons rfl).cons rfl).cons rfl).cons rfl) (HLe.refl _) ?_
  rintro i ⟨hi, hA⟩
  refine .seq ?_
  refine .seq (.region ?_)
  refine .q .move ?_
  refine .q .move ?_
  refine .q (.lenR hM) ?_
  refine .q .lss ?_
  refine .nil (seqQ_n ?_)
  refine .cond rfl (fun h2 => ?_) (fun h2 => ?_)
  have hlt : i < must.length := by have := of_decide_eq_true h2; omega
  obtain ⟨x, hx⟩ : ∃ x, must[i]? = some x := ⟨_, List.getElem?_eq_getElem hlt⟩
  refine .skip ?_
  refine seqQ_n ?_
  refine .seq ?_
  refine .block ?_
  refine .seq (.region ?_)
  refine .q .move ?_
  refine .q .move ?_
  refine TriOps.indexR i hM hx (fun p38 => ?_)
  refine .q (.loadA rfl) ?_
  refine TriOps.callR (risTpl_spec x (fm x (List.mem_of_getElem? hx)) _) (fun v hv => ?_)
  subst hv
  refine .q .not ?_
  refine .nil (seqQ_n ?_)
  refine .cond rfl (fun h3 => ?_) (fun h3 => ?_)
  have hc : scheck must no cs = 9 := scheck_name hl (by rw [List.any_eq_true.2 ⟨x, List.mem_of_getElem? hx, h3⟩]; simp)
  refine .seq (.region ?_)
  refine .q .assign ?_
  refine .nil (seqQ_n ?_)
  refine .ret (blkQ_r (seqQ_r (loopQ_r (blkQ_r (seqQ_r (retQ_r _ (.one (.tmp rfl)) (.none _) ?_))))))
  · first
      | (refine ⟨?_, rfl⟩; rw [hc]; done)
      | (refine ⟨?_, rfl⟩; rw [scheck_len hl]; done)
      | (refine ⟨?_, rfl⟩; rw [scheck_end hl hA hB hD2 false (by simp [hU])]; rfl)
  refine .skip ?_
  refine blkQ_n (seqQ_n ?_)
  refine .region ?_
  refine .q .move ?_
  refine .q (.i64 ((i + 1 : Nat) : Int) .add ⟨by omega, by omega, by omega⟩) ?_
  refine .q .assign ?_
  refine .nil ?_
  · exact loopQ_i (i + 1) ⟨hlt, by rw [List.take_add_one, hx, List.any_append, hA]; simp; simpa using h3⟩ (by omega) (((((EnvLe.nil _).cons rfl).cons rfl).cons rfl).cons rfl) (HLe.refl _)
  have hie : i = must.length := by have := of_decide_eq_false h2; omega
  subst hie
  rw [List.take_length] at hA
  refine .exit (seqQ_x (loopQ_x (blkQ_x ?_)))
  refine seqQ_n ?_
  refine .seq ?_
  refine .seq (.region ?_)
  refine .q .assign ?_
  refine .nil (seqQ_n ?_)
  refine .block ?_
  refine .loop (X := Nat) (fun i => i ≤ no.length ∧ (no.take i).any (fun t => !isTpl t) = false) (fun i => [(0, .slice pm must.length km), (1, .slice pn no.length kn), (2, .slice pv cs.length kc), (8, .int .i64 (i : Nat))]) (fun _ => []) (fun i => no.length - i) 0 ⟨Nat.zero_le _, by simp⟩ (((((EnvLe.nil _).cons rfl).cons rfl).cons rfl).cons rfl) (HLe.refl _) ?_
  rintro i ⟨hi, hB⟩
  refine .seq ?_
  refine .seq (.region ?_)
  refine .q .move ?_
  refine .q .move ?_
  refine .q (.lenR hN) ?_
  refine .q .lss ?_
  refine .nil (seqQ_n ?_)
  refine .cond rfl (fun h4 => ?_) (fun h4 => ?_)
  have hlt : i < no.length := by have := of_decide_eq_true h4; omega
  obtain ⟨x, hx⟩ : ∃ x, no[i]? = some x := ⟨_, List.getElem?_eq_getElem hlt⟩
  refine .skip ?_
  refine seqQ_n ?_
  refine .seq ?_
  refine .block ?_
  refine .seq (.region ?_)
  refine .q .move ?_
  refine .q .move ?_
  refine TriOps.indexR i hN hx (fun p50 => ?_)
  refine .q (.loadA rfl) ?_
  refine TriOps.callR (risTpl_spec x (fn x (List.mem_of_getElem? hx)) _) (fun v hv => ?_)
  subst hv
  refine .q .not ?_
  refine .nil (seqQ_n ?_)
  refine .cond rfl (fun h5 => ?_) (fun h5 => ?_)
  have hc : scheck must no cs = 9 := scheck_name hl (by rw [hA, List.any_eq_true.2 ⟨x, List.mem_of_getElem? hx, h5⟩]; simp)
  refine .seq (.region ?_)
  refine .q .assign ?_
  refine .nil (seqQ_n ?_)
  refine .ret (blkQ_r (seqQ_r (loopQ_r (blkQ_r (seqQ_r (retQ_r _ (.one (.tmp rfl)) (.none _) ?_))))))
  · first
      | (refine ⟨?_, rfl⟩; rw [hc]; done)
      | (refine ⟨?_, rfl⟩; rw [scheck_len hl]; done)
      | (refine ⟨?_, rfl⟩; rw [scheck_end hl hA hB hD2 false (by simp [hU])]; rfl)
  refine .skip ?_
  refine blkQ_n (seqQ_n ?_)
  refine .region ?_
  refine .q .move ?_
  refine .q (.i64 ((i + 1 : Nat) : Int) .add ⟨by omega, by omega, by omega⟩) ?_
  refine .q .assign ?_
  refine .nil ?_
  · exact loopQ_i (i + 1) ⟨hlt, by rw [List.take_add_one, hx, List.any_append, hB]; simp; simpa using h5⟩ (by omega) (((((EnvLe.nil _).cons rfl).cons rfl).cons rfl).cons rfl) (HLe.refl _)
  have hie : i = no.length := by have := of_decide_eq_false h4; omega
  subst hie
  rw [List.take_length] at hB
  refine .exit (seqQ_x (loopQ_x (blkQ_x ?_)))
  refine seqQ_n ?_
  refine .seq ?_
  refine .seq (.region ?_)
  refine .q .assign ?_
  refine .nil (seqQ_n ?_)
  refine .block ?_
  refine .loop (X := Nat) (fun i => i ≤ cs.length ∧ (cs.take i).any (fun c => !isTpl c.t) = false) (fun i => [(0, .slice pm must.length km), (1, .slice pn no.length kn), (2, .slice pv cs.length kc), (9, .int .i64 (i : Nat))]) (fun _ => []) (fun i => cs.length - i) 0 ⟨Nat.zero_le _, by simp⟩ (((((EnvLe.nil _).cons rfl).cons rfl).cons rfl).cons rfl) (HLe.refl _) ?_
  rintro i ⟨hi, hD⟩
  refine .seq ?_
  refine .seq (.region ?_)
  refine .q .move ?_
  refine .q .move ?_
  refine .q (.lenR hC) ?_
  refine .q .lss ?_
  refine .nil (seqQ_n ?_)
  refine .cond rfl (fun h6 => ?_) (fun h6 => ?_)
  have hlt : i < cs.length := by have := of_decide_eq_true h6; omega
  obtain ⟨x, hx⟩ : ∃ x, cs[i]? = some x := ⟨_, List.getElem?_eq_getElem hlt⟩
  refine .skip ?_
  refine seqQ_n ?_
  refine .seq ?_
  refine .block ?_
  refine .seq (.region ?_)
  refine .q .move ?_
  refine .q .move ?_
  refine TriOps.indexR i hC hx (fun p62 => ?_)
  refine .q (.fieldAddr rfl) ?_
  refine .q (.loadT rfl) ?_
  refine TriOps.callR (risTpl_spec x.t (fc x (List.mem_of_getElem? hx)) _) (fun v hv => ?_)
  subst hv
  refine .q .not ?_
  refine .nil (seqQ_n ?_)
  refine .cond rfl (fun h7 => ?_) (fun h7 => ?_)
  have hc : scheck must no cs = 9 := scheck_name hl (by rw [hA, hB, List.any_eq_true.2 ⟨x, List.mem_of_getElem? hx, h7⟩]; simp)
  refine .seq (.region ?_)
  refine .q .assign ?_
  refine .nil (seqQ_n ?_)
  refine .ret (blkQ_r (seqQ_r (loopQ_r (blkQ_r (seqQ_r (retQ_r _ (.one (.tmp rfl)) (.none _) ?_))))))
  · first
      | (refine ⟨?_, rfl⟩; rw [hc]; done)
      | (refine ⟨?_, rfl⟩; rw [scheck_len hl]; done)
      | (refine ⟨?_, rfl⟩; rw [scheck_end hl hA hB hD2 false (by simp [hU])]; rfl)
  refine .skip ?_
  refine blkQ_n (seqQ_n ?_)
  refine .region ?_
  refine .q .move ?_
  refine .q (.i64 ((i + 1 : Nat) : Int) .add ⟨by omega, by omega, by omega⟩) ?_
  refine .q .assign ?_
  refine .nil ?_
  · exact loopQ_i (i + 1) ⟨hlt, by rw [List.take_add_one, hx, List.any_append, hD]; simp; simpa using h7⟩ (by omega) (((((EnvLe.nil _).cons rfl).cons rfl).cons rfl).cons rfl) (HLe.refl _)
  have hie : i = cs.length := by have := of_decide_eq_false h6; omega
  subst hie
  rw [List.take_length] at hD
  have hD2 : ∀ c ∈ cs, isTpl c.t = true := fun c hc => by
    have := List.any_eq_false.1 hD c hc
    simpa using this
  refine .exit (seqQ_x (loopQ_x (blkQ_x ?_)))
  refine seqQ_n ?_
  refine .seq ?_
  refine .seq (.region ?_)
  refine .q .assign ?_
  refine .nil (seqQ_n ?_)
  refine .block ?_
  refine .loop (X := Nat) (fun i => i ≤ cs.length ∧ ((cs.take i).map (·.t)).Nodup) (fun i => [(0, .slice pm must.length km), (1, .slice pn no.length kn), (2, .slice pv cs.length kc), (10, .int .i64 (i : Nat))]) (fun _ => []) (fun i => cs.length - i) 0 ⟨Nat.zero_le _, by simp⟩ (((((EnvLe.nil _).cons rfl).cons rfl).cons rfl).cons rfl) (HLe.refl _) ?_
  rintro i ⟨hi, hU⟩
  refine .seq ?_
  refine .seq (.region ?_)
  refine .q .move ?_
  refine .q .move ?_
  refine .q (.lenR hC) ?_
  refine .q .lss ?_
  refine .nil (seqQ_n ?_)
  refine .cond rfl (fun h8 => ?_) (fun h8 => ?_)
  have hlt : i < cs.length := by have := of_decide_eq_true h8; omega
  obtain ⟨x, hx⟩ : ∃ x, cs[i]? = some x := ⟨_, List.getElem?_eq_getElem hlt⟩
  have htk : (cs.take (i + 1)).map (·.t) = (cs.take i).map (·.t) ++ [x.t] := by rw [List.take_add_one, hx, Option.toList_some, List.map_append]; rfl
  refine .skip ?_
  refine seqQ_n ?_
  refine .seq ?_
  refine .block ?_
  refine .seq (.region ?_)
  refine .q .assign ?_
  refine .nil (seqQ_n ?_)
  refine .block ?_
  refine .loop (X := Nat) (fun k => k ≤ i ∧ x.t ∉ (cs.take k).map (·.t)) (fun k => [(0, .slice pm must.length km), (1, .slice pn no.length kn), (2, .slice pv cs.length kc), (10, .int .i64 (i : Nat)), (11, .int .i64 (k : Nat))]) (fun _ => []) (fun k => i - k) 0 ⟨Nat.zero_le _, by simp⟩ ((((((EnvLe.nil _).cons rfl).cons rfl).cons rfl).cons rfl).cons rfl) (HLe.refl _) ?_
  rintro k ⟨hk, hV⟩
  refine .seq ?_
  refine .seq (.region ?_)
  refine .q .move ?_
  refine .q .move ?_
  refine .q .lss ?_
  refine .nil (seqQ_n ?_)
  refine .cond rfl (fun h9 => ?_) (fun h9 => ?_)
  have hlk : k < i := by have := of_decide_eq_true h9; omega
  obtain ⟨y, hy⟩ : ∃ x, cs[k]? = some x := ⟨_, List.getElem?_eq_getElem (by omega)⟩
  refine .skip ?_
  refine seqQ_n ?_
  refine .seq ?_
  refine .block ?_
  refine .seq ?_
  refine .region_still mixed (by kernel_rfl) ?_
  refine .q .move ?_
  refine .q .move ?_
  refine TriOps.indexR i hC hx (fun p80 => ?_)
  refine .q (.fieldAddr rfl) ?_
  refine .q (.loadT rfl) ?_
  refine .q .move ?_
  refine .q .move ?_
  refine TriOps.indexR k hC hy (fun p85 => ?_)
  refine .q (.fieldAddr rfl) ?_
  refine .q (.loadT rfl) ?_
  refine .q (.eqA rfl rfl (Tpl.kinds x.t) (Tpl.kinds y.t)) ?_
  rw [show cellsEq (List.take 7 (List.drop 1 x.enc)) (List.take 7 (List.drop 1 y.enc)) = decide (x.t = y.t) from Tpl.eq x.t y.t]
  refine .nil (seqQ_n ?_)
  refine .cond rfl (fun h10 => ?_) (fun h10 => ?_)
  have hc : scheck must no cs = 2 := by
    rw [scheck_end hl hA hB hD2 true ?_]; rfl
    rw [eq_comm, Bool.not_eq_true', decide_eq_false_iff_not]
    intro hn
    have := List.pairwise_iff_getElem.1 hn k i (by simp; omega) (by simp; omega) hlk
    rw [List.getElem_map, List.getElem_map, (List.getElem?_eq_some_iff.1 hx).2, (List.getElem?_eq_some_iff.1 hy).2] at this
    exact this (of_decide_eq_true h10).symm
  refine .seq (.region ?_)
  refine .q .assign ?_
  refine .nil (seqQ_n ?_)
  refine .ret (blkQ_r (seqQ_r (loopQ_r (blkQ_r (blkQ_r (seqQ_r (loopQ_r (blkQ_r (seqQ_r (retQ_r _ (.one (.tmp rfl)) (.none _) ?_))))))))))
  · first
      | (refine ⟨?_, rfl⟩; rw [hc]; done)
      | (refine ⟨?_, rfl⟩; rw [scheck_len hl]; done)
      | (refine ⟨?_, rfl⟩; rw [scheck_end hl hA hB hD2 false (by simp [hU])]; rfl)
  refine .skip ?_
  refine blkQ_n (seqQ_n ?_)
  refine .region ?_
  refine .q .move ?_
  refine .q (.i64 ((k + 1 : Nat) : Int) .add ⟨by omega, by omega, by omega⟩) ?_
  refine .q .assign ?_
  refine .nil ?_
  · exact loopQ_i (k + 1) ⟨hlk, by
      rw [List.take_add_one, hy, Option.toList_some, List.map_append, List.mem_append, not_or]
      exact ⟨hV, by simpa using h10⟩⟩ (by omega) ((((((EnvLe.nil _).cons rfl).cons rfl).cons rfl).cons rfl).cons rfl) (HLe.refl _)
  have hke : k = i := by have := of_decide_eq_false h9; omega
  subst hke
  refine .exit (seqQ_x (loopQ_x (blkQ_x ?_)))
  refine blkQ_n (seqQ_n ?_)
  refine .region ?_
  refine .q .move ?_
  refine .q (.i64 ((k + 1 : Nat) : Int) .add ⟨by omega, by omega, by omega⟩) ?_
  refine .q .assign ?_
  refine .nil ?_
  · exact loopQ_i (k + 1) ⟨hlt, by
      rw [htk, List.nodup_append]
      exact ⟨hU, by simp, fun a ha b hb => by simp only [List.mem_singleton] at hb; subst hb; exact fun e => hV (e ▸ ha)⟩⟩ (by omega) (((((EnvLe.nil _).cons rfl).cons rfl).cons rfl).cons rfl) (HLe.refl _)
  have hie : i = cs.length := by have := of_decide_eq_false h8; omega
  subst hie
  rw [List.take_length] at hU
  refine .exit (seqQ_x (loopQ_x (blkQ_x ?_)))
  refine seqQ_n ?_
  refine .seq (.region ?_)
  refine .q .assign ?_
  refine .nil (seqQ_n ?_)
  refine .ret (retQ_r _ (.one (.tmp rfl)) (.none _) ?_)
  · first
      | (refine ⟨?_, rfl⟩; rw [hc]; done)
      | (refine ⟨?_, rfl⟩; rw [scheck_len hl]; done)
      | (refine ⟨?_, rfl⟩; rw [scheck_end hl hA hB hD2 false (by simp [hU])]; rfl)
end
theorem any_take {α : Type} {p : α → Bool} {l : List α} {i : Nat} {x : α} (h : (l.take i).any p = false) (hx : l[i]? = some x) (hp : p x = false) : (l.take (i + 1)).any p = false := by
  rw [List.take_add_one, hx, List.any_append, h]
  simp [hp]
theorem sfits_must {L : List SRow} {head : Int} {must no : List Tpl} {cs : List Chg} (h : (must.any (fun t => !sthere L t) || no.any (fun t => sthere L t)) = true) : sfits L head must no cs = 13 := by unfold sfits; rw [if_pos h]
theorem sfits_put {L : List SRow} {head : Int} {must no : List Tpl} {cs : List Chg} (h1 : must.any (fun t => !sthere L t) = false) (h2 : no.any (fun t => sthere L t) = false) (h : cs.any (fun c => c.put && sthere L c.t) = true) : sfits L head must no cs = 10 := by unfold sfits; rw [h1, h2, if_neg (by simp), if_pos h]
theorem sfits_del {L : List SRow} {head : Int} {must no : List Tpl} {cs : List Chg} (h1 : must.any (fun t => !sthere L t) = false) (h2 : no.any (fun t => sthere L t) = false) (h3 : cs.any (fun c => c.put && sthere L c.t) = false) (h : cs.any (fun c => !c.put && !sthere L c.t) = true) : sfits L head must no cs = 11 := by unfold sfits; rw [h1, h2, if_neg (by simp), if_neg (by rw [h3]; simp), if_pos h]
theorem sfits_rest {L : List SRow} {head : Int} {must no : List Tpl} {cs : List Chg} (h1 : must.any (fun t => !sthere L t) = false) (h2 : no.any (fun t => sthere L t) = false) (h3 : cs.any (fun c => c.put && sthere L c.t) = false) (h4 : cs.any (fun c => !c.put && !sthere L c.t) = false) : sfits L head must no cs = if 4611686018427387903 ≤ head ∨ 4096 < L.length + sputs cs ∧ 0 < sputs cs then 8 else 0 := by unfold sfits; rw [h1, h2, if_neg (by simp), if_neg (by rw [h3]; simp), if_neg (by rw [h4]; simp)]
theorem rfits_spec {R : Rds} {b : Nat} {S : Sto} {vL : Value} {L : List SRow} (h : DV R b S vL L) (hll : L.length ≤ 5000) (vm vn vc : Value) (must no : List Tpl) (cs : List Chg) (hM : RS R 7 Tpl.enc vm must) (hN : RS R 7 Tpl.enc vn no) (hC : RS R 8 Chg.enc vc cs) (hcl : cs.length ≤ 1000) :
    Spec Tryz.prog 37 [.pointer (some ⟨b, 0, none⟩), vm, vn, vc] R [] fun u H' => u = .int .i64 (sfits L S.head must no cs) ∧ H' = [] := by
  have pc := h.pc
  have ivl := h.rs.oneCell
  obtain ⟨pw, kw_, rfl⟩ := h.rs.val
  have hrs := h.rs
  have lm := hM.le
  have ln := hN.le
  have lc := hC.le
  obtain ⟨pm, km, rfl⟩ := hM.val
  obtain ⟨pn, kn, rfl⟩ := hN.val
  obtain ⟨pv, kc, rfl⟩ := hC.val
  refine Spec.body Tryz.func37 rfl Tryz.results37 Tryz.ntmps37 rfl ?_
  refine .seq (.region ?_)
  refine .q .assign ?_
  refine .nil (seqQ_n ?_)
  refine .seq ?_
  refine .seq (.region ?_)
  refine .q .assign ?_
  refine .nil (seqQ_n ?_)
  refine .block ?_
  refine .loop (X := Nat) (fun i => i ≤ must.length ∧ (must.take i).any (fun t => !sthere L t) = false) (fun i => [(0, .pointer (some ⟨b, 0, none⟩)), (1, .slice pm must.length km), (2, .slice pn no.length kn), (3, .slice pv cs.length kc), (9, .int .i64 (i : Nat))]) (fun _ => []) (fun i => must.length - i) 0 ⟨Nat.zero_le _, by simp⟩ ((((((EnvLe.nil _).cons rfl).cons rfl).cons rfl).cons rfl).cons rfl) (HLe.refl _) ?_
  rintro i ⟨hi, hA⟩
  refine .seq ?_
  refine .seq (.region ?_)
  refine .q .move ?_
  refine .q .move ?_
  refine .q (.lenR hM) ?_
  refine .q .lss ?_
  refine .nil (seqQ_n ?_)
  refine .cond rfl (fun h1 => ?_) (fun h1 => ?_)
  have hlt : i < must.length := by have := of_decide_eq_true h1; omega
  obtain ⟨x, hx⟩ : ∃ x, must[i]? = some x := ⟨_, List.getElem?_eq_getElem hlt⟩
  refine .skip ?_
  refine seqQ_n ?_
  refine .seq ?_
  refine .block ?_
  refine .seq (.region ?_)
  refine .q .move ?_
  refine .q .move ?_
  refine .q .move ?_
  refine TriOps.indexR i hM hx (fun p23 => ?_)
  refine .q (.loadA rfl) ?_
  refine TriOps.callR ((h.mono fun b o hb => .inl hb).find x) (fun v hv => ?_)
  obtain ⟨z, rfl, hz⟩ := hv
  have hzl := hz.lt
  refine .q .lss ?_
  refine .nil (seqQ_n ?_)
  refine .cond rfl (fun h2 => ?_) (fun h2 => ?_)
  have hc : sfits L S.head must no cs = 13 := sfits_must (by rw [List.any_eq_true.2 ⟨x, List.mem_of_getElem? hx, by rw [← hzl]; exact h2⟩]; simp)
  refine .seq (.region ?_)
  refine .q .assign ?_
  refine .nil (seqQ_n ?_)
  refine .ret (blkQ_r (seqQ_r (loopQ_r (blkQ_r (seqQ_r (retQ_r _ (.one (.tmp rfl)) (.none _) ?_))))))
  · first
      | (refine ⟨?_, rfl⟩; rw [hc]; done)
      | (refine ⟨?_, rfl⟩; rw [hrest]; congr 1; split <;> first | rfl | (exfalso; simp_all; done) | (exfalso; simp_all; omega))
  refine .skip ?_
  refine blkQ_n (seqQ_n ?_)
  refine .region ?_
  refine .q .move ?_
  refine .q (.i64 ((i + 1 : Nat) : Int) .add ⟨by omega, by omega, by omega⟩) ?_
  refine .q .assign ?_
  refine .nil ?_
  · exact loopQ_i (i + 1) ⟨hlt, any_take hA hx (by rw [← hzl]; exact h2)⟩ (by omega) ((((((EnvLe.nil _).cons rfl).cons rfl).cons rfl).cons rfl).cons rfl) (HLe.pick [] _)
  have hie : i = must.length := by have := of_decide_eq_false h1; omega
  subst hie
  rw [List.take_length] at hA
  refine .exit (seqQ_x (loopQ_x (blkQ_x ?_)))
  refine seqQ_n ?_
  refine .seq ?_
  refine .seq (.region ?_)
  refine .q .assign ?_
  refine .nil (seqQ_n ?_)
  refine .block ?_
  refine .loop (X := Nat) (fun i => i ≤ no.length ∧ (no.take i).any (fun t => sthere L t) = false) (fun i => [(0, .pointer (some ⟨b, 0, none⟩)), (1, .slice pm must.length km), (2, .slice pn no.length kn), (3, .slice pv cs.length kc), (10, .int .i64 (i : Nat))]) (fun _ => []) (fun i => no.length - i) 0 ⟨Nat.zero_le _, by simp⟩ ((((((EnvLe.nil _).cons rfl).cons rfl).cons rfl).cons rfl).cons rfl) (HLe.refl _) ?_
  rintro i ⟨hi, hB⟩
  refine .seq ?_
  refine .seq (.region ?_)
  refine .q .move ?_
  refine .q .move ?_
  refine .q (.lenR hN) ?_
  refine .q .lss ?_
  refine .nil (seqQ_n ?_)
  refine .cond rfl (fun h3 => ?_) (fun h3 => ?_)
  have hlt : i < no.length := by have := of_decide_eq_true h3; omega
  obtain ⟨x, hx⟩ : ∃ x, no[i]? = some x := ⟨_, List.getElem?_eq_getElem hlt⟩
  refine .skip ?_
  refine seqQ_n ?_
  refine .seq ?_
  refine .block ?_
  refine .seq (.region ?_)
  refine .q .move ?_
  refine .q .move ?_
  refine .q .move ?_
  refine TriOps.indexR i hN hx (fun p36 => ?_)
  refine .q (.loadA rfl) ?_
  refine TriOps.callR ((h.mono fun b o hb => .inl hb).find x) (fun v hv => ?_)
  obtain ⟨z, rfl, hz⟩ := hv
  have hzl := hz.ge
  refine .q .geq ?_
  refine .nil (seqQ_n ?_)
  refine .cond rfl (fun h4 => ?_) (fun h4 => ?_)
  have hc : sfits L S.head must no cs = 13 := sfits_must (by rw [hA, List.any_eq_true.2 ⟨x, List.mem_of_getElem? hx, by rw [← hzl]; exact h4⟩]; rfl)
  refine .seq (.region ?_)
  refine .q .assign ?_
  refine .nil (seqQ_n ?_)
  refine .ret (blkQ_r (seqQ_r (loopQ_r (blkQ_r (seqQ_r (retQ_r _ (.one (.tmp rfl)) (.none _) ?_))))))
  · first
      | (refine ⟨?_, rfl⟩; rw [hc]; done)
      | (refine ⟨?_, rfl⟩; rw [hrest]; congr 1; split <;> first | rfl | (exfalso; simp_all; done) | (exfalso; simp_all; omega))
  refine .skip ?_
  refine blkQ_n (seqQ_n ?_)
  refine .region ?_
  refine .q .move ?_
  refine .q (.i64 ((i + 1 : Nat) : Int) .add ⟨by omega, by omega, by omega⟩) ?_
  refine .q .assign ?_
  refine .nil ?_
  · exact loopQ_i (i + 1) ⟨hlt, any_take hB hx (by rw [← hzl]; exact h4)⟩ (by omega) ((((((EnvLe.nil _).cons rfl).cons rfl).cons rfl).cons rfl).cons rfl) (HLe.pick [] _)
  have hie : i = no.length := by have := of_decide_eq_false h3; omega
  subst hie
  rw [List.take_length] at hB
  refine .exit (seqQ_x (loopQ_x (blkQ_x ?_)))
  refine seqQ_n ?_
  refine .seq ?_
  refine .seq (.region ?_)
  refine .q .assign ?_
  refine .nil (seqQ_n ?_)
  refine .block ?_
  refine .loop (X := Nat) (fun i => i ≤ cs.length ∧ (cs.take i).any (fun c => c.put && sthere L c.t) = false) (fun i => [(0, .pointer (some ⟨b, 0, none⟩)), (1, .slice pm must.length km), (2, .slice pn no.length kn), (3, .slice pv cs.length kc), (11, .int .i64 (i : Nat))]) (fun _ => []) (fun i => cs.length - i) 0 ⟨Nat.zero_le _, by simp⟩ ((((((EnvLe.nil _).cons rfl).cons rfl).cons rfl).cons rfl).cons rfl) (HLe.refl _) ?_
  rintro i ⟨hi, hD⟩
  refine .seq ?_
  refine .seq (.region ?_)
  refine .q .move ?_
  refine .q .move ?_
  refine .q (.lenR hC) ?_
  refine .q .lss ?_
  refine .nil (seqQ_n ?_)
  refine .cond rfl (fun h5 => ?_) (fun h5 => ?_)
  have hlt : i < cs.length := by have := of_decide_eq_true h5; omega
  obtain ⟨x, hx⟩ : ∃ x, cs[i]? = some x := ⟨_, List.getElem?_eq_getElem hlt⟩
  refine .skip ?_
  refine seqQ_n ?_
  refine .seq ?_
  refine .block ?_
  refine .seq (.region ?_)
  refine .q .move ?_
  refine .q .move ?_
  refine TriOps.indexR i hC hx (fun p48 => ?_)
  refine .q (.fieldAddr rfl) ?_
  refine .q (.load1 rfl) ?_
  refine .q .move ?_
  refine TriOps.split (t := 51) rfl (fun g14_5 => ?_) (fun g14_5 => ?_)
  refine TriOps.gT g14_5 ?_
  refine .q .move ?_
  refine TriOps.gT g14_5 ?_
  refine .q .move ?_
  refine TriOps.gT g14_5 ?_
  refine .q .move ?_
  refine TriOps.gT g14_5 ?_
  refine TriOps.indexR i hC hx (fun p55 => ?_)
  refine TriOps.gT g14_5 ?_
  refine .q (.fieldAddr rfl) ?_
  refine TriOps.gT g14_5 ?_
  refine .q (.loadT rfl) ?_
  refine TriOps.gT g14_5 ?_
  refine TriOps.callR ((h.mono fun b o hb => .inl hb).find x.t) (fun v hv => ?_)
  obtain ⟨z, rfl, hz⟩ := hv
  have hzl := hz.ge
  refine TriOps.gT g14_5 ?_
  refine .q .geq ?_
  refine .q (.pickTh g14_5) ?_
  refine .nil (seqQ_n ?_)
  refine .cond rfl (fun h6 => ?_) (fun h6 => ?_)
  have hc : sfits L S.head must no cs = 10 := sfits_put hA hB (List.any_eq_true.2 ⟨x, List.mem_of_getElem? hx, by rw [← hzl, g14_5]; exact h6⟩)
  refine .seq (.region ?_)
  refine .q .assign ?_
  refine .nil (seqQ_n ?_)
  refine .ret (blkQ_r (seqQ_r (loopQ_r (blkQ_r (seqQ_r (retQ_r _ (.one (.tmp rfl)) (.none _) ?_))))))
  · first
      | (refine ⟨?_, rfl⟩; rw [hc]; done)
      | (refine ⟨?_, rfl⟩; rw [hrest]; congr 1; split <;> first | rfl | (exfalso; simp_all; done) | (exfalso; simp_all; omega))
  refine .skip ?_
  refine blkQ_n (seqQ_n ?_)
  refine .region ?_
  refine .q .move ?_
  refine .q (.i64 ((i + 1 : Nat) : Int) .add ⟨by omega, by omega, by omega⟩) ?_
  refine .q .assign ?_
  refine .nil ?_
  · first
      | exact loopQ_i (i + 1) ⟨hlt, any_take hD hx (by rw [← hzl, g14_5]; exact h6)⟩ (by omega) ((((((EnvLe.nil _).cons rfl).cons rfl).cons rfl).cons rfl).cons rfl) (HLe.pick [] _)
      | exact loopQ_i (i + 1) ⟨hlt, any_take hD hx (by rw [g14_5]; rfl)⟩ (by omega) ((((((EnvLe.nil _).cons rfl).cons rfl).cons rfl).cons rfl).cons rfl) (HLe.pick [] _)
  refine TriOps.gF g14_5 ?_
  refine TriOps.gF g14_5 ?_
  refine TriOps.gF g14_5 ?_
  refine TriOps.gF g14_5 ?_
  refine TriOps.gF g14_5 ?_
  refine TriOps.gF g14_5 ?_
  refine TriOps.gF g14_5 ?_
  refine TriOps.gF g14_5 ?_
  refine .q (.pickFh g14_5) ?_
  refine .nil (seqQ_n ?_)
  refine .condF ?_
  refine .skip ?_
  refine blkQ_n (seqQ_n ?_)
  refine .region ?_
  refine .q .move ?_
  refine .q (.i64 ((i + 1 : Nat) : Int) .add ⟨by omega, by omega, by omega⟩) ?_
  refine .q .assign ?_
  refine .nil ?_
  · first
      | exact loopQ_i (i + 1) ⟨hlt, any_take hD hx (by rw [← hzl, g14_5]; exact h6)⟩ (by omega) ((((((EnvLe.nil _).cons rfl).cons rfl).cons rfl).cons rfl).cons rfl) (HLe.pick [] _)
      | exact loopQ_i (i + 1) ⟨hlt, any_take hD hx (by rw [g14_5]; rfl)⟩ (by omega) ((((((EnvLe.nil _).cons rfl).cons rfl).cons rfl).cons rfl).cons rfl) (HLe.pick [] _)
  have hie : i = cs.length := by have := of_decide_eq_false h5; omega
  subst hie
  rw [List.take_length] at hD
  refine .exit (seqQ_x (loopQ_x (blkQ_x ?_)))
  refine seqQ_n ?_
  refine .seq (.region ?_)
  refine .q .move ?_
  refine .q (.nilCheck rfl) ?_
  refine .q (.fieldAddr rfl) ?_
  refine .q (.load1 rfl) ?_
  refine .q (.lenR hrs) ?_
  refine .q .assign ?_
  refine .nil (seqQ_n ?_)
  refine .seq ?_
  refine .seq (.region ?_)
  refine .q .assign ?_
  refine .nil (seqQ_n ?_)
  refine .block ?_
  refine .loop (X := Nat) (fun i => i ≤ cs.length ∧ (cs.take i).any (fun c => !c.put && !sthere L c.t) = false) (fun i => [(0, .pointer (some ⟨b, 0, none⟩)), (1, .slice pm must.length km), (2, .slice pn no.length kn), (3, .slice pv cs.length kc), (12, .int .i64 ((L.length + sputs (cs.take i) : Nat) : Int)), (13, .int .i64 (i : Nat))]) (fun _ => []) (fun i => cs.length - i) 0 ⟨Nat.zero_le _, by simp⟩ (((((((EnvLe.nil _).cons rfl).cons rfl).cons rfl).cons rfl).cons rfl).cons rfl) (HLe.refl _) ?_
  rintro i ⟨hi, hE⟩
  have hsl : sputs (cs.take i) ≤ 1000 := by unfold sputs; exact Nat.le_trans (List.length_filter_le _ _) (by rw [List.length_take]; omega)
  refine .seq ?_
  refine .seq (.region ?_)
  refine .q .move ?_
  refine .q .move ?_
  refine .q (.lenR hC) ?_
  refine .q .lss ?_
  refine .nil (seqQ_n ?_)
  refine .cond rfl (fun h7 => ?_) (fun h7 => ?_)
  have hlt : i < cs.length := by have := of_decide_eq_true h7; omega
  obtain ⟨x, hx⟩ : ∃ x, cs[i]? = some x := ⟨_, List.getElem?_eq_getElem hlt⟩
  have hsn := sputs_next hx
  refine .skip ?_
  refine seqQ_n ?_
  refine .seq ?_
  refine .block ?_
  refine .seq ?_
  refine .seq (.region ?_)
  refine .q .move ?_
  refine .q .move ?_
  refine TriOps.indexR i hC hx (fun p74 => ?_)
  refine .q (.fieldAddr rfl) ?_
  refine .q (.load1 rfl) ?_
  refine .q .not ?_
  refine .q .move ?_
  refine TriOps.split (t := 78) rfl (fun g20_6 => ?_) (fun g20_6 => ?_)
  refine TriOps.gT g20_6 ?_
  refine .q .move ?_
  refine TriOps.gT g20_6 ?_
  refine .q .move ?_
  refine TriOps.gT g20_6 ?_
  refine .q .move ?_
  refine TriOps.gT g20_6 ?_
  refine TriOps.indexR i hC hx (fun p82 => ?_)
  refine TriOps.gT g20_6 ?_
  refine .q (.fieldAddr rfl) ?_
  refine TriOps.gT g20_6 ?_
  refine .q (.loadT rfl) ?_
  refine TriOps.gT g20_6 ?_
  refine TriOps.callR ((h.mono fun b o hb => .inl hb).find x.t) (fun v hv => ?_)
  obtain ⟨z, rfl, hz⟩ := hv
  have hzl := hz.lt
  refine TriOps.gT g20_6 ?_
  refine .q .lss ?_
  refine .q (.pickTh g20_6) ?_
  refine .nil (seqQ_n ?_)
  refine .cond rfl (fun h8 => ?_) (fun h8 => ?_)
  have hc : sfits L S.head must no cs = 11 := sfits_del hA hB hD (List.any_eq_true.2 ⟨x, List.mem_of_getElem? hx, by rw [← hzl, g20_6]; exact h8⟩)
  refine .seq (.region ?_)
  refine .q .assign ?_
  refine .nil (seqQ_n ?_)
  refine .ret (seqQ_r (blkQ_r (seqQ_r (loopQ_r (blkQ_r (seqQ_r (retQ_r _ (.one (.tmp rfl)) (.none _) ?_)))))))
  · first
      | (refine ⟨?_, rfl⟩; rw [hc]; done)
      | (refine ⟨?_, rfl⟩; rw [hrest]; congr 1; split <;> first | rfl | (exfalso; simp_all; done) | (exfalso; simp_all; omega))
  refine .skip ?_
  refine seqQ_n ?_
  refine .seq (.region ?_)
  refine .q .move ?_
  refine .q .move ?_
  refine TriOps.indexR i hC hx (fun p90 => ?_)
  refine .q (.fieldAddr rfl) ?_
  refine .q (.load1 rfl) ?_
  refine .nil (seqQ_n ?_)
  refine .cond rfl (fun h9 => ?_) (fun h9 => ?_)
  have e12 : L.length + sputs (cs.take (i + 1)) = L.length + sputs (cs.take i) + 1 := by rw [hsn, if_pos h9]; rfl
  refine .region ?_
  refine .q .move ?_
  refine .q (.i64 ((L.length + sputs (cs.take i) + 1 : Nat) : Int) .add ⟨by omega, by omega, by omega⟩) ?_
  refine .q .assign ?_
  refine .nil ?_
  refine blkQ_n (seqQ_n ?_)
  refine .region ?_
  refine .q .move ?_
  refine .q (.i64 ((i + 1 : Nat) : Int) .add ⟨by omega, by omega, by omega⟩) ?_
  refine .q .assign ?_
  refine .nil ?_
  · first
      | (exfalso; rw [h9] at g20_6; cases g20_6; done)
      | (refine loopQ_i (i + 1) ⟨hlt, any_take hE hx ?_⟩ (by omega) (by simp only [e12]; exact ((((((EnvLe.nil _).cons rfl).cons rfl).cons rfl).cons rfl).cons rfl).cons rfl) (HLe.pick [] _); rw [h9]; rfl)
      | (refine loopQ_i (i + 1) ⟨hlt, any_take hE hx ?_⟩ (by omega) (by simp only [e12]; exact ((((((EnvLe.nil _).cons rfl).cons rfl).cons rfl).cons rfl).cons rfl).cons rfl) (HLe.pick [] _); rw [← hzl, g20_6]; exact h8)
  have e12 : L.length + sputs (cs.take (i + 1)) = L.length + sputs (cs.take i) := by rw [hsn, if_neg (by rw [h9]; simp)]; rfl
  refine .skip ?_
  refine blkQ_n (seqQ_n ?_)
  refine .region ?_
  refine .q .move ?_
  refine .q (.i64 ((i + 1 : Nat) : Int) .add ⟨by omega, by omega, by omega⟩) ?_
  refine .q .assign ?_
  refine .nil ?_
  · first
      | (exfalso; rw [h9] at g20_6; cases g20_6; done)
      | (refine loopQ_i (i + 1) ⟨hlt, any_take hE hx ?_⟩ (by omega) (by simp only [e12]; exact ((((((EnvLe.nil _).cons rfl).cons rfl).cons rfl).cons rfl).cons rfl).cons rfl) (HLe.pick [] _); rw [h9]; rfl)
      | (refine loopQ_i (i + 1) ⟨hlt, any_take hE hx ?_⟩ (by omega) (by simp only [e12]; exact ((((((EnvLe.nil _).cons rfl).cons rfl).cons rfl).cons rfl).cons rfl).cons rfl) (HLe.pick [] _); rw [← hzl, g20_6]; exact h8)
  refine TriOps.gF g20_6 ?_
  refine TriOps.gF g20_6 ?_
  refine TriOps.gF g20_6 ?_
  refine TriOps.gF g20_6 ?_
  refine TriOps.gF g20_6 ?_
  refine TriOps.gF g20_6 ?_
  refine TriOps.gF g20_6 ?_
  refine TriOps.gF g20_6 ?_
  refine .q (.pickFh g20_6) ?_
  refine .nil (seqQ_n ?_)
  refine .condF ?_
  refine .skip ?_
  refine seqQ_n ?_
  refine .seq (.region ?_)
  refine .q .move ?_
  refine .q .move ?_
  refine TriOps.indexR i hC hx (fun p90 => ?_)
  refine .q (.fieldAddr rfl) ?_
  refine .q (.load1 rfl) ?_
  refine .nil (seqQ_n ?_)
  refine .cond rfl (fun h9 => ?_) (fun h9 => ?_)
  have e12 : L.length + sputs (cs.take (i + 1)) = L.length + sputs (cs.take i) + 1 := by rw [hsn, if_pos h9]; rfl
  refine .region ?_
  refine .q .move ?_
  refine .q (.i64 ((L.length + sputs (cs.take i) + 1 : Nat) : Int) .add ⟨by omega, by omega, by omega⟩) ?_
  refine .q .assign ?_
  refine .nil ?_
  refine blkQ_n (seqQ_n ?_)
  refine .region ?_
  refine .q .move ?_
  refine .q (.i64 ((i + 1 : Nat) : Int) .add ⟨by omega, by omega, by omega⟩) ?_
  refine .q .assign ?_
  refine .nil ?_
  · first
      | (exfalso; rw [h9] at g20_6; cases g20_6; done)
      | (refine loopQ_i (i + 1) ⟨hlt, any_take hE hx ?_⟩ (by omega) (by simp only [e12]; exact ((((((EnvLe.nil _).cons rfl).cons rfl).cons rfl).cons rfl).cons rfl).cons rfl) (HLe.pick [] _); rw [h9]; rfl)
      | (refine loopQ_i (i + 1) ⟨hlt, any_take hE hx ?_⟩ (by omega) (by simp only [e12]; exact ((((((EnvLe.nil _).cons rfl).cons rfl).cons rfl).cons rfl).cons rfl).cons rfl) (HLe.pick [] _); rw [← hzl, g20_6]; exact h8)
  have e12 : L.length + sputs (cs.take (i + 1)) = L.length + sputs (cs.take i) := by rw [hsn, if_neg (by rw [h9]; simp)]; rfl
  refine .skip ?_
  refine blkQ_n (seqQ_n ?_)
  refine .region ?_
  refine .q .move ?_
  refine .q (.i64 ((i + 1 : Nat) : Int) .add ⟨by omega, by omega, by omega⟩) ?_
  refine .q .assign ?_
  refine .nil ?_
  · first
      | (exfalso; rw [h9] at g20_6; cases g20_6; done)
      | (refine loopQ_i (i + 1) ⟨hlt, any_take hE hx ?_⟩ (by omega) (by simp only [e12]; exact ((((((EnvLe.nil _).cons rfl).cons rfl).cons rfl).cons rfl).cons rfl).cons rfl) (HLe.pick [] _); rw [h9]; rfl)
      | (refine loopQ_i (i + 1) ⟨hlt, any_take hE hx ?_⟩ (by omega) (by simp only [e12]; exact ((((((EnvLe.nil _).cons rfl).cons rfl).cons rfl).cons rfl).cons rfl).cons rfl) (HLe.pick [] _); rw [← hzl, g20_6]; exact h8)
  have hie : i = cs.length := by have := of_decide_eq_false h7; omega
  subst hie
  rw [List.take_length] at hE
  rw [List.take_length]
  have hrest := sfits_rest (head := S.head) hA hB hD hE
  refine .exit (seqQ_x (loopQ_x (blkQ_x ?_)))
  refine seqQ_n ?_
  refine .seq ?_
  refine .seq (.region ?_)
  refine .q .move ?_
  refine .q (.nilCheck rfl) ?_
  refine .q (.fieldAddr rfl) ?_
  refine .q (.load1 rfl) ?_
  refine .q .geq ?_
  refine .q .move ?_
  refine TriOps.split (t := 100) rfl (fun g24_5 => ?_) (fun g24_5 => ?_)
  refine TriOps.gF g24_5 ?_
  refine TriOps.gF g24_5 ?_
  refine TriOps.gF g24_5 ?_
  refine TriOps.gfU rfl ?_
  refine TriOps.gfU rfl ?_
  refine TriOps.gfU rfl ?_
  refine TriOps.gfU rfl ?_
  refine TriOps.gfU rfl ?_
  refine TriOps.gfU rfl ?_
  refine TriOps.gfU rfl ?_
  refine TriOps.gF g24_5 ?_
  refine .q (.pickTh g24_5) ?_
  refine .nil (seqQ_n ?_)
  refine .condT ?_
  refine .seq (.region ?_)
  refine .q .assign ?_
  refine .nil (seqQ_n ?_)
  refine .ret (seqQ_r (retQ_r _ (.one (.tmp rfl)) (.none _) ?_))
  · first
      | (refine ⟨?_, rfl⟩; rw [hc]; done)
      | (refine ⟨?_, rfl⟩; rw [hrest]; congr 1; split <;> first | rfl | (exfalso; simp_all; done) | (exfalso; simp_all; omega))
  refine TriOps.gT g24_5 ?_
  refine .q .move ?_
  refine TriOps.gT g24_5 ?_
  refine .q .gtr ?_
  refine TriOps.gT g24_5 ?_
  refine .q .move ?_
  refine TriOps.split (t := 103) rfl (fun g24_8 => ?_) (fun g24_8 => ?_)
  refine TriOps.gT g24_8 ?_
  refine .q .move ?_
  refine TriOps.gT g24_8 ?_
  refine .q .move ?_
  refine TriOps.gT g24_8 ?_
  refine .q (.nilCheck rfl) ?_
  refine TriOps.gT g24_8 ?_
  refine .q (.fieldAddr rfl) ?_
  refine TriOps.gT g24_8 ?_
  refine .q (.load1 rfl) ?_
  refine TriOps.gT g24_8 ?_
  refine .q (.lenR hrs) ?_
  refine TriOps.gT g24_8 ?_
  refine .q .gtr ?_
  refine TriOps.gT g24_5 ?_
  refine .q (.pickTh g24_8) ?_
  refine .q (.pickFh g24_5) ?_
  refine .nil (seqQ_n ?_)
  refine .cond rfl (fun h10 => ?_) (fun h10 => ?_)
  refine .seq (.region ?_)
  refine .q .assign ?_
  refine .nil (seqQ_n ?_)
  refine .ret (seqQ_r (retQ_r _ (.one (.tmp rfl)) (.none _) ?_))
  · first
      | (refine ⟨?_, rfl⟩; rw [hc]; done)
      | (refine ⟨?_, rfl⟩; rw [hrest]; congr 1; split <;> first | rfl | (exfalso; simp_all; done) | (exfalso; simp_all; omega))
  refine .skip ?_
  refine seqQ_n ?_
  refine .seq (.region ?_)
  refine .q .assign ?_
  refine .nil (seqQ_n ?_)
  refine .ret (retQ_r _ (.one (.tmp rfl)) (.none _) ?_)
  · first
      | (refine ⟨?_, rfl⟩; rw [hc]; done)
      | (refine ⟨?_, rfl⟩; rw [hrest]; congr 1; split <;> first | rfl | (exfalso; simp_all; done) | (exfalso; simp_all; omega))
  refine TriOps.gF g24_8 ?_
  refine TriOps.gF g24_8 ?_
  refine TriOps.gF g24_8 ?_
  refine TriOps.gF g24_8 ?_
  refine TriOps.gF g24_8 ?_
  refine TriOps.gF g24_8 ?_
  refine TriOps.gF g24_8 ?_
  refine TriOps.gT g24_5 ?_
  refine .q (.pickFh g24_8) ?_
  refine .q (.pickFh g24_5) ?_
  refine .nil (seqQ_n ?_)
  refine .condF ?_
  refine .skip ?_
  refine seqQ_n ?_
  refine .seq (.region ?_)
  refine .q .assign ?_
  refine .nil (seqQ_n ?_)
  refine .ret (retQ_r _ (.one (.tmp rfl)) (.none _) ?_)
  · first
      | (refine ⟨?_, rfl⟩; rw [hc]; done)
      | (refine ⟨?_, rfl⟩; rw [hrest]; congr 1; split <;> first | rfl | (exfalso; simp_all; done) | (exfalso; simp_all; omega))
end Go.Proofs.YtconfddhmnipjaaGreat
set_option linter.unusedVariables false
set_option linter.unusedSimpArgs false
set_option maxRecDepth 4000
namespace Go.Proofs.YtconfddhmnipjaaGreat
def DO (b : Nat) (S : Sto) (T : Seg) : Prop := ∃ vL L TL, T = (b, .cells [vL, .int .u64 S.head, .int .u64 S.hor].toArray 47 (0, 0)) :: TL ∧ OS 95 9 SRow.enc vL L TL ∧ RL S L
theorem DO.view {b : Nat} {S : Sto} {T : Seg} {R : Rds} (h : DO b S T) (hR : ∀ p ∈ T, R p.1 p.2) : ∃ vL L, DV R b S vL L ∧ RL S L := by
  obtain ⟨vL, L, TL, rfl, h1, h2⟩ := h
  exact ⟨vL, L, ⟨PC.of (E := 47) (fr := (0, 0)) (hR (b, _) (by simp)), h1.rs fun p hp => hR p (by simp [hp])⟩, h2⟩
theorem RL.len {S : Sto} (hS : SOK S) {L : List SRow} (h : RL S L) : L.length ≤ 4096 := by rw [h.pm.length_eq]; exact hS.len
theorem rwrite_spec (b : Nat) (S : Sto) (T : Seg) (h : DO b S T) (hS : SOK S) (vm vn vc : Value) (must no : List Tpl) (cs : List Chg) (R : Rds) (hM : RS R 7 Tpl.enc vm must) (hN : RS R 7 Tpl.enc vn no) (hC : RS R 8 Chg.enc vc cs) (fm : ∀ t ∈ must, t.fits) (fn : ∀ t ∈ no, t.fits) (fc : ∀ c ∈ cs, c.t.fits) (hcl : cs.length ≤ 1000) :
    Spec Tryz.prog 14 [.pointer (some ⟨b, 0, none⟩), vm, vn, vc] R [T] fun u H' => ∃ T', H' = [T'] ∧ u = .tuple [.int .u64 (if scode S must no cs = 0 then S.head + 1 else 0), .int .i64 (scode S must no cs)].toArray ∧ DO b (swrite S must no cs) T' := by
  have a0 := hS.h0
  have a1 := hS.h1
  have a2 := hS.h2
  have h0 := h
  obtain ⟨pm, km, rfl⟩ := hM.val
  obtain ⟨pn, kn, rfl⟩ := hN.val
  obtain ⟨pv, kc, rfl⟩ := hC.val
  obtain ⟨vL0, L0, hDV, hRL⟩ := h.view (R := Rx R [T]) fun p hp => .inr (by simp [hp])
  have hl0 := hRL.len hS
  refine Spec.body Tryz.func14 rfl Tryz.results14 Tryz.ntmps14 rfl ?_
  refine .seq (.region ?_)
  refine .q .assign ?_
  refine .q .assign ?_
  refine .nil (seqQ_n ?_)
  refine .seq (.region ?_)
  refine .q .move ?_
  refine .q .move ?_
  refine .q .move ?_
  refine TriOps.callR (rcheck_spec _ _ _ must no cs _ hM.rx hN.rx hC.rx fm fn fc) (fun v hv => ?_)
  subst hv
  refine .q .assign ?_
  refine .nil (seqQ_n ?_)
  refine .seq ?_
  refine .seq (.region ?_)
  refine .q .move ?_
  refine .q .eqI ?_
  refine .nil (seqQ_n ?_)
  refine Tri.cut (X := Unit) (fun _ => True) (fun _ => [(0, .pointer (some ⟨b, 0, none⟩)), (1, .slice pm must.length km), (2, .slice pn no.length kn), (3, .slice pv cs.length kc), (10, .int .i64 (scode S must no cs))]) (fun _ => [T]) ?_ ?_
  refine .cond rfl (fun h1 => ?_) (fun h1 => ?_)
  have hc0 : scheck must no cs = 0 := by simpa using h1
  have e1 : sfits L0 S.head must no cs = scode S must no cs := by rw [scode_fits hc0, sfits_perm hRL.pm]
  refine .region ?_
  refine .q .move ?_
  refine .q .move ?_
  refine .q .move ?_
  refine .q .move ?_
  refine TriOps.callR (rfits_spec hDV (by omega) _ _ _ must no cs hM.rx hN.rx hC.rx hcl) (fun v hv => ?_)
  subst hv
  refine .q .assign ?_
  refine .nil ?_
  · exact joinQ_n () trivial (by rw [← e1]; exact (((((EnvLe.nil _).cons rfl).cons rfl).cons rfl).cons rfl).cons rfl) (HLe.refl _)
  have hc0 : scheck must no cs ≠ 0 := by simpa using h1
  have e1 : scheck must no cs = scode S must no cs := by rw [scode_check hc0]
  refine .skip ?_
  · exact joinQ_n () trivial (by rw [← e1]; exact (((((EnvLe.nil _).cons rfl).cons rfl).cons rfl).cons rfl).cons rfl) (HLe.refl _)
  intro x hx
  skip
  refine seqQ_n ?_
  refine .seq ?_
  refine .seq (.region ?_)
  refine .q .move ?_
  refine .q .neI ?_
  refine .nil (seqQ_n ?_)
  refine .cond rfl (fun h2 => ?_) (fun h2 => ?_)
  have hcode : scode S must no cs ≠ 0 := by simpa using h2
  refine .seq (.region ?_)
  refine .q .move ?_
  refine .q .assign ?_
  refine .q .assign ?_
  refine .nil (seqQ_n ?_)
  refine .ret (seqQ_r (retQ_r _ (.two (.tmp rfl) (.tmp rfl)) (.one [0] _) ?_))
  · exact ⟨T, by simp [take], by rw [if_neg hcode], by rw [swrite_else hcode]; exact h0⟩
  have hcode : scode S must no cs = 0 := by simpa using h2
  have hw := scode_zero hcode
  have hwh := hw.head
  obtain ⟨vL, L, TL, rfl, hO, hL⟩ := h
  have ivl := hO.oneCell
  refine .skip ?_
  refine seqQ_n ?_
  refine .seq (.region ?_)
  refine TriOps.sub (H' := [[(b, .cells [vL, .int .u64 S.head, .int .u64 S.hor].toArray 47 (0, 0))], TL]) (HLe.ofPerm (by simp)) ?_
  refine .q .move ?_
  refine .q .move ?_
  refine .q (.nilCheck rfl) ?_
  refine .q (.fieldAddr rfl) ?_
  refine .q (.load1 rfl) ?_
  refine .q (.u64 (S.head + 1) .add ⟨rfl, by omega, by omega⟩) ?_
  refine .q (.nilCheck rfl) ?_
  refine .q (.fieldAddr rfl) ?_
  refine TriOps.store1 rfl rfl ?_
  refine .nil (seqQ_n ?_)
  refine .seq ?_
  refine .seq (.region ?_)
  refine .q .assign ?_
  refine .nil (seqQ_n ?_)
  refine .block ?_
  refine .loop (X := Nat × Value × List SRow × Seg) (fun y => y.1 ≤ cs.length ∧ OS 95 9 SRow.enc y.2.1 y.2.2.1 y.2.2.2 ∧ RL ⟨(cs.take y.1).foldl (sapply (S.head + 1)) S.rows, S.head + 1, S.hor⟩ y.2.2.1) (fun y => [(0, .pointer (some ⟨b, 0, none⟩)), (3, .slice pv cs.length kc), (11, .int .i64 (y.1 : Nat))]) (fun y => [[(b, .cells [y.2.1, .int .u64 (S.head + 1), .int .u64 S.hor].toArray 47 (0, 0))], y.2.2.2]) (fun y => cs.length - y.1) (0, vL, L, TL) ⟨Nat.zero_le _, hO, ⟨hL.pm, hL.st⟩⟩ ((((EnvLe.nil _).cons rfl).cons rfl).cons rfl) (HLe.refl _) ?_
  rintro ⟨i, vi, Li, Ti⟩ ⟨hi, hOi, hLi⟩
  simp only at hi hOi hLi ⊢
  have ivi := hOi.oneCell
  have hli := hLi.len (hS.fold (hw.take i))
  have lc := hC.le
  refine .seq ?_
  refine .seq (.region ?_)
  refine .q .move ?_
  refine .q .move ?_
  refine .q (.lenR hC) ?_
  refine .q .lss ?_
  refine .nil (seqQ_n ?_)
  refine .cond rfl (fun h3 => ?_) (fun h3 => ?_)
  have hlt : i < cs.length := by have := of_decide_eq_true h3; omega
  obtain ⟨c, hc⟩ : ∃ c, cs[i]? = some c := ⟨_, List.getElem?_eq_getElem hlt⟩
  have pxi := hC.pc hc
  obtain ⟨hnx, hdel⟩ := RL.next hS hw hc hLi
  refine .skip ?_
  refine seqQ_n ?_
  refine .seq ?_
  refine .block ?_
  refine .seq (.region ?_)
  refine .q .move ?_
  refine .q .move ?_
  refine TriOps.indexR i hC hc (fun p43 => ?_)
  refine .q (.fieldAddr rfl) ?_
  refine .q (.load1 rfl) ?_
  refine .nil (seqQ_n ?_)
  refine .cond rfl (fun h4 => ?_) (fun h4 => ?_)
  refine .region_all [18] mixed ?_
  refine .takeO 0 rfl .move (by kernel_rfl) ?_
  refine .takeO 1 rfl .move (by kernel_rfl) ?_
  refine .takeO 2 rfl (.nilCheck rfl) (by kernel_rfl) ?_
  refine .takeO 3 rfl (.fieldAddr rfl) (by kernel_rfl) ?_
  refine .takeO 4 rfl (.load1 rfl) (by kernel_rfl) ?_
  refine .takeO 5 rfl .move (by kernel_rfl) ?_
  refine .takeO 6 rfl .move (by kernel_rfl) ?_
  refine .takeO 7 rfl (.indexR i hC hc rfl rfl rfl) (by kernel_rfl) ?_
  refine .takeO 8 rfl (.fieldAddr rfl) (by kernel_rfl) ?_
  refine .takeO 9 rfl (.loadT rfl) (by kernel_rfl) ?_
  refine .takeO 10 rfl .move (by kernel_rfl) ?_
  refine .takeO 11 rfl (.nilCheck rfl) (by kernel_rfl) ?_
  refine .takeO 12 rfl (.fieldAddr rfl) (by kernel_rfl) ?_
  refine .takeO 13 rfl (.load1 rfl) (by kernel_rfl) ?_
  refine .takeO 14 rfl .bld (by kernel_rfl) ?_
  refine RA.step 15 rfl (by kernel_rfl) rfl ?_
  refine TriOps.callN (rins12_spec _ Li ⟨c.t, S.head + 1, 0⟩ _ hOi.rx (by omega)) (fun u Tn hu => ?_)
  have iu := hu.oneCell
  refine .nil (Next.sub ?_)
  refine .takeO 16 rfl (.nilCheck rfl) (by kernel_rfl) ?_
  refine .takeO 17 rfl (.fieldAddr rfl) (by kernel_rfl) ?_
  refine RA.step 18 rfl (by kernel_rfl) rfl ?_
  refine TriOps.store1 rfl rfl ?_
  refine .nil (Next.mod rfl ?_)
  refine RA.nil (by kernel_rfl) ?_
  refine blkQ_n (seqQ_n ?_)
  refine .region ?_
  refine .q .move ?_
  refine .q (.i64 ((i + 1 : Nat) : Int) .add ⟨by omega, by omega, by omega⟩) ?_
  refine .q .assign ?_
  refine .nil ?_
  · first
      | exact loopQ_i (i + 1, u, _, Tn) ⟨hlt, by simp only; exact hu, by simp only; unfold rapply at hnx; rw [if_pos h4] at hnx; exact hnx⟩ (by simp only; omega) ((((EnvLe.nil _).cons rfl).cons rfl).cons rfl) (HLe.pick [1, 0] _)
      | exact loopQ_i (i + 1, vi, _, Td) ⟨hlt, by simp only; exact hOd, by simp only; rw [hset] at hnx; exact hnx⟩ (by simp only; omega) ((((EnvLe.nil _).cons rfl).cons rfl).cons rfl) (HLe.pick [0, 0] _)
  obtain ⟨j, x, hj, hox, hmin, hset⟩ := hdel h4
  refine .seq (.region ?_)
  refine .q .move ?_
  refine .q .move ?_
  refine .q .move ?_
  refine TriOps.indexR i hC hc (fun p67 => ?_)
  refine .q (.fieldAddr rfl) ?_
  refine .q (.loadT rfl) ?_
  refine TriOps.callR (DV.find (S := ⟨[], S.head + 1, S.hor⟩) ⟨PC.of (E := 47) (fr := (0, 0)) (.inr (by simp)), hOi.rx⟩ c.t) (fun v hv => ?_)
  obtain ⟨z, rfl, hz⟩ := hv
  obtain rfl : z = (j : Int) := by
    rcases hz with ⟨k, y, rfl, hy, hoy, hm2⟩ | ⟨_, hno⟩
    · rcases Nat.lt_trichotomy k j with h9 | h9 | h9
      · rw [hmin k y h9 hy] at hoy; cases hoy
      · rw [h9]
      · rw [hm2 j x h9 hj] at hox; cases hox
    · unfold sthere at hno
      rw [List.any_eq_true.2 ⟨x, List.mem_of_getElem? hj, hox⟩] at hno
      cases hno
  refine .q .assign ?_
  refine .nil (seqQ_n ?_)
  refine .region_tail 11 mixed (by kernel_rfl) ?_
  conv => arg 6; dsimp only [List.take]
  refine .q .move ?_
  refine .q (.nilCheck rfl) ?_
  refine .q (.fieldAddr rfl) ?_
  refine .q (.load1 rfl) ?_
  refine .q .move ?_
  refine .q .move ?_
  refine .q (.nilCheck rfl) ?_
  refine .q (.fieldAddr rfl) ?_
  refine .q (.load1 rfl) ?_
  refine TriOps.indexO j hOi hj (fun p80 => ?_)
  refine .q (.fieldAddr rfl) ?_
  refine .nil ?_
  refine TriOps.storeO_gen (k := 8) (cs := [.int .u64 (S.head + 1)]) (z' := ⟨x.t, x.fr, S.head + 1⟩) j hOi hj rfl rfl rfl rfl rfl (by simp [oneCell]) rfl (by simp) (fun Td hOd => ?_)
  refine .nil ?_
  refine blkQ_n (seqQ_n ?_)
  refine .region ?_
  refine .q .move ?_
  refine .q (.i64 ((i + 1 : Nat) : Int) .add ⟨by omega, by omega, by omega⟩) ?_
  refine .q .assign ?_
  refine .nil ?_
  · first
      | exact loopQ_i (i + 1, u, _, Tn) ⟨hlt, by simp only; exact hu, by simp only; unfold rapply at hnx; rw [if_pos h4] at hnx; exact hnx⟩ (by simp only; omega) ((((EnvLe.nil _).cons rfl).cons rfl).cons rfl) (HLe.pick [1, 0] _)
      | exact loopQ_i (i + 1, vi, _, Td) ⟨hlt, by simp only; exact hOd, by simp only; rw [hset] at hnx; exact hnx⟩ (by simp only; omega) ((((EnvLe.nil _).cons rfl).cons rfl).cons rfl) (HLe.pick [0, 0] _)
  refine .exit (seqQ_x (loopQ_x (blkQ_x ?_)))
  refine seqQ_n ?_
  refine .seq (.region ?_)
  refine .q .move ?_
  refine .q (.nilCheck rfl) ?_
  refine .q (.fieldAddr rfl) ?_
  refine .q (.load1 rfl) ?_
  refine .q .assign ?_
  refine .q .assign ?_
  refine .nil (seqQ_n ?_)
  refine .ret (retQ_r _ (.two (.tmp rfl) (.tmp rfl)) ((HLe.ofPerm (H' := [(b, .cells [vi, .int .u64 (S.head + 1), .int .u64 S.hor].toArray 47 (0, 0)) :: Ti]) (by simp))) ?_)
  · have hie : i = cs.length := by have := of_decide_eq_false h3; omega
    subst hie
    have hfin := hLi.write hcode
    have hsw : (swrite S must no cs).head = S.head + 1 ∧ (swrite S must no cs).hor = S.hor := by unfold swrite; rw [if_pos hcode]; exact ⟨rfl, rfl⟩
    exact ⟨_, rfl, by rw [hcode]; rfl, vi, Li, Ti, by rw [hsw.1, hsw.2], hOi, hfin⟩
theorem rcollect_spec (b : Nat) (S : Sto) (T : Seg) (h : DO b S T) (hS : SOK S) (hh : Int) (R : Rds) :
    Spec Tryz.prog 16 [.pointer (some ⟨b, 0, none⟩), .int .u64 hh] R [T] fun u H' => ∃ T', H' = [T'] ∧ u = .int .i64 (if scan S hh then 0 else 12) ∧ DO b (scollect S hh) T' := by
  have h0 := h
  obtain ⟨vL0, L0, hDV, hRL⟩ := h.view (R := Rx R [T]) fun p hp => .inr (by simp [hp])
  obtain ⟨vL, L, TL, rfl, hO, hL⟩ := h
  have ivl := hO.oneCell
  have hll := hL.len hS
  refine Spec.body Tryz.func16 rfl Tryz.results16 Tryz.ntmps16 rfl ?_
  refine .seq (.region ?_)
  refine .q .assign ?_
  refine .nil (seqQ_n ?_)
  refine .seq ?_
  refine .seq (.region ?_)
  refine .q .move ?_
  refine .q .move ?_
  refine TriOps.callR (hDV.can hh) (fun v hv => ?_)
  subst hv
  refine .q .not ?_
  refine .nil (seqQ_n ?_)
  refine .cond rfl (fun h1 => ?_) (fun h1 => ?_)
  have hsc : scan S hh = false := by simpa using h1
  refine .seq (.region ?_)
  refine .q .assign ?_
  refine .nil (seqQ_n ?_)
  refine .ret (seqQ_r (retQ_r _ (.one (.tmp rfl)) (.one [0] _) ?_))
  · exact ⟨_, by simp [take]; rfl, by rw [hsc]; rfl, by rw [scollect_not hsc]; exact h0⟩
  have hsc : scan S hh = true := by simpa using h1
  have hcol := hL.collect hh
  rw [if_pos hsc] at hcol
  refine Tri.le (EnvLe.refl _) (H' := [[(b, .cells [vL, .int .u64 S.head, .int .u64 S.hor].toArray 47 (0, 0))], TL]) (HLe.ofPerm (by simp)) ?_
  refine .skip ?_
  refine seqQ_n ?_
  refine .seq (.region ?_)
  refine .q .assign ?_
  refine .nil (seqQ_n ?_)
  refine .seq ?_
  refine .seq (.region ?_)
  refine .q .assign ?_
  refine .nil (seqQ_n ?_)
  refine .block ?_
  refine .loop (X := Nat × Value × Seg) (fun y => y.1 ≤ L.length ∧ OS 95 9 SRow.enc y.2.1 ((L.take y.1).filter (skeep hh)) y.2.2) (fun y => [(0, .pointer (some ⟨b, 0, none⟩)), (1, .int .u64 hh), (5, y.2.1), (6, .int .i64 (y.1 : Nat))]) (fun y => [[(b, .cells [vL, .int .u64 S.head, .int .u64 S.hor].toArray 47 (0, 0))], TL, y.2.2]) (fun y => L.length - y.1) (0, .slice none 0 0, []) ⟨Nat.zero_le _, OS.nil⟩ (((((EnvLe.nil _).cons rfl).cons rfl).cons rfl).cons rfl) (HLe.ofPerm (by simp)) ?_
  rintro ⟨i, vo, To⟩ ⟨hi, hOo⟩
  simp only at hi hOo ⊢
  have io := hOo.oneCell
  have hol : ((L.take i).filter (skeep hh)).length ≤ 4096 := Nat.le_trans (List.length_filter_le _ _) (by rw [List.length_take]; omega)
  refine .seq ?_
  refine .seq (.region ?_)
  refine .q .move ?_
  refine .q .move ?_
  refine .q (.nilCheck rfl) ?_
  refine .q (.fieldAddr rfl) ?_
  refine .q (.load1 rfl) ?_
  refine .q (.lenO hO) ?_
  refine .q .lss ?_
  refine .nil (seqQ_n ?_)
  refine .cond rfl (fun h2 => ?_) (fun h2 => ?_)
  have hlt : i < L.length := by have := of_decide_eq_true h2; omega
  obtain ⟨x, hx⟩ : ∃ x, L[i]? = some x := ⟨_, List.getElem?_eq_getElem hlt⟩
  have htk : L.take (i + 1) = L.take i ++ [x] := by rw [List.take_add_one, hx]; rfl
  refine .skip ?_
  refine seqQ_n ?_
  refine .seq ?_
  refine .block ?_
  refine .seq (.region ?_)
  refine .q .move ?_
  refine .q (.nilCheck rfl) ?_
  refine .q (.fieldAddr rfl) ?_
  refine .q (.load1 rfl) ?_
  refine .q .move ?_
  refine TriOps.indexO i hO hx (fun p25 => ?_)
  refine .q (.fieldAddr rfl) ?_
  refine .q (.load1 rfl) ?_
  refine .q .eqI ?_
  refine .q .move ?_
  refine TriOps.split (t := 29) rfl (fun g7_9 => ?_) (fun g7_9 => ?_)
  refine TriOps.gF g7_9 ?_
  refine TriOps.gF g7_9 ?_
  refine TriOps.gF g7_9 ?_
  refine TriOps.gF g7_9 ?_
  refine TriOps.gF g7_9 ?_
  refine TriOps.gF g7_9 ?_
  refine TriOps.gF g7_9 ?_
  refine TriOps.gF g7_9 ?_
  refine TriOps.gF g7_9 ?_
  refine TriOps.gF g7_9 ?_
  refine .q (.pickTh g7_9) ?_
  refine .nil (seqQ_n ?_)
  refine .condT ?_
  have hk : skeep hh x = true := by unfold skeep; simp_all
  refine .region ?_
  refine .q .move ?_
  refine .q .move ?_
  refine .q (.nilCheck rfl) ?_
  refine .q (.fieldAddr rfl) ?_
  refine .q (.load1 rfl) ?_
  refine .q .move ?_
  refine TriOps.indexO i hO hx (fun p47 => ?_)
  refine .q (.loadA rfl) ?_
  refine TriOps.buildSlice1A (fun b49 => ?_)
  refine TriOps.append hOo (RS.lits (xs := [x]) rfl (by simp [SRow.enc, Tpl.enc]) (by simp [SRow.enc, Tpl.enc, oneCell])) (by simp only [List.length_singleton]; omega) (fun v5 T5 hO5 => ?_)
  refine .q .assign ?_
  refine .nil ?_
  refine blkQ_n (seqQ_n ?_)
  refine .region ?_
  refine .q .move ?_
  refine .q (.i64 ((i + 1 : Nat) : Int) .add ⟨by omega, by omega, by omega⟩) ?_
  refine .q .assign ?_
  refine .nil ?_
  · first
      | exact loopQ_i (i + 1, v5, T5) ⟨hlt, by simp only; rw [htk, List.filter_append, List.filter_cons, if_pos hk]; exact hO5⟩ (by simp only; omega) (((((EnvLe.nil _).cons rfl).cons rfl).cons rfl).cons rfl) (HLe.pick [1, 1, 1] _)
      | exact loopQ_i (i + 1, vo, To) ⟨hlt, by simp only; rw [htk, List.filter_append, List.filter_cons, if_neg (by rw [hk]; simp)]; simpa using hOo⟩ (by simp only; omega) (((((EnvLe.nil _).cons rfl).cons rfl).cons rfl).cons rfl) (HLe.refl _)
  refine TriOps.gT g7_9 ?_
  refine .q .move ?_
  refine TriOps.gT g7_9 ?_
  refine .q (.nilCheck rfl) ?_
  refine TriOps.gT g7_9 ?_
  refine .q (.fieldAddr rfl) ?_
  refine TriOps.gT g7_9 ?_
  refine .q (.load1 rfl) ?_
  refine TriOps.gT g7_9 ?_
  refine .q .move ?_
  refine TriOps.gT g7_9 ?_
  refine TriOps.indexO i hO hx (fun p35 => ?_)
  refine TriOps.gT g7_9 ?_
  refine .q (.fieldAddr rfl) ?_
  refine TriOps.gT g7_9 ?_
  refine .q (.load1 rfl) ?_
  refine TriOps.gT g7_9 ?_
  refine .q .move ?_
  refine TriOps.gT g7_9 ?_
  refine .q .gtr ?_
  refine .q (.pickFh g7_9) ?_
  refine .nil (seqQ_n ?_)
  refine .cond rfl (fun h3 => ?_) (fun h3 => ?_)
  have hk : skeep hh x = true := by unfold skeep; simp_all
  refine .region ?_
  refine .q .move ?_
  refine .q .move ?_
  refine .q (.nilCheck rfl) ?_
  refine .q (.fieldAddr rfl) ?_
  refine .q (.load1 rfl) ?_
  refine .q .move ?_
  refine TriOps.indexO i hO hx (fun p47 => ?_)
  refine .q (.loadA rfl) ?_
  refine TriOps.buildSlice1A (fun b49 => ?_)
  refine TriOps.append hOo (RS.lits (xs := [x]) rfl (by simp [SRow.enc, Tpl.enc]) (by simp [SRow.enc, Tpl.enc, oneCell])) (by simp only [List.length_singleton]; omega) (fun v5 T5 hO5 => ?_)
  refine .q .assign ?_
  refine .nil ?_
  refine blkQ_n (seqQ_n ?_)
  refine .region ?_
  refine .q .move ?_
  refine .q (.i64 ((i + 1 : Nat) : Int) .add ⟨by omega, by omega, by omega⟩) ?_
  refine .q .assign ?_
  refine .nil ?_
  · first
      | exact loopQ_i (i + 1, v5, T5) ⟨hlt, by simp only; rw [htk, List.filter_append, List.filter_cons, if_pos hk]; exact hO5⟩ (by simp only; omega) (((((EnvLe.nil _).cons rfl).cons rfl).cons rfl).cons rfl) (HLe.pick [1, 1, 1] _)
      | exact loopQ_i (i + 1, vo, To) ⟨hlt, by simp only; rw [htk, List.filter_append, List.filter_cons, if_neg (by rw [hk]; simp)]; simpa using hOo⟩ (by simp only; omega) (((((EnvLe.nil _).cons rfl).cons rfl).cons rfl).cons rfl) (HLe.refl _)
  have hk : skeep hh x = false := by unfold skeep; simp_all
  refine .skip ?_
  refine blkQ_n (seqQ_n ?_)
  refine .region ?_
  refine .q .move ?_
  refine .q (.i64 ((i + 1 : Nat) : Int) .add ⟨by omega, by omega, by omega⟩) ?_
  refine .q .assign ?_
  refine .nil ?_
  · first
      | exact loopQ_i (i + 1, v5, T5) ⟨hlt, by simp only; rw [htk, List.filter_append, List.filter_cons, if_pos hk]; exact hO5⟩ (by simp only; omega) (((((EnvLe.nil _).cons rfl).cons rfl).cons rfl).cons rfl) (HLe.pick [1, 1, 1] _)
      | exact loopQ_i (i + 1, vo, To) ⟨hlt, by simp only; rw [htk, List.filter_append, List.filter_cons, if_neg (by rw [hk]; simp)]; simpa using hOo⟩ (by simp only; omega) (((((EnvLe.nil _).cons rfl).cons rfl).cons rfl).cons rfl) (HLe.refl _)
  refine .exit (seqQ_x (loopQ_x (blkQ_x ?_)))
  refine seqQ_n ?_
  refine .seq (.region ?_)
  refine .q .move ?_
  refine .q .move ?_
  refine .q .move ?_
  refine .q .move ?_
  refine .q (.nilCheck rfl) ?_
  refine .q (.fieldAddr rfl) ?_
  refine TriOps.store1 rfl rfl ?_
  refine .q (.nilCheck rfl) ?_
  refine .q (.fieldAddr rfl) ?_
  refine TriOps.store1 rfl rfl ?_
  refine .nil (seqQ_n ?_)
  refine .seq (.region ?_)
  refine .q .assign ?_
  refine .nil (seqQ_n ?_)
  refine .ret (retQ_r _ (.one (.tmp rfl)) ((HLe.pick [0, 1] _).trans (HLe.ofPerm (H' := [(b, .cells [vo, .int .u64 S.head, .int .u64 hh].toArray 47 (0, 0)) :: To]) (by simp [take, dropAt, setL]))) ?_)
  · have hie : i = L.length := by have := of_decide_eq_false h2; omega
    subst hie
    rw [List.take_length] at hOo
    exact ⟨_, rfl, by rw [hsc]; rfl, vo, _, To, by rw [scollect_yes hsc], hOo, hcol⟩
end Go.Proofs.YtconfddhmnipjaaGreat
set_option linter.unusedVariables false
set_option linter.unusedSimpArgs false
set_option maxRecDepth 4000
namespace Go.Proofs.YtconfddhmnipjaaGreat
/-- No tuple is put at the revision at which it was taken away. -/
def SPL (S : Sto) : Prop := S.rows.Pairwise fun x y => x.t = y.t → x.to < y.fr
theorem SPL.write {S : Sto} (hS : SOK S) (h : SPL S) (must no : List Tpl) (cs : List Chg) : SPL (swrite S must no cs) := by
  by_cases hc : scode S must no cs = 0
  · have hw := scode_zero hc
    rw [swrite_rows hS hc]
    unfold SPL
    simp only
    rw [List.pairwise_append]
    refine ⟨?_, ?_, fun x hx y hy => ?_⟩
    · rw [List.pairwise_map]
      refine (h.and hS.pw).imp fun {x y} hxy he => ?_
      obtain ⟨c1, c2⟩ := closeAll_t (cs := cs) (r := S.head + 1) (x := x)
      obtain ⟨c3, c4⟩ := closeAll_t (cs := cs) (r := S.head + 1) (x := y)
      rw [c1, c3] at he
      rw [closeAll_shut (hxy.2 he).1, c4]
      exact hxy.1 he
    · unfold news
      rw [List.pairwise_map]
      have := hw.nd
      rw [List.Nodup, List.pairwise_map] at this
      exact (this.sublist List.filter_sublist).imp fun {x y} hxy he => absurd he hxy
    · intro he
      obtain ⟨z, hz, rfl⟩ := List.mem_map.1 hx
      obtain ⟨c, hc, hp, rfl⟩ := news_mem.1 hy
      obtain ⟨c1, c2⟩ := closeAll_t (cs := cs) (r := S.head + 1) (x := z)
      rw [c1] at he
      have h5 := sthere_false.1 (hw.away c hc hp) z hz he
      rw [closeAll_shut h5]
      obtain ⟨_, _, _, h6⟩ := hS.ok z hz
      simp only
      omega
  · rw [swrite_else hc]; exact h
theorem SPL.collect {S : Sto} (h : SPL S) (hh : Int) : SPL (scollect S hh) := by
  unfold scollect
  split
  · exact List.Pairwise.sublist List.filter_sublist h
  · exact h
theorem swrite_head {S : Sto} {must no : List Tpl} {cs : List Chg} : (swrite S must no cs).head ≤ S.head + 1 := by
  unfold swrite
  split
  · exact Int.le_refl _
  · omega
theorem scollect_head {S : Sto} {h : Int} : (scollect S h).head = S.head := by unfold scollect; split <;> rfl
end Go.Proofs.YtconfddhmnipjaaGreat
set_option linter.unusedVariables false
set_option linter.unusedSimpArgs false
set_option maxRecDepth 4000
namespace Go.Proofs.YtconfddhmnipjaaGreat
theorem played13_spec (v : Value) (cs0 : List SCall) (R : Rds) (h : RS R 12 SCall.enc v cs0) (hD0 : ∀ c ∈ cs0, c.is R) :
    Spec Tryz.prog 4 [v] R [] fun u H' => ∃ T T2, H' = [T, T2] ∧ ∃ g b S, u = .tuple [.pointer (some ⟨g, 0, none⟩), .pointer (some ⟨b, 0, none⟩)].toArray ∧ SI g S T ∧ DO b S T2 ∧ SOK S ∧ SPL S ∧ S.head ≤ 20 := by
  have iv := h.oneCell
  refine Spec.body Tryz.func4 rfl Tryz.results4 Tryz.ntmps4 rfl ?_
  refine .seq (.region ?_)
  refine .q .assign ?_
  refine .q .assign ?_
  refine .nil (seqQ_n ?_)
  refine .seq (.region ?_)
  refine TriOps.callN (snew_spec _) (fun u T0 hu => ?_)
  obtain ⟨g, rfl, hg⟩ := hu
  refine .q .bld ?_
  refine TriOps.boxA rfl (fun b9 => ?_)
  refine .q .assign ?_
  refine .q .assign ?_
  refine .nil (seqQ_n ?_)
  refine .seq (.region ?_)
  refine .q .move ?_
  refine TriOps.callN (few12_spec _ cs0 20 (by omega) _ R h.rx hD0) (fun u Tf hu => ?_)
  obtain ⟨cs, hO, hcs, hcl⟩ := hu
  have iu := hO.oneCell
  have hc20 : cs.length ≤ 20 := by rw [hcl]; omega
  refine .q .assign ?_
  refine .nil (seqQ_n ?_)
  refine .seq ?_
  refine .seq (.region ?_)
  refine .q .assign ?_
  refine .nil (seqQ_n ?_)
  refine .block ?_
  refine .loop (X := Nat × Sto × Seg × Seg) (fun y => (y.1 ≤ cs.length ∧ y.2.1.head ≤ y.1) ∧ SI g y.2.1 y.2.2.1 ∧ DO b9 y.2.1 y.2.2.2 ∧ SOK y.2.1 ∧ SPL y.2.1) (fun y => [(0, u), (4, .pointer (some ⟨g, 0, none⟩)), (5, .pointer (some ⟨b9, 0, none⟩)), (6, .int .i64 (y.1 : Nat))]) (fun y => [Tf, y.2.2.1, y.2.2.2]) (fun y => cs.length - y.1) (0, ⟨[], 0, 0⟩, T0, [(b9, .cells [.slice none 0 0, .int .u64 0, .int .u64 0].toArray 47 (0, 0))]) ⟨⟨Nat.zero_le _, by simp⟩, hg, ⟨_, [], [], rfl, OS.nil, RL.new⟩, SOK.new, List.Pairwise.nil⟩ (((((EnvLe.nil _).cons rfl).cons rfl).cons rfl).cons rfl) (HLe.pick [0, 1, 0] _) ?_
  rintro ⟨i, S, T, T2⟩ ⟨⟨hi, hih⟩, hI, hDO, hS, hSP⟩
  simp only at hi hih hI hDO hS hSP ⊢
  refine .seq ?_
  refine .seq (.region ?_)
  refine .q .move ?_
  refine .q .move ?_
  refine .q (.lenO hO) ?_
  refine .q .lss ?_
  refine .nil (seqQ_n ?_)
  refine .cond rfl (fun h1 => ?_) (fun h1 => ?_)
  have hlt : i < cs.length := by have := of_decide_eq_true h1; omega
  obtain ⟨c, hc⟩ : ∃ c, cs[i]? = some c := ⟨_, List.getElem?_eq_getElem hlt⟩
  obtain ⟨hcis, hfew⟩ := hcs c (List.mem_of_getElem? hc)
  have icn := hcis.ones
  obtain ⟨kd, wm, wn, wc, f, rev, must, no, ss⟩ := c
  have hsl : ss.length ≤ 34 := hfew.2.2
  have hm : RS R 7 Tpl.enc wm must := hcis.hm
  have hno : RS R 7 Tpl.enc wn no := hcis.hn
  have hch : RS R 8 Chg.enc wc ss := hcis.hc
  obtain ⟨pm, km, rfl⟩ := hm.val
  obtain ⟨pn, kn, rfl⟩ := hno.val
  obtain ⟨pc, kc, rfl⟩ := hch.val
  have ien : Ones (SCall.enc ⟨kd, .slice pm must.length km, .slice pn no.length kn, .slice pc ss.length kc, f, rev, must, no, ss⟩) := hcis.ones
  refine .skip ?_
  refine seqQ_n ?_
  refine .seq ?_
  refine .block ?_
  refine .seq ?_
  refine .seq (.region ?_)
  refine .q .move ?_
  refine .q .move ?_
  refine TriOps.indexO i hO hc (fun p20 => ?_)
  refine .q (.fieldAddr rfl) ?_
  refine .q (.load1 rfl) ?_
  refine .q .eqI ?_
  refine .nil (seqQ_n ?_)
  refine Tri.cut (X := Sto × Seg × Seg) (fun y => (y.1.head ≤ i + 1) ∧ SI g y.1 y.2.1 ∧ DO b9 y.1 y.2.2 ∧ SOK y.1 ∧ SPL y.1) (fun y => [(0, u), (4, .pointer (some ⟨g, 0, none⟩)), (5, .pointer (some ⟨b9, 0, none⟩)), (6, .int .i64 (i : Nat))]) (fun y => [Tf, y.2.1, y.2.2]) ?_ ?_
  refine .cond rfl (fun h2 => ?_) (fun h2 => ?_)
  refine .seq ?_
  refine .region_tail 16 mixed (by kernel_rfl) ?_
  conv => arg 6; dsimp only [List.take]
  refine .q .move ?_
  refine .q .move ?_
  refine .q .move ?_
  refine TriOps.indexO i hO hc (fun p27 => ?_)
  refine .q (.fieldAddr rfl) ?_
  refine .q (.load1 rfl) ?_
  refine .q .move ?_
  refine .q .move ?_
  refine TriOps.indexO i hO hc (fun p32 => ?_)
  refine .q (.fieldAddr rfl) ?_
  refine .q (.load1 rfl) ?_
  refine .q .move ?_
  refine .q .move ?_
  refine TriOps.indexO i hO hc (fun p37 => ?_)
  refine .q (.fieldAddr rfl) ?_
  refine .q (.load1 rfl) ?_
  refine .nil ?_
  refine TriOps.callM (write_spec g S T hI hS _ _ _ must no ss _ hm hno hch hcis.fm hcis.fn hcis.fc) (fun u1 T1 hu => ?_)
  obtain ⟨rfl, hI1⟩ := hu
  refine .nil (seqQ_n ?_)
  refine .region_tail 16 mixed (by kernel_rfl) ?_
  conv => arg 6; dsimp only [List.take]
  refine .q .move ?_
  refine .q .move ?_
  refine .q .move ?_
  refine TriOps.indexO i hO hc (fun p44 => ?_)
  refine .q (.fieldAddr rfl) ?_
  refine .q (.load1 rfl) ?_
  refine .q .move ?_
  refine .q .move ?_
  refine TriOps.indexO i hO hc (fun p49 => ?_)
  refine .q (.fieldAddr rfl) ?_
  refine .q (.load1 rfl) ?_
  refine .q .move ?_
  refine .q .move ?_
  refine TriOps.indexO i hO hc (fun p54 => ?_)
  refine .q (.fieldAddr rfl) ?_
  refine .q (.load1 rfl) ?_
  refine .nil ?_
  refine TriOps.callM (rwrite_spec b9 S T2 hDO hS _ _ _ must no ss _ hm hno hch hcis.fm hcis.fn hcis.fc (by omega)) (fun u2 T3 hu => ?_)
  obtain ⟨rfl, hD1⟩ := hu
  refine .nil ?_
  · first
      | exact joinQ_n (swrite S must no ss, T1, T3) ⟨by have := swrite_head (S := S) (must := must) (no := no) (cs := ss); simp only; omega, hI1, hD1, hS.write must no ss, hSP.write hS must no ss⟩ (((((EnvLe.nil _).cons rfl).cons rfl).cons rfl).cons rfl) (HLe.pick [0, 0, 0] _)
      | exact joinQ_n (S, T, T2) ⟨by simp only; omega, hI, hDO, hS, hSP⟩ (((((EnvLe.nil _).cons rfl).cons rfl).cons rfl).cons rfl) (HLe.refl _)
  refine .skip ?_
  · first
      | exact joinQ_n (swrite S must no ss, T1, T3) ⟨by have := swrite_head (S := S) (must := must) (no := no) (cs := ss); simp only; omega, hI1, hD1, hS.write must no ss, hSP.write hS must no ss⟩ (((((EnvLe.nil _).cons rfl).cons rfl).cons rfl).cons rfl) (HLe.pick [0, 0, 0] _)
      | exact joinQ_n (S, T, T2) ⟨by simp only; omega, hI, hDO, hS, hSP⟩ (((((EnvLe.nil _).cons rfl).cons rfl).cons rfl).cons rfl) (HLe.refl _)
  intro x hx
  obtain ⟨S1, T1, T3⟩ := x
  obtain ⟨hh1, hI1, hD1, hS1, hSP1⟩ := hx
  simp only at hh1 hI1 hD1 hS1 hSP1 ⊢
  refine seqQ_n ?_
  refine .seq (.region ?_)
  refine .q .move ?_
  refine .q .move ?_
  refine TriOps.indexO i hO hc (fun p60 => ?_)
  refine .q (.fieldAddr rfl) ?_
  refine .q (.load1 rfl) ?_
  refine .q .eqI ?_
  refine .nil (seqQ_n ?_)
  refine .cond rfl (fun h3 => ?_) (fun h3 => ?_)
  refine .seq (.region ?_)
  refine .q .move ?_
  refine .q .move ?_
  refine .q .move ?_
  refine TriOps.indexO i hO hc (fun p67 => ?_)
  refine .q (.fieldAddr rfl) ?_
  refine .q (.load1 rfl) ?_
  refine TriOps.callM (collect_spec g S1 T1 hI1 hS1 rev _) (fun u1 T4 hu => ?_)
  obtain ⟨rfl, hI2⟩ := hu
  refine .nil (seqQ_n ?_)
  refine .region ?_
  refine .q .move ?_
  refine .q .move ?_
  refine .q .move ?_
  refine TriOps.indexO i hO hc (fun p74 => ?_)
  refine .q (.fieldAddr rfl) ?_
  refine .q (.load1 rfl) ?_
  refine TriOps.callM (rcollect_spec b9 S1 T3 hD1 hS1 rev _) (fun u2 T5 hu => ?_)
  obtain ⟨rfl, hD2⟩ := hu
  refine .nil ?_
  refine blkQ_n (seqQ_n ?_)
  refine .region ?_
  refine .q .move ?_
  refine .q (.i64 ((i + 1 : Nat) : Int) .add ⟨by omega, by omega, by omega⟩) ?_
  refine .q .assign ?_
  refine .nil ?_
  · first
      | exact loopQ_i (i + 1, scollect S1 rev, T4, T5) ⟨⟨hlt, by simp only [scollect_head]; omega⟩, hI2, hD2, hS1.collect rev, hSP1.collect rev⟩ (by simp only; omega) (((((EnvLe.nil _).cons rfl).cons rfl).cons rfl).cons rfl) (HLe.pick [0, 0, 0] _)
      | exact loopQ_i (i + 1, S1, T1, T3) ⟨⟨hlt, by simp only; omega⟩, hI1, hD1, hS1, hSP1⟩ (by simp only; omega) (((((EnvLe.nil _).cons rfl).cons rfl).cons rfl).cons rfl) (HLe.refl _)
  refine .skip ?_
  refine blkQ_n (seqQ_n ?_)
  refine .region ?_
  refine .q .move ?_
  refine .q (.i64 ((i + 1 : Nat) : Int) .add ⟨by omega, by omega, by omega⟩) ?_
  refine .q .assign ?_
  refine .nil ?_
  · first
      | exact loopQ_i (i + 1, scollect S1 rev, T4, T5) ⟨⟨hlt, by simp only [scollect_head]; omega⟩, hI2, hD2, hS1.collect rev, hSP1.collect rev⟩ (by simp only; omega) (((((EnvLe.nil _).cons rfl).cons rfl).cons rfl).cons rfl) (HLe.pick [0, 0, 0] _)
      | exact loopQ_i (i + 1, S1, T1, T3) ⟨⟨hlt, by simp only; omega⟩, hI1, hD1, hS1, hSP1⟩ (by simp only; omega) (((((EnvLe.nil _).cons rfl).cons rfl).cons rfl).cons rfl) (HLe.refl _)
  refine .exit (seqQ_x (loopQ_x (blkQ_x ?_)))
  refine seqQ_n ?_
  refine .seq (.region ?_)
  refine .q .move ?_
  refine .q .move ?_
  refine .q .assign ?_
  refine .q .assign ?_
  refine .nil (seqQ_n ?_)
  refine .ret (retQ_r _ (.two (.tmp rfl) (.tmp rfl)) ((HLe.pick [1, 1] _)) ?_)
  · exact ⟨T, T2, by simp [take, dropAt], g, b9, S, rfl, hI, hDO, hS, hSP, by omega⟩
section
variable {P : Program} {N : Nat} {R : Rds} {ops : Array Oper} {l : List Oper} {env : Env} {H : Segs} {K : Env → Segs → Prop}
/-- A call that makes two segments anew. -/
theorem TriOps.callN2 {d : Nat} {ty : TypeId} {pos : String} {af : Array Edge} {f : FuncId} [e : Ent P f] {xs : List Operand} {ats : Array TypeId} {vs : List Value} {Post : Value → Seg → Seg → Prop}
    (hs : Spec P f vs (Rx R H) [] fun v H' => ∃ T T2, H' = [T, T2] ∧ Post v T T2) (hn : ∀ v T T2, Post v T T2 → TriOps false P N R ops l ((d, v) :: env) (T :: T2 :: H) K) (hxs : evs env xs = some vs := by rfl) (hd : Nat.blt d N = true := by rfl) :
    TriOps false P N R ops (⟨some d, .call ⟨.value (.func f), xs.toArray, ats⟩, ty, pos, af, none⟩ :: l) env H K :=
  TriOps.call [] hs (fun v H' ⟨T, T2, h1, h2⟩ => by subst h1; exact hn v T T2 h2) hxs hd
end
end Go.Proofs.YtconfddhmnipjaaGreat
