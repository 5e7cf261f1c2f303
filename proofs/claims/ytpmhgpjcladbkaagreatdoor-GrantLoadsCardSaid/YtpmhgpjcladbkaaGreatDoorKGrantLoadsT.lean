/- What the law 'GrantLoads' uses of this prover's engine, facts and walks. No condition. -/
import Derived.Test.YtpmhgpjcladbkaaGreatDoorKGrantLoadsN
import Derived.Test.YtpmhgpjcladbkaaGreatDoorKGrantLoadsS
set_option linter.unusedVariables false
set_option maxRecDepth 4000
namespace Go.Proofs.YtpmhgpjcladbkaaGreatDoor
theorem sorted_same {α : Type} {c : α → α → Int} : ∀ {xs ys : List α}, ys.Perm xs → xs.Pairwise (fun a b => c a b < 0) → ys.Pairwise (fun a b => ltc c b a = false) → ys = xs
  | [], ys, hp, _, _ => List.perm_nil.1 hp
  | x :: xs, [], hp, _, _ => by have := hp.length_eq; simp at this
  | x :: xs, y :: ys, hp, hx, hy => by
    have hx' := List.pairwise_cons.1 hx
    have hy' := List.pairwise_cons.1 hy
    have hxy : y = x := by
      rcases List.mem_cons.1 (hp.mem_iff.1 (by simp : y ∈ y :: ys)) with h1 | h1
      · exact h1
      · rcases List.mem_cons.1 (hp.mem_iff.2 (by simp : x ∈ x :: xs)) with h2 | h2
        · exact h2.symm
        · have h3 := hx'.1 y h1
          have h4 := of_decide_eq_false (hy'.1 x h2)
          exact absurd h3 h4
    subst hxy
    rw [sorted_same (List.perm_cons _ |>.1 hp) hx'.2 hy'.2]
theorem gright_spec (v vt : Value) (ps : List NP) (qs : List GP) (R : Rds) (h : RS R 3 encN v ps) (hc : ∀ p ∈ ps, NpR R p) (h' : RS R 9 encG vt qs) (hc' : ∀ p ∈ qs, CodR R p) :
    Spec Tryz.prog 16 [v, vt] R [] fun u H' => u = .bool (rightG (cons_ ps) (cods qs)) ∧ H' = [] := by
  have hle := h.le
  have hle' := h'.le
  have hpl : (cons_ ps).length = ps.length := by simp
  have hql : (cods qs).length = qs.length := by simp
  have badC : ¬ RightC (cons_ ps) → rightG (cons_ ps) (cods qs) = false := fun h9 => by unfold rightG; rw [decide_eq_false h9, Bool.false_and]
  have badD : ¬ RightD (cods qs) → rightG (cons_ ps) (cods qs) = false := fun h9 => by unfold rightG; rw [decide_eq_false h9, Bool.and_false]
  obtain ⟨pv, kv_, rfl⟩ := h.val
  obtain ⟨pt, kt_, rfl⟩ := h'.val
  refine Spec.body Tryz.func16 rfl Tryz.results16 Tryz.ntmps16 rfl ?_
  refine .seq (.region ?_)
  refine .q .assign ?_
  refine .nil (seqQ_n ?_)
  refine .seq ?_
  refine .seq (.region ?_)
  refine .q .move ?_
  refine .q (.lenR h') ?_
  refine .q .gtr ?_
  refine .nil (seqQ_n ?_)
  refine .cond rfl (fun h1 => ?_) (fun h1 => ?_)
  have hbad := badD fun h9 => by have h8 := of_decide_eq_true h1; have h7 := h9.2; omega
  refine .seq (.region ?_)
  refine .q .assign ?_
  refine .nil (seqQ_n ?_)
  refine .ret (seqQ_r (retQ_r _ (.one (.tmp rfl)) (.none _) ?_))
  · first
      | exact ⟨by rw [hbad], rfl⟩
      | exact ⟨by rw [hgood], rfl⟩
  have h4096 : qs.length ≤ 4096 := by have := of_decide_eq_false h1; omega
  refine .skip ?_
  refine seqQ_n ?_
  refine .seq ?_
  refine .seq (.region ?_)
  refine .q .assign ?_
  refine .nil (seqQ_n ?_)
  refine .block ?_
  refine .loop (X := Nat) (fun i => i ≤ ps.length ∧ ((∀ p ∈ (cons_ ps).take i, p.2 ≠ [] ∧ Rise p.2) ∧ ((cons_ ps).take i).Pairwise fun a b => whoCmp a.1 b.1 < 0)) (fun i => [(0, .slice pv ps.length kv_), (1, .slice pt qs.length kt_), (5, .int .i64 (i : Nat))]) (fun _ => []) (fun i => ps.length - i) 0 ⟨Nat.zero_le _, ⟨by simp, by simp⟩⟩ ((((EnvLe.nil _).cons rfl).cons rfl).cons rfl) (HLe.refl _) ?_
  rintro i ⟨hi, ⟨hok1, hok2⟩⟩
  refine .seq ?_
  refine .seq (.region ?_)
  refine .q .move ?_
  refine .q .move ?_
  refine .q (.lenR h) ?_
  refine .q .lss ?_
  refine .nil (seqQ_n ?_)
  refine .cond rfl (fun h2 => ?_) (fun h2 => ?_)
  have hlt : i < ps.length := by have := of_decide_eq_true h2; omega
  obtain ⟨⟨wz, kz, lz⟩, hz⟩ : ∃ z, ps[i]? = some z := ⟨_, List.getElem?_eq_getElem hlt⟩
  have cz := hc _ (List.mem_of_getElem? hz)
  have rz : RS R 1 encS wz lz := cz
  have rle := rz.le
  have iz : Ones (encN (wz, kz, lz)) := ⟨cz.ones⟩
  have hzt : (cons_ ps)[i]? = some (kz, lz) := by simp [hz]
  have iw : One wz := rz.oneCell
  have pz := h.pc hz
  refine .skip ?_
  refine seqQ_n ?_
  refine .seq ?_
  refine .block ?_
  refine .seq ?_
  refine .seq (.region ?_)
  refine .q .move ?_
  refine .q .move ?_
  refine TriOps.indexR i h hz (fun p19 => ?_)
  refine .q (.fieldAddr rfl) ?_
  refine .q (.load1 rfl) ?_
  refine .q (.lenR rz) ?_
  refine .q .eqI ?_
  refine .nil (seqQ_n ?_)
  refine .cond rfl (fun h3 => ?_) (fun h3 => ?_)
  have hbad := badC fun h9 => (h9.1 (kz, lz) (List.mem_of_getElem? hzt)).1 (List.length_eq_zero_iff.1 (show lz.length = 0 by simp at h3; simp [h3]))
  refine .seq (.region ?_)
  refine .q .assign ?_
  refine .nil (seqQ_n ?_)
  refine .ret (seqQ_r (blkQ_r (seqQ_r (loopQ_r (blkQ_r (seqQ_r (retQ_r _ (.one (.tmp rfl)) (.none _) ?_)))))))
  · first
      | exact ⟨by rw [hbad], rfl⟩
      | exact ⟨by rw [hgood], rfl⟩
  have hne : lz ≠ [] := fun e => by rw [e] at h3; simp at h3
  refine .skip ?_
  refine seqQ_n ?_
  refine .seq ?_
  refine .seq (.region ?_)
  refine .q .assign ?_
  refine .nil (seqQ_n ?_)
  refine .block ?_
  refine .loop (X := Nat) (fun k => 1 ≤ k ∧ (k ≤ lz.length ∨ k = 1) ∧ Rise (lz.take k)) (fun k => [(0, .slice pv ps.length kv_), (1, .slice pt qs.length kt_), (5, .int .i64 (i : Nat)), (6, .int .i64 (k : Nat))]) (fun _ => []) (fun k => lz.length - k) 1 ⟨Nat.le_refl _, .inr rfl, by
    match lz with
    | [] => exact List.Pairwise.nil
    | x :: l => simp⟩ (((((EnvLe.nil _).cons rfl).cons rfl).cons rfl).cons rfl) (HLe.refl _) ?_
  rintro k ⟨hk1, hk2, hr⟩
  refine .seq ?_
  refine .seq (.region ?_)
  refine .q .move ?_
  refine .q .move ?_
  refine .q .move ?_
  refine TriOps.indexR i h hz (fun p27 => ?_)
  refine .q (.fieldAddr rfl) ?_
  refine .q (.load1 rfl) ?_
  refine .q (.lenR rz) ?_
  refine .q .lss ?_
  refine .nil (seqQ_n ?_)
  refine .cond rfl (fun h4 => ?_) (fun h4 => ?_)
  have hlt4 : k < lz.length := by have := of_decide_eq_true h4; omega
  obtain ⟨x, hx⟩ : ∃ x, lz[k]? = some x := ⟨_, List.getElem?_eq_getElem hlt4⟩
  obtain ⟨y, hy⟩ : ∃ x, lz[k - 1]? = some x := ⟨_, List.getElem?_eq_getElem (by omega)⟩
  refine .skip ?_
  refine seqQ_n ?_
  refine .seq ?_
  refine .block ?_
  refine .seq ?_
  refine .region_still mixed (by kernel_rfl) ?_
  refine .q .move ?_
  refine .q .move ?_
  refine TriOps.indexR i h hz (fun p36 => ?_)
  refine .q (.fieldAddr rfl) ?_
  refine .q (.load1 rfl) ?_
  refine .q .move ?_
  refine .q (.i64 ((k - 1 : Nat) : Int) .sub ⟨by omega, by omega, by omega⟩) ?_
  refine TriOps.indexR (k - 1) rz hy (fun p41 => ?_)
  refine .q (.load1 rfl) ?_
  refine .q .move ?_
  refine .q .move ?_
  refine TriOps.indexR i h hz (fun p45 => ?_)
  refine .q (.fieldAddr rfl) ?_
  refine .q (.load1 rfl) ?_
  refine .q .move ?_
  refine TriOps.indexR k rz hx (fun p49 => ?_)
  refine .q (.load1 rfl) ?_
  refine .q .geS ?_
  refine .nil (seqQ_n ?_)
  refine .cond rfl (fun h5 => ?_) (fun h5 => ?_)
  have hbad := badC fun h9 => by
    have h8 := pw_next (r := fun a b => sLt a b = true) (h9.1 (kz, lz) (List.mem_of_getElem? hzt)).2 hx hy (by omega)
    have h7 : sLt y x = false := by simpa using h5
    rw [h8] at h7; cases h7
  refine .seq (.region ?_)
  refine .q .assign ?_
  refine .nil (seqQ_n ?_)
  refine .ret (blkQ_r (seqQ_r (loopQ_r (blkQ_r (seqQ_r (blkQ_r (seqQ_r (loopQ_r (blkQ_r (seqQ_r (retQ_r _ (.one (.tmp rfl)) (.none _) ?_)))))))))))
  · first
      | exact ⟨by rw [hbad], rfl⟩
      | exact ⟨by rw [hgood], rfl⟩
  refine .skip ?_
  refine blkQ_n (seqQ_n ?_)
  refine .region ?_
  refine .q .move ?_
  refine .q (.i64 ((k + 1 : Nat) : Int) .add ⟨by omega, by omega, by omega⟩) ?_
  refine .q .assign ?_
  refine .nil ?_
  · exact loopQ_i (k + 1) ⟨by omega, .inl hlt4, pw_snoc (r := fun a b => sLt a b = true) (fun x y z h1 h2 => sLt_trans h1 h2) hr hx fun y' _ hy' => by
      rw [hy] at hy'; cases hy'
      simpa using h5⟩ (by omega) (((((EnvLe.nil _).cons rfl).cons rfl).cons rfl).cons rfl) (HLe.refl _)
  have hri : Rise lz := by
    rw [List.take_of_length_le (by have := of_decide_eq_false h4; omega)] at hr
    exact hr
  refine .exit (seqQ_x (loopQ_x (blkQ_x ?_)))
  refine seqQ_n ?_
  refine .seq ?_
  refine .region_still mixed (by kernel_rfl) ?_
  refine .q .move ?_
  refine .q .gtr ?_
  refine .q .move ?_
  refine TriOps.split (t := 54) rfl (fun g13_2 => ?_) (fun g13_2 => ?_)
  have hi0 : 0 < i := by have := of_decide_eq_true g13_2; omega
  obtain ⟨⟨wy, ky, ly⟩, hy⟩ : ∃ z, ps[i - 1]? = some z := ⟨_, List.getElem?_eq_getElem (by omega)⟩
  have cy := hc _ (List.mem_of_getElem? hy)
  have iy : Ones (encN (wy, ky, ly)) := ⟨cy.ones⟩
  have hyt : (cons_ ps)[i - 1]? = some (ky, ly) := by simp [hy]
  have py := h.pc hy
  refine TriOps.gT g13_2 ?_
  refine .q .move ?_
  refine TriOps.gT g13_2 ?_
  refine .q .move ?_
  refine TriOps.gT g13_2 ?_
  refine .q (.i64 ((i - 1 : Nat) : Int) .sub ⟨by omega, by omega, by omega⟩) ?_
  refine TriOps.gT g13_2 ?_
  refine .q (.indexR (i - 1) h hy rfl rfl rfl) ?_
  refine TriOps.gT g13_2 ?_
  refine .q (.fieldAddr rfl) ?_
  refine TriOps.gT g13_2 ?_
  refine .q (.load1 rfl) ?_
  refine TriOps.gT g13_2 ?_
  refine .q .move ?_
  refine TriOps.gT g13_2 ?_
  refine .q .move ?_
  refine TriOps.gT g13_2 ?_
  refine .q (.indexR i h hz rfl rfl rfl) ?_
  refine TriOps.gT g13_2 ?_
  refine .q (.fieldAddr rfl) ?_
  refine TriOps.gT g13_2 ?_
  refine .q (.load1 rfl) ?_
  refine TriOps.gT g13_2 ?_
  refine .q .gtS ?_
  refine TriOps.gT g13_2 ?_
  refine .q .move ?_
  refine TriOps.split (t := 67) rfl (fun g13_15 => ?_) (fun g13_15 => ?_)
  refine TriOps.gF g13_15 ?_
  refine TriOps.gF g13_15 ?_
  refine TriOps.gF g13_15 ?_
  refine TriOps.gF g13_15 ?_
  refine TriOps.gF g13_15 ?_
  refine TriOps.gF g13_15 ?_
  refine TriOps.gF g13_15 ?_
  refine TriOps.gF g13_15 ?_
  refine TriOps.gF g13_15 ?_
  refine TriOps.gF g13_15 ?_
  refine TriOps.gF g13_15 ?_
  refine TriOps.gF g13_15 ?_
  refine TriOps.gF g13_15 ?_
  refine TriOps.gfU rfl ?_
  refine TriOps.gfU rfl ?_
  refine TriOps.gfU rfl ?_
  refine TriOps.gfU rfl ?_
  refine TriOps.gfU rfl ?_
  refine TriOps.gfU rfl ?_
  refine TriOps.gfU rfl ?_
  refine TriOps.gfU rfl ?_
  refine TriOps.gfU rfl ?_
  refine TriOps.gfU rfl ?_
  refine TriOps.gfU rfl ?_
  refine TriOps.gfU rfl ?_
  refine TriOps.gF g13_15 ?_
  refine TriOps.gT g13_2 ?_
  refine .q (.pickTh g13_15) ?_
  refine .q (.pickTh g13_2) ?_
  refine .nil (seqQ_n ?_)
  refine .condT ?_
  have hbad := badC fun h9 => by
    have h8 : whoCmp ky kz < 0 := pw_next (r := fun a b : Who × List ByteArray => whoCmp a.1 b.1 < 0) h9.2 hzt hyt hi0
    rw [whoCmp_lt] at h8
    first
      | (have q1 : sLt ky.1 kz.1 = false ∧ ¬ ky.1 = kz.1 := by simpa using g13_15
         rcases h8 with h8 | h8
         · rw [q1.1] at h8; cases h8
         · exact q1.2 h8.1)
      | (have q1 : ky.1 = kz.1 := by simpa using g13_28
         have q2 : sLt ky.2 kz.2 = false := by simpa using h6
         rcases h8 with h8 | h8
         · rw [q1, sLt_irr] at h8; cases h8
         · rw [q2] at h8; cases h8.2)
  refine .seq (.region ?_)
  refine .q .assign ?_
  refine .nil (seqQ_n ?_)
  refine .ret (blkQ_r (seqQ_r (loopQ_r (blkQ_r (seqQ_r (retQ_r _ (.one (.tmp rfl)) (.none _) ?_))))))
  · first
      | exact ⟨by rw [hbad], rfl⟩
      | exact ⟨by rw [hgood], rfl⟩
  refine TriOps.gT g13_15 ?_
  refine .q .move ?_
  refine TriOps.gT g13_15 ?_
  refine .q .move ?_
  refine TriOps.gT g13_15 ?_
  refine .q (.i64 ((i - 1 : Nat) : Int) .sub ⟨by omega, by omega, by omega⟩) ?_
  refine TriOps.gT g13_15 ?_
  refine .q (.indexR (i - 1) h hy rfl rfl rfl) ?_
  refine TriOps.gT g13_15 ?_
  refine .q (.fieldAddr rfl) ?_
  refine TriOps.gT g13_15 ?_
  refine .q (.load1 rfl) ?_
  refine TriOps.gT g13_15 ?_
  refine .q .move ?_
  refine TriOps.gT g13_15 ?_
  refine .q .move ?_
  refine TriOps.gT g13_15 ?_
  refine .q (.indexR i h hz rfl rfl rfl) ?_
  refine TriOps.gT g13_15 ?_
  refine .q (.fieldAddr rfl) ?_
  refine TriOps.gT g13_15 ?_
  refine .q (.load1 rfl) ?_
  refine TriOps.gT g13_15 ?_
  refine .q .eqS ?_
  refine TriOps.gT g13_15 ?_
  refine .q .move ?_
  refine TriOps.split (t := 80) rfl (fun g13_28 => ?_) (fun g13_28 => ?_)
  refine TriOps.gT g13_28 ?_
  refine .q .move ?_
  refine TriOps.gT g13_28 ?_
  refine .q .move ?_
  refine TriOps.gT g13_28 ?_
  refine .q (.i64 ((i - 1 : Nat) : Int) .sub ⟨by omega, by omega, by omega⟩) ?_
  refine TriOps.gT g13_28 ?_
  refine .q (.indexR (i - 1) h hy rfl rfl rfl) ?_
  refine TriOps.gT g13_28 ?_
  refine .q (.fieldAddr rfl) ?_
  refine TriOps.gT g13_28 ?_
  refine .q (.load1 rfl) ?_
  refine TriOps.gT g13_28 ?_
  refine .q .move ?_
  refine TriOps.gT g13_28 ?_
  refine .q .move ?_
  refine TriOps.gT g13_28 ?_
  refine .q (.indexR i h hz rfl rfl rfl) ?_
  refine TriOps.gT g13_28 ?_
  refine .q (.fieldAddr rfl) ?_
  refine TriOps.gT g13_28 ?_
  refine .q (.load1 rfl) ?_
  refine TriOps.gT g13_28 ?_
  refine .q .geS ?_
  refine TriOps.gT g13_15 ?_
  refine .q (.pickTh g13_28) ?_
  refine TriOps.gT g13_2 ?_
  refine .q (.pickFh g13_15) ?_
  refine .q (.pickTh g13_2) ?_
  refine .nil (seqQ_n ?_)
  refine .cond rfl (fun h6 => ?_) (fun h6 => ?_)
  have hbad := badC fun h9 => by
    have h8 : whoCmp ky kz < 0 := pw_next (r := fun a b : Who × List ByteArray => whoCmp a.1 b.1 < 0) h9.2 hzt hyt hi0
    rw [whoCmp_lt] at h8
    first
      | (have q1 : sLt ky.1 kz.1 = false ∧ ¬ ky.1 = kz.1 := by simpa using g13_15
         rcases h8 with h8 | h8
         · rw [q1.1] at h8; cases h8
         · exact q1.2 h8.1)
      | (have q1 : ky.1 = kz.1 := by simpa using g13_28
         have q2 : sLt ky.2 kz.2 = false := by simpa using h6
         rcases h8 with h8 | h8
         · rw [q1, sLt_irr] at h8; cases h8
         · rw [q2] at h8; cases h8.2)
  refine .seq (.region ?_)
  refine .q .assign ?_
  refine .nil (seqQ_n ?_)
  refine .ret (blkQ_r (seqQ_r (loopQ_r (blkQ_r (seqQ_r (retQ_r _ (.one (.tmp rfl)) (.none _) ?_))))))
  · first
      | exact ⟨by rw [hbad], rfl⟩
      | exact ⟨by rw [hgood], rfl⟩
  have hok1' : ∀ p ∈ (cons_ ps).take (i + 1), p.2 ≠ [] ∧ Rise p.2 := fun p hp => by
    rw [List.take_add_one, hzt] at hp
    rcases List.mem_append.1 hp with hp | hp
    · exact hok1 p hp
    · simp at hp; subst hp; exact ⟨hne, hri⟩
  have hok2' : ((cons_ ps).take (i + 1)).Pairwise fun a b => whoCmp a.1 b.1 < 0 := pw_snoc (r := fun a b : Who × List ByteArray => whoCmp a.1 b.1 < 0) whoCmp_tr hok2 hzt fun y h0 hy' => by
    first
      | (exfalso; have := of_decide_eq_false g13_2; omega)
      | (rw [hyt] at hy'; cases hy'
         show whoCmp ky kz < 0
         rw [whoCmp_lt]
         have q0 : sLt ky.1 kz.1 = true ∨ ky.1 = kz.1 := by
           have q1 : sLt ky.1 kz.1 = false → ky.1 = kz.1 := by simpa using g13_15
           cases hs : sLt ky.1 kz.1 with
           | true => exact .inl rfl
           | false => exact .inr (q1 hs)
         first
           | (have q2 : ¬ ky.1 = kz.1 := by simpa using g13_28
              exact .inl (q0.resolve_right q2))
           | (have q2 : ky.1 = kz.1 := by simpa using g13_28
              have q3 : sLt ky.2 kz.2 = true := by simpa using h6
              exact .inr ⟨q2, q3⟩))
  refine .skip ?_
  refine blkQ_n (seqQ_n ?_)
  refine .region ?_
  refine .q .move ?_
  refine .q (.i64 ((i + 1 : Nat) : Int) .add ⟨by omega, by omega, by omega⟩) ?_
  refine .q .assign ?_
  refine .nil ?_
  · exact loopQ_i (i + 1) ⟨hlt, ⟨hok1', hok2'⟩⟩ (by omega) ((((EnvLe.nil _).cons rfl).cons rfl).cons rfl) (HLe.refl _)
  refine TriOps.gF g13_28 ?_
  refine TriOps.gF g13_28 ?_
  refine TriOps.gF g13_28 ?_
  refine TriOps.gF g13_28 ?_
  refine TriOps.gF g13_28 ?_
  refine TriOps.gF g13_28 ?_
  refine TriOps.gF g13_28 ?_
  refine TriOps.gF g13_28 ?_
  refine TriOps.gF g13_28 ?_
  refine TriOps.gF g13_28 ?_
  refine TriOps.gF g13_28 ?_
  refine TriOps.gF g13_28 ?_
  refine TriOps.gT g13_15 ?_
  refine .q (.pickFh g13_28) ?_
  refine TriOps.gT g13_2 ?_
  refine .q (.pickFh g13_15) ?_
  refine .q (.pickTh g13_2) ?_
  refine .nil (seqQ_n ?_)
  refine .condF ?_
  have hok1' : ∀ p ∈ (cons_ ps).take (i + 1), p.2 ≠ [] ∧ Rise p.2 := fun p hp => by
    rw [List.take_add_one, hzt] at hp
    rcases List.mem_append.1 hp with hp | hp
    · exact hok1 p hp
    · simp at hp; subst hp; exact ⟨hne, hri⟩
  have hok2' : ((cons_ ps).take (i + 1)).Pairwise fun a b => whoCmp a.1 b.1 < 0 := pw_snoc (r := fun a b : Who × List ByteArray => whoCmp a.1 b.1 < 0) whoCmp_tr hok2 hzt fun y h0 hy' => by
    first
      | (exfalso; have := of_decide_eq_false g13_2; omega)
      | (rw [hyt] at hy'; cases hy'
         show whoCmp ky kz < 0
         rw [whoCmp_lt]
         have q0 : sLt ky.1 kz.1 = true ∨ ky.1 = kz.1 := by
           have q1 : sLt ky.1 kz.1 = false → ky.1 = kz.1 := by simpa using g13_15
           cases hs : sLt ky.1 kz.1 with
           | true => exact .inl rfl
           | false => exact .inr (q1 hs)
         first
           | (have q2 : ¬ ky.1 = kz.1 := by simpa using g13_28
              exact .inl (q0.resolve_right q2))
           | (have q2 : ky.1 = kz.1 := by simpa using g13_28
              have q3 : sLt ky.2 kz.2 = true := by simpa using h6
              exact .inr ⟨q2, q3⟩))
  refine .skip ?_
  refine blkQ_n (seqQ_n ?_)
  refine .region ?_
  refine .q .move ?_
  refine .q (.i64 ((i + 1 : Nat) : Int) .add ⟨by omega, by omega, by omega⟩) ?_
  refine .q .assign ?_
  refine .nil ?_
  · exact loopQ_i (i + 1) ⟨hlt, ⟨hok1', hok2'⟩⟩ (by omega) ((((EnvLe.nil _).cons rfl).cons rfl).cons rfl) (HLe.refl _)
  refine TriOps.gF g13_2 ?_
  refine TriOps.gF g13_2 ?_
  refine TriOps.gF g13_2 ?_
  refine TriOps.gF g13_2 ?_
  refine TriOps.gF g13_2 ?_
  refine TriOps.gF g13_2 ?_
  refine TriOps.gF g13_2 ?_
  refine TriOps.gF g13_2 ?_
  refine TriOps.gF g13_2 ?_
  refine TriOps.gF g13_2 ?_
  refine TriOps.gF g13_2 ?_
  refine TriOps.gF g13_2 ?_
  refine TriOps.gF g13_2 ?_
  refine TriOps.gfU rfl ?_
  refine TriOps.gfU rfl ?_
  refine TriOps.gfU rfl ?_
  refine TriOps.gfU rfl ?_
  refine TriOps.gfU rfl ?_
  refine TriOps.gfU rfl ?_
  refine TriOps.gfU rfl ?_
  refine TriOps.gfU rfl ?_
  refine TriOps.gfU rfl ?_
  refine TriOps.gfU rfl ?_
  refine TriOps.gfU rfl ?_
  refine TriOps.gfU rfl ?_
  refine TriOps.gfU rfl ?_
  refine TriOps.gfU rfl ?_
  refine TriOps.gfU rfl ?_
  refine TriOps.gfU rfl ?_
  refine TriOps.gfU rfl ?_
  refine TriOps.gfU rfl ?_
  refine TriOps.gfU rfl ?_
  refine TriOps.gfU rfl ?_
  refine TriOps.gfU rfl ?_
  refine TriOps.gfU rfl ?_
  refine TriOps.gfU rfl ?_
  refine TriOps.gfU rfl ?_
  refine TriOps.gfU rfl ?_
  refine TriOps.gfU rfl ?_
  refine TriOps.gF g13_2 ?_
  refine .q (.pickFh g13_2) ?_
  refine .nil (seqQ_n ?_)
  refine .condF ?_
  have hok1' : ∀ p ∈ (cons_ ps).take (i + 1), p.2 ≠ [] ∧ Rise p.2 := fun p hp => by
    rw [List.take_add_one, hzt] at hp
    rcases List.mem_append.1 hp with hp | hp
    · exact hok1 p hp
    · simp at hp; subst hp; exact ⟨hne, hri⟩
  have hok2' : ((cons_ ps).take (i + 1)).Pairwise fun a b => whoCmp a.1 b.1 < 0 := pw_snoc (r := fun a b : Who × List ByteArray => whoCmp a.1 b.1 < 0) whoCmp_tr hok2 hzt fun y h0 hy' => by
    first
      | (exfalso; have := of_decide_eq_false g13_2; omega)
      | (rw [hyt] at hy'; cases hy'
         show whoCmp ky kz < 0
         rw [whoCmp_lt]
         have q0 : sLt ky.1 kz.1 = true ∨ ky.1 = kz.1 := by
           have q1 : sLt ky.1 kz.1 = false → ky.1 = kz.1 := by simpa using g13_15
           cases hs : sLt ky.1 kz.1 with
           | true => exact .inl rfl
           | false => exact .inr (q1 hs)
         first
           | (have q2 : ¬ ky.1 = kz.1 := by simpa using g13_28
              exact .inl (q0.resolve_right q2))
           | (have q2 : ky.1 = kz.1 := by simpa using g13_28
              have q3 : sLt ky.2 kz.2 = true := by simpa using h6
              exact .inr ⟨q2, q3⟩))
  refine .skip ?_
  refine blkQ_n (seqQ_n ?_)
  refine .region ?_
  refine .q .move ?_
  refine .q (.i64 ((i + 1 : Nat) : Int) .add ⟨by omega, by omega, by omega⟩) ?_
  refine .q .assign ?_
  refine .nil ?_
  · exact loopQ_i (i + 1) ⟨hlt, ⟨hok1', hok2'⟩⟩ (by omega) ((((EnvLe.nil _).cons rfl).cons rfl).cons rfl) (HLe.refl _)
  have hin : i = ps.length := by have := of_decide_eq_false h2; omega
  rw [hin, ← hpl, List.take_length] at hok1 hok2
  have hRC : RightC (cons_ ps) := ⟨hok1, hok2⟩
  refine .exit (seqQ_x (loopQ_x (blkQ_x ?_)))
  refine seqQ_n ?_
  refine .seq ?_
  refine .seq (.region ?_)
  refine .q .assign ?_
  refine .nil (seqQ_n ?_)
  refine .block ?_
  refine .loop (X := Nat) (fun j => 1 ≤ j ∧ (j ≤ qs.length ∨ j = 1) ∧ ((cods qs).take j).Pairwise fun a b => sLt a.text b.text = true) (fun j => [(1, .slice pt qs.length kt_), (7, .int .i64 (j : Nat))]) (fun _ => []) (fun j => qs.length - j) 1 ⟨Nat.le_refl _, .inr rfl, by
    match qs with
    | [] => exact List.Pairwise.nil
    | x :: l => simp⟩ (((EnvLe.nil _).cons rfl).cons rfl) (HLe.refl _) ?_
  rintro j ⟨hj1, hj2, hokd⟩
  refine .seq ?_
  refine .seq (.region ?_)
  refine .q .move ?_
  refine .q .move ?_
  refine .q (.lenR h') ?_
  refine .q .lss ?_
  refine .nil (seqQ_n ?_)
  refine .cond rfl (fun h7 => ?_) (fun h7 => ?_)
  have hlt : j < qs.length := by have := of_decide_eq_true h7; omega
  obtain ⟨⟨wz, tz⟩, hz⟩ : ∃ z, qs[j]? = some z := ⟨_, List.getElem?_eq_getElem hlt⟩
  have cz := hc' _ (List.mem_of_getElem? hz)
  have iz : Ones (encG (wz, tz)) := ⟨cz.ones⟩
  have hzt : (cods qs)[j]? = some tz := by simp [hz]
  obtain ⟨⟨wy, ty⟩, hy⟩ : ∃ z, qs[j - 1]? = some z := ⟨_, List.getElem?_eq_getElem (by omega)⟩
  have cy := hc' _ (List.mem_of_getElem? hy)
  have iy : Ones (encG (wy, ty)) := ⟨cy.ones⟩
  have hyt : (cods qs)[j - 1]? = some ty := by simp [hy]
  refine .skip ?_
  refine seqQ_n ?_
  refine .seq ?_
  refine .block ?_
  refine .seq ?_
  refine .region_still mixed (by kernel_rfl) ?_
  refine .q .move ?_
  refine .q .move ?_
  refine .q (.i64 ((j - 1 : Nat) : Int) .sub ⟨by omega, by omega, by omega⟩) ?_
  refine TriOps.indexR (j - 1) h' hy (fun p105 => ?_)
  refine .q (.fieldAddr rfl) ?_
  refine .q (.load1 rfl) ?_
  refine .q .move ?_
  refine .q .move ?_
  refine TriOps.indexR j h' hz (fun p110 => ?_)
  refine .q (.fieldAddr rfl) ?_
  refine .q (.load1 rfl) ?_
  refine .q .geS ?_
  refine .nil (seqQ_n ?_)
  refine .cond rfl (fun h8 => ?_) (fun h8 => ?_)
  have hbad := badD fun h9 => by
    have q8 : sLt ty.text tz.text = true := pw_next (r := fun a b : Cod => sLt a.text b.text = true) h9.1 hzt hyt (by omega)
    have q7 : sLt ty.text tz.text = false := by simpa using h8
    rw [q8] at q7; cases q7
  refine .seq (.region ?_)
  refine .q .assign ?_
  refine .nil (seqQ_n ?_)
  refine .ret (blkQ_r (seqQ_r (loopQ_r (blkQ_r (seqQ_r (retQ_r _ (.one (.tmp rfl)) (.none _) ?_))))))
  · first
      | exact ⟨by rw [hbad], rfl⟩
      | exact ⟨by rw [hgood], rfl⟩
  refine .skip ?_
  refine blkQ_n (seqQ_n ?_)
  refine .region ?_
  refine .q .move ?_
  refine .q (.i64 ((j + 1 : Nat) : Int) .add ⟨by omega, by omega, by omega⟩) ?_
  refine .q .assign ?_
  refine .nil ?_
  · exact loopQ_i (j + 1) ⟨by omega, .inl hlt, pw_snoc (r := fun a b : Cod => sLt a.text b.text = true) (fun x y z h1 h2 => sLt_trans h1 h2) hokd hzt fun y' _ hy' => by
      rw [hyt] at hy'; cases hy'
      simpa using h8⟩ (by omega) (((EnvLe.nil _).cons rfl).cons rfl) (HLe.refl _)
  have hgood : rightG (cons_ ps) (cods qs) = true := by
    rw [List.take_of_length_le (by have := of_decide_eq_false h7; omega)] at hokd
    unfold rightG
    rw [decide_eq_true hRC, decide_eq_true (p := RightD (cods qs)) ⟨hokd, by omega⟩]; rfl
  refine .exit (seqQ_x (loopQ_x (blkQ_x ?_)))
  refine seqQ_n ?_
  refine .seq (.region ?_)
  refine .q .assign ?_
  refine .nil (seqQ_n ?_)
  refine .ret (retQ_r _ (.one (.tmp rfl)) (.none _) ?_)
  · first
      | exact ⟨by rw [hbad], rfl⟩
      | exact ⟨by rw [hgood], rfl⟩
theorem gkv_inj {A B : List Cod} (h : (gkv A).Perm (gkv B)) : A.Perm B := by
  have := h.map (·.2)
  unfold gkv at this
  rw [List.map_map, List.map_map] at this
  have e : ∀ L : List Cod, L.map ((fun p : ByteArray × Cod => p.2) ∘ fun t => (t.text, t)) = L := fun L => by
    conv => rhs; rw [← List.map_id L]
    rfl
  rwa [e, e] at this
theorem gsame_spec (g : Nat) (ps : List NP) (qs : List GP) (T : Seg) (hG : GI g (cons_ ps) (gkv (cods qs)) T) (x : Nat) (vc vt : Value) (R : Rds) (hr : ∀ p ∈ T, R p.1 p.2) (px : PC R (.pointer (some ⟨x, 0, none⟩)) [vc, vt]) (hS : RS R 3 encN vc ps) (hc : ∀ p ∈ ps, NpR R p) (hS' : RS R 9 encG vt qs) (hc' : ∀ p ∈ qs, CodR R p)
    (hl : ps.length ≤ 1000000) (hl' : qs.length ≤ 1000000) (hb : ∀ p ∈ ps, p.2.2.length ≤ 1000000) (hRC : RightC (cons_ ps)) (hRD : RightD (cods qs)) :
    Spec Tryz.prog 18 [.pointer (some ⟨g, 0, none⟩), .pointer (some ⟨x, 0, none⟩)] R [] fun u H' => u = .bool true ∧ H' = [] := by
  have i0 := hS.oneCell
  have i0' := hS'.oneCell
  have hb2 : ∀ p ∈ cons_ ps, p.2.length ≤ 1000000 := fun p hp => by
    obtain ⟨q, hq, rfl⟩ := List.mem_map.1 hp
    exact hb q hq
  have hnd := hG.ndC
  refine Spec.body Tryz.func18 rfl Tryz.results18 Tryz.ntmps18 rfl ?_
  refine .seq (.region ?_)
  refine .q .assign ?_
  refine .nil (seqQ_n ?_)
  refine .seq (.region ?_)
  refine .q .move ?_
  refine TriOps.callN (gconsents_spec g _ _ T hG (by simpa using hl) hb2 _ fun p hp => .inl (hr p hp)) (fun w T1 hw => ?_)
  obtain ⟨ys, To, Ti, rfl, hO, hyc, hyp, hys⟩ := hw
  have i1 := hO.oneCell
  have hysame : ys.map (·.2) = cons_ ps := sorted_same (c := fun a b : Who × List ByteArray => whoCmp a.1 b.1) hyp hRC.2 (List.pairwise_map.2 (hys.imp fun {a b} hab => hab))
  have hyl : ys.length = ps.length := by have := congrArg List.length hysame; simpa using this
  refine .q .move ?_
  refine TriOps.callN (gcodes_spec g _ _ T hG (by simpa [gkv] using hl') _ fun p hp => .inl (hr p hp)) (fun w2 T2 hw => ?_)
  obtain ⟨zs, To2, Ti2, rfl, hO2, hzc, hzp, hzs⟩ := hw
  have i2 := hO2.oneCell
  have hzsame : cods zs = cods qs := asc_same (fun t : Cod => t.text) hRD.1 (gkv_inj hzp) (List.pairwise_map.2 hzs)
  have hzl : zs.length = qs.length := by have := congrArg List.length hzsame; simpa using this
  refine .q .assign ?_
  refine .q .assign ?_
  refine .nil (seqQ_n ?_)
  refine .seq ?_
  refine .seq (.region ?_)
  refine TriOps.sub (H' := [To2, Ti2, To, Ti]) (HLe.ofPerm (by simp)) ?_
  refine .q .move ?_
  refine .q (.lenO hO) ?_
  refine .q .move ?_
  refine .q (.nilCheck rfl) ?_
  refine .q (.fieldAddr rfl) ?_
  refine .q (.load1 rfl) ?_
  refine .q (.lenR hS) ?_
  refine .q .neI ?_
  refine .q .move ?_
  refine TriOps.split (t := 22) rfl (fun g2_8 => ?_) (fun g2_8 => ?_)
  · rw [hyl] at g2_8
    simp at g2_8
  refine TriOps.gT g2_8 ?_
  refine .q .move ?_
  refine TriOps.gT g2_8 ?_
  refine .q (.lenO hO2) ?_
  refine TriOps.gT g2_8 ?_
  refine .q .move ?_
  refine TriOps.gT g2_8 ?_
  refine .q (.nilCheck rfl) ?_
  refine TriOps.gT g2_8 ?_
  refine .q (.fieldAddr rfl) ?_
  refine TriOps.gT g2_8 ?_
  refine .q (.load1 rfl) ?_
  refine TriOps.gT g2_8 ?_
  refine .q (.lenR hS') ?_
  refine TriOps.gT g2_8 ?_
  refine .q .neI ?_
  refine .q (.pickFh g2_8) ?_
  refine .nil (seqQ_n ?_)
  refine .cond rfl (fun h1 => ?_) (fun h1 => ?_)
  · rw [hzl] at h1
    simp at h1
  refine .skip ?_
  refine seqQ_n ?_
  refine .seq ?_
  refine .seq (.region ?_)
  refine .q .assign ?_
  refine .nil (seqQ_n ?_)
  refine .block ?_
  refine .loop (X := Nat) (fun i => i ≤ ps.length) (fun i => [(0, .pointer (some ⟨g, 0, none⟩)), (1, .pointer (some ⟨x, 0, none⟩)), (5, w), (6, w2), (7, .int .i64 (i : Nat))]) (fun _ => [To, Ti, To2, Ti2]) (fun i => ps.length - i) 0 (Nat.zero_le _) ((((((EnvLe.nil _).cons rfl).cons rfl).cons rfl).cons rfl).cons rfl) (HLe.pick [2, 2, 0, 0] _) ?_
  rintro i hi
  refine .seq ?_
  refine .seq (.region ?_)
  refine .q .move ?_
  refine .q .move ?_
  refine .q (.lenO hO) ?_
  refine .q .lss ?_
  refine .nil (seqQ_n ?_)
  refine .cond rfl (fun h2 => ?_) (fun h2 => ?_)
  have hlt : i < ps.length := by have := of_decide_eq_true h2; omega
  obtain ⟨⟨wz, kz, lz⟩, hz⟩ : ∃ z, ps[i]? = some z := ⟨_, List.getElem?_eq_getElem hlt⟩
  have cz := hc _ (List.mem_of_getElem? hz)
  have rz : RS R 1 encS wz lz := cz
  have iz : Ones (encN (wz, kz, lz)) := ⟨cz.ones⟩
  obtain ⟨⟨wy, ky⟩, hy⟩ : ∃ z, ys[i]? = some z := ⟨_, List.getElem?_eq_getElem (by omega)⟩
  have hkk : ky = (kz, lz) := by
    have h9 : (ys.map (·.2))[i]? = (cons_ ps)[i]? := by rw [hysame]
    simp [hy, hz] at h9
    exact h9
  subst hkk
  have cy := hyc _ (List.mem_of_getElem? hy)
  have ry : RS (sg0 Ti) 1 encS wy lz := cy
  have iy : Ones (encN (wy, kz, lz)) := ⟨cy.ones⟩
  have py : PS To (baseP w (i * 3)) (encN (wy, kz, lz)) := ⟨hO.pc hy⟩
  have hmg : mget (kz.1, kz.2) (cons_ ps) = some lz := mget_of_mem hnd (List.mem_map.2 ⟨_, List.mem_of_getElem? hz, rfl⟩)
  refine .skip ?_
  refine seqQ_n ?_
  refine .seq ?_
  refine .block ?_
  refine .seq (.region ?_)
  refine .q .move ?_
  refine .q (.nilCheck rfl) ?_
  refine .q (.fieldAddr rfl) ?_
  refine .q (.load1 rfl) ?_
  refine .q .move ?_
  refine TriOps.indexR i hS hz (fun p43 => ?_)
  refine .q (.loadA rfl) ?_
  refine TriOps.allocA (fun b8 => ?_)
  refine TriOps.storeA rfl rfl ?_
  refine .nil (seqQ_n ?_)
  refine .seq ?_
  refine .region_all [] mixed ?_
  refine .takeO 0 rfl .move (by kernel_rfl) ?_
  refine .takeO 1 rfl .move (by kernel_rfl) ?_
  refine .takeO 2 rfl (.indexR i hO.sg hy rfl rfl rfl) (by kernel_rfl) ?_
  refine .takeO 3 rfl (.fieldAddr rfl) (by kernel_rfl) ?_
  refine .takeO 4 rfl (.load1 rfl) (by kernel_rfl) ?_
  refine .takeO 5 rfl (.fieldAddr rfl) (by kernel_rfl) ?_
  refine .takeO 6 rfl (.load1 rfl) (by kernel_rfl) ?_
  refine .takeO 7 rfl .neS (by kernel_rfl) ?_
  refine .takeO 8 rfl .move (by kernel_rfl) ?_
  refine RA.split (t := 53) rfl (fun g8_8 => ?_) (fun g8_8 => ?_)
  · simp at g8_8
  refine .takeGhO 9 rfl rfl g8_8 .move (by kernel_rfl) ?_
  refine .takeGhO 10 rfl rfl g8_8 .move (by kernel_rfl) ?_
  refine .takeGhO 11 rfl rfl g8_8 (.indexR i hO.sg hy rfl rfl rfl) (by kernel_rfl) ?_
  refine .takeGhO 12 rfl rfl g8_8 (.fieldAddr rfl) (by kernel_rfl) ?_
  refine .takeGhO 13 rfl rfl g8_8 (.load1 rfl) (by kernel_rfl) ?_
  refine .takeGhO 14 rfl rfl g8_8 (.fieldAddr rfl) (by kernel_rfl) ?_
  refine .takeGhO 15 rfl rfl g8_8 (.load1 rfl) (by kernel_rfl) ?_
  refine .takeGhO 16 rfl rfl g8_8 .neS (by kernel_rfl) ?_
  refine .takeO 17 rfl (.pickFh g8_8) (by kernel_rfl) ?_
  refine .takeO 18 rfl .move (by kernel_rfl) ?_
  refine RA.split (t := 63) rfl (fun g8_18 => ?_) (fun g8_18 => ?_)
  · simp at g8_18
  refine .takeGhO 19 rfl rfl g8_18 .move (by kernel_rfl) ?_
  refine .takeGhO 20 rfl rfl g8_18 .move (by kernel_rfl) ?_
  refine .takeGhO 21 rfl rfl g8_18 (.indexR i hO.sg hy rfl rfl rfl) (by kernel_rfl) ?_
  refine .takeGhO 22 rfl rfl g8_18 (.fieldAddr rfl) (by kernel_rfl) ?_
  refine .takeGhO 23 rfl rfl g8_18 (.load1 rfl) (by kernel_rfl) ?_
  refine .takeGhO 24 rfl rfl g8_18 (.fieldAddr rfl) (by kernel_rfl) ?_
  refine .takeGhO 25 rfl rfl g8_18 (.load1 rfl) (by kernel_rfl) ?_
  refine RA.step 26 rfl (by kernel_rfl) rfl ?_
  refine TriOps.gT g8_18 ?_
  refine TriOps.callR (sameTexts_spec wy wz lz lz _ (ry.mono (sg0_inr (by simp))) rz.rx) (fun u hu => ?_)
  subst hu
  rw [decide_eq_true rfl]
  refine .nil (Next.sub ?_)
  refine .takeGhO 27 rfl rfl g8_18 .not (by kernel_rfl) ?_
  refine .takeO 28 rfl (.pickFh g8_18) (by kernel_rfl) ?_
  refine .takeO 29 rfl .move (by kernel_rfl) ?_
  refine RA.split (t := 74) rfl (fun g8_29 => ?_) (fun g8_29 => ?_)
  · simp at g8_29
  refine .takeGhO 30 rfl rfl g8_29 .move (by kernel_rfl) ?_
  refine .takeGhO 31 rfl rfl g8_29 (.fieldAddr rfl) (by kernel_rfl) ?_
  refine .takeGhO 32 rfl rfl g8_29 (.load1 rfl) (by kernel_rfl) ?_
  refine .takeGhO 33 rfl rfl g8_29 (.fieldAddr rfl) (by kernel_rfl) ?_
  refine .takeGhO 34 rfl rfl g8_29 (.load1 rfl) (by kernel_rfl) ?_
  refine .takeGhO 36 rfl rfl g8_29 (.fieldAddr rfl) (by kernel_rfl) ?_
  refine .takeGhO 37 rfl rfl g8_29 (.load1 rfl) (by kernel_rfl) ?_
  refine RA.step 35 rfl (by kernel_rfl) rfl ?_
  refine TriOps.gT g8_29 ?_
  refine TriOps.callN (gscopes_spec g _ _ T hG kz.1 kz.2 _ (fun p hp => .inl (hr p hp)) hb2) (fun u T9 hu => ?_)
  rw [hmg] at hu
  have i9 := hu.oneCell
  refine .nil (Next.sub ?_)
  refine RA.step 38 rfl (by kernel_rfl) rfl ?_
  refine TriOps.gT g8_29 ?_
  refine TriOps.callR (sameTexts_spec _ wz lz lz _ (hu.rs fun p hp => .inr (by simp [hp])) rz.rx) (fun u2 hu2 => ?_)
  subst hu2
  rw [decide_eq_true rfl]
  refine .nil (Next.sub ?_)
  refine .takeGhO 39 rfl rfl g8_29 .not (by kernel_rfl) ?_
  refine .takeO 40 rfl (.pickFh g8_29) (by kernel_rfl) ?_
  refine RA.nil (by kernel_rfl) ?_
  refine seqQ_n ?_
  refine .cond rfl (fun h3 => ?_) (fun h3 => ?_)
  · simp at h3
  refine .skip ?_
  refine blkQ_n (seqQ_n ?_)
  refine .region ?_
  refine .q .move ?_
  refine .q (.i64 ((i + 1 : Nat) : Int) .add ⟨by omega, by omega, by omega⟩) ?_
  refine .q .assign ?_
  refine .nil ?_
  · first
      | exact loopQ_i (i + 1) hlt (by omega) ((((((EnvLe.nil _).cons rfl).cons rfl).cons rfl).cons rfl).cons rfl) (HLe.pick [2, 2, 2, 2] _)
      | exact loopQ_i (i + 1) hlt (by omega) ((((((EnvLe.nil _).cons rfl).cons rfl).cons rfl).cons rfl).cons rfl) (HLe.pick [1, 1, 1, 1] _)
  refine .exit (seqQ_x (loopQ_x (blkQ_x ?_)))
  refine seqQ_n ?_
  refine .seq ?_
  refine .seq (.region ?_)
  refine .q .assign ?_
  refine .nil (seqQ_n ?_)
  refine .block ?_
  refine .loop (X := Nat) (fun i => i ≤ qs.length) (fun i => [(1, .pointer (some ⟨x, 0, none⟩)), (6, w2), (9, .int .i64 (i : Nat))]) (fun _ => [To2, Ti2]) (fun i => qs.length - i) 0 (Nat.zero_le _) ((((EnvLe.nil _).cons rfl).cons rfl).cons rfl) (HLe.pick [2, 2] _) ?_
  rintro j hj
  refine .seq ?_
  refine .seq (.region ?_)
  refine .q .move ?_
  refine .q .move ?_
  refine .q (.lenO hO2) ?_
  refine .q .lss ?_
  refine .nil (seqQ_n ?_)
  refine .cond rfl (fun h4 => ?_) (fun h4 => ?_)
  have hlt : j < qs.length := by have := of_decide_eq_true h4; omega
  obtain ⟨⟨wz, tz⟩, hz⟩ : ∃ z, qs[j]? = some z := ⟨_, List.getElem?_eq_getElem hlt⟩
  have cz := hc' _ (List.mem_of_getElem? hz)
  have iz : Ones (encG (wz, tz)) := ⟨cz.ones⟩
  have pz := hS'.pc hz
  obtain ⟨⟨wy, ty⟩, hy⟩ : ∃ z, zs[j]? = some z := ⟨_, List.getElem?_eq_getElem (by omega)⟩
  have htt : ty = tz := by
    have h9 : (cods zs)[j]? = (cods qs)[j]? := by rw [hzsame]
    simp [hy, hz] at h9
    exact h9
  subst htt
  have cy := hzc _ (List.mem_of_getElem? hy)
  have iy : Ones (encG (wy, ty)) := ⟨cy.ones⟩
  have py : PS To2 (baseP w2 (j * 9)) (encG (wy, ty)) := ⟨hO2.pc hy⟩
  refine .skip ?_
  refine seqQ_n ?_
  refine .seq ?_
  refine .block ?_
  refine .seq ?_
  refine .region_all [] mixed ?_
  refine .takeO 0 rfl .move (by kernel_rfl) ?_
  refine .takeO 1 rfl .move (by kernel_rfl) ?_
  refine .takeO 2 rfl (.indexR j hO2.sg hy rfl rfl rfl) (by kernel_rfl) ?_
  refine .takeO 3 rfl (.loadA rfl) (by kernel_rfl) ?_
  refine .takeO 5 rfl .move (by kernel_rfl) ?_
  refine .takeO 6 rfl (.nilCheck rfl) (by kernel_rfl) ?_
  refine .takeO 7 rfl (.fieldAddr rfl) (by kernel_rfl) ?_
  refine .takeO 8 rfl (.load1 rfl) (by kernel_rfl) ?_
  refine .takeO 9 rfl .move (by kernel_rfl) ?_
  refine .takeO 10 rfl (.indexR j hS' hz rfl rfl rfl) (by kernel_rfl) ?_
  refine .takeO 11 rfl (.loadA rfl) (by kernel_rfl) ?_
  refine RA.step 4 rfl (by kernel_rfl) rfl ?_
  refine TriOps.callR (gplain_spec wy ty _ cy) (fun u hu => ?_)
  subst hu
  refine .nil (Next.sub ?_)
  refine RA.step 12 rfl (by kernel_rfl) rfl ?_
  refine TriOps.callR (sameG_spec wy wz ty ty _ (cy.mono (sg0_inr (by simp))) (cz.mono fun b o hb => .inl hb)) (fun u hu => ?_)
  rw [sameG_self] at hu
  subst hu
  refine .nil (Next.sub ?_)
  refine .takeO 13 rfl .not (by kernel_rfl) ?_
  refine RA.nil (by kernel_rfl) ?_
  refine seqQ_n ?_
  refine .cond rfl (fun h5 => ?_) (fun h5 => ?_)
  · simp at h5
  refine .skip ?_
  refine blkQ_n (seqQ_n ?_)
  refine .region ?_
  refine .q .move ?_
  refine .q (.i64 ((j + 1 : Nat) : Int) .add ⟨by omega, by omega, by omega⟩) ?_
  refine .q .assign ?_
  refine .nil ?_
  · exact loopQ_i (j + 1) hlt (by omega) ((((EnvLe.nil _).cons rfl).cons rfl).cons rfl) (HLe.refl _)
  refine .exit (seqQ_x (loopQ_x (blkQ_x ?_)))
  refine seqQ_n ?_
  refine .seq (.region ?_)
  refine .q .assign ?_
  refine .nil (seqQ_n ?_)
  refine .ret (retQ_r _ (.one (.tmp rfl)) (.none _) ?_)
  · exact ⟨rfl, rfl⟩
end Go.Proofs.YtpmhgpjcladbkaaGreatDoor
set_option linter.unusedVariables false
set_option maxRecDepth 4000
namespace Go.Proofs.YtpmhgpjcladbkaaGreatDoor
def nshort (p : NP) : Who × List ByteArray := ((short p.2.1.1 20, short p.2.1.2 20), texts p.2.2 5 20)
theorem nshort_len (p : NP) : (nshort p).2.length ≤ 5 := by
  unfold nshort texts
  simp only [List.length_map, List.length_take]
  omega
theorem gloads_spec (v : Value) (ps : List NP) (vm : Value) (ts : List GP) (R : Rds) (h : RS R 3 encN v ps) (hc : ∀ p ∈ ps, NpR R p) (h' : RS R 9 encG vm ts) (hc' : ∀ p ∈ ts, CodR R p) (hg : PC R (.pointer (some ⟨1, 0, none⟩)) (wv ks)) :
    Spec Tryz.prog 3 [v, vm] R [] fun u H' => u = .bool true ∧ H' = [] := by
  have hle := h.le
  have hle' := h'.le
  obtain ⟨pv, kv_, rfl⟩ := h.val
  obtain ⟨pt, kt_, rfl⟩ := h'.val
  refine Spec.segs (H' := [[], [], [], [], [], []]) (by simp) ?_
  refine Spec.body Tryz.func3 rfl Tryz.results3 Tryz.ntmps3 rfl ?_
  refine .seq (.region ?_)
  refine .q .assign ?_
  refine .nil (seqQ_n ?_)
  refine .seq (.region ?_)
  refine .q .assign ?_
  refine .nil (seqQ_n ?_)
  refine .seq (.region ?_)
  refine .q .assign ?_
  refine .nil (seqQ_n ?_)
  refine .seq ?_
  refine .seq (.region ?_)
  refine .q .assign ?_
  refine .nil (seqQ_n ?_)
  refine Tri.cut (X := List NP × Value × Value × Seg × Seg × Seg) (fun y => (y.1.length ≤ 12 ∧ ∀ p ∈ y.1, p.2.2.length ≤ 5) ∧ (∀ p ∈ y.1, NpR (sg0 y.2.2.2.2.2) p) ∧ OS 30 3 encN y.2.1 y.1 y.2.2.2.1 ∧ OS 28 3 encN y.2.2.1 y.1 y.2.2.2.2.1) (fun y => [(1, .slice pt ts.length kt_), (5, y.2.1), (6, y.2.2.1)]) (fun y => [y.2.2.2.1, y.2.2.2.2.1, y.2.2.2.2.2, [], [], []]) ?_ ?_
  refine .block ?_
  refine .loop (X := Nat × List NP × Value × Value × Seg × Seg × Seg) (fun z => (z.1 ≤ ps.length ∧ z.1 ≤ 12 ∧ z.2.1.length = z.1 ∧ ∀ p ∈ z.2.1, p.2.2.length ≤ 5) ∧ (∀ p ∈ z.2.1, NpR (sg0 z.2.2.2.2.2.2) p) ∧ OS 30 3 encN z.2.2.1 z.2.1 z.2.2.2.2.1 ∧ OS 28 3 encN z.2.2.2.1 z.2.1 z.2.2.2.2.2.1) (fun z => [(0, .slice pv ps.length kv_), (1, .slice pt ts.length kt_), (5, z.2.2.1), (6, z.2.2.2.1), (7, .int .i64 (z.1 : Nat))]) (fun z => [z.2.2.2.2.1, z.2.2.2.2.2.1, z.2.2.2.2.2.2, [], [], []]) (fun z => ps.length - z.1) (0, [], .slice none 0 0, .slice none 0 0, [], [], []) ⟨⟨by omega, by omega, rfl, by simp⟩, by simp, OS.nil, OS.nil⟩ ((((((EnvLe.nil _).cons rfl).cons rfl).cons rfl).cons rfl).cons rfl) (HLe.refl _) ?_
  rintro ⟨i, la, va, vb, Ta, Tb, Td⟩ ⟨⟨hi, hi12, hal, hfew⟩, hac, hOa, hOb⟩
  simp only at hi hi12 hal hfew hac hOa hOb ⊢
  have i1 := hOa.oneCell
  have i2 := hOb.oneCell
  refine .seq ?_
  refine .seq (.region ?_)
  refine .q .move ?_
  refine .q .move ?_
  refine .q (.lenR h) ?_
  refine .q .lss ?_
  refine .q .move ?_
  refine TriOps.split (t := 18) rfl (fun g4_4 => ?_) (fun g4_4 => ?_)
  refine TriOps.gT g4_4 ?_
  refine .q .move ?_
  refine TriOps.gT g4_4 ?_
  refine .q .lss ?_
  refine .q (.pickTh g4_4) ?_
  refine .nil (seqQ_n ?_)
  refine .cond rfl (fun h1 => ?_) (fun h1 => ?_)
  have hlt : i < ps.length ∧ i < 12 := by simp at g4_4 h1; omega
  obtain ⟨⟨wz, kz, lz⟩, hz⟩ : ∃ z, ps[i]? = some z := ⟨_, List.getElem?_eq_getElem hlt.1⟩
  have cz := hc _ (List.mem_of_getElem? hz)
  have rz : RS R 1 encS wz lz := cz
  have iz : Ones (encN (wz, kz, lz)) := ⟨cz.ones⟩
  have pz := h.pc hz
  refine .skip ?_
  refine seqQ_n ?_
  refine .seq ?_
  refine .block ?_
  refine .seq ?_
  refine .region_all [20] mixed ?_
  refine .takeO 0 rfl .move (by kernel_rfl) ?_
  refine .takeO 1 rfl .move (by kernel_rfl) ?_
  refine .takeO 2 rfl (.indexR i h hz rfl rfl rfl) (by kernel_rfl) ?_
  refine .takeO 3 rfl (.fieldAddr rfl) (by kernel_rfl) ?_
  refine .takeO 4 rfl (.load1 rfl) (by kernel_rfl) ?_
  refine .takeO 6 rfl .move (by kernel_rfl) ?_
  refine .takeO 7 rfl .move (by kernel_rfl) ?_
  refine .takeO 8 rfl (.indexR i h hz rfl rfl rfl) (by kernel_rfl) ?_
  refine .takeO 9 rfl (.fieldAddr rfl) (by kernel_rfl) ?_
  refine .takeO 10 rfl (.load1 rfl) (by kernel_rfl) ?_
  refine .takeO 12 rfl .move (by kernel_rfl) ?_
  refine .takeO 13 rfl .move (by kernel_rfl) ?_
  refine .takeO 14 rfl (.indexR i h hz rfl rfl rfl) (by kernel_rfl) ?_
  refine .takeO 15 rfl (.fieldAddr rfl) (by kernel_rfl) ?_
  refine .takeO 16 rfl (.load1 rfl) (by kernel_rfl) ?_
  refine RA.step2 5 19 rfl rfl (by kernel_rfl) rfl ?_ ?_
  refine TriOps.callR (short_spec kz.1 20 _) (fun u hu => ?_)
  subst hu
  refine .nil (Next.sub ?_)
  refine RA.step2 11 19 rfl rfl (by kernel_rfl) rfl ?_ ?_
  refine TriOps.callR (short_spec kz.2 20 _) (fun u hu => ?_)
  subst hu
  refine .nil (Next.sub ?_)
  refine RA.step2 17 19 rfl rfl (by kernel_rfl) rfl ?_ ?_
  refine TriOps.callN (texts_spec wz lz 5 20 (by omega) _ rz.rx) (fun w1 T1 hO1 => ?_)
  obtain ⟨p1, k1, rfl, _⟩ := hO1.shape
  have hc1 : NpR (sg0 T1) ((_, nshort (wz, kz, lz)) : NP) := hO1.sg0
  refine .nil (Next.sub ?_)
  refine .takeO 18 rfl .bld (by kernel_rfl) ?_
  refine RA.step 19 rfl (by kernel_rfl) rfl ?_
  refine TriOps.allocA (fun b8 => ?_)
  refine .nil (Next.sub ?_)
  refine RA.step 20 rfl (by kernel_rfl) rfl ?_
  refine TriOps.storeA rfl rfl ?_
  refine .nil (Next.mod rfl ?_)
  refine RA.nil (by kernel_rfl) ?_
  refine seqQ_n ?_
  refine .seq (.region ?_)
  refine .q .move ?_
  refine .q (.loadA rfl) ?_
  refine TriOps.buildSlice1A (fun b45 => ?_)
  refine TriOps.append hOb (RS.lits (xs := [((_, nshort (wz, kz, lz)) : NP)]) rfl (by simp [encN, nshort]) (by have := hc1.ones; simpa using this)) (by simp; omega) (fun vb2 Tb2 hOb2 => ?_)
  refine .q .assign ?_
  refine .nil (seqQ_n ?_)
  refine .region ?_
  refine .q .move ?_
  refine .q (.fieldAddr rfl) ?_
  refine .q (.load1 rfl) ?_
  refine .q (.fieldAddr rfl) ?_
  refine .q (.load1 rfl) ?_
  refine .q (.fieldAddr rfl) ?_
  refine .q (.load1 rfl) ?_
  refine .q .bld ?_
  refine TriOps.buildSlice1A (fun b55 => ?_)
  refine TriOps.append hOa (RS.lits (xs := [((_, nshort (wz, kz, lz)) : NP)]) rfl (by simp [encN, nshort]) (by have := hc1.ones; simpa using this)) (by simp; omega) (fun va2 Ta2 hOa2 => ?_)
  refine .q .assign ?_
  refine .nil ?_
  refine blkQ_n (seqQ_n ?_)
  refine .region ?_
  refine .q .move ?_
  refine .q (.i64 ((i + 1 : Nat) : Int) .add ⟨by omega, by omega, by omega⟩) ?_
  refine .q .assign ?_
  refine .nil ?_
  · refine loopQ_i (i + 1, la ++ [(_, nshort (wz, kz, lz))], va2, vb2, Ta2, Tb2, T1 ++ Td) ⟨⟨by simp only; omega, by simp only; omega, by simp [hal], fun p hp => ?_⟩, fun p hp => ?_, hOa2, hOb2⟩ (by simp only; omega) ((((((EnvLe.nil _).cons rfl).cons rfl).cons rfl).cons rfl).cons rfl) (by first | (refine (HLe.pick [4, 4, 3, 3] _).trans (HLe.ofPerm ?_); simp [take, dropAt] <;> fail) | (refine (HLe.pick [4, 4, 2, 3] _).trans (HLe.ofPerm ?_); simp [take, dropAt] <;> fail) | (refine (HLe.pick [4, 4, 1, 3] _).trans (HLe.ofPerm ?_); simp [take, dropAt] <;> fail) | (refine (HLe.pick [4, 4, 0, 3] _).trans (HLe.ofPerm ?_); simp [take, dropAt] <;> fail))
    · rcases List.mem_append.1 hp with hp | hp
      · exact hfew p hp
      · simp only [List.mem_singleton] at hp; subst hp
        exact nshort_len _
    · rcases List.mem_append.1 hp with hp | hp
      · exact (hac p hp).mono fun b o hb => sg0_right hb
      · simp only [List.mem_singleton] at hp; subst hp
        exact hc1.mono fun b o hb => sg0_left hb
  refine TriOps.allocA (fun b8 => ?_)
  refine .nil (Next.sub ?_)
  refine RA.step 17 rfl (by kernel_rfl) rfl ?_
  refine TriOps.callN (texts_spec wz lz 5 20 (by omega) _ rz.rx) (fun w1 T1 hO1 => ?_)
  obtain ⟨p1, k1, rfl, _⟩ := hO1.shape
  have hc1 : NpR (sg0 T1) ((_, nshort (wz, kz, lz)) : NP) := hO1.sg0
  refine .nil (Next.sub ?_)
  refine .takeO 18 rfl .bld (by kernel_rfl) ?_
  refine RA.step 20 rfl (by kernel_rfl) rfl ?_
  refine TriOps.storeA rfl rfl ?_
  refine .nil (Next.mod rfl ?_)
  refine RA.nil (by kernel_rfl) ?_
  refine seqQ_n ?_
  refine .seq (.region ?_)
  refine .q .move ?_
  refine .q (.loadA rfl) ?_
  refine TriOps.buildSlice1A (fun b45 => ?_)
  refine TriOps.append hOb (RS.lits (xs := [((_, nshort (wz, kz, lz)) : NP)]) rfl (by simp [encN, nshort]) (by have := hc1.ones; simpa using this)) (by simp; omega) (fun vb2 Tb2 hOb2 => ?_)
  refine .q .assign ?_
  refine .nil (seqQ_n ?_)
  refine .region ?_
  refine .q .move ?_
  refine .q (.fieldAddr rfl) ?_
  refine .q (.load1 rfl) ?_
  refine .q (.fieldAddr rfl) ?_
  refine .q (.load1 rfl) ?_
  refine .q (.fieldAddr rfl) ?_
  refine .q (.load1 rfl) ?_
  refine .q .bld ?_
  refine TriOps.buildSlice1A (fun b55 => ?_)
  refine TriOps.append hOa (RS.lits (xs := [((_, nshort (wz, kz, lz)) : NP)]) rfl (by simp [encN, nshort]) (by have := hc1.ones; simpa using this)) (by simp; omega) (fun va2 Ta2 hOa2 => ?_)
  refine .q .assign ?_
  refine .nil ?_
  refine blkQ_n (seqQ_n ?_)
  refine .region ?_
  refine .q .move ?_
  refine .q (.i64 ((i + 1 : Nat) : Int) .add ⟨by omega, by omega, by omega⟩) ?_
  refine .q .assign ?_
  refine .nil ?_
  · refine loopQ_i (i + 1, la ++ [(_, nshort (wz, kz, lz))], va2, vb2, Ta2, Tb2, T1 ++ Td) ⟨⟨by simp only; omega, by simp only; omega, by simp [hal], fun p hp => ?_⟩, fun p hp => ?_, hOa2, hOb2⟩ (by simp only; omega) ((((((EnvLe.nil _).cons rfl).cons rfl).cons rfl).cons rfl).cons rfl) (by first | (refine (HLe.pick [4, 4, 3, 3] _).trans (HLe.ofPerm ?_); simp [take, dropAt] <;> fail) | (refine (HLe.pick [4, 4, 2, 3] _).trans (HLe.ofPerm ?_); simp [take, dropAt] <;> fail) | (refine (HLe.pick [4, 4, 1, 3] _).trans (HLe.ofPerm ?_); simp [take, dropAt] <;> fail) | (refine (HLe.pick [4, 4, 0, 3] _).trans (HLe.ofPerm ?_); simp [take, dropAt] <;> fail))
    · rcases List.mem_append.1 hp with hp | hp
      · exact hfew p hp
      · simp only [List.mem_singleton] at hp; subst hp
        exact nshort_len _
    · rcases List.mem_append.1 hp with hp | hp
      · exact (hac p hp).mono fun b o hb => sg0_right hb
      · simp only [List.mem_singleton] at hp; subst hp
        exact hc1.mono fun b o hb => sg0_left hb
  refine TriOps.allocA (fun b8 => ?_)
  refine .nil (Next.sub ?_)
  refine RA.step 11 rfl (by kernel_rfl) rfl ?_
  refine TriOps.callR (short_spec kz.2 20 _) (fun u hu => ?_)
  subst hu
  refine .nil (Next.sub ?_)
  refine RA.step 17 rfl (by kernel_rfl) rfl ?_
  refine TriOps.callN (texts_spec wz lz 5 20 (by omega) _ rz.rx) (fun w1 T1 hO1 => ?_)
  obtain ⟨p1, k1, rfl, _⟩ := hO1.shape
  have hc1 : NpR (sg0 T1) ((_, nshort (wz, kz, lz)) : NP) := hO1.sg0
  refine .nil (Next.sub ?_)
  refine .takeO 18 rfl .bld (by kernel_rfl) ?_
  refine RA.step 20 rfl (by kernel_rfl) rfl ?_
  refine TriOps.storeA rfl rfl ?_
  refine .nil (Next.mod rfl ?_)
  refine RA.nil (by kernel_rfl) ?_
  refine seqQ_n ?_
  refine .seq (.region ?_)
  refine .q .move ?_
  refine .q (.loadA rfl) ?_
  refine TriOps.buildSlice1A (fun b45 => ?_)
  refine TriOps.append hOb (RS.lits (xs := [((_, nshort (wz, kz, lz)) : NP)]) rfl (by simp [encN, nshort]) (by have := hc1.ones; simpa using this)) (by simp; omega) (fun vb2 Tb2 hOb2 => ?_)
  refine .q .assign ?_
  refine .nil (seqQ_n ?_)
  refine .region ?_
  refine .q .move ?_
  refine .q (.fieldAddr rfl) ?_
  refine .q (.load1 rfl) ?_
  refine .q (.fieldAddr rfl) ?_
  refine .q (.load1 rfl) ?_
  refine .q (.fieldAddr rfl) ?_
  refine .q (.load1 rfl) ?_
  refine .q .bld ?_
  refine TriOps.buildSlice1A (fun b55 => ?_)
  refine TriOps.append hOa (RS.lits (xs := [((_, nshort (wz, kz, lz)) : NP)]) rfl (by simp [encN, nshort]) (by have := hc1.ones; simpa using this)) (by simp; omega) (fun va2 Ta2 hOa2 => ?_)
  refine .q .assign ?_
  refine .nil ?_
  refine blkQ_n (seqQ_n ?_)
  refine .region ?_
  refine .q .move ?_
  refine .q (.i64 ((i + 1 : Nat) : Int) .add ⟨by omega, by omega, by omega⟩) ?_
  refine .q .assign ?_
  refine .nil ?_
  · refine loopQ_i (i + 1, la ++ [(_, nshort (wz, kz, lz))], va2, vb2, Ta2, Tb2, T1 ++ Td) ⟨⟨by simp only; omega, by simp only; omega, by simp [hal], fun p hp => ?_⟩, fun p hp => ?_, hOa2, hOb2⟩ (by simp only; omega) ((((((EnvLe.nil _).cons rfl).cons rfl).cons rfl).cons rfl).cons rfl) (by first | (refine (HLe.pick [4, 4, 3, 3] _).trans (HLe.ofPerm ?_); simp [take, dropAt] <;> fail) | (refine (HLe.pick [4, 4, 2, 3] _).trans (HLe.ofPerm ?_); simp [take, dropAt] <;> fail) | (refine (HLe.pick [4, 4, 1, 3] _).trans (HLe.ofPerm ?_); simp [take, dropAt] <;> fail) | (refine (HLe.pick [4, 4, 0, 3] _).trans (HLe.ofPerm ?_); simp [take, dropAt] <;> fail))
    · rcases List.mem_append.1 hp with hp | hp
      · exact hfew p hp
      · simp only [List.mem_singleton] at hp; subst hp
        exact nshort_len _
    · rcases List.mem_append.1 hp with hp | hp
      · exact (hac p hp).mono fun b o hb => sg0_right hb
      · simp only [List.mem_singleton] at hp; subst hp
        exact hc1.mono fun b o hb => sg0_left hb
  refine TriOps.allocA (fun b8 => ?_)
  refine .nil (Next.sub ?_)
  refine RA.step 5 rfl (by kernel_rfl) rfl ?_
  refine TriOps.callR (short_spec kz.1 20 _) (fun u hu => ?_)
  subst hu
  refine .nil (Next.sub ?_)
  refine RA.step 11 rfl (by kernel_rfl) rfl ?_
  refine TriOps.callR (short_spec kz.2 20 _) (fun u hu => ?_)
  subst hu
  refine .nil (Next.sub ?_)
  refine RA.step 17 rfl (by kernel_rfl) rfl ?_
  refine TriOps.callN (texts_spec wz lz 5 20 (by omega) _ rz.rx) (fun w1 T1 hO1 => ?_)
  obtain ⟨p1, k1, rfl, _⟩ := hO1.shape
  have hc1 : NpR (sg0 T1) ((_, nshort (wz, kz, lz)) : NP) := hO1.sg0
  refine .nil (Next.sub ?_)
  refine .takeO 18 rfl .bld (by kernel_rfl) ?_
  refine RA.step 20 rfl (by kernel_rfl) rfl ?_
  refine TriOps.storeA rfl rfl ?_
  refine .nil (Next.mod rfl ?_)
  refine RA.nil (by kernel_rfl) ?_
  refine seqQ_n ?_
  refine .seq (.region ?_)
  refine .q .move ?_
  refine .q (.loadA rfl) ?_
  refine TriOps.buildSlice1A (fun b45 => ?_)
  refine TriOps.append hOb (RS.lits (xs := [((_, nshort (wz, kz, lz)) : NP)]) rfl (by simp [encN, nshort]) (by have := hc1.ones; simpa using this)) (by simp; omega) (fun vb2 Tb2 hOb2 => ?_)
  refine .q .assign ?_
  refine .nil (seqQ_n ?_)
  refine .region ?_
  refine .q .move ?_
  refine .q (.fieldAddr rfl) ?_
  refine .q (.load1 rfl) ?_
  refine .q (.fieldAddr rfl) ?_
  refine .q (.load1 rfl) ?_
  refine .q (.fieldAddr rfl) ?_
  refine .q (.load1 rfl) ?_
  refine .q .bld ?_
  refine TriOps.buildSlice1A (fun b55 => ?_)
  refine TriOps.append hOa (RS.lits (xs := [((_, nshort (wz, kz, lz)) : NP)]) rfl (by simp [encN, nshort]) (by have := hc1.ones; simpa using this)) (by simp; omega) (fun va2 Ta2 hOa2 => ?_)
  refine .q .assign ?_
  refine .nil ?_
  refine blkQ_n (seqQ_n ?_)
  refine .region ?_
  refine .q .move ?_
  refine .q (.i64 ((i + 1 : Nat) : Int) .add ⟨by omega, by omega, by omega⟩) ?_
  refine .q .assign ?_
  refine .nil ?_
  · refine loopQ_i (i + 1, la ++ [(_, nshort (wz, kz, lz))], va2, vb2, Ta2, Tb2, T1 ++ Td) ⟨⟨by simp only; omega, by simp only; omega, by simp [hal], fun p hp => ?_⟩, fun p hp => ?_, hOa2, hOb2⟩ (by simp only; omega) ((((((EnvLe.nil _).cons rfl).cons rfl).cons rfl).cons rfl).cons rfl) (by first | (refine (HLe.pick [4, 4, 3, 3] _).trans (HLe.ofPerm ?_); simp [take, dropAt] <;> fail) | (refine (HLe.pick [4, 4, 2, 3] _).trans (HLe.ofPerm ?_); simp [take, dropAt] <;> fail) | (refine (HLe.pick [4, 4, 1, 3] _).trans (HLe.ofPerm ?_); simp [take, dropAt] <;> fail) | (refine (HLe.pick [4, 4, 0, 3] _).trans (HLe.ofPerm ?_); simp [take, dropAt] <;> fail))
    · rcases List.mem_append.1 hp with hp | hp
      · exact hfew p hp
      · simp only [List.mem_singleton] at hp; subst hp
        exact nshort_len _
    · rcases List.mem_append.1 hp with hp | hp
      · exact (hac p hp).mono fun b o hb => sg0_right hb
      · simp only [List.mem_singleton] at hp; subst hp
        exact hc1.mono fun b o hb => sg0_left hb
  refine .exit (seqQ_x (loopQ_x (blkQ_x ?_)))
  exact joinQ_n (la, va, vb, Ta, Tb, Td) ⟨⟨by simp only; omega, hfew⟩, hac, hOa, hOb⟩ ((((EnvLe.nil _).cons rfl).cons rfl).cons rfl) (HLe.refl _)
  refine TriOps.gF g4_4 ?_
  refine TriOps.gF g4_4 ?_
  refine .q (.pickFh g4_4) ?_
  refine .nil (seqQ_n ?_)
  refine .condF ?_
  refine .exit (seqQ_x (loopQ_x (blkQ_x ?_)))
  exact joinQ_n (la, va, vb, Ta, Tb, Td) ⟨⟨by simp only; omega, hfew⟩, hac, hOa, hOb⟩ ((((EnvLe.nil _).cons rfl).cons rfl).cons rfl) (HLe.refl _)
  intro x hx
  obtain ⟨la, va, vb, Ta, Tb, Td⟩ := x
  obtain ⟨⟨hal, hfew⟩, hac, hOa, hOb⟩ := hx
  simp only at hal hfew hac hOa hOb ⊢
  have i1 := hOa.oneCell
  have i2 := hOb.oneCell
  have hclen : (cons_ la).length = la.length := by simp
  refine seqQ_n ?_
  refine .seq (.region ?_)
  refine .q .assign ?_
  refine .nil (seqQ_n ?_)
  refine .seq (.region ?_)
  refine .q .assign ?_
  refine .nil (seqQ_n ?_)
  refine .seq ?_
  refine .seq (.region ?_)
  refine .q .assign ?_
  refine .nil (seqQ_n ?_)
  refine Tri.cut (X := List GP × List GP × Value × Value × Seg × Seg × Seg) (fun y => (cods y.1 = cods y.2.1 ∧ y.1.length ≤ 12) ∧ (∀ p ∈ y.1, CodR (sg0 y.2.2.2.2.2.2) p ∧ p.2.few) ∧ (∀ p ∈ y.2.1, CodR (sg0 y.2.2.2.2.2.2) p) ∧ OS 33 9 encG y.2.2.1 y.1 y.2.2.2.2.1 ∧ OS 35 9 encG y.2.2.2.1 y.2.1 y.2.2.2.2.2.1) (fun y => [(5, va), (6, vb), (9, y.2.2.1), (10, y.2.2.2.1)]) (fun y => [y.2.2.2.2.1, y.2.2.2.2.2.1, y.2.2.2.2.2.2, Ta, Tb, Td]) ?_ ?_
  refine .block ?_
  refine .loop (X := Nat × List GP × List GP × Value × Value × Seg × Seg × Seg) (fun z => (z.1 ≤ ts.length ∧ z.1 ≤ 12 ∧ z.2.1.length = z.1 ∧ z.2.2.1.length = z.1 ∧ cods z.2.1 = cods z.2.2.1) ∧ (∀ p ∈ z.2.1, CodR (sg0 z.2.2.2.2.2.2.2) p ∧ p.2.few) ∧ (∀ p ∈ z.2.2.1, CodR (sg0 z.2.2.2.2.2.2.2) p) ∧ OS 33 9 encG z.2.2.2.1 z.2.1 z.2.2.2.2.2.1 ∧ OS 35 9 encG z.2.2.2.2.1 z.2.2.1 z.2.2.2.2.2.2.1) (fun z => [(1, .slice pt ts.length kt_), (5, va), (6, vb), (9, z.2.2.2.1), (10, z.2.2.2.2.1), (11, .int .i64 (z.1 : Nat))]) (fun z => [z.2.2.2.2.2.1, z.2.2.2.2.2.2.1, z.2.2.2.2.2.2.2, Ta, Tb, Td]) (fun z => ts.length - z.1) (0, [], [], .slice none 0 0, .slice none 0 0, [], [], []) ⟨⟨by omega, by omega, rfl, rfl, rfl⟩, by simp, by simp, OS.nil, OS.nil⟩ (((((((EnvLe.nil _).cons rfl).cons rfl).cons rfl).cons rfl).cons rfl).cons rfl) (HLe.pick [3, 3, 3, 0, 0, 0] _) ?_
  rintro ⟨i, lc, ld, vc, vd, Tc, Tq, Te⟩ ⟨⟨hi, hi12, hcl, hdl, hcd⟩, hcc, hdc, hOc, hOd⟩
  simp only at hi hi12 hcl hdl hcd hcc hdc hOc hOd ⊢
  have i3 := hOc.oneCell
  have i4 := hOd.oneCell
  refine .seq ?_
  refine .seq (.region ?_)
  refine .q .move ?_
  refine .q .move ?_
  refine .q (.lenR h') ?_
  refine .q .lss ?_
  refine .q .move ?_
  refine TriOps.split (t := 61) rfl (fun g12_4 => ?_) (fun g12_4 => ?_)
  refine TriOps.gT g12_4 ?_
  refine .q .move ?_
  refine TriOps.gT g12_4 ?_
  refine .q .lss ?_
  refine .q (.pickTh g12_4) ?_
  refine .nil (seqQ_n ?_)
  refine .cond rfl (fun h2 => ?_) (fun h2 => ?_)
  have hlt : i < ts.length ∧ i < 12 := by simp at g12_4 h2; omega
  obtain ⟨⟨wz, tz⟩, hz⟩ : ∃ z, ts[i]? = some z := ⟨_, List.getElem?_eq_getElem hlt.1⟩
  have cz := hc' _ (List.mem_of_getElem? hz)
  have iz : Ones (encG (wz, tz)) := ⟨cz.ones⟩
  have pz := h'.pc hz
  refine .skip ?_
  refine seqQ_n ?_
  refine .seq ?_
  refine .block ?_
  refine .region_all [7, 15] mixed ?_
  refine .takeO 0 rfl .move (by kernel_rfl) ?_
  refine .takeO 1 rfl .move (by kernel_rfl) ?_
  refine .takeO 2 rfl .move (by kernel_rfl) ?_
  refine .takeO 3 rfl (.indexR i h' hz rfl rfl rfl) (by kernel_rfl) ?_
  refine .takeO 4 rfl (.loadA rfl) (by kernel_rfl) ?_
  refine .take 8 rfl .move (by kernel_rfl) ?_
  refine .take 9 rfl .move (by kernel_rfl) ?_
  refine .take 10 rfl .move (by kernel_rfl) ?_
  refine .take 11 rfl (.indexR i h' hz rfl rfl rfl) (by kernel_rfl) ?_
  refine .take 12 rfl (.loadA rfl) (by kernel_rfl) ?_
  refine RA.step 5 rfl (by kernel_rfl) rfl ?_
  refine TriOps.callN (gmine_spec wz tz _ (cz.mono fun b o hb => .inl hb)) (fun w T1 hw => ?_)
  obtain ⟨w1, rfl, hc1⟩ := hw
  have iz1 : Ones (encG (w1, tz.short)) := ⟨hc1.ones⟩
  refine .nil (Next.sub ?_)
  refine RA.step 6 rfl (by kernel_rfl) rfl ?_
  refine TriOps.buildSlice1A (fun b73 => ?_)
  refine .nil (Next.sub ?_)
  refine RA.step 7 rfl (by kernel_rfl) rfl ?_
  refine TriOps.append hOc (RS.lits (xs := [((w1, tz.short) : GP)]) rfl (by simp [encG]) (by have := hc1.ones; simpa using this)) (by simp; omega) (fun vc2 Tc2 hOc2 => ?_)
  refine .nil (Next.mod rfl ?_)
  refine RA.step 13 rfl (by kernel_rfl) rfl ?_
  refine TriOps.callN (gshort_spec wz tz _ (cz.mono fun b o hb => .inl hb)) (fun w T2 hw => ?_)
  obtain ⟨w2, rfl, hc2⟩ := hw
  have iz2 : Ones (encG (w2, tz.short)) := ⟨hc2.ones⟩
  refine .nil (Next.mod rfl ?_)
  refine RA.step 14 rfl (by kernel_rfl) rfl ?_
  refine TriOps.buildSlice1A (fun b81 => ?_)
  refine .nil (Next.mod rfl ?_)
  refine RA.step 15 rfl (by kernel_rfl) rfl ?_
  refine TriOps.append hOd (RS.lits (xs := [((w2, tz.short) : GP)]) rfl (by simp [encG]) (by have := hc2.ones; simpa using this)) (by simp; omega) (fun vd2 Td2 hOd2 => ?_)
  refine .nil (Next.mod rfl ?_)
  refine .take 16 rfl .assign (by kernel_rfl) ?_
  refine .take 17 rfl .assign (by kernel_rfl) ?_
  refine RA.nil (by kernel_rfl) ?_
  refine blkQ_n (seqQ_n ?_)
  refine .region ?_
  refine .q .move ?_
  refine .q (.i64 ((i + 1 : Nat) : Int) .add ⟨by omega, by omega, by omega⟩) ?_
  refine .q .assign ?_
  refine .nil ?_
  · refine loopQ_i (i + 1, lc ++ [(w1, tz.short)], ld ++ [(w2, tz.short)], vc2, vd2, Tc2, Td2, T1 ++ (T2 ++ Te)) ⟨⟨by simp only; omega, by simp only; omega, by simp [hcl], by simp [hdl], by simp [hcd]⟩, fun p hp => ?_, fun p hp => ?_, hOc2, hOd2⟩ (by simp only; omega) (((((((EnvLe.nil _).cons rfl).cons rfl).cons rfl).cons rfl).cons rfl).cons rfl) ((HLe.pick [4, 4, 3, 1, 2, 2, 2, 2] _).trans (HLe.ofPerm (by simp [take, dropAt])))
    · rcases List.mem_append.1 hp with hp | hp
      · exact ⟨(hcc p hp).1.mono fun b o hb => sg0_right (sg0_right hb), (hcc p hp).2⟩
      · simp only [List.mem_singleton] at hp; subst hp
        exact ⟨hc1.mono fun b o hb => sg0_left hb, tz.short_few⟩
    · rcases List.mem_append.1 hp with hp | hp
      · exact (hdc p hp).mono fun b o hb => sg0_right (sg0_right hb)
      · simp only [List.mem_singleton] at hp; subst hp
        exact hc2.mono fun b o hb => sg0_right (sg0_left hb)
  refine .exit (seqQ_x (loopQ_x (blkQ_x ?_)))
  exact joinQ_n (lc, ld, vc, vd, Tc, Tq, Te) ⟨⟨hcd, by simp only; omega⟩, hcc, hdc, hOc, hOd⟩ (((((EnvLe.nil _).cons rfl).cons rfl).cons rfl).cons rfl) (HLe.refl _)
  refine TriOps.gF g12_4 ?_
  refine TriOps.gF g12_4 ?_
  refine .q (.pickFh g12_4) ?_
  refine .nil (seqQ_n ?_)
  refine .condF ?_
  refine .exit (seqQ_x (loopQ_x (blkQ_x ?_)))
  exact joinQ_n (lc, ld, vc, vd, Tc, Tq, Te) ⟨⟨hcd, by simp only; omega⟩, hcc, hdc, hOc, hOd⟩ (((((EnvLe.nil _).cons rfl).cons rfl).cons rfl).cons rfl) (HLe.refl _)
  intro x hx
  obtain ⟨lc, ld, vc, vd, Tc, Tq, Te⟩ := x
  obtain ⟨⟨hcd, hcl⟩, hcc, hdc, hOc, hOd⟩ := hx
  simp only at hcd hcl hcc hdc hOc hOd ⊢
  have i3 := hOc.oneCell
  have i4 := hOd.oneCell
  have hdl : ld.length ≤ 12 := by have := congrArg List.length hcd; simp at this; omega
  refine seqQ_n ?_
  refine .seq (.region ?_)
  refine .q .move ?_
  refine .q .move ?_
  refine TriOps.callN (gload_spec va vc la lc _ hOa.rx (fun p hp => (hac p hp).mono (sg0_inr (by simp))) (fun p hp => by have := hfew p hp; omega) hOc.rx (fun p hp => (hcc p hp).1.mono (sg0_inr (by simp))) fun p hp => (hcc p hp).2) (fun u T1 hu => ?_)
  obtain ⟨pw, ew, rfl, hpe⟩ : ∃ pw ew, u = .tuple [pw, .int .i64 ew].toArray ∧ ((rightG (cons_ la) (cods lc) = true ∧ ew = 0 ∧ ∃ g, pw = .pointer (some ⟨g, 0, none⟩) ∧ GI g (cons_ la) (gkv (cods lc)) T1) ∨ (rightG (cons_ la) (cods lc) = false ∧ ew = 4 ∧ pw = .pointer none)) := by
    rcases hu with ⟨h1, g, rfl, h2⟩ | ⟨h1, rfl⟩
    · exact ⟨_, _, rfl, .inl ⟨h1, rfl, g, rfl, h2⟩⟩
    · exact ⟨_, _, rfl, .inr ⟨h1, rfl, rfl⟩⟩
  have i5 : One pw := by rcases hpe with ⟨_, _, g, rfl, _⟩ | ⟨_, _, rfl⟩ <;> infer_instance
  refine .q .move ?_
  refine .q .extract ?_
  refine .q .extract ?_
  refine .q .assign ?_
  refine .q .assign ?_
  refine .nil (seqQ_n ?_)
  refine .seq ?_
  refine .seq (.region ?_)
  refine .q .move ?_
  refine .q .move ?_
  refine TriOps.callR (gright_spec vb vd la ld _ hOb.rx (fun p hp => (hac p hp).mono (sg0_inr (by simp))) hOd.rx fun p hp => (hdc p hp).mono (sg0_inr (by simp))) (fun u hu => ?_)
  rw [← hcd] at hu
  subst hu
  refine .q .not ?_
  refine .nil (seqQ_n ?_)
  refine .cond rfl (fun h3 => ?_) (fun h3 => ?_)
  have hno : rightG (cons_ la) (cods lc) = false := by simpa using h3
  obtain ⟨rfl, rfl⟩ : ew = 4 ∧ pw = .pointer none := by
    rcases hpe with ⟨h1, _⟩ | ⟨_, h1, h2⟩
    · rw [hno] at h1; cases h1
    · exact ⟨h1, h2⟩
  refine .seq (.region ?_)
  refine .q .move ?_
  refine .q (.eqNilA rfl rfl) ?_
  refine .q .move ?_
  refine TriOps.gt rfl ?_
  refine .q .move ?_
  refine TriOps.gt rfl ?_
  refine .q .eqI ?_
  refine .q .pickT ?_
  refine .q .move ?_
  refine TriOps.split (t := 99) rfl (fun g17_6 => ?_) (fun g17_6 => ?_)
  refine TriOps.gT g17_6 ?_
  refine TriOps.callR (glives_spec _ hg.rx) (fun w hw => ?_)
  subst hw
  refine .q (.pickTh g17_6) ?_
  refine .q .assign ?_
  refine .nil (seqQ_n ?_)
  refine .ret (seqQ_r (retQ_r _ (.one (.tmp rfl)) (.none _) ?_))
  · exact ⟨rfl, rfl⟩
  · simp at g17_6
  have hyes : rightG (cons_ la) (cods lc) = true := by simpa using h3
  obtain ⟨rfl, g, rfl, hI⟩ : ew = 0 ∧ ∃ g, pw = .pointer (some ⟨g, 0, none⟩) ∧ GI g (cons_ la) (gkv (cods lc)) T1 := by
    rcases hpe with ⟨_, h1, h2⟩ | ⟨h1, _⟩
    · exact ⟨h1, h2⟩
    · rw [hyes] at h1; cases h1
  have hyes2 := hyes
  unfold rightG at hyes2
  simp only [Bool.and_eq_true, decide_eq_true_eq] at hyes2
  rw [hcd] at hI hyes2
  obtain ⟨pb, kb, rfl, _⟩ := hOb.shape
  obtain ⟨pd, kd, rfl, _⟩ := hOd.shape
  refine .skip ?_
  refine seqQ_n ?_
  refine .seq (.region ?_)
  refine .q .move ?_
  refine .q .eqI ?_
  refine .q .move ?_
  refine TriOps.split (t := 104) rfl (fun g18_2 => ?_) (fun g18_2 => ?_)
  refine TriOps.gT g18_2 ?_
  refine .q .move ?_
  refine TriOps.gT g18_2 ?_
  refine .q .move ?_
  refine TriOps.gT g18_2 ?_
  refine .q .move ?_
  refine TriOps.gT g18_2 ?_
  refine .q .bld ?_
  refine TriOps.gT g18_2 ?_
  refine TriOps.boxA rfl (fun b109 => ?_)
  refine TriOps.gT g18_2 ?_
  refine TriOps.callR (gsame_spec g la ld T1 hI b109 _ _ _ (fun p hp => .inr (by simp [hp])) (PC.of (E := 46) (fr := (0, 0)) (Or.inr (List.Mem.head _))) (hOb.rs fun p hp => .inr (by simp [hp])) (fun p hp => (hac p hp).mono (sg0_inr (by simp))) (hOd.rs fun p hp => .inr (by simp [hp])) (fun p hp => (hdc p hp).mono (sg0_inr (by simp))) (by omega) (by omega) (fun p hp => by have := hfew p hp; omega) hyes2.1 hyes2.2) (fun w hw => ?_)
  subst hw
  refine .q (.pickTh g18_2) ?_
  refine .q .move ?_
  refine TriOps.split (t := 112) rfl (fun g18_10 => ?_) (fun g18_10 => ?_)
  refine TriOps.gT g18_10 ?_
  refine TriOps.callR (glives_spec _ hg.rx) (fun w hw => ?_)
  subst hw
  refine .q (.pickTh g18_10) ?_
  refine .q .assign ?_
  refine .nil (seqQ_n ?_)
  refine .ret (retQ_r _ (.one (.tmp rfl)) (.none _) ?_)
  · exact ⟨rfl, rfl⟩
  · simp at g18_10
  · simp at g18_2
theorem gcon_of {H : Type} {enc : TypeId × Value → H} {W : World} {f : Nat} {cs : List Value} {x : DataW H × List MemPlace} (h : DataW.trod enc Tryz.prog W 0 (fun _ => true) true f 28 cs = some x) : ∃ p : NP, cs = encN p ∧ NpR (Rw W) p := by
  obtain ⟨hl, hp⟩ := parts_of Tryz.underlying28 h
  have hc : Tryz.prog.cellsOf 28 = 3 := by kernel_rfl
  rw [hc] at hl
  have c9 : Tryz.prog.cellsOf 9 = 1 := by kernel_rfl
  have c26 : Tryz.prog.cellsOf 26 = 1 := by kernel_rfl
  match cs, hl with
  | [a0, a1, a2], _ =>
    obtain ⟨n0, y0, h0⟩ : ∃ n y, DataW.trod enc Tryz.prog W 0 (fun _ => true) true n 9 (([a0, a1, a2].drop 0).take (Tryz.prog.cellsOf 9)) = some y := hp 0 _ rfl
    obtain ⟨n1, y1, h1⟩ : ∃ n y, DataW.trod enc Tryz.prog W 0 (fun _ => true) true n 9 (([a0, a1, a2].drop 1).take (Tryz.prog.cellsOf 9)) = some y := hp 1 _ rfl
    obtain ⟨n2, y2, h2⟩ : ∃ n y, DataW.trod enc Tryz.prog W 0 (fun _ => true) true n 26 (([a0, a1, a2].drop 2).take (Tryz.prog.cellsOf 26)) = some y := hp 2 _ rfl
    simp only [c9, c26, List.drop_zero, List.drop_succ_cons, List.take_succ_cons, List.take_zero] at h0 h1 h2
    obtain ⟨s0, e0⟩ := str_of h0
    obtain ⟨s1, e1⟩ := str_of h1
    obtain ⟨v2, l2, e2, r2⟩ := strs_of h2
    cases e0; cases e1; cases e2
    exact ⟨(_, (s0, s1), l2), rfl, r2⟩
end Go.Proofs.YtpmhgpjcladbkaaGreatDoor
