/- The library's container/heap, at whatever keeps the contract of its interface. No condition. -/
import Derived.Test.YtkepgbimlolemaaFacts
import Derived.Test.YtkepgbimlolemaaMot3
set_option linter.unusedVariables false
namespace Go.Proofs.Ytkepgbimlolemaa

/-- What a heap's interface does. -/
structure HI (P : Program) (R : Rds) (t : TypeId) (v : Value) {α : Type} (lt : α → α → Bool) (I : List α → Seg → Prop) : Prop where
  bnd : ∀ L T, I L T → L.length ≤ 1000000000
  len : ∀ L T, I L T → ISpec P t v "Len" [] R T fun u T' => u = .int .i64 L.length ∧ I L T'
  less : ∀ L T (i k : Nat) x y, I L T → L[i]? = some x → L[k]? = some y → ISpec P t v "Less" [.int .i64 i, .int .i64 k] R T fun u T' => u = .bool (lt x y) ∧ I L T'
  swap : ∀ L T (i k : Nat), I L T → i < L.length → k < L.length → ISpec P t v "Swap" [.int .i64 i, .int .i64 k] R T fun _ T' => I (swp L i k) T'
section
variable {R : Rds} {t : TypeId} {v : Value} {α : Type} {lt : α → α → Bool} {I : List α → Seg → Prop}

theorem up_spec (hi : HI Try.prog R t v lt I) (so : SO lt) (L : List α) (T : Seg) (h : I L T) (j : Nat) (hj : j < L.length) :
    Spec Try.prog 149 [.iface t v, .int .i64 j] R [T] fun u H' => ∃ T', H' = [T'] ∧ u = .tuple #[] ∧ ∃ L', I L' T' ∧ L'.Perm L ∧ (∀ k, j < k → L'[k]? = L[k]?) ∧ ∀ n, n ≤ L.length → j < n → Up lt L n j → Heap lt L' n := by
  have hb := hi.bnd L T h
  refine Spec.body Try.func149 rfl Try.results149 Try.ntmps149 rfl ?_
  refine .block ?_
  refine .loop (X := Nat × List α × Seg) (fun y => I y.2.1 y.2.2 ∧ y.1 ≤ j ∧ y.2.1.Perm L ∧ (∀ k, j < k → y.2.1[k]? = L[k]?) ∧ ∀ n, n ≤ L.length → j < n → Up lt L n j → Up lt y.2.1 n y.1) (fun y => [(0, .iface t v), (1, .int .i64 (y.1 : Nat))]) (fun y => [y.2.2]) (fun y => y.1) (j, L, T) ⟨h, Nat.le_refl _, .refl _, fun _ _ => rfl, fun _ _ _ h => h⟩ (((EnvLe.nil _).cons rfl).cons rfl) (HLe.refl _) ?_
  rintro ⟨i, L1, T1⟩ ⟨hI, hij, hP, hS, hU⟩
  simp only at hI hij hP hS hU ⊢
  have hl := hP.length_eq
  obtain ⟨x, hx⟩ : ∃ x, L1[i]? = some x := ⟨_, List.getElem?_eq_getElem (by omega)⟩
  obtain ⟨y, hy⟩ : ∃ y, L1[par i]? = some y := ⟨_, List.getElem?_eq_getElem (by unfold par; omega)⟩
  refine .block ?_
  refine .seq ?_
  refine .region ?_
  refine TriOps.q .move ?_
  refine TriOps.q (.i64 ((i : Int) - 1) .sub ⟨rfl, by omega, by omega⟩) ?_
  refine TriOps.q (.i64 ((par i : Nat) : Int) .quo ⟨tdiv2, by omega, by unfold par; omega⟩) ?_
  refine TriOps.q .assign ?_
  refine .nil ?_
  refine seqQ_n ?_
  refine .seq ?_
  refine .seq ?_
  refine .region ?_
  refine TriOps.q .move ?_
  refine TriOps.q .move ?_
  refine TriOps.q .eqI ?_
  refine TriOps.q .move ?_
  refine TriOps.split (t := 11) rfl (fun g1_3 => ?_) (fun g1_3 => ?_)
  · skip
    refine TriOps.gF g1_3 ?_
    refine TriOps.gF g1_3 ?_
    refine TriOps.gF g1_3 ?_
    refine TriOps.gF g1_3 ?_
    refine TriOps.gF g1_3 ?_
    refine TriOps.q (.pickTh g1_3) ?_
    refine .nil ?_
    refine seqQ_n ?_
    refine .condT ?_
    refine .exit (seqQ_x (blkQ_y (loopQ_x (blkQ_x ?_))))
    refine retQ_n _ .none (HLe.refl _) ?_
    have hi0 : par i = i := by simp at g1_3; omega
    refine ⟨_, rfl, rfl, L1, hI, hP, hS, fun n hn hjn hu => ?_⟩
    have h0 : i = 0 := by
      rcases Nat.eq_zero_or_pos i with e | e
      · exact e
      · have := par_lt e; omega
    subst h0
    exact (hU n hn hjn hu).stop0
  · skip
    refine TriOps.gT g1_3 ?_
    refine TriOps.q .move ?_
    refine TriOps.gT g1_3 ?_
    refine TriOps.q .move ?_
    refine TriOps.gT g1_3 ?_
    refine TriOps.q .move ?_
    refine TriOps.gT g1_3 ?_
    refine TriOps.callI (hi.less L1 T1 i (par i) x y hI hx hy) (fun u T2 hu => ?_)
    obtain ⟨rfl, hI2⟩ := hu
    refine TriOps.gT g1_3 ?_
    refine TriOps.q .not ?_
    refine TriOps.q (.pickFh g1_3) ?_
    refine .nil ?_
    refine seqQ_n ?_
    refine .cond rfl (fun h1 => ?_) (fun h1 => ?_)
    · skip
      refine .exit (seqQ_x (blkQ_y (loopQ_x (blkQ_x ?_))))
      refine retQ_n _ .none (HLe.refl _) ?_
      refine ⟨_, rfl, rfl, L1, hI2, hP, hS, fun n hn hjn hu => (hU n hn hjn hu).stop fun a b ha hb => ?_⟩
      rw [hy] at ha; rw [hx] at hb
      cases ha; cases hb
      simpa using h1
    · skip
      refine .skip ?_
      refine seqQ_n ?_
      refine .seq ?_
      refine .region ?_
      refine TriOps.q .move ?_
      refine TriOps.q .move ?_
      refine TriOps.q .move ?_
      refine TriOps.callI (hi.swap L1 T2 (par i) i hI2 (by unfold par; omega) (by omega)) (fun u T3 hI3 => ?_)
      refine .nil ?_
      refine seqQ_n ?_
      refine .region ?_
      refine TriOps.q .move ?_
      refine TriOps.q .assign ?_
      refine .nil ?_
      refine blkQ_n ?_
      have hlt : lt x y = true := by simpa using h1
      have hi0 : par i ≠ i := by simp at g1_3; omega
      have hi1 : 0 < i := by
        rcases Nat.eq_zero_or_pos i with e | e
        · subst e; exact absurd rfl hi0
        · exact e
      have hpl := par_lt hi1
      exact loopQ_i (par i, swp L1 (par i) i, T3) ⟨hI3, by omega, swp_perm.trans hP, fun k hk => by
        rw [swp_get (by omega) (by omega), if_neg (by omega), if_neg (by omega)]; exact hS k hk, fun n hn hjn hu => (hU n hn hjn hu).step so hi1 (by omega) (by omega) hx hy hlt⟩ hpl (((EnvLe.nil _).cons rfl).cons rfl) (HLe.refl _)

theorem down_spec (hi : HI Try.prog R t v lt I) (so : SO lt) (L : List α) (T : Seg) (h : I L T) (i0 n : Nat) (hi0 : i0 ≤ n) (hn : n ≤ L.length) :
    Spec Try.prog 127 [.iface t v, .int .i64 i0, .int .i64 n] R [T] fun u H' => ∃ T', H' = [T'] ∧ ∃ L' m, I L' T' ∧ u = .bool m ∧ L'.Perm L ∧ (∀ k, n ≤ k → L'[k]? = L[k]?) ∧ (Hole lt L n i0 → (m = true → Heap lt L' n) ∧ (m = false → Up lt L' n i0)) := by
  have hb := hi.bnd L T h
  refine Spec.body Try.func127 rfl Try.results127 Try.ntmps127 rfl ?_
  refine .seq ?_
  refine .region ?_
  refine TriOps.q .assign ?_
  refine .nil ?_
  refine seqQ_n ?_
  refine .seq ?_
  refine .region ?_
  refine TriOps.q .move ?_
  refine TriOps.q .assign ?_
  refine .nil ?_
  refine seqQ_n ?_
  refine .seq ?_
  refine .block ?_
  refine .loop (X := Nat × List α × Seg) (fun y => I y.2.1 y.2.2 ∧ i0 ≤ y.1 ∧ y.1 ≤ n ∧ y.2.1.Perm L ∧ (∀ k, n ≤ k → y.2.1[k]? = L[k]?) ∧ (Hole lt L n i0 → Hole lt y.2.1 n y.1 ∧ (y.1 ≠ i0 → HEdge lt y.2.1 (par y.1) y.1))) (fun y => [(0, .iface t v), (1, .int .i64 (i0 : Nat)), (2, .int .i64 (n : Nat)), (7, .int .i64 (y.1 : Nat))]) (fun y => [y.2.2]) (fun y => n - y.1) (i0, L, T) ⟨h, Nat.le_refl _, hi0, .refl _, fun _ _ => rfl, fun h => ⟨h, fun e => absurd rfl e⟩⟩ (((((EnvLe.nil _).cons rfl).cons rfl).cons rfl).cons rfl) (HLe.refl _) ?_
  rintro ⟨i, L1, T1⟩ ⟨hI, hii, hin, hP, hS, hU⟩
  simp only at hI hii hin hP hS hU ⊢
  have hl := hP.length_eq
  refine .block ?_
  refine .seq ?_
  refine .region ?_
  refine TriOps.q .move ?_
  refine TriOps.q (.i64 ((2 * i : Nat) : Int) .mul ⟨by omega, by omega, by omega⟩) ?_
  refine TriOps.q (.i64 ((2 * i + 1 : Nat) : Int) .add ⟨by omega, by omega, by omega⟩) ?_
  refine TriOps.q .assign ?_
  refine .nil ?_
  refine seqQ_n ?_
  refine .seq ?_
  refine .seq ?_
  refine .region ?_
  refine TriOps.q .move ?_
  refine TriOps.q .move ?_
  refine TriOps.q .geq ?_
  refine TriOps.q .move ?_
  refine TriOps.split (t := 18) rfl (fun g3_3 => ?_) (fun g3_3 => ?_)
  · skip
    refine TriOps.gF g3_3 ?_
    refine TriOps.gF g3_3 ?_
    refine TriOps.q (.pickTh g3_3) ?_
    refine .nil ?_
    refine seqQ_n ?_
    refine .condT ?_
    have hge : n ≤ 2 * i + 1 := by
      first
        | (simp at g3_3; omega)
        | (simp at h1; omega)
    refine .exit (seqQ_x (blkQ_y (loopQ_x (blkQ_x ?_))))
    refine seqQ_n ?_
    refine .seq ?_
    refine .region ?_
    refine TriOps.q .move ?_
    refine TriOps.q .move ?_
    refine TriOps.q .gtr ?_
    refine TriOps.q .assign ?_
    refine .nil ?_
    refine seqQ_n ?_
    refine .ret (retQ_r _ (.one (.tmp rfl)) (HLe.refl _) ?_)
    refine ⟨_, rfl, L1, decide (i0 < i), by assumption, by simp, hP, hS, fun hu => ?_⟩
    have hup : Up lt L1 n i := (hU hu).1.stop fun c h0 hc hp a b ha hb => by
      first
        | (simp only [par] at hp; omega)
        | (rw [hy0] at ha; cases ha; exact so.ntr _ _ _ (hmin c b h0 hc hp hb) (by simpa using h3))
    refine ⟨fun hm => ?_, fun hm => ?_⟩
    · have hm' : i ≠ i0 := by simp at hm; omega
      exact hup.stop ((hU hu).2 hm')
    · have hm' : i = i0 := by simp at hm; omega
      rw [← hm']; exact hup
  · skip
    refine TriOps.gT g3_3 ?_
    refine TriOps.q .move ?_
    refine TriOps.gT g3_3 ?_
    refine TriOps.q .lss ?_
    refine TriOps.q (.pickFh g3_3) ?_
    refine .nil ?_
    refine seqQ_n ?_
    refine .cond rfl (fun h1 => ?_) (fun h1 => ?_)
    · skip
      have hge : n ≤ 2 * i + 1 := by
        first
          | (simp at g3_3; omega)
          | (simp at h1; omega)
      refine .exit (seqQ_x (blkQ_y (loopQ_x (blkQ_x ?_))))
      refine seqQ_n ?_
      refine .seq ?_
      refine .region ?_
      refine TriOps.q .move ?_
      refine TriOps.q .move ?_
      refine TriOps.q .gtr ?_
      refine TriOps.q .assign ?_
      refine .nil ?_
      refine seqQ_n ?_
      refine .ret (retQ_r _ (.one (.tmp rfl)) (HLe.refl _) ?_)
      refine ⟨_, rfl, L1, decide (i0 < i), by assumption, by simp, hP, hS, fun hu => ?_⟩
      have hup : Up lt L1 n i := (hU hu).1.stop fun c h0 hc hp a b ha hb => by
        first
          | (simp only [par] at hp; omega)
          | (rw [hy0] at ha; cases ha; exact so.ntr _ _ _ (hmin c b h0 hc hp hb) (by simpa using h3))
      refine ⟨fun hm => ?_, fun hm => ?_⟩
      · have hm' : i ≠ i0 := by simp at hm; omega
        exact hup.stop ((hU hu).2 hm')
      · have hm' : i = i0 := by simp at hm; omega
        rw [← hm']; exact hup
    · skip
      have hlt : 2 * i + 1 < n := by simp at g3_3; omega
      obtain ⟨y0, hy0⟩ : ∃ y, L1[i]? = some y := ⟨_, List.getElem?_eq_getElem (by omega)⟩
      obtain ⟨x1, hx1⟩ : ∃ y, L1[2 * i + 1]? = some y := ⟨_, List.getElem?_eq_getElem (by omega)⟩
      refine .skip ?_
      refine seqQ_n ?_
      refine .seq ?_
      refine .region ?_
      refine TriOps.q .move ?_
      refine TriOps.q .assign ?_
      refine .nil ?_
      refine seqQ_n ?_
      refine .seq ?_
      refine Tri.cut (X := Nat × Seg × α) (fun z => I L1 z.2.1 ∧ 0 < z.1 ∧ z.1 < n ∧ par z.1 = i ∧ L1[z.1]? = some z.2.2 ∧ ∀ c u, 0 < c → c < n → par c = i → L1[c]? = some u → lt u z.2.2 = false) (fun z => [(0, .iface t v), (1, .int .i64 (i0 : Nat)), (2, .int .i64 (n : Nat)), (7, .int .i64 (i : Nat)), (9, .int .i64 (z.1 : Nat))]) (fun z => [z.2.1]) ?_ ?_
      · refine .seq ?_
        refine .region ?_
        refine TriOps.q .move ?_
        refine TriOps.q (.i64 ((2 * i + 2 : Nat) : Int) .add ⟨by omega, by omega, by omega⟩) ?_
        refine TriOps.q .assign ?_
        refine .nil ?_
        refine seqQ_n ?_
        refine .seq ?_
        refine .region ?_
        refine TriOps.q .move ?_
        refine TriOps.q .move ?_
        refine TriOps.q .lss ?_
        refine TriOps.q .move ?_
        refine TriOps.split (t := 28) rfl (fun g6_3 => ?_) (fun g6_3 => ?_)
        · skip
          have hlt2 : 2 * i + 2 < n := by simp at g6_3; omega
          obtain ⟨x2, hx2⟩ : ∃ y, L1[2 * i + 2]? = some y := ⟨_, List.getElem?_eq_getElem (by omega)⟩
          refine TriOps.gT g6_3 ?_
          refine TriOps.q .move ?_
          refine TriOps.gT g6_3 ?_
          refine TriOps.q .move ?_
          refine TriOps.gT g6_3 ?_
          refine TriOps.q .move ?_
          refine TriOps.gT g6_3 ?_
          refine TriOps.callI (hi.less L1 T1 (2 * i + 2) (2 * i + 1) x2 x1 hI hx2 hx1) (fun u T2 hu => ?_)
          obtain ⟨rfl, hI2⟩ := hu
          refine TriOps.q (.pickTh g6_3) ?_
          refine .nil ?_
          refine seqQ_n ?_
          refine .cond rfl (fun h2 => ?_) (fun h2 => ?_)
          · skip
            refine .region ?_
            refine TriOps.q .move ?_
            refine TriOps.q .assign ?_
            refine .nil ?_
            first
              | exact joinQ_n (2 * i + 2, T2, x2) ⟨hI2, by simp only; omega, hlt2, by simp only [par]; omega, hx2, fun c u h0 hc hp hu => by
                  have : c = 2 * i + 1 ∨ c = 2 * i + 2 := by simp only [par] at hp; omega
                  rcases this with rfl | rfl
                  · rw [hx1] at hu; cases hu; exact so.asym (by simpa using h2)
                  · rw [hx2] at hu; cases hu; exact so.irr _⟩ ((((((EnvLe.nil _).cons rfl).cons rfl).cons rfl).cons rfl).cons rfl) (HLe.refl _)
              | exact joinQ_n (2 * i + 1, T2, x1) ⟨hI2, by simp only; omega, hlt, by simp only [par]; omega, hx1, fun c u h0 hc hp hu => by
                  have : c = 2 * i + 1 ∨ c = 2 * i + 2 := by simp only [par] at hp; omega
                  rcases this with rfl | rfl
                  · rw [hx1] at hu; cases hu; exact so.irr _
                  · rw [hx2] at hu; cases hu; simpa using h2⟩ ((((((EnvLe.nil _).cons rfl).cons rfl).cons rfl).cons rfl).cons rfl) (HLe.refl _)
              | exact joinQ_n (2 * i + 1, T1, x1) ⟨hI, by simp only; omega, hlt, by simp only [par]; omega, hx1, fun c u h0 hc hp hu => by
                  have : c = 2 * i + 1 := by simp only [par] at hp; simp at g6_3; omega
                  subst this
                  rw [hx1] at hu; cases hu; exact so.irr _⟩ ((((((EnvLe.nil _).cons rfl).cons rfl).cons rfl).cons rfl).cons rfl) (HLe.refl _)
          · skip
            refine .skip ?_
            first
              | exact joinQ_n (2 * i + 2, T2, x2) ⟨hI2, by simp only; omega, hlt2, by simp only [par]; omega, hx2, fun c u h0 hc hp hu => by
                  have : c = 2 * i + 1 ∨ c = 2 * i + 2 := by simp only [par] at hp; omega
                  rcases this with rfl | rfl
                  · rw [hx1] at hu; cases hu; exact so.asym (by simpa using h2)
                  · rw [hx2] at hu; cases hu; exact so.irr _⟩ ((((((EnvLe.nil _).cons rfl).cons rfl).cons rfl).cons rfl).cons rfl) (HLe.refl _)
              | exact joinQ_n (2 * i + 1, T2, x1) ⟨hI2, by simp only; omega, hlt, by simp only [par]; omega, hx1, fun c u h0 hc hp hu => by
                  have : c = 2 * i + 1 ∨ c = 2 * i + 2 := by simp only [par] at hp; omega
                  rcases this with rfl | rfl
                  · rw [hx1] at hu; cases hu; exact so.irr _
                  · rw [hx2] at hu; cases hu; simpa using h2⟩ ((((((EnvLe.nil _).cons rfl).cons rfl).cons rfl).cons rfl).cons rfl) (HLe.refl _)
              | exact joinQ_n (2 * i + 1, T1, x1) ⟨hI, by simp only; omega, hlt, by simp only [par]; omega, hx1, fun c u h0 hc hp hu => by
                  have : c = 2 * i + 1 := by simp only [par] at hp; simp at g6_3; omega
                  subst this
                  rw [hx1] at hu; cases hu; exact so.irr _⟩ ((((((EnvLe.nil _).cons rfl).cons rfl).cons rfl).cons rfl).cons rfl) (HLe.refl _)
        · skip
          refine TriOps.gF g6_3 ?_
          refine TriOps.gF g6_3 ?_
          refine TriOps.gF g6_3 ?_
          refine TriOps.gF g6_3 ?_
          refine TriOps.q (.pickFh g6_3) ?_
          refine .nil ?_
          refine seqQ_n ?_
          refine .condF ?_
          refine .skip ?_
          first
            | exact joinQ_n (2 * i + 2, T2, x2) ⟨hI2, by simp only; omega, hlt2, by simp only [par]; omega, hx2, fun c u h0 hc hp hu => by
                have : c = 2 * i + 1 ∨ c = 2 * i + 2 := by simp only [par] at hp; omega
                rcases this with rfl | rfl
                · rw [hx1] at hu; cases hu; exact so.asym (by simpa using h2)
                · rw [hx2] at hu; cases hu; exact so.irr _⟩ ((((((EnvLe.nil _).cons rfl).cons rfl).cons rfl).cons rfl).cons rfl) (HLe.refl _)
            | exact joinQ_n (2 * i + 1, T2, x1) ⟨hI2, by simp only; omega, hlt, by simp only [par]; omega, hx1, fun c u h0 hc hp hu => by
                have : c = 2 * i + 1 ∨ c = 2 * i + 2 := by simp only [par] at hp; omega
                rcases this with rfl | rfl
                · rw [hx1] at hu; cases hu; exact so.irr _
                · rw [hx2] at hu; cases hu; simpa using h2⟩ ((((((EnvLe.nil _).cons rfl).cons rfl).cons rfl).cons rfl).cons rfl) (HLe.refl _)
            | exact joinQ_n (2 * i + 1, T1, x1) ⟨hI, by simp only; omega, hlt, by simp only [par]; omega, hx1, fun c u h0 hc hp hu => by
                have : c = 2 * i + 1 := by simp only [par] at hp; simp at g6_3; omega
                subst this
                rw [hx1] at hu; cases hu; exact so.irr _⟩ ((((((EnvLe.nil _).cons rfl).cons rfl).cons rfl).cons rfl).cons rfl) (HLe.refl _)
      · intro y hy
        obtain ⟨j, T3, x⟩ := y
        obtain ⟨hI3, hj0, hjn, hjp, hx, hmin⟩ := hy
        simp only at hI3 hj0 hjn hjp hx hmin ⊢
        have hij : i < j := hjp ▸ par_lt hj0
        refine seqQ_n ?_
        refine .seq ?_
        refine .seq ?_
        refine .region ?_
        refine TriOps.q .move ?_
        refine TriOps.q .move ?_
        refine TriOps.q .move ?_
        refine TriOps.callI (hi.less L1 T3 j i x y0 hI3 hx hy0) (fun u T4 hu => ?_)
        obtain ⟨rfl, hI4⟩ := hu
        refine TriOps.q .not ?_
        refine .nil ?_
        refine seqQ_n ?_
        refine .cond rfl (fun h3 => ?_) (fun h3 => ?_)
        · skip
          refine .exit (seqQ_x (blkQ_y (loopQ_x (blkQ_x ?_))))
          refine seqQ_n ?_
          refine .seq ?_
          refine .region ?_
          refine TriOps.q .move ?_
          refine TriOps.q .move ?_
          refine TriOps.q .gtr ?_
          refine TriOps.q .assign ?_
          refine .nil ?_
          refine seqQ_n ?_
          refine .ret (retQ_r _ (.one (.tmp rfl)) (HLe.refl _) ?_)
          refine ⟨_, rfl, L1, decide (i0 < i), by assumption, by simp, hP, hS, fun hu => ?_⟩
          have hup : Up lt L1 n i := (hU hu).1.stop fun c h0 hc hp a b ha hb => by
            first
              | (simp only [par] at hp; omega)
              | (rw [hy0] at ha; cases ha; exact so.ntr _ _ _ (hmin c b h0 hc hp hb) (by simpa using h3))
          refine ⟨fun hm => ?_, fun hm => ?_⟩
          · have hm' : i ≠ i0 := by simp at hm; omega
            exact hup.stop ((hU hu).2 hm')
          · have hm' : i = i0 := by simp at hm; omega
            rw [← hm']; exact hup
        · skip
          refine .skip ?_
          refine seqQ_n ?_
          refine .seq ?_
          refine .region ?_
          refine TriOps.q .move ?_
          refine TriOps.q .move ?_
          refine TriOps.q .move ?_
          refine TriOps.callI (hi.swap L1 T4 i j hI4 (by omega) (by omega)) (fun u T5 hI5 => ?_)
          refine .nil ?_
          refine seqQ_n ?_
          refine .region ?_
          refine TriOps.q .move ?_
          refine TriOps.q .assign ?_
          refine .nil ?_
          refine blkQ_n ?_
          have hl3 : lt x y0 = true := by simpa using h3
          exact loopQ_i (j, swp L1 i j, T5) ⟨hI5, by simp only; omega, by simp only; omega, swp_perm.trans hP, fun k hk => by
            rw [swp_get (by omega) (by omega), if_neg (by omega), if_neg (by omega)]; exact hS k hk, fun hu => by
              have := (hU hu).1.step so hj0 hjn (by omega) hjp hx hy0 hl3 hmin
              exact ⟨this.1, fun _ => this.2⟩⟩ (by simp only; omega) (((((EnvLe.nil _).cons rfl).cons rfl).cons rfl).cons rfl) (HLe.refl _)

theorem fix_spec (hi : HI Try.prog R t v lt I) (so : SO lt) (L : List α) (T : Seg) (h : I L T) (i : Nat) (hil : i < L.length) (hh : Hole lt L L.length i) :
    Spec Try.prog 113 [.iface t v, .int .i64 i] R [T] fun u H' => ∃ T', H' = [T'] ∧ u = .tuple #[] ∧ ∃ L', I L' T' ∧ L'.Perm L ∧ Heap lt L' L'.length := by
  refine Spec.body Try.func113 rfl Try.results113 Try.ntmps113 rfl ?_
  refine .seq ?_
  refine .region ?_
  refine TriOps.q .move ?_
  refine TriOps.q .move ?_
  refine TriOps.q .move ?_
  refine TriOps.callI (hi.len L T h) (fun u T1 hu => ?_)
  obtain ⟨rfl, h1⟩ := hu
  refine TriOps.callM (down_spec hi so L T1 h1 i L.length (by omega) (Nat.le_refl _)) (fun u T2 hu => ?_)
  obtain ⟨L2, m, h2, rfl, hp2, hs2, hh2⟩ := hu
  have hl2 := hp2.length_eq
  refine TriOps.q .not ?_
  refine .nil ?_
  refine seqQ_n ?_
  refine .cond rfl (fun h1 => ?_) (fun h1 => ?_)
  · skip
    have hm : m = false := by simpa using h1
    refine .region ?_
    refine TriOps.q .move ?_
    refine TriOps.q .move ?_
    refine TriOps.callM (up_spec hi so L2 T2 h2 i (by omega)) (fun u T3 hu => ?_)
    obtain ⟨rfl, L3, h3, hp3, hs3, hh3⟩ := hu
    have hl3 := hp3.length_eq
    refine .nil ?_
    refine retQ_n _ .none (HLe.refl _) ?_
    exact ⟨_, rfl, rfl, L3, h3, hp3.trans hp2, by rw [hl3, hl2]; exact hh3 _ (by omega) hil ((hh2 hh).2 hm)⟩
  · skip
    have hm : m = true := by simpa using h1
    refine .skip ?_
    refine retQ_n _ .none (HLe.refl _) ?_
    exact ⟨_, rfl, rfl, L2, h2, hp2, by rw [hl2]; exact (hh2 hh).1 hm⟩

theorem push_spec (hi : HI Try.prog R t v lt I) (so : SO lt) (L : List α) (T : Seg) (x : Value) (a : α) (hp : ISpec Try.prog t v "Push" [x] R T fun _ T' => I (L ++ [a]) T') (hh : Heap lt L L.length) :
    Spec Try.prog 114 [.iface t v, x] R [T] fun u H' => ∃ T', H' = [T'] ∧ u = .tuple #[] ∧ ∃ L', I L' T' ∧ L'.Perm (L ++ [a]) ∧ Heap lt L' L'.length := by
  refine Spec.body Try.func114 rfl Try.results114 Try.ntmps114 rfl ?_
  refine .seq ?_
  refine .region ?_
  refine TriOps.q .move ?_
  refine TriOps.q .move ?_
  refine TriOps.callI hp (fun u T1 h1 => ?_)
  have hb := hi.bnd _ T1 h1
  simp only [List.length_append, List.length_singleton] at hb
  refine .nil ?_
  refine seqQ_n ?_
  refine .region ?_
  refine TriOps.q .move ?_
  refine TriOps.q .move ?_
  refine TriOps.callI (hi.len _ T1 h1) (fun u T2 hu => ?_)
  obtain ⟨rfl, h2⟩ := hu
  refine TriOps.q (.i64 ((L.length : Nat) : Int) .sub ⟨by simp, by omega, by omega⟩) ?_
  refine TriOps.callM (up_spec hi so _ T2 h2 L.length (by simp)) (fun u T3 hu => ?_)
  obtain ⟨rfl, L3, h3, hp3, hs3, hh3⟩ := hu
  have hl3 := hp3.length_eq
  refine .nil ?_
  refine retQ_n _ .none (HLe.refl _) ?_
  exact ⟨_, rfl, rfl, L3, h3, hp3, by rw [hl3]; exact hh3 _ (Nat.le_refl _) (by simp) (by simp; exact hh.push a)⟩

/-- What the last one is, and what is left. -/
theorem last_of {L L0 : List α} {n : Nat} {x : α} (hl : L.length = n + 1) (hx : L[n]? = some x) (hp : L.Perm L0) : L = L.take n ++ [x] ∧ (L.take n).length = n ∧ L0.Perm (x :: L.take n) := by
  have h1 : L = L.take n ++ [x] := by
    apply List.ext_getElem?
    intro k
    rcases Nat.lt_trichotomy k n with h | h | h
    · rw [List.getElem?_append_left (by simp; omega), List.getElem?_take_of_lt h]
    · subst h
      rw [List.getElem?_append_right (by simp; omega), hx]
      simp [hl]
    · rw [List.getElem?_eq_none (by omega), List.getElem?_eq_none (by simp; omega)]
  refine ⟨h1, by simp; omega, hp.symm.trans ?_⟩
  have : (L.take n ++ [x]).Perm (x :: L.take n) := by simp
  rw [← h1] at this
  exact this
theorem Heap.take_ {L : List α} {n : Nat} (h : Heap lt L n) (hn : n ≤ L.length) : Heap lt (L.take n) (L.take n).length := by
  have e : (L.take n).length = n := by simp; omega
  rw [e]
  exact h.of_get fun k hk => List.getElem?_take_of_lt hk

theorem pop_spec (hi : HI Try.prog R t v lt I) (so : SO lt) (L : List α) (T : Seg) (h : I L T) (x : α) (hx : L[0]? = some x) (hh : Heap lt L L.length) (px : α → Value) (J : List α → Seg → Prop)
    (hp : ∀ L' T', I (L' ++ [x]) T' → L'.length + 1 = L.length → ISpec Try.prog t v "Pop" [] R T' fun u T'' => u = px x ∧ J L' T'') :
    Spec Try.prog 93 [.iface t v] R [T] fun u H' => ∃ T', H' = [T'] ∧ u = px x ∧ ∃ L', J L' T' ∧ L.Perm (x :: L') ∧ Heap lt L' L'.length := by
  have hb := hi.bnd L T h
  have hpos : 0 < L.length := (List.getElem?_eq_some_iff.1 hx).1
  obtain ⟨n, hn⟩ : ∃ n, L.length = n + 1 := ⟨L.length - 1, by omega⟩
  refine Spec.body Try.func93 rfl Try.results93 Try.ntmps93 rfl ?_
  refine .seq ?_
  refine .region ?_
  refine TriOps.q .assign ?_
  refine .nil ?_
  refine seqQ_n ?_
  refine .seq ?_
  refine .region ?_
  refine TriOps.q .move ?_
  refine TriOps.callI (hi.len L T h) (fun u T1 hu => ?_)
  obtain ⟨rfl, h1⟩ := hu
  refine TriOps.q (.i64 ((n : Nat) : Int) .sub ⟨by omega, by omega, by omega⟩) ?_
  refine TriOps.q .assign ?_
  refine .nil ?_
  refine seqQ_n ?_
  refine .seq ?_
  refine .region ?_
  refine TriOps.q .move ?_
  refine TriOps.q .move ?_
  refine TriOps.callI (hi.swap L T1 0 n h1 (by omega) (by omega)) (fun u T2 h2 => ?_)
  refine .nil ?_
  refine seqQ_n ?_
  refine .seq ?_
  refine .region ?_
  refine TriOps.q .move ?_
  refine TriOps.q .move ?_
  refine TriOps.callM (down_spec hi so _ T2 h2 0 n (by omega) (by rw [swp_length]; omega)) (fun u T3 hu => ?_)
  obtain ⟨L3, m, h3, rfl, hp3, hs3, hh3⟩ := hu
  have hx3 : L3[n]? = some x := by rw [hs3 n (Nat.le_refl _), swp_get (by omega) (by omega), if_pos rfl, hx]
  have hl3 := hp3.length_eq
  rw [swp_length] at hl3
  obtain ⟨e1, e2, e3⟩ := last_of (by omega) hx3 (hp3.trans swp_perm)
  have hhole : Hole lt (swp L 0 n) n 0 := (hh.mono (by omega)).hole so (by omega) fun k hk hk0 => by rw [swp_get (by omega) (by omega), if_neg (by omega), if_neg hk0]
  have hH : Heap lt L3 n := by
    cases m with
    | true => exact (hh3 hhole).1 rfl
    | false => exact ((hh3 hhole).2 rfl).stop0
  refine .nil ?_
  refine seqQ_n ?_
  refine .seq ?_
  refine .region ?_
  refine TriOps.q .move ?_
  rw [e1] at h3
  refine TriOps.callI (hp _ T3 h3 (by omega)) (fun u T4 hu => ?_)
  obtain ⟨rfl, h4⟩ := hu
  refine TriOps.q .assign ?_
  refine .nil ?_
  refine seqQ_n ?_
  refine .ret (retQ_r _ (.one (.tmp rfl)) (HLe.refl _) ?_)
  exact ⟨_, rfl, rfl, _, h4, e3, hH.take_ (by omega)⟩

theorem remove_spec (hi : HI Try.prog R t v lt I) (so : SO lt) (L : List α) (T : Seg) (h : I L T) (i : Nat) (x : α) (hx : L[i]? = some x) (hh : Heap lt L L.length) (px : α → Value) (J : List α → Seg → Prop)
    (hp : ∀ L' T', I (L' ++ [x]) T' → L'.length + 1 = L.length → ISpec Try.prog t v "Pop" [] R T' fun u T'' => u = px x ∧ J L' T'') :
    Spec Try.prog 126 [.iface t v, .int .i64 i] R [T] fun u H' => ∃ T', H' = [T'] ∧ u = px x ∧ ∃ L', J L' T' ∧ L.Perm (x :: L') ∧ Heap lt L' L'.length := by
  have hb := hi.bnd L T h
  have hpos : i < L.length := (List.getElem?_eq_some_iff.1 hx).1
  obtain ⟨n, hn⟩ : ∃ n, L.length = n + 1 := ⟨L.length - 1, by omega⟩
  refine Spec.body Try.func126 rfl Try.results126 Try.ntmps126 rfl ?_
  refine .seq ?_
  refine .region ?_
  refine TriOps.q .assign ?_
  refine .nil ?_
  refine seqQ_n ?_
  refine .seq ?_
  refine .region ?_
  refine TriOps.q .move ?_
  refine TriOps.callI (hi.len L T h) (fun u T1 hu => ?_)
  obtain ⟨rfl, h1⟩ := hu
  refine TriOps.q (.i64 ((n : Nat) : Int) .sub ⟨by omega, by omega, by omega⟩) ?_
  refine TriOps.q .assign ?_
  refine .nil ?_
  refine seqQ_n ?_
  refine .seq ?_
  refine Tri.cut (X := List α × Seg) (fun y => I y.1 y.2 ∧ y.1.Perm L ∧ y.1[n]? = some x ∧ Heap lt y.1 n) (fun y => [(0, .iface t v)]) (fun y => [y.2]) ?_ ?_
  · refine .seq ?_
    refine .region ?_
    refine TriOps.q .move ?_
    refine TriOps.q .move ?_
    refine TriOps.q .neI ?_
    refine .nil ?_
    refine seqQ_n ?_
    refine .cond rfl (fun h1 => ?_) (fun h1 => ?_)
    · skip
      have hin : i < n := by simp at h1; omega
      refine .seq ?_
      refine .region ?_
      refine TriOps.q .move ?_
      refine TriOps.q .move ?_
      refine TriOps.q .move ?_
      refine TriOps.callI (hi.swap L T1 i n (by assumption) (by omega) (by omega)) (fun u T2 h2 => ?_)
      refine .nil ?_
      refine seqQ_n ?_
      refine .seq ?_
      refine .region ?_
      refine TriOps.q .move ?_
      refine TriOps.q .move ?_
      refine TriOps.q .move ?_
      refine TriOps.callM (down_spec hi so _ T2 h2 i n (by omega) (by rw [swp_length]; omega)) (fun u T3 hu => ?_)
      obtain ⟨L3, m, h3, rfl, hp3, hs3, hh3⟩ := hu
      have hx3 : L3[n]? = some x := by rw [hs3 n (Nat.le_refl _), swp_get (by omega) (by omega), if_pos rfl, hx]
      have hl3 := hp3.length_eq
      rw [swp_length] at hl3
      have hhole : Hole lt (swp L i n) n i := (hh.mono (by omega)).hole so (by omega) fun k hk hk0 => by rw [swp_get (by omega) (by omega), if_neg (by omega), if_neg hk0]
      refine TriOps.q .not ?_
      refine .nil ?_
      refine seqQ_n ?_
      refine .cond rfl (fun h2 => ?_) (fun h2 => ?_)
      · skip
        have hm : m = false := by simpa using h2
        refine .region ?_
        refine TriOps.q .move ?_
        refine TriOps.q .move ?_
        refine TriOps.callM (up_spec hi so L3 T3 (by assumption) i (by omega)) (fun u T4 hu => ?_)
        obtain ⟨rfl, L4, h4, hp4, hs4, hh4⟩ := hu
        refine .nil ?_
        first
          | exact joinQ_n (L4, T4) ⟨h4, hp4.trans (hp3.trans swp_perm), by simp only; rw [hs4 n hin]; exact hx3, hh4 n (by omega) hin ((hh3 hhole).2 hm)⟩ ((EnvLe.nil _).cons rfl) (HLe.refl _)
          | exact joinQ_n (L3, T3) ⟨by assumption, hp3.trans swp_perm, hx3, (hh3 hhole).1 hm⟩ ((EnvLe.nil _).cons rfl) (HLe.refl _)
          | exact joinQ_n (L, T1) ⟨by assumption, .refl _, hin ▸ hx, hh.mono (by omega)⟩ ((EnvLe.nil _).cons rfl) (HLe.refl _)
      · skip
        have hm : m = true := by simpa using h2
        refine .skip ?_
        first
          | exact joinQ_n (L4, T4) ⟨h4, hp4.trans (hp3.trans swp_perm), by simp only; rw [hs4 n hin]; exact hx3, hh4 n (by omega) hin ((hh3 hhole).2 hm)⟩ ((EnvLe.nil _).cons rfl) (HLe.refl _)
          | exact joinQ_n (L3, T3) ⟨by assumption, hp3.trans swp_perm, hx3, (hh3 hhole).1 hm⟩ ((EnvLe.nil _).cons rfl) (HLe.refl _)
          | exact joinQ_n (L, T1) ⟨by assumption, .refl _, hin ▸ hx, hh.mono (by omega)⟩ ((EnvLe.nil _).cons rfl) (HLe.refl _)
    · skip
      have hin : i = n := by simp at h1; omega
      refine .skip ?_
      first
        | exact joinQ_n (L4, T4) ⟨h4, hp4.trans (hp3.trans swp_perm), by simp only; rw [hs4 n hin]; exact hx3, hh4 n (by omega) hin ((hh3 hhole).2 hm)⟩ ((EnvLe.nil _).cons rfl) (HLe.refl _)
        | exact joinQ_n (L3, T3) ⟨by assumption, hp3.trans swp_perm, hx3, (hh3 hhole).1 hm⟩ ((EnvLe.nil _).cons rfl) (HLe.refl _)
        | exact joinQ_n (L, T1) ⟨by assumption, .refl _, hin ▸ hx, hh.mono (by omega)⟩ ((EnvLe.nil _).cons rfl) (HLe.refl _)
  · intro y hy
    obtain ⟨L5, T5⟩ := y
    obtain ⟨h5, hp5, hx5, hH⟩ := hy
    simp only at h5 hp5 hx5 hH ⊢
    have hl5 := hp5.length_eq
    obtain ⟨e1, e2, e3⟩ := last_of (by omega) hx5 hp5
    refine seqQ_n ?_
    refine .seq ?_
    refine .region ?_
    refine TriOps.q .move ?_
    rw [e1] at h5
    refine TriOps.callI (hp _ T5 h5 (by omega)) (fun u T6 hu => ?_)
    obtain ⟨rfl, h6⟩ := hu
    refine TriOps.q .assign ?_
    refine .nil ?_
    refine seqQ_n ?_
    refine .ret (retQ_r _ (.one (.tmp rfl)) (HLe.refl _) ?_)
    exact ⟨_, rfl, rfl, _, h6, e3, hH.take_ (by omega)⟩
end
end Go.Proofs.Ytkepgbimlolemaa
