/- Layer 27's law: behind Due all times are above now; two steps are one. No condition. -/
import Derived.Test.YtlmdgdehjpahiaaExpS
set_option linter.unusedVariables false
set_option maxRecDepth 4000
namespace Go.Proofs.Ytlmdgdehjpahiaa

theorem KSort.cut {now : Int} : ∀ {L : List KA}, KSort L → ∃ C D, L = C ++ D ∧ (∀ p ∈ C, p.2 ≤ now) ∧ ∀ p ∈ D, now < p.2
  | [], _ => ⟨[], [], rfl, by simp, by simp⟩
  | x :: L, h => by
    by_cases hx : x.2 ≤ now
    · obtain ⟨C, D, e, h1, h2⟩ := KSort.cut (now := now) (List.pairwise_cons.1 h).2
      refine ⟨x :: C, D, by rw [e]; rfl, fun p hp => ?_, h2⟩
      rcases List.mem_cons.1 hp with rfl | hp
      · exact hx
      · exact h1 p hp
    · exact ⟨[], x :: L, rfl, by simp, KSort.due (B := []) h (by simp) fun p hp => by cases hp; omega⟩
theorem Due2 {A L B A' B1 A1 B2 A2 : List KA} {a b : Int} (hab : a ≤ b) (hL : KSort L) (hp : A.Perm L) (h : DueR A b B A') (hA : ∀ p ∈ A', b < p.2) (h1 : DueR A a B1 A1) (hA1 : ∀ p ∈ A1, a < p.2) (h2 : DueR A1 b B2 A2) (hA2 : ∀ p ∈ A2, b < p.2) :
    ∃ D, L = B ++ D ∧ B = B1 ++ B2 ∧ A'.Perm D ∧ A2.Perm D ∧ (∀ p ∈ B, p.2 ≤ b) ∧ (∀ p ∈ D, b < p.2) ∧ KSort D := by
  obtain ⟨C1, D1, e1, c1, d1⟩ := hL.cut (now := a)
  have hs1 : KSort D1 := (e1 ▸ hL).sub (List.sublist_append_right C1 D1)
  obtain ⟨C2, D2, e2, c2, d2⟩ := hs1.cut (now := b)
  have hs2 : KSort D2 := (e2 ▸ hs1).sub (List.sublist_append_right C2 D2)
  obtain ⟨f1, f2⟩ := h1.is hA1 hL hp e1 c1 d1
  obtain ⟨f3, f4⟩ := h2.is hA2 hs1 f2 e2 c2 d2
  have e3 : L = (C1 ++ C2) ++ D2 := by rw [e1, e2, List.append_assoc]
  have c3 : ∀ p ∈ C1 ++ C2, p.2 ≤ b := fun p hp => by
    rcases List.mem_append.1 hp with hp | hp
    · have := c1 p hp; omega
    · exact c2 p hp
  obtain ⟨f5, f6⟩ := h.is hA hL hp e3 c3 d2
  exact ⟨D2, by rw [f5]; exact e3, by rw [f5, f1, f3], f6, f4, f5 ▸ c3, d2, hs2⟩
theorem mget_key {k : ByteArray} : ∀ {L : List KA} {y : Int}, mget k L = some y → k ∈ L.map (·.1)
  | [], y, h => by simp [mget] at h
  | (k', x) :: L, y, h => by
    simp only [mget] at h
    split at h
    · rename_i e; rw [e]; exact List.mem_cons_self
    · exact List.mem_cons_of_mem _ (mget_key h)
theorem there_is {A' L B D : List KA} {b : Int} (hn : (L.map (·.1)).Nodup) (he : L = B ++ D) (hp : A'.Perm D) (hB : ∀ p ∈ B, p.2 ≤ b) (hD : ∀ p ∈ D, b < p.2) {i : Nat} {x : KA} (hx : L[i]? = some x) : (mget x.1 A').isSome = decide (b < x.2) := by
  subst he
  have hn2 : (B.map (·.1) ++ D.map (·.1)).Nodup := by rw [← List.map_append]; exact hn
  obtain ⟨n1, n2, n3⟩ := List.nodup_append.1 hn2
  rw [mget_perm hp ((hp.map _).nodup_iff.2 n2)]
  have hm := List.mem_of_getElem? hx
  rcases List.mem_append.1 hm with hm | hm
  · have hb := hB x hm
    have : mget x.1 D = none := by
      cases hg : mget x.1 D with
      | none => rfl
      | some y =>
        exfalso
        have : x.1 ∈ D.map (·.1) := mget_key hg
        exact n3 _ (List.mem_map.2 ⟨x, hm, rfl⟩) _ this rfl
    rw [this, decide_eq_false (by omega)]; rfl
  · rw [mget_mem (A := D) n2 hm, decide_eq_true (hD x hm)]; rfl

theorem due_spec (v : Value) (ds : List XDo) (a0 b0 : Int) (R : Rds) (hS : RS R 3 XDo.enc v ds) :
    Spec Try.prog 7 [v, .int .i64 a0, .int .i64 b0] R [] fun u H' => u = .bool true ∧ H' = [] := by
  have hsl := hS.le
  refine Spec.body Try.func7 rfl Try.results7 Try.ntmps7 rfl ?_
  refine .seq ?_
  refine .region ?_
  refine TriOps.q .assign ?_
  refine .nil ?_
  refine seqQ_n ?_
  refine .seq ?_
  refine .region ?_
  refine TriOps.q .move ?_
  refine TriOps.callN (played_spec v ds _ hS.rx) (fun u Tp hu => ?_)
  obtain ⟨p, rfl, hp0⟩ := hu
  refine TriOps.q .move ?_
  refine TriOps.callN (played_spec v ds _ hS.rx) (fun u Tq hu => ?_)
  obtain ⟨q, rfl, hq0⟩ := hu
  have hA0 := plays_length (ds.take 40) []
  simp only [List.length_nil, List.length_take] at hA0
  obtain ⟨A, hA⟩ : ∃ A, A = (ds.take 40).foldl xstep [] := ⟨_, rfl⟩
  rw [← hA] at hp0 hq0 hA0
  have hA1 : A.length ≤ 40 := by omega
  clear hA hA0
  refine TriOps.q .assign ?_
  refine TriOps.q .assign ?_
  refine .nil ?_
  refine seqQ_n ?_
  refine .seq ?_
  refine .seq ?_
  refine .region ?_
  refine TriOps.q .move ?_
  refine TriOps.q (.eqNilA rfl rfl) ?_
  refine TriOps.q .move ?_
  refine TriOps.split (t := 29) rfl (fun g2_2 => ?_) (fun g2_2 => ?_)
  · skip
    cases g2_2
  · skip
    refine TriOps.gT g2_2 ?_
    refine TriOps.q .move ?_
    refine TriOps.gT g2_2 ?_
    refine TriOps.q (.eqNilA rfl rfl) ?_
    refine TriOps.q (.pickFh g2_2) ?_
    refine .nil ?_
    refine seqQ_n ?_
    refine .condF ?_
    refine .skip ?_
    refine seqQ_n ?_
    refine .seq ?_
    refine Tri.cut (X := Int × Int) (fun z => z.1 ≤ z.2) (fun z => [(1, .int .i64 z.1), (2, .int .i64 z.2), (7, .pointer (some ⟨p, 0, none⟩)), (8, .pointer (some ⟨q, 0, none⟩))]) (fun _ => [Tq, Tp]) ?_ ?_
    · refine .seq ?_
      refine .region ?_
      refine TriOps.q .move ?_
      refine TriOps.q .move ?_
      refine TriOps.q .gtr ?_
      refine .nil ?_
      refine seqQ_n ?_
      refine .cond rfl (fun h2 => ?_) (fun h2 => ?_)
      · skip
        refine .region ?_
        refine TriOps.q .move ?_
        refine TriOps.q .move ?_
        refine TriOps.q .assign ?_
        refine TriOps.q .assign ?_
        refine .nil ?_
        first
          | exact joinQ_n (b0, a0) (by have := of_decide_eq_true h2; simp only; omega) (((((EnvLe.nil _).cons rfl).cons rfl).cons rfl).cons rfl) (HLe.refl _)
          | exact joinQ_n (a0, b0) (by have := of_decide_eq_false h2; simp only; omega) (((((EnvLe.nil _).cons rfl).cons rfl).cons rfl).cons rfl) (HLe.refl _)
      · skip
        refine .skip ?_
        first
          | exact joinQ_n (b0, a0) (by have := of_decide_eq_true h2; simp only; omega) (((((EnvLe.nil _).cons rfl).cons rfl).cons rfl).cons rfl) (HLe.refl _)
          | exact joinQ_n (a0, b0) (by have := of_decide_eq_false h2; simp only; omega) (((((EnvLe.nil _).cons rfl).cons rfl).cons rfl).cons rfl) (HLe.refl _)
    · intro y hy
      obtain ⟨a, b⟩ := y
      have hab : a ≤ b := hy
      simp only
      refine seqQ_n ?_
      refine .seq ?_
      refine .region ?_
      refine TriOps.q .move ?_
      refine TriOps.callN (qkeys_spec p A Tp hp0 _ (fun p hp => .inr (by simp [hp]))) (fun vk Tk hw => ?_)
      obtain ⟨L, hOk, hkp, hks⟩ := hw
      have hLA := hkp.length_eq
      refine TriOps.q .assign ?_
      refine .nil ?_
      refine seqQ_n ?_
      refine .seq ?_
      refine .region ?_
      refine TriOps.q .move ?_
      refine TriOps.callR (qlen_spec p A Tp hp0 _ (fun p hp => .inr (by simp [hp]))) (fun w hw => ?_)
      subst hw
      refine TriOps.q .assign ?_
      refine .nil ?_
      refine seqQ_n ?_
      refine .seq ?_
      refine .region ?_
      refine TriOps.q .assign ?_
      refine .nil ?_
      refine seqQ_n ?_
      refine .seq ?_
      refine .seq ?_
      refine .region ?_
      refine TriOps.q .assign ?_
      refine .nil ?_
      refine seqQ_n ?_
      refine .block ?_
      refine .loop (X := Nat × Value × Seg) (fun y => y.1 ≤ L.length ∧ OS 2 1 encI y.2.1 ((L.take y.1).map (·.2)) y.2.2) (fun y => [(1, .int .i64 a), (2, .int .i64 b), (7, .pointer (some ⟨p, 0, none⟩)), (8, .pointer (some ⟨q, 0, none⟩)), (9, vk), (10, .int .i64 (A.length : Nat)), (11, y.2.1), (12, .int .i64 (y.1 : Nat))]) (fun y => [y.2.2, Tk, Tp, Tq]) (fun y => L.length - y.1) (0, .slice none 0 0, []) ⟨Nat.zero_le _, OS.nil⟩ (((((((((EnvLe.nil _).cons rfl).cons rfl).cons rfl).cons rfl).cons rfl).cons rfl).cons rfl).cons rfl) (HLe.ofPerm (by simpa [List.append_assoc] using (List.perm_append_comm (l₁ := Tq) (l₂ := Tp)).append_left Tk)) ?_
      rintro ⟨k, vt, Tt⟩ ⟨hk, hOt⟩
      simp only at hk hOt ⊢
      have it := hOt.oneCell
      refine .seq ?_
      refine .seq ?_
      refine .region ?_
      refine TriOps.q .move ?_
      refine TriOps.q .move ?_
      refine TriOps.q (.lenO hOk) ?_
      refine TriOps.q .lss ?_
      refine .nil ?_
      refine seqQ_n ?_
      refine .cond rfl (fun h3 => ?_) (fun h3 => ?_)
      · skip
        have hk2 : k < L.length := by have := of_decide_eq_true h3; simpa using this
        obtain ⟨x, hx⟩ : ∃ x, L[k]? = some x := ⟨_, List.getElem?_eq_getElem hk2⟩
        have hxk : (L.map (·.1))[k]? = some x.1 := by rw [List.getElem?_map, hx]; rfl
        have hB : Both A L := ⟨hkp.symm, hks, hp0.nodup⟩
        have hg := hB.get hx
        refine .skip ?_
        refine seqQ_n ?_
        refine .seq ?_
        refine .block ?_
        refine .seq ?_
        refine .region ?_
        refine TriOps.q .move ?_
        refine TriOps.q .move ?_
        refine TriOps.q .move ?_
        refine TriOps.indexO k hOk hxk (fun p52 => ?_)
        refine TriOps.q (.load1 rfl) ?_
        refine TriOps.callR (qat_spec p A Tp hp0 x.1 _ (fun p hp => .inr (by simp [hp]))) (fun w hw => ?_)
        rw [hg] at hw
        subst hw
        refine TriOps.q .move ?_
        refine TriOps.q .extract ?_
        refine TriOps.q .extract ?_
        refine TriOps.q .assign ?_
        refine TriOps.q .assign ?_
        refine .nil ?_
        refine seqQ_n ?_
        refine .region ?_
        refine TriOps.q .move ?_
        refine TriOps.q .move ?_
        refine TriOps.buildSlice11 (fun b59 => ?_)
        refine TriOps.append hOt (RS.lits (xs := [x.2]) rfl (by simp [encI]) (by simp [encI, oneCell])) (by simp; omega) (fun v5 T5 hO5 => ?_)
        refine TriOps.q .assign ?_
        refine .nil ?_
        refine blkQ_n (seqQ_n ?_)
        refine .region ?_
        refine TriOps.q .move ?_
        refine TriOps.q (.i64 ((k + 1 : Nat) : Int) .add ⟨by omega, by omega, by omega⟩) ?_
        refine TriOps.q .assign ?_
        refine .nil ?_
        exact loopQ_i (k + 1, v5, T5) ⟨hk2, by
          rw [List.take_add_one, hx, List.map_append]
          exact hO5⟩ (by simp only; omega) (((((((((EnvLe.nil _).cons rfl).cons rfl).cons rfl).cons rfl).cons rfl).cons rfl).cons rfl).cons rfl) (HLe.pick [1, 1, 1, 1] _)
      · skip
        have hkL : k = L.length := by
          have h3' : L.length ≤ k := by have := of_decide_eq_false h3; simpa using this
          omega
        subst hkL
        rw [List.take_length] at hOt
        refine .exit (seqQ_x (loopQ_x (blkQ_x ?_)))
        refine seqQ_n ?_
        refine .seq ?_
        refine .region ?_
        refine TriOps.q .move ?_
        refine TriOps.q .move ?_
        refine TriOps.call [2] (qdue_spec p A Tp hp0 b _) (fun w H' hw => ?_)
        obtain ⟨Tp1, Ob, B, A', rfl, hOb, hp1, hD1, hA1'⟩ := hw
        show TriOps _ _ _ _ _ _ _ [Tp1, Ob, Tt, Tk, Tq] _
        refine TriOps.q .assign ?_
        refine .nil ?_
        refine seqQ_n ?_
        refine .seq ?_
        refine .region ?_
        refine TriOps.q .move ?_
        refine TriOps.q .move ?_
        refine TriOps.call [4] (qdue_spec q A Tq hq0 a _) (fun w1 H' hw => ?_)
        obtain ⟨Tq1, O1, B1, A1, rfl, hO1, hq1, hD2, hA2'⟩ := hw
        show TriOps _ _ _ _ _ _ _ [Tq1, O1, Tp1, Ob, Tt, Tk] _
        refine TriOps.q .assign ?_
        refine .nil ?_
        refine seqQ_n ?_
        refine .seq ?_
        refine .region ?_
        refine TriOps.q .move ?_
        refine TriOps.q .move ?_
        refine TriOps.q .move ?_
        refine TriOps.call [0] (qdue_spec q A1 Tq1 hq1 b _) (fun w2 H' hw => ?_)
        obtain ⟨Tq2, O2, B2, A2, rfl, hO2, hq2, hD3, hA3'⟩ := hw
        show TriOps _ _ _ _ _ _ _ [Tq2, O2, O1, Tp1, Ob, Tt, Tk] _
        obtain ⟨D, eL, eB, pD1, pD2, hBb, hDb, hDs⟩ := Due2 hab hks hkp.symm hD1 hA1' hD2 hA2' hD3 hA3'
        have hLl : L.length = B.length + D.length := by rw [eL]; simp
        have hBl : B.length = B1.length + B2.length := by rw [eB]; simp
        have hA'l : A'.length = D.length := pD1.length_eq
        refine TriOps.append hO1 hO2.rx (by simp; omega) (fun v6 T6 hO6 => ?_)
        rw [← List.map_append, ← eB] at hO6
        refine TriOps.q .assign ?_
        refine .nil ?_
        refine seqQ_n ?_
        refine .seq ?_
        refine .seq ?_
        refine .region ?_
        refine TriOps.q .move ?_
        refine TriOps.q .move ?_
        refine TriOps.callR (sameTexts_spec _ _ _ _ _ hOb.rx hO6.rx) (fun w hw => ?_)
        subst hw
        refine TriOps.q .not ?_
        refine TriOps.q .move ?_
        refine TriOps.split (t := 76) rfl (fun g17_4 => ?_) (fun g17_4 => ?_)
        · skip
          simp at g17_4
        · skip
          refine TriOps.gT g17_4 ?_
          refine TriOps.q .move ?_
          refine TriOps.gT g17_4 ?_
          refine TriOps.q (.lenO hOb) ?_
          refine TriOps.gT g17_4 ?_
          refine TriOps.q .move ?_
          refine TriOps.gT g17_4 ?_
          refine TriOps.callR (qlen_spec p A' Tp1 hp1 _ (fun p hp => .inr (by simp [hp]))) (fun w hw => ?_)
          subst hw
          refine TriOps.gT g17_4 ?_
          refine TriOps.q (.i64 ((A.length : Nat) : Int) .add ⟨by simp; omega, by omega, by omega⟩) ?_
          refine TriOps.gT g17_4 ?_
          refine TriOps.q .move ?_
          refine TriOps.gT g17_4 ?_
          refine TriOps.q .neI ?_
          refine TriOps.q (.pickFh g17_4) ?_
          refine TriOps.q .move ?_
          refine TriOps.split (t := 85) rfl (fun g17_13 => ?_) (fun g17_13 => ?_)
          · skip
            simp at g17_13
          · skip
            refine TriOps.gT g17_13 ?_
            refine TriOps.q .move ?_
            refine TriOps.gT g17_13 ?_
            refine TriOps.callN (qkeys_spec p A' Tp1 hp1 _ (fun p hp => .inr (by simp [hp]))) (fun w3 T7 hw => ?_)
            obtain ⟨k1, hO7, hk1p, hk1s⟩ := hw
            have ek1 : k1 = D := hk1s.uniq hDs (hk1p.trans pD1)
            refine TriOps.gT g17_13 ?_
            refine TriOps.q .move ?_
            refine TriOps.gT g17_13 ?_
            refine TriOps.callN (qkeys_spec q A2 Tq2 hq2 _ (fun p hp => .inr (by simp [hp]))) (fun w4 T8 hw => ?_)
            obtain ⟨k2, hO8, hk2p, hk2s⟩ := hw
            have ek2 : k2 = D := hk2s.uniq hDs (hk2p.trans pD2)
            refine TriOps.gT g17_13 ?_
            refine TriOps.callR (sameTexts_spec _ _ _ _ _ hO7.rx hO8.rx) (fun w hw => ?_)
            subst hw
            refine TriOps.gT g17_13 ?_
            refine TriOps.q .not ?_
            refine TriOps.q (.pickFh g17_13) ?_
            refine .nil ?_
            refine seqQ_n ?_
            refine .cond rfl (fun h4 => ?_) (fun h4 => ?_)
            · skip
              rw [ek1, ek2] at h4
              simp at h4
            · skip
              refine .skip ?_
              refine seqQ_n ?_
              refine .seq ?_
              refine .seq ?_
              refine .region ?_
              refine TriOps.q .assign ?_
              refine .nil ?_
              refine seqQ_n ?_
              refine .block ?_
              refine .loop (X := Nat) (fun m => m ≤ L.length) (fun m => [(2, .int .i64 b), (7, .pointer (some ⟨p, 0, none⟩)), (9, vk), (11, vt), (15, w), (17, .int .i64 (m : Nat))]) (fun _ => [Tp1, Ob, Tt, Tk]) (fun m => L.length - m) 0 (Nat.zero_le _) (((((((EnvLe.nil _).cons rfl).cons rfl).cons rfl).cons rfl).cons rfl).cons rfl) (HLe.pick [5, 5, 5, 5] _) ?_
              rintro m hm
              refine .seq ?_
              refine .seq ?_
              refine .region ?_
              refine TriOps.q .move ?_
              refine TriOps.q .move ?_
              refine TriOps.q (.lenO hOk) ?_
              refine TriOps.q .lss ?_
              refine .nil ?_
              refine seqQ_n ?_
              refine .cond rfl (fun h5 => ?_) (fun h5 => ?_)
              · skip
                have hm2 : m < L.length := by have := of_decide_eq_true h5; simpa using this
                obtain ⟨x, hx⟩ : ∃ x, L[m]? = some x := ⟨_, List.getElem?_eq_getElem hm2⟩
                have hxk : (L.map (·.1))[m]? = some x.1 := by rw [List.getElem?_map, hx]; rfl
                have hxt : (L.map (·.2))[m]? = some x.2 := by rw [List.getElem?_map, hx]; rfl
                have hthere := there_is ((hkp.map _).nodup_iff.2 hp0.nodup) eL pD1 hBb hDb hx
                refine .skip ?_
                refine seqQ_n ?_
                refine .seq ?_
                refine .block ?_
                refine .seq ?_
                refine .region ?_
                refine TriOps.q .move ?_
                refine TriOps.q .move ?_
                refine TriOps.q .move ?_
                refine TriOps.indexO m hOk hxk (fun p103 => ?_)
                refine TriOps.q (.load1 rfl) ?_
                refine TriOps.callR (qat_spec p A' Tp1 hp1 x.1 _ (fun p hp => .inr (by simp [hp]))) (fun w hw => ?_)
                rw [hthere] at hw
                subst hw
                refine TriOps.q .move ?_
                refine TriOps.q .extract ?_
                refine TriOps.q .extract ?_
                refine TriOps.q .assign ?_
                refine TriOps.q .assign ?_
                refine .nil ?_
                refine seqQ_n ?_
                refine .seq ?_
                refine .region_still mixed (by kernel_rfl) ?_
                refine TriOps.q .move ?_
                refine TriOps.q .move ?_
                refine TriOps.q .move ?_
                refine TriOps.indexO m hOt hxt (fun p111 => ?_)
                refine TriOps.q (.load1 rfl) ?_
                refine TriOps.q .move ?_
                refine TriOps.q .gtr ?_
                refine TriOps.q .neB ?_
                refine TriOps.q .move ?_
                refine TriOps.split (t := 116) rfl (fun g23_8 => ?_) (fun g23_8 => ?_)
                · skip
                  simp at g23_8
                · skip
                  refine TriOps.gT g23_8 ?_
                  refine TriOps.q .move ?_
                  refine TriOps.gT g23_8 ?_
                  refine TriOps.q .move ?_
                  refine TriOps.gT g23_8 ?_
                  refine TriOps.q (.lenO hOb) ?_
                  refine TriOps.gT g23_8 ?_
                  refine TriOps.q .lss ?_
                  refine TriOps.gT g23_8 ?_
                  refine TriOps.q .move ?_
                  refine TriOps.split (t := 121) rfl (fun g23_13 => ?_) (fun g23_13 => ?_)
                  · skip
                    have hmB : m < B.length := by have := of_decide_eq_true g23_13; simpa using this
                    have hxo : (B.map (·.1))[m]? = some x.1 := by
                      rw [List.getElem?_map]
                      have : B[m]? = some x := by rw [eL, List.getElem?_append_left hmB] at hx; exact hx
                      rw [this]; rfl
                    refine TriOps.gT g23_13 ?_
                    refine TriOps.q .move ?_
                    refine TriOps.gT g23_13 ?_
                    refine TriOps.q .move ?_
                    refine TriOps.gT g23_13 ?_
                    refine TriOps.indexO m hOb hxo (fun p124 => ?_)
                    refine TriOps.gT g23_13 ?_
                    refine TriOps.q (.load1 rfl) ?_
                    refine TriOps.gT g23_13 ?_
                    refine TriOps.q .move ?_
                    refine TriOps.gT g23_13 ?_
                    refine TriOps.q .move ?_
                    refine TriOps.gT g23_13 ?_
                    refine TriOps.indexO m hOk hxk (fun p128 => ?_)
                    refine TriOps.gT g23_13 ?_
                    refine TriOps.q (.load1 rfl) ?_
                    refine TriOps.gT g23_13 ?_
                    refine TriOps.q .neS ?_
                    refine TriOps.gT g23_8 ?_
                    refine TriOps.q (.pickTh g23_13) ?_
                    refine TriOps.q (.pickFh g23_8) ?_
                    refine .nil ?_
                    refine seqQ_n ?_
                    refine .cond rfl (fun h6 => ?_) (fun h6 => ?_)
                    · skip
                      simp at h6
                    · skip
                      refine .skip ?_
                      refine blkQ_n (seqQ_n ?_)
                      refine .region ?_
                      refine TriOps.q .move ?_
                      refine TriOps.q (.i64 ((m + 1 : Nat) : Int) .add ⟨by omega, by omega, by omega⟩) ?_
                      refine TriOps.q .assign ?_
                      refine .nil ?_
                      exact loopQ_i (m + 1) (by omega) (by omega) (((((((EnvLe.nil _).cons rfl).cons rfl).cons rfl).cons rfl).cons rfl).cons rfl) (HLe.refl _)
                  · skip
                    refine TriOps.gF g23_13 ?_
                    refine TriOps.gF g23_13 ?_
                    refine TriOps.gF g23_13 ?_
                    refine TriOps.gF g23_13 ?_
                    refine TriOps.gF g23_13 ?_
                    refine TriOps.gF g23_13 ?_
                    refine TriOps.gF g23_13 ?_
                    refine TriOps.gF g23_13 ?_
                    refine TriOps.gF g23_13 ?_
                    refine TriOps.gT g23_8 ?_
                    refine TriOps.q (.pickFh g23_13) ?_
                    refine TriOps.q (.pickFh g23_8) ?_
                    refine .nil ?_
                    refine seqQ_n ?_
                    refine .condF ?_
                    refine .skip ?_
                    refine blkQ_n (seqQ_n ?_)
                    refine .region ?_
                    refine TriOps.q .move ?_
                    refine TriOps.q (.i64 ((m + 1 : Nat) : Int) .add ⟨by omega, by omega, by omega⟩) ?_
                    refine TriOps.q .assign ?_
                    refine .nil ?_
                    exact loopQ_i (m + 1) (by omega) (by omega) (((((((EnvLe.nil _).cons rfl).cons rfl).cons rfl).cons rfl).cons rfl).cons rfl) (HLe.refl _)
              · skip
                refine .exit (seqQ_x (loopQ_x (blkQ_x ?_)))
                refine seqQ_n ?_
                refine .seq ?_
                refine .region ?_
                refine TriOps.q .move ?_
                refine TriOps.callR (qnext_spec p A' Tp1 hp1 _ (fun p hp => .inr (by simp [hp]))) (fun w hw => ?_)
                obtain ⟨nk, na, nb, rfl, hnb⟩ : ∃ (k : ByteArray) (a : Int) (nb : Bool), w = .tuple [.string k, .int .i64 a, .bool nb].toArray ∧ (nb = true → b < a) := by
                  rcases hw with ⟨_, rfl⟩ | ⟨r, hr, _, rfl⟩
                  · exact ⟨_, _, _, rfl, by simp⟩
                  · exact ⟨_, _, _, rfl, fun _ => hA1' r hr⟩
                refine TriOps.q .move ?_
                refine TriOps.q .extract ?_
                refine TriOps.q .extract ?_
                refine TriOps.q .extract ?_
                refine TriOps.q .assign ?_
                refine TriOps.q .assign ?_
                refine TriOps.q .assign ?_
                refine .nil ?_
                refine seqQ_n ?_
                refine .seq ?_
                refine .region ?_
                refine TriOps.q .move ?_
                refine TriOps.q .not ?_
                refine TriOps.q .move ?_
                refine TriOps.split (t := 141) rfl (fun g26_2 => ?_) (fun g26_2 => ?_)
                · skip
                  refine TriOps.gF g26_2 ?_
                  refine TriOps.gF g26_2 ?_
                  refine TriOps.gF g26_2 ?_
                  refine TriOps.q (.pickTh g26_2) ?_
                  refine TriOps.q .move ?_
                  refine TriOps.gt rfl ?_
                  refine TriOps.callR (xlives_spec _) (fun w hw => ?_)
                  subst hw
                  refine TriOps.q .pickT ?_
                  refine TriOps.q .assign ?_
                  refine .nil ?_
                  refine seqQ_n ?_
                  refine .ret (retQ_r _ (.one (.tmp rfl)) (.none _) ?_)
                  exact ⟨rfl, rfl⟩
                · skip
                  refine TriOps.gT g26_2 ?_
                  refine TriOps.q .move ?_
                  refine TriOps.gT g26_2 ?_
                  refine TriOps.q .move ?_
                  refine TriOps.gT g26_2 ?_
                  refine TriOps.q .gtr ?_
                  refine TriOps.q (.pickFh g26_2) ?_
                  refine TriOps.q .move ?_
                  refine TriOps.split (t := 146) rfl (fun g26_7 => ?_) (fun g26_7 => ?_)
                  · skip
                    refine TriOps.gT g26_7 ?_
                    refine TriOps.callR (xlives_spec _) (fun w hw => ?_)
                    subst hw
                    refine TriOps.q (.pickTh g26_7) ?_
                    refine TriOps.q .assign ?_
                    refine .nil ?_
                    refine seqQ_n ?_
                    refine .ret (retQ_r _ (.one (.tmp rfl)) (.none _) ?_)
                    exact ⟨rfl, rfl⟩
                  · skip
                    have hnt : nb = true := by simpa using g26_2
                    have := hnb hnt
                    have h7 := of_decide_eq_false g26_7
                    omega
end Go.Proofs.Ytlmdgdehjpahiaa
