/- Sorting by a function, at one kind of elements: the choice of a pivot. No condition. -/
import Derived.Test.YtlmdgdehjpahiaaSCLC
set_option linter.unusedVariables false
set_option maxRecDepth 4000
namespace Go.Proofs.Ytlmdgdehjpahiaa
namespace SCL
section
variable {c : CP → CP → Int} {ok : CP → Prop} {f : FuncId} {caps : List Value} [e : Ent Try.prog f]

theorem order2_spec (v : Value) (xs : List CP) (a b lo hi bs : Nat) (s : Int) (R : Rds) (h : RS R 4 encC v xs) (ha : lo ≤ a ∧ a < hi) (hb : lo ≤ b ∧ b < hi) (hhi : hi ≤ xs.length) (hf : FnC Try.prog f caps R (fun p : CP => Value.agg (encC p).toArray) c ok) (hok : ∀ x ∈ xs, ok x) :
    Spec Try.prog 173 [v, .int .i64 a, .int .i64 b, .pointer (some ⟨bs, 0, none⟩), .func (.func f) #[] caps.toArray] R [[(bs, .cells [.int .i64 s].toArray 3 (0, 0))]] fun u H' => ∃ T', H' = [T'] ∧ ∃ (s' : Int) (p q : Nat), u = .tuple [.int .i64 p, .int .i64 q].toArray ∧ T' = [(bs, .cells [.int .i64 s'].toArray 3 (0, 0))] ∧ (lo ≤ p ∧ p < hi) ∧ (lo ≤ q ∧ q < hi) := by
  have iv := h.oneCell
  obtain ⟨x, hx⟩ : ∃ x, xs[b]? = some x := ⟨_, List.getElem?_eq_getElem (by omega)⟩
  obtain ⟨y, hy⟩ : ∃ x, xs[a]? = some x := ⟨_, List.getElem?_eq_getElem (by omega)⟩
  have okx := hok x (List.mem_of_getElem? hx)
  have oky := hok y (List.mem_of_getElem? hy)
  refine Spec.body Try.func173 rfl Try.results173 Try.ntmps173 rfl ?_
  refine .seq ?_
  refine .region ?_
  refine TriOps.q .assign ?_
  refine TriOps.q .assign ?_
  refine .nil ?_
  refine seqQ_n ?_
  refine .seq ?_
  refine .seq ?_
  refine .region_tail 9 mixed (by kernel_rfl) ?_
  conv => arg 6; dsimp only [List.take]
  refine TriOps.q .move ?_
  refine TriOps.q .move ?_
  refine TriOps.q .move ?_
  refine TriOps.indexR b h hx (fun p15 => ?_)
  refine TriOps.q (.loadA rfl) ?_
  refine TriOps.q .move ?_
  refine TriOps.q .move ?_
  refine TriOps.indexR a h hy (fun p19 => ?_)
  refine TriOps.q (.loadA rfl) ?_
  refine .nil ?_
  refine TriOps.callRV (first := []) (captured := caps) (vs := [(fun p : CP => Value.agg (encC p).toArray) x, (fun p : CP => Value.agg (encC p).toArray) y]) (hf x y okx oky _ (fun b o hb => .inl hb)) (fun u hu => ?_)
  subst hu
  refine TriOps.q .lss ?_
  refine .nil ?_
  refine seqQ_n ?_
  refine .cond rfl (fun h1 => ?_) (fun h1 => ?_)
  · skip
    refine .seq ?_
    refine .region ?_
    refine TriOps.q .move ?_
    refine TriOps.q (.nilCheck rfl) ?_
    refine TriOps.q (.load1 rfl) ?_
    refine TriOps.q .add ?_
    refine TriOps.q (.nilCheck rfl) ?_
    refine TriOps.store1 rfl rfl ?_
    refine .nil ?_
    refine seqQ_n ?_
    refine .seq ?_
    refine .region ?_
    refine TriOps.q .move ?_
    refine TriOps.q .move ?_
    refine TriOps.q .assign ?_
    refine TriOps.q .assign ?_
    refine .nil ?_
    refine seqQ_n ?_
    refine .ret (seqQ_r (retQ_r _ (.two (.tmp rfl) (.tmp rfl)) (HLe.refl _) ?_))
    exact ⟨_, rfl, _, b, a, rfl, rfl, hb, ha⟩
  · skip
    refine .skip ?_
    refine seqQ_n ?_
    refine .seq ?_
    refine .region ?_
    refine TriOps.q .move ?_
    refine TriOps.q .move ?_
    refine TriOps.q .assign ?_
    refine TriOps.q .assign ?_
    refine .nil ?_
    refine seqQ_n ?_
    refine .ret (retQ_r _ (.two (.tmp rfl) (.tmp rfl)) (HLe.refl _) ?_)
    exact ⟨_, rfl, _, a, b, rfl, rfl, ha, hb⟩
theorem median_spec (v : Value) (xs : List CP) (a b d lo hi bs : Nat) (s : Int) (R : Rds) (h : RS R 4 encC v xs) (ha : lo ≤ a ∧ a < hi) (hb : lo ≤ b ∧ b < hi) (hd : lo ≤ d ∧ d < hi) (hhi : hi ≤ xs.length) (hf : FnC Try.prog f caps R (fun p : CP => Value.agg (encC p).toArray) c ok) (hok : ∀ x ∈ xs, ok x) :
    Spec Try.prog 164 [v, .int .i64 a, .int .i64 b, .int .i64 d, .pointer (some ⟨bs, 0, none⟩), .func (.func f) #[] caps.toArray] R [[(bs, .cells [.int .i64 s].toArray 3 (0, 0))]] fun u H' => ∃ T', H' = [T'] ∧ ∃ (s' : Int) (p : Nat), u = .int .i64 p ∧ T' = [(bs, .cells [.int .i64 s'].toArray 3 (0, 0))] ∧ (lo ≤ p ∧ p < hi) := by
  have iv := h.oneCell
  refine Spec.body Try.func164 rfl Try.results164 Try.ntmps164 rfl ?_
  refine .seq ?_
  refine .region ?_
  refine TriOps.q .assign ?_
  refine .nil ?_
  refine seqQ_n ?_
  refine .seq ?_
  refine .region ?_
  refine TriOps.q .move ?_
  refine TriOps.q .move ?_
  refine TriOps.q .move ?_
  refine TriOps.q .move ?_
  refine TriOps.q .move ?_
  refine TriOps.callM (order2_spec v xs a b lo hi bs s _ h ha hb hhi hf hok) (fun u T1 hu => ?_)
  obtain ⟨s1, p1, q1, rfl, rfl, hp1, hq1⟩ := hu
  refine TriOps.q .move ?_
  refine TriOps.q .extract ?_
  refine TriOps.q .extract ?_
  refine TriOps.q .assign ?_
  refine TriOps.q .assign ?_
  refine .nil ?_
  refine seqQ_n ?_
  refine .seq ?_
  refine .region ?_
  refine TriOps.q .move ?_
  refine TriOps.q .move ?_
  refine TriOps.q .move ?_
  refine TriOps.q .move ?_
  refine TriOps.q .move ?_
  refine TriOps.callM (order2_spec v xs q1 d lo hi bs s1 _ h hq1 hd hhi hf hok) (fun u T2 hu => ?_)
  obtain ⟨s2, p2, q2, rfl, rfl, hp2, hq2⟩ := hu
  refine TriOps.q .move ?_
  refine TriOps.q .extract ?_
  refine TriOps.q .extract ?_
  refine TriOps.q .assign ?_
  refine TriOps.q .assign ?_
  refine .nil ?_
  refine seqQ_n ?_
  refine .seq ?_
  refine .region ?_
  refine TriOps.q .move ?_
  refine TriOps.q .move ?_
  refine TriOps.q .move ?_
  refine TriOps.q .move ?_
  refine TriOps.q .move ?_
  refine TriOps.callM (order2_spec v xs p1 p2 lo hi bs s2 _ h hp1 hp2 hhi hf hok) (fun u T3 hu => ?_)
  obtain ⟨s3, p3, q3, rfl, rfl, hp3, hq3⟩ := hu
  refine TriOps.q .move ?_
  refine TriOps.q .extract ?_
  refine TriOps.q .extract ?_
  refine TriOps.q .assign ?_
  refine TriOps.q .assign ?_
  refine .nil ?_
  refine seqQ_n ?_
  refine .seq ?_
  refine .region ?_
  refine TriOps.q .move ?_
  refine TriOps.q .assign ?_
  refine .nil ?_
  refine seqQ_n ?_
  refine .ret (retQ_r _ (.one (.tmp rfl)) (HLe.refl _) ?_)
  exact ⟨_, rfl, s3, q3, rfl, rfl, hq3⟩
theorem medianA_spec (v : Value) (xs : List CP) (a lo hi bs : Nat) (s : Int) (R : Rds) (h : RS R 4 encC v xs) (ha : lo + 1 ≤ a ∧ a + 1 < hi) (hhi : hi ≤ xs.length) (hl : xs.length ≤ 1000000000) (hf : FnC Try.prog f caps R (fun p : CP => Value.agg (encC p).toArray) c ok) (hok : ∀ x ∈ xs, ok x) :
    Spec Try.prog 163 [v, .int .i64 a, .pointer (some ⟨bs, 0, none⟩), .func (.func f) #[] caps.toArray] R [[(bs, .cells [.int .i64 s].toArray 3 (0, 0))]] fun u H' => ∃ T', H' = [T'] ∧ ∃ (s' : Int) (p : Nat), u = .int .i64 p ∧ T' = [(bs, .cells [.int .i64 s'].toArray 3 (0, 0))] ∧ (lo ≤ p ∧ p < hi) := by
  have iv := h.oneCell
  refine Spec.body Try.func163 rfl Try.results163 Try.ntmps163 rfl ?_
  refine .seq ?_
  refine .region ?_
  refine TriOps.q .assign ?_
  refine .nil ?_
  refine seqQ_n ?_
  refine .seq ?_
  refine .region ?_
  refine TriOps.q .move ?_
  refine TriOps.q .move ?_
  refine TriOps.q (.i64 ((a - 1 : Nat) : Int) .sub ⟨by omega, by omega, by omega⟩) ?_
  refine TriOps.q .move ?_
  refine TriOps.q .move ?_
  refine TriOps.q (.i64 ((a + 1 : Nat) : Int) .add ⟨by omega, by omega, by omega⟩) ?_
  refine TriOps.q .move ?_
  refine TriOps.q .move ?_
  refine TriOps.callM (median_spec v xs (a - 1) a (a + 1) lo hi bs s _ h (by omega) (by omega) (by omega) hhi hf hok) (fun u T1 hu => ?_)
  obtain ⟨s1, p1, rfl, rfl, hp1⟩ := hu
  refine TriOps.q .assign ?_
  refine .nil ?_
  refine seqQ_n ?_
  refine .ret (retQ_r _ (.one (.tmp rfl)) (HLe.refl _) ?_)
  exact ⟨_, rfl, s1, p1, rfl, rfl, hp1⟩
theorem choose_spec (v : Value) (xs : List CP) (a b : Nat) (R : Rds) (h : RS R 4 encC v xs) (hab : a < b) (hb : b ≤ xs.length) (hl : xs.length ≤ 1000000000) (hf : FnC Try.prog f caps R (fun p : CP => Value.agg (encC p).toArray) c ok) (hok : ∀ x ∈ xs, ok x) :
    Spec Try.prog 142 [v, .int .i64 a, .int .i64 b, .func (.func f) #[] caps.toArray] R [] fun u H' => (∃ (p : Nat) (t : Int), u = .tuple [.int .i64 p, .int .i64 t].toArray ∧ a ≤ p ∧ p < b) ∧ H' = [] := by
  have iv := h.oneCell
  obtain ⟨n, hn⟩ : ∃ n, b = a + n := ⟨b - a, by omega⟩
  subst hn
  obtain ⟨q, hq⟩ : ∃ q, q = n / 4 := ⟨_, rfl⟩
  refine Spec.body Try.func142 rfl Try.results142 Try.ntmps142 rfl ?_
  refine .seq ?_
  refine .region ?_
  refine TriOps.q .assign ?_
  refine TriOps.q .assign ?_
  refine .nil ?_
  refine seqQ_n ?_
  refine .seq ?_
  refine .region ?_
  refine TriOps.q .move ?_
  refine TriOps.q .move ?_
  refine TriOps.q (.i64 ((n : Nat) : Int) .sub ⟨by omega, by omega, by omega⟩) ?_
  refine TriOps.q .assign ?_
  refine .nil ?_
  refine seqQ_n ?_
  refine .seq ?_
  refine .region ?_
  refine TriOps.alloc1 (fun b11 => ?_)
  refine .nil ?_
  refine seqQ_n ?_
  refine .seq ?_
  refine .region ?_
  refine TriOps.q .move ?_
  refine TriOps.q .move ?_
  refine TriOps.q (.i64 ((q : Nat) : Int) .quo ⟨by rw [hq, Int.tdiv_eq_ediv_of_nonneg (by omega)]; omega, by omega, by omega⟩) ?_
  refine TriOps.q (.i64 ((q : Nat) : Int) .mul ⟨by omega, by omega, by omega⟩) ?_
  refine TriOps.q (.i64 ((a + q : Nat) : Int) .add ⟨by omega, by omega, by omega⟩) ?_
  refine TriOps.q .assign ?_
  refine .nil ?_
  refine seqQ_n ?_
  refine .seq ?_
  refine .region ?_
  refine TriOps.q .move ?_
  refine TriOps.q .move ?_
  refine TriOps.q (.i64 ((q : Nat) : Int) .quo ⟨by rw [hq, Int.tdiv_eq_ediv_of_nonneg (by omega)]; omega, by omega, by omega⟩) ?_
  refine TriOps.q (.i64 ((q * 2 : Nat) : Int) .mul ⟨by omega, by omega, by omega⟩) ?_
  refine TriOps.q (.i64 ((a + q * 2 : Nat) : Int) .add ⟨by omega, by omega, by omega⟩) ?_
  refine TriOps.q .assign ?_
  refine .nil ?_
  refine seqQ_n ?_
  refine .seq ?_
  refine .region ?_
  refine TriOps.q .move ?_
  refine TriOps.q .move ?_
  refine TriOps.q (.i64 ((q : Nat) : Int) .quo ⟨by rw [hq, Int.tdiv_eq_ediv_of_nonneg (by omega)]; omega, by omega, by omega⟩) ?_
  refine TriOps.q (.i64 ((q * 3 : Nat) : Int) .mul ⟨by omega, by omega, by omega⟩) ?_
  refine TriOps.q (.i64 ((a + q * 3 : Nat) : Int) .add ⟨by omega, by omega, by omega⟩) ?_
  refine TriOps.q .assign ?_
  refine .nil ?_
  refine seqQ_n ?_
  refine .seq ?_
  refine Tri.cut (X := Nat × Int) (fun z => a ≤ z.1 ∧ z.1 < a + n) (fun z => [(11, .pointer (some ⟨b11, 0, none⟩)), (13, .int .i64 (z.1 : Nat))]) (fun z => [[(b11, .cells [.int .i64 z.2].toArray 3 (0, 0))]]) ?_ ?_
  · refine .seq ?_
    refine .region ?_
    refine TriOps.q .move ?_
    refine TriOps.q .geq ?_
    refine .nil ?_
    refine seqQ_n ?_
    refine .cond rfl (fun h1 => ?_) (fun h1 => ?_)
    · skip
      have hn8 : 8 ≤ n := by have := of_decide_eq_true h1; omega
      refine .seq ?_
      refine Tri.cut (X := Nat × Nat × Nat × Int) (fun z => (a ≤ z.1 ∧ z.1 < a + n) ∧ (a ≤ z.2.1 ∧ z.2.1 < a + n) ∧ (a ≤ z.2.2.1 ∧ z.2.2.1 < a + n)) (fun z => [(0, v), (3, .func (.func f) #[] caps.toArray), (11, .pointer (some ⟨b11, 0, none⟩)), (12, .int .i64 (z.1 : Nat)), (13, .int .i64 (z.2.1 : Nat)), (14, .int .i64 (z.2.2.1 : Nat))]) (fun z => [[(b11, .cells [.int .i64 z.2.2.2].toArray 3 (0, 0))]]) ?_ ?_
      · refine .seq ?_
        refine .region ?_
        refine TriOps.q .move ?_
        refine TriOps.q .geq ?_
        refine .nil ?_
        refine seqQ_n ?_
        refine .cond rfl (fun h2 => ?_) (fun h2 => ?_)
        · skip
          have hn50 : 50 ≤ n := by have := of_decide_eq_true h2; omega
          refine .seq ?_
          refine .region ?_
          refine TriOps.q .move ?_
          refine TriOps.q .move ?_
          refine TriOps.q .move ?_
          refine TriOps.callM (medianA_spec v xs (a + q) a (a + n) b11 0 _ h (by omega) hb hl hf hok) (fun u T1 hu => ?_)
          obtain ⟨s1, p1, rfl, rfl, hp1⟩ := hu
          refine TriOps.q .assign ?_
          refine .nil ?_
          refine seqQ_n ?_
          refine .seq ?_
          refine .region ?_
          refine TriOps.q .move ?_
          refine TriOps.q .move ?_
          refine TriOps.q .move ?_
          refine TriOps.callM (medianA_spec v xs (a + q * 2) a (a + n) b11 s1 _ h (by omega) hb hl hf hok) (fun u T1 hu => ?_)
          obtain ⟨s2, p2, rfl, rfl, hp2⟩ := hu
          refine TriOps.q .assign ?_
          refine .nil ?_
          refine seqQ_n ?_
          refine .region ?_
          refine TriOps.q .move ?_
          refine TriOps.q .move ?_
          refine TriOps.q .move ?_
          refine TriOps.callM (medianA_spec v xs (a + q * 3) a (a + n) b11 s2 _ h (by omega) hb hl hf hok) (fun u T1 hu => ?_)
          obtain ⟨s3, p3, rfl, rfl, hp3⟩ := hu
          refine TriOps.q .assign ?_
          refine .nil ?_
          first
            | exact joinQ_n (p1, p2, p3, s3) ⟨hp1, hp2, hp3⟩ (((((((EnvLe.nil _).cons rfl).cons rfl).cons rfl).cons rfl).cons rfl).cons rfl) (HLe.refl _)
            | exact joinQ_n (a + q, a + q * 2, a + q * 3, 0) ⟨by simp only; omega, by simp only; omega, by simp only; omega⟩ (((((((EnvLe.nil _).cons rfl).cons rfl).cons rfl).cons rfl).cons rfl).cons rfl) (HLe.refl _)
        · skip
          refine .skip ?_
          first
            | exact joinQ_n (p1, p2, p3, s3) ⟨hp1, hp2, hp3⟩ (((((((EnvLe.nil _).cons rfl).cons rfl).cons rfl).cons rfl).cons rfl).cons rfl) (HLe.refl _)
            | exact joinQ_n (a + q, a + q * 2, a + q * 3, 0) ⟨by simp only; omega, by simp only; omega, by simp only; omega⟩ (((((((EnvLe.nil _).cons rfl).cons rfl).cons rfl).cons rfl).cons rfl).cons rfl) (HLe.refl _)
      · intro y hy
        obtain ⟨i, j, k, s⟩ := y
        obtain ⟨hi, hj, hk⟩ := hy
        simp only at hi hj hk ⊢
        refine seqQ_n ?_
        refine .region ?_
        refine TriOps.q .move ?_
        refine TriOps.q .move ?_
        refine TriOps.q .move ?_
        refine TriOps.q .move ?_
        refine TriOps.q .move ?_
        refine TriOps.callM (median_spec v xs i j k a (a + n) b11 s _ h hi hj hk hb hf hok) (fun u T1 hu => ?_)
        obtain ⟨s4, p4, rfl, rfl, hp4⟩ := hu
        refine TriOps.q .assign ?_
        refine .nil ?_
        first
          | exact joinQ_n (p4, s4) hp4 (((EnvLe.nil _).cons rfl).cons rfl) (HLe.refl _)
          | exact joinQ_n (a + q * 2, 0) (by simp only; omega) (((EnvLe.nil _).cons rfl).cons rfl) (HLe.refl _)
    · skip
      refine .skip ?_
      first
        | exact joinQ_n (p4, s4) hp4 (((EnvLe.nil _).cons rfl).cons rfl) (HLe.refl _)
        | exact joinQ_n (a + q * 2, 0) (by simp only; omega) (((EnvLe.nil _).cons rfl).cons rfl) (HLe.refl _)
  · intro y hy
    obtain ⟨p, s⟩ := y
    simp only at hy ⊢
    refine seqQ_n ?_
    refine .seq ?_
    refine .region ?_
    refine TriOps.q (.load1 rfl) ?_
    refine .nil ?_
    refine seqQ_n ?_
    refine .block ?_
    refine .seq ?_
    refine .region ?_
    refine TriOps.q .eqI ?_
    refine TriOps.q .assign ?_
    refine .nil ?_
    refine seqQ_n ?_
    refine .cond rfl (fun h3 => ?_) (fun h3 => ?_)
    · skip
      refine .seq ?_
      refine .region ?_
      refine TriOps.q .move ?_
      refine TriOps.q .assign ?_
      refine TriOps.q .assign ?_
      refine .nil ?_
      refine seqQ_n ?_
      refine .ret (blkQ_r (retQ_r _ (.two (.tmp rfl) (.tmp rfl)) (.none _) ?_))
      exact ⟨⟨p, _, rfl, hy.1, hy.2⟩, rfl⟩
    · skip
      refine .seq ?_
      refine .region ?_
      refine TriOps.q .eqI ?_
      refine TriOps.q .assign ?_
      refine .nil ?_
      refine seqQ_n ?_
      refine .cond rfl (fun h4 => ?_) (fun h4 => ?_)
      · skip
        refine .seq ?_
        refine .region ?_
        refine TriOps.q .move ?_
        refine TriOps.q .assign ?_
        refine TriOps.q .assign ?_
        refine .nil ?_
        refine seqQ_n ?_
        refine .ret (blkQ_r (retQ_r _ (.two (.tmp rfl) (.tmp rfl)) (.none _) ?_))
        exact ⟨⟨p, _, rfl, hy.1, hy.2⟩, rfl⟩
      · skip
        refine .seq ?_
        refine .region ?_
        refine TriOps.q .move ?_
        refine TriOps.q .assign ?_
        refine TriOps.q .assign ?_
        refine .nil ?_
        refine seqQ_n ?_
        refine .ret (blkQ_r (retQ_r _ (.two (.tmp rfl) (.tmp rfl)) (.none _) ?_))
        exact ⟨⟨p, _, rfl, hy.1, hy.2⟩, rfl⟩
end
end SCL
end Go.Proofs.Ytlmdgdehjpahiaa
