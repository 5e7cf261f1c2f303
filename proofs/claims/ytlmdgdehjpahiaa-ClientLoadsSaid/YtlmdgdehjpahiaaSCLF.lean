/- Sorting by a function, at one kind of elements: the sort itself. No condition. -/
import Derived.Test.YtlmdgdehjpahiaaSCLE
set_option linter.unusedVariables false
set_option maxRecDepth 4000
namespace Go.Proofs.Ytlmdgdehjpahiaa
namespace SCL
section
variable {c : CP → CP → Int} {ok : CP → Prop} {f : FuncId} {caps : List Value} [e : Ent Try.prog f]
def Pdq (c : CP → CP → Int) (ok : CP → Prop) (f : FuncId) (caps : List Value) (n : Nat) : Prop := ∀ (v : Value) (xs : List CP) (T : Seg) (a b lim : Nat) (R : Rds), OS 35 4 encC v xs T → a ≤ b → b ≤ xs.length → xs.length ≤ 1000000000 → lim ≤ 1000000000 → FnC Try.prog f caps R (fun p : CP => Value.agg (encC p).toArray) c ok → (∀ x ∈ xs, ok x) → LB (ltc c) xs a b → b - a < n →
    Spec Try.prog 119 [v, .int .i64 a, .int .i64 b, .int .i64 lim, .func (.func f) #[] caps.toArray] R [T] fun u H' => ∃ T', H' = [T'] ∧ u = .tuple #[] ∧ ∃ ys, OS 35 4 encC v ys T' ∧ RP a b xs ys ∧ SR (ltc c) ys a b

theorem pdq_step (n : Nat) (ih : Pdq c ok f caps n) (so : SO (ltc c)) (v : Value) (xs : List CP) (T : Seg) (a0 b0 lim : Nat) (R : Rds) (h : OS 35 4 encC v xs T) (hab : a0 ≤ b0) (hb : b0 ≤ xs.length) (hl : xs.length ≤ 1000000000) (hlim : lim ≤ 1000000000) (hf : FnC Try.prog f caps R (fun p : CP => Value.agg (encC p).toArray) c ok) (hok : ∀ x ∈ xs, ok x) (hlb : LB (ltc c) xs a0 b0) (hn : b0 - a0 < n + 1) :
    Spec Try.prog 119 [v, .int .i64 a0, .int .i64 b0, .int .i64 lim, .func (.func f) #[] caps.toArray] R [T] fun u H' => ∃ T', H' = [T'] ∧ u = .tuple #[] ∧ ∃ ys, OS 35 4 encC v ys T' ∧ RP a0 b0 xs ys ∧ SR (ltc c) ys a0 b0 := by
  have iv := h.oneCell
  refine Spec.body Try.func119 rfl Try.results119 Try.ntmps119 rfl ?_
  refine .seq ?_
  refine .region ?_
  refine TriOps.q .assign ?_
  refine .nil ?_
  refine seqQ_n ?_
  refine .seq ?_
  refine .region ?_
  refine TriOps.q .assign ?_
  refine .nil ?_
  refine seqQ_n ?_
  refine .block ?_
  refine .loop (X := Nat × Nat × Nat × Bool × Bool × List CP × Seg) (fun y => (a0 ≤ y.1 ∧ y.1 ≤ y.2.1 ∧ y.2.1 ≤ b0 ∧ y.2.2.1 ≤ 1000000000) ∧ OS 35 4 encC v y.2.2.2.2.2.1 y.2.2.2.2.2.2 ∧ RP a0 b0 xs y.2.2.2.2.2.1 ∧ OX (ltc c) y.2.2.2.2.2.1 a0 b0 y.1 y.2.1) (fun y => [(0, v), (1, .int .i64 (y.1 : Nat)), (2, .int .i64 (y.2.1 : Nat)), (3, .int .i64 (y.2.2.1 : Nat)), (4, .func (.func f) #[] caps.toArray), (10, .bool y.2.2.2.1), (11, .bool y.2.2.2.2.1)]) (fun y => [y.2.2.2.2.2.2]) (fun y => y.2.1 - y.1) (a0, b0, lim, true, true, xs, T) ⟨⟨Nat.le_refl _, hab, Nat.le_refl _, hlim⟩, h, .refl _, .start⟩ ((((((((EnvLe.nil _).cons rfl).cons rfl).cons rfl).cons rfl).cons rfl).cons rfl).cons rfl) (HLe.refl _) ?_
  rintro ⟨a, b, l, wb, wp, ys, T1⟩ ⟨⟨ha0, hab1, hb0, hl1⟩, hO1, hR1, hX1⟩
  simp only at ha0 hab1 hb0 hl1 hO1 hR1 hX1 ⊢
  have hlen := hR1.length
  have hok1 : ∀ x ∈ ys, ok x := fun x hx => hok x (hR1.perm.mem_iff.1 hx)
  have hlb1 := hX1.lb (hlb.rp hR1) ha0 hb0
  refine .block ?_
  refine .seq ?_
  refine .region ?_
  refine TriOps.q .move ?_
  refine TriOps.q .move ?_
  refine TriOps.q (.i64 ((b - a : Nat) : Int) .sub ⟨by omega, by omega, by omega⟩) ?_
  refine TriOps.q .assign ?_
  refine .nil ?_
  refine seqQ_n ?_
  refine .seq ?_
  refine .seq ?_
  refine .region ?_
  refine TriOps.q .move ?_
  refine TriOps.q .leq ?_
  refine .nil ?_
  refine seqQ_n ?_
  refine .cond rfl (fun h1 => ?_) (fun h1 => ?_)
  · skip
    refine .seq ?_
    refine .region ?_
    refine TriOps.q .move ?_
    refine TriOps.q .move ?_
    refine TriOps.q .move ?_
    refine TriOps.q .move ?_
    refine TriOps.callM (ins_spec v ys T1 a b _ hO1 hab1 (by omega) (by omega) hf hok1 so) (fun u T2 hu => ?_)
    obtain ⟨rfl, zs, hO2, hR2, hS2⟩ := hu
    refine .nil ?_
    refine seqQ_n ?_
    refine .ret (seqQ_r (blkQ_r (loopQ_r (blkQ_r (retQ_r _ .none (HLe.refl _) ?_)))))
    first
      | exact ⟨_, rfl, rfl, zs, hO2, hR1.trans (hR2.mono ha0 hb0 (by omega)), (hX1.rp hR2 ha0 hb0).sorted hS2⟩
      | exact ⟨_, rfl, rfl, ms, hO5, hR1.trans ((hR4.trans hR5).mono ha0 hb0 (by omega)), (hX1.rp (hR4.trans hR5) ha0 hb0).sorted (hS5 (by assumption))⟩
  · skip
    have hlong : 12 < b - a := by have := of_decide_eq_false h1; omega
    refine .skip ?_
    refine seqQ_n ?_
    refine .seq ?_
    refine .seq ?_
    refine .region ?_
    refine TriOps.q .move ?_
    refine TriOps.q .eqI ?_
    refine .nil ?_
    refine seqQ_n ?_
    refine .cond rfl (fun h2 => ?_) (fun h2 => ?_)
    · skip
      refine .seq ?_
      refine .region ?_
      refine TriOps.q .move ?_
      refine TriOps.q .move ?_
      refine TriOps.q .move ?_
      refine TriOps.q .move ?_
      refine TriOps.callM (heap_spec v ys T1 a b _ hO1 hab1 (by omega) (by omega) hf hok1 so) (fun u T2 hu => ?_)
      obtain ⟨rfl, zs, hO2, hR2, hS2⟩ := hu
      refine .nil ?_
      refine seqQ_n ?_
      refine .ret (seqQ_r (blkQ_r (loopQ_r (blkQ_r (retQ_r _ .none (HLe.refl _) ?_)))))
      first
        | exact ⟨_, rfl, rfl, zs, hO2, hR1.trans (hR2.mono ha0 hb0 (by omega)), (hX1.rp hR2 ha0 hb0).sorted hS2⟩
        | exact ⟨_, rfl, rfl, ms, hO5, hR1.trans ((hR4.trans hR5).mono ha0 hb0 (by omega)), (hX1.rp (hR4.trans hR5) ha0 hb0).sorted (hS5 (by assumption))⟩
    · skip
      have hl0 : 0 < l := by
        have h2' : ¬ ((l : Int) = 0) := by simpa using h2
        omega
      refine .skip ?_
      refine seqQ_n ?_
      refine .seq ?_
      refine Tri.cut (X := Nat × List CP × Seg) (fun z => z.1 ≤ 1000000000 ∧ OS 35 4 encC v z.2.1 z.2.2 ∧ RP a b ys z.2.1) (fun z => [(0, v), (1, .int .i64 (a : Nat)), (2, .int .i64 (b : Nat)), (3, .int .i64 (z.1 : Nat)), (4, .func (.func f) #[] caps.toArray), (10, .bool wb), (11, .bool wp), (12, .int .i64 ((b - a : Nat) : Int))]) (fun z => [z.2.2]) ?_ ?_
      · refine .seq ?_
        refine .region ?_
        refine TriOps.q .move ?_
        refine TriOps.q .not ?_
        refine .nil ?_
        refine seqQ_n ?_
        refine .cond rfl (fun h3 => ?_) (fun h3 => ?_)
        · skip
          refine .seq ?_
          refine .region ?_
          refine TriOps.q .move ?_
          refine TriOps.q .move ?_
          refine TriOps.q .move ?_
          refine TriOps.q .move ?_
          refine TriOps.callM (break_spec v ys T1 a b _ (.func (.func f) #[] caps.toArray) inferInstance hO1 hab1 (by omega) (by omega)) (fun u T2 hu => ?_)
          obtain ⟨rfl, zs, hO2, hR2⟩ := hu
          refine .nil ?_
          refine seqQ_n ?_
          refine .region ?_
          refine TriOps.q .move ?_
          refine TriOps.q (.i64 ((l - 1 : Nat) : Int) .sub ⟨by omega, by omega, by omega⟩) ?_
          refine TriOps.q .assign ?_
          refine .nil ?_
          first
            | exact joinQ_n (l - 1, zs, T2) ⟨by simp only; omega, hO2, hR2⟩ (((((((((EnvLe.nil _).cons rfl).cons rfl).cons rfl).cons rfl).cons rfl).cons rfl).cons rfl).cons rfl) (HLe.refl _)
            | exact joinQ_n (l, ys, T1) ⟨by simp only; omega, hO1, .refl _⟩ (((((((((EnvLe.nil _).cons rfl).cons rfl).cons rfl).cons rfl).cons rfl).cons rfl).cons rfl).cons rfl) (HLe.refl _)
        · skip
          refine .skip ?_
          first
            | exact joinQ_n (l - 1, zs, T2) ⟨by simp only; omega, hO2, hR2⟩ (((((((((EnvLe.nil _).cons rfl).cons rfl).cons rfl).cons rfl).cons rfl).cons rfl).cons rfl).cons rfl) (HLe.refl _)
            | exact joinQ_n (l, ys, T1) ⟨by simp only; omega, hO1, .refl _⟩ (((((((((EnvLe.nil _).cons rfl).cons rfl).cons rfl).cons rfl).cons rfl).cons rfl).cons rfl).cons rfl) (HLe.refl _)
      · intro y hy
        obtain ⟨l2, zs, T2⟩ := y
        obtain ⟨hl2, hO2, hR2⟩ := hy
        simp only at hl2 hO2 hR2 ⊢
        have hlen2 := hR2.length
        have hok2 : ∀ x ∈ zs, ok x := fun x hx => hok1 x (hR2.perm.mem_iff.1 hx)
        refine seqQ_n ?_
        refine .seq ?_
        refine .region ?_
        refine TriOps.q .move ?_
        refine TriOps.q .move ?_
        refine TriOps.q .move ?_
        refine TriOps.q .move ?_
        refine TriOps.callR (choose_spec v zs a b _ (hO2.rs fun p hp => .inr (by simpa using hp)) (by omega) (by omega) (by omega) (hf.mono fun b o hb => .inl hb) hok2) (fun u hu => ?_)
        obtain ⟨pv, hint, rfl, hpa, hpb⟩ := hu
        refine TriOps.q .move ?_
        refine TriOps.q .extract ?_
        refine TriOps.q .extract ?_
        refine TriOps.q .assign ?_
        refine TriOps.q .assign ?_
        refine .nil ?_
        refine seqQ_n ?_
        refine .seq ?_
        refine Tri.cut (X := Nat × Int × List CP × Seg) (fun z => (a ≤ z.1 ∧ z.1 < b) ∧ OS 35 4 encC v z.2.2.1 z.2.2.2 ∧ RP a b ys z.2.2.1) (fun z => [(0, v), (1, .int .i64 (a : Nat)), (2, .int .i64 (b : Nat)), (3, .int .i64 (l2 : Nat)), (4, .func (.func f) #[] caps.toArray), (10, .bool wb), (11, .bool wp), (12, .int .i64 ((b - a : Nat) : Int)), (13, .int .i64 (z.1 : Nat)), (14, .int .i64 z.2.1)]) (fun z => [z.2.2.2]) ?_ ?_
        · refine .seq ?_
          refine .region ?_
          refine TriOps.q .move ?_
          refine TriOps.q .eqI ?_
          refine .nil ?_
          refine seqQ_n ?_
          refine .cond rfl (fun h4 => ?_) (fun h4 => ?_)
          · skip
            refine .seq ?_
            refine .region ?_
            refine TriOps.q .move ?_
            refine TriOps.q .move ?_
            refine TriOps.q .move ?_
            refine TriOps.q .move ?_
            refine TriOps.callM (reverse_spec v zs T2 a b _ (.func (.func f) #[] caps.toArray) inferInstance hO2 (by omega) (by omega) (by omega)) (fun u T3 hu => ?_)
            obtain ⟨rfl, ws, hO3, hR3⟩ := hu
            refine .nil ?_
            refine seqQ_n ?_
            refine .seq ?_
            refine .region ?_
            refine TriOps.q .move ?_
            refine TriOps.q (.i64 ((b - 1 : Nat) : Int) .sub ⟨by omega, by omega, by omega⟩) ?_
            refine TriOps.q .move ?_
            refine TriOps.q .move ?_
            refine TriOps.q (.i64 ((pv - a : Nat) : Int) .sub ⟨by omega, by omega, by omega⟩) ?_
            refine TriOps.q (.i64 (((b - 1) - (pv - a) : Nat) : Int) .sub ⟨by omega, by omega, by omega⟩) ?_
            refine TriOps.q .assign ?_
            refine .nil ?_
            refine seqQ_n ?_
            refine .region ?_
            refine TriOps.q .assign ?_
            refine .nil ?_
            first
              | exact joinQ_n ((b - 1) - (pv - a), 1, ws, T3) ⟨by simp only; omega, hO3, hR2.trans hR3⟩ (((((((((((EnvLe.nil _).cons rfl).cons rfl).cons rfl).cons rfl).cons rfl).cons rfl).cons rfl).cons rfl).cons rfl).cons rfl) (HLe.refl _)
              | exact joinQ_n (pv, hint, zs, T2) ⟨⟨hpa, hpb⟩, hO2, hR2⟩ (((((((((((EnvLe.nil _).cons rfl).cons rfl).cons rfl).cons rfl).cons rfl).cons rfl).cons rfl).cons rfl).cons rfl).cons rfl) (HLe.refl _)
          · skip
            refine .skip ?_
            first
              | exact joinQ_n ((b - 1) - (pv - a), 1, ws, T3) ⟨by simp only; omega, hO3, hR2.trans hR3⟩ (((((((((((EnvLe.nil _).cons rfl).cons rfl).cons rfl).cons rfl).cons rfl).cons rfl).cons rfl).cons rfl).cons rfl).cons rfl) (HLe.refl _)
              | exact joinQ_n (pv, hint, zs, T2) ⟨⟨hpa, hpb⟩, hO2, hR2⟩ (((((((((((EnvLe.nil _).cons rfl).cons rfl).cons rfl).cons rfl).cons rfl).cons rfl).cons rfl).cons rfl).cons rfl).cons rfl) (HLe.refl _)
        · intro y hy
          obtain ⟨q, hn3, us, T4⟩ := y
          obtain ⟨⟨hqa, hqb⟩, hO4, hR4⟩ := hy
          simp only at hqa hqb hO4 hR4 ⊢
          have hlen4 := hR4.length
          have hok4 : ∀ x ∈ us, ok x := fun x hx => hok1 x (hR4.perm.mem_iff.1 hx)
          refine seqQ_n ?_
          refine .seq ?_
          refine Tri.cut (X := List CP × Seg) (fun z => OS 35 4 encC v z.1 z.2 ∧ RP a b ys z.1) (fun z => [(0, v), (1, .int .i64 (a : Nat)), (2, .int .i64 (b : Nat)), (3, .int .i64 (l2 : Nat)), (4, .func (.func f) #[] caps.toArray), (10, .bool wb), (11, .bool wp), (12, .int .i64 ((b - a : Nat) : Int)), (13, .int .i64 (q : Nat))]) (fun z => [z.2]) ?_ ?_
          · refine .seq ?_
            refine .region ?_
            refine TriOps.q .move ?_
            refine TriOps.q .move ?_
            refine TriOps.split (t := 69) rfl (fun g15_1 => ?_) (fun g15_1 => ?_)
            · skip
              refine TriOps.gT g15_1 ?_
              refine TriOps.q .move ?_
              refine TriOps.q (.pickTh g15_1) ?_
              refine TriOps.q .move ?_
              refine TriOps.split (t := 72) rfl (fun g15_4 => ?_) (fun g15_4 => ?_)
              · skip
                refine TriOps.gT g15_4 ?_
                refine TriOps.q .move ?_
                refine TriOps.gT g15_4 ?_
                refine TriOps.q .eqI ?_
                refine TriOps.q (.pickTh g15_4) ?_
                refine .nil ?_
                refine seqQ_n ?_
                refine .cond rfl (fun h5 => ?_) (fun h5 => ?_)
                · skip
                  refine .seq ?_
                  refine .region ?_
                  refine TriOps.q .move ?_
                  refine TriOps.q .move ?_
                  refine TriOps.q .move ?_
                  refine TriOps.q .move ?_
                  refine TriOps.callM (part_spec v us T4 a b _ hO4 (by omega) (by omega) (by omega) hf hok4 so (hlb1.rp hR4)) (fun u T5 hu => ?_)
                  obtain ⟨ms, mb, rfl, hO5, hR5, hS5⟩ := hu
                  refine .nil ?_
                  refine seqQ_n ?_
                  refine .cond rfl (fun h6 => ?_) (fun h6 => ?_)
                  · skip
                    refine .ret (joinQ_r (seqQ_r (blkQ_r (loopQ_r (blkQ_r (retQ_r _ .none (HLe.refl _) ?_))))))
                    first
                      | exact ⟨_, rfl, rfl, zs, hO2, hR1.trans (hR2.mono ha0 hb0 (by omega)), (hX1.rp hR2 ha0 hb0).sorted hS2⟩
                      | exact ⟨_, rfl, rfl, ms, hO5, hR1.trans ((hR4.trans hR5).mono ha0 hb0 (by omega)), (hX1.rp (hR4.trans hR5) ha0 hb0).sorted (hS5 (by assumption))⟩
                  · skip
                    refine .skip ?_
                    first
                      | exact joinQ_n (ms, T5) ⟨hO5, hR4.trans hR5⟩ ((((((((((EnvLe.nil _).cons rfl).cons rfl).cons rfl).cons rfl).cons rfl).cons rfl).cons rfl).cons rfl).cons rfl) (HLe.refl _)
                      | exact joinQ_n (us, T4) ⟨hO4, hR4⟩ ((((((((((EnvLe.nil _).cons rfl).cons rfl).cons rfl).cons rfl).cons rfl).cons rfl).cons rfl).cons rfl).cons rfl) (HLe.refl _)
                · skip
                  refine .skip ?_
                  first
                    | exact joinQ_n (ms, T5) ⟨hO5, hR4.trans hR5⟩ ((((((((((EnvLe.nil _).cons rfl).cons rfl).cons rfl).cons rfl).cons rfl).cons rfl).cons rfl).cons rfl).cons rfl) (HLe.refl _)
                    | exact joinQ_n (us, T4) ⟨hO4, hR4⟩ ((((((((((EnvLe.nil _).cons rfl).cons rfl).cons rfl).cons rfl).cons rfl).cons rfl).cons rfl).cons rfl).cons rfl) (HLe.refl _)
              · skip
                refine TriOps.gF g15_4 ?_
                refine TriOps.gF g15_4 ?_
                refine TriOps.q (.pickFh g15_4) ?_
                refine .nil ?_
                refine seqQ_n ?_
                refine .condF ?_
                refine .skip ?_
                first
                  | exact joinQ_n (ms, T5) ⟨hO5, hR4.trans hR5⟩ ((((((((((EnvLe.nil _).cons rfl).cons rfl).cons rfl).cons rfl).cons rfl).cons rfl).cons rfl).cons rfl).cons rfl) (HLe.refl _)
                  | exact joinQ_n (us, T4) ⟨hO4, hR4⟩ ((((((((((EnvLe.nil _).cons rfl).cons rfl).cons rfl).cons rfl).cons rfl).cons rfl).cons rfl).cons rfl).cons rfl) (HLe.refl _)
            · skip
              refine TriOps.gF g15_1 ?_
              refine TriOps.q (.pickFh g15_1) ?_
              refine TriOps.q .move ?_
              refine TriOps.gf rfl rfl ?_
              refine TriOps.gf rfl rfl ?_
              refine TriOps.q .pickF ?_
              refine .nil ?_
              refine seqQ_n ?_
              refine .condF ?_
              refine .skip ?_
              first
                | exact joinQ_n (ms, T5) ⟨hO5, hR4.trans hR5⟩ ((((((((((EnvLe.nil _).cons rfl).cons rfl).cons rfl).cons rfl).cons rfl).cons rfl).cons rfl).cons rfl).cons rfl) (HLe.refl _)
                | exact joinQ_n (us, T4) ⟨hO4, hR4⟩ ((((((((((EnvLe.nil _).cons rfl).cons rfl).cons rfl).cons rfl).cons rfl).cons rfl).cons rfl).cons rfl).cons rfl) (HLe.refl _)
          · intro y hy
            obtain ⟨us2, T6⟩ := y
            obtain ⟨hO6, hR6⟩ := hy
            simp only at hO6 hR6 ⊢
            have hlen6 := hR6.length
            have hok6 : ∀ x ∈ us2, ok x := fun x hx => hok1 x (hR6.perm.mem_iff.1 hx)
            have hR06 : RP a0 b0 xs us2 := hR1.trans (hR6.mono ha0 hb0 (by omega))
            have hX6 := hX1.rp hR6 ha0 hb0
            have hlb6 := hlb1.rp hR6
            obtain ⟨p, hp⟩ : ∃ x, us2[q]? = some x := ⟨_, List.getElem?_eq_getElem (by omega)⟩
            have okp := hok6 p (List.mem_of_getElem? hp)
            refine seqQ_n ?_
            refine .seq ?_
            refine .seq ?_
            refine .region_tail 13 mixed (by kernel_rfl) ?_
            conv => arg 6; dsimp only [List.take]
            refine TriOps.q .move ?_
            refine TriOps.q .gtr ?_
            refine TriOps.q .move ?_
            refine TriOps.split (t := 83) rfl (fun g17_2 => ?_) (fun g17_2 => ?_)
            · skip
              have ha1 : 0 < a := by have := of_decide_eq_true g17_2; omega
              obtain ⟨w, hw⟩ : ∃ x, us2[a - 1]? = some x := ⟨_, List.getElem?_eq_getElem (by omega)⟩
              have okw := hok6 w (List.mem_of_getElem? hw)
              refine TriOps.gT g17_2 ?_
              refine TriOps.q .move ?_
              refine TriOps.gT g17_2 ?_
              refine TriOps.q .move ?_
              refine TriOps.gT g17_2 ?_
              refine TriOps.q .move ?_
              refine TriOps.gT g17_2 ?_
              refine TriOps.q (.i64 ((a - 1 : Nat) : Int) .sub ⟨by omega, by omega, by omega⟩) ?_
              refine TriOps.gT g17_2 ?_
              refine TriOps.indexO (a - 1) hO6 hw (fun p88 => ?_)
              refine TriOps.gT g17_2 ?_
              refine TriOps.q (.loadA rfl) ?_
              refine TriOps.gT g17_2 ?_
              refine TriOps.q .move ?_
              refine TriOps.gT g17_2 ?_
              refine TriOps.q .move ?_
              refine TriOps.gT g17_2 ?_
              refine TriOps.indexO q hO6 hp (fun p92 => ?_)
              refine TriOps.gT g17_2 ?_
              refine TriOps.q (.loadA rfl) ?_
              refine .nil ?_
              refine TriOps.gT g17_2 ?_
              refine TriOps.callRV (first := []) (captured := caps) (vs := [(fun p : CP => Value.agg (encC p).toArray) w, (fun p : CP => Value.agg (encC p).toArray) p]) (hf w p okw okp _ (fun b o hb => .inl hb)) (fun u hu => ?_)
              subst hu
              refine TriOps.gT g17_2 ?_
              refine TriOps.q .lss ?_
              refine TriOps.gT g17_2 ?_
              refine TriOps.q .not ?_
              refine TriOps.q (.pickTh g17_2) ?_
              refine .nil ?_
              refine seqQ_n ?_
              refine .cond rfl (fun h7 => ?_) (fun h7 => ?_)
              · skip
                have hnl : ltc c w p = false := by
                  have h7' : (!ltc c w p) = true := h7
                  simpa using h7'
                refine .seq ?_
                refine .region ?_
                refine TriOps.q .move ?_
                refine TriOps.q .move ?_
                refine TriOps.q .move ?_
                refine TriOps.q .move ?_
                refine TriOps.q .move ?_
                refine TriOps.callM (partE_spec v us2 T6 a b q p _ hO6 (by omega) ⟨hqa, hqb⟩ hp (by omega) (by omega) hf hok6 so (hlb6.nol so ha1 hw hnl)) (fun u T7 hu => ?_)
                obtain ⟨qs, mid, rfl, hO7, hR7, hP7⟩ := hu
                have hmlo := hP7.lo
                have hmhi := hP7.hi
                refine TriOps.q .assign ?_
                refine .nil ?_
                refine seqQ_n ?_
                refine .seq ?_
                refine .region ?_
                refine TriOps.q .move ?_
                refine TriOps.q .assign ?_
                refine .nil ?_
                refine seqQ_n ?_
                refine .exit (seqQ_x (blkQ_x ?_))
                first
                  | exact loopQ_i (mid + 1, b, l2, _, _, rs, T8) ⟨⟨by simp only; omega, by simp only; omega, by simp only; omega, hl2⟩, hO8, hR08, hX8⟩ (by simp only; omega) ((((((((EnvLe.nil _).cons rfl).cons rfl).cons rfl).cons rfl).cons rfl).cons rfl).cons rfl) (HLe.refl _)
                  | exact loopQ_i (a, mid, l2, _, _, rs, T8) ⟨⟨ha0, hmlo, by simp only; omega, hl2⟩, hO8, hR08, hX8⟩ (by simp only; omega) ((((((((EnvLe.nil _).cons rfl).cons rfl).cons rfl).cons rfl).cons rfl).cons rfl).cons rfl) (HLe.refl _)
                  | exact loopQ_i (mid, b, l2, _, _, qs, T7) ⟨⟨by simp only; omega, hmhi, hb0, hl2⟩, hO7, hR06.trans (hR7.mono ha0 hb0 (by omega)), (hX6.rp hR7 ha0 hb0).eqs so hP7⟩ (by simp only; omega) ((((((((EnvLe.nil _).cons rfl).cons rfl).cons rfl).cons rfl).cons rfl).cons rfl).cons rfl) (HLe.refl _)
              · skip
                refine .skip ?_
                refine seqQ_n ?_
                refine .seq ?_
                refine .region ?_
                refine TriOps.q .move ?_
                refine TriOps.q .move ?_
                refine TriOps.q .move ?_
                refine TriOps.q .move ?_
                refine TriOps.q .move ?_
                refine TriOps.callM (parti_spec v us2 T6 a b q p _ hO6 (by omega) ⟨hqa, hqb⟩ hp (by omega) (by omega) hf hok6 so) (fun u T7 hu => ?_)
                obtain ⟨qs, mid, wp2, rfl, hO7, hR7, hP7⟩ := hu
                have hmlo := hP7.lo
                have hmhi := hP7.hi
                have hlen7 := hR7.length
                have hok7 : ∀ x ∈ qs, ok x := fun x hx => hok6 x (hR7.perm.mem_iff.1 hx)
                have hX7 := hX6.rp hR7 ha0 hb0
                have hR07 : RP a0 b0 xs qs := hR06.trans (hR7.mono ha0 hb0 (by omega))
                have hlb7 := hlb6.rp hR7
                refine TriOps.q .move ?_
                refine TriOps.q .extract ?_
                refine TriOps.q .extract ?_
                refine TriOps.q .assign ?_
                refine TriOps.q .assign ?_
                refine .nil ?_
                refine seqQ_n ?_
                refine .seq ?_
                refine .region ?_
                refine TriOps.q .move ?_
                refine TriOps.q .assign ?_
                refine .nil ?_
                refine seqQ_n ?_
                refine .seq ?_
                refine .region ?_
                refine TriOps.q .move ?_
                refine TriOps.q .move ?_
                refine TriOps.q (.i64 ((mid - a : Nat) : Int) .sub ⟨by omega, by omega, by omega⟩) ?_
                refine TriOps.q .move ?_
                refine TriOps.q .move ?_
                refine TriOps.q (.i64 ((b - mid : Nat) : Int) .sub ⟨by omega, by omega, by omega⟩) ?_
                refine TriOps.q .assign ?_
                refine TriOps.q .assign ?_
                refine .nil ?_
                refine seqQ_n ?_
                refine .seq ?_
                refine .region ?_
                refine TriOps.q .move ?_
                refine TriOps.q (.i64 (((b - a) / 8 : Nat) : Int) .quo ⟨by rw [Int.tdiv_eq_ediv_of_nonneg (by omega)]; omega, by omega, by omega⟩) ?_
                refine TriOps.q .assign ?_
                refine .nil ?_
                refine seqQ_n ?_
                refine .seq ?_
                refine .region ?_
                refine TriOps.q .move ?_
                refine TriOps.q .move ?_
                refine TriOps.q .lss ?_
                refine .nil ?_
                refine seqQ_n ?_
                refine .cond rfl (fun h8 => ?_) (fun h8 => ?_)
                · skip
                  refine .seq ?_
                  refine .region ?_
                  refine TriOps.q .move ?_
                  refine TriOps.q .move ?_
                  refine TriOps.q .geq ?_
                  refine TriOps.q .assign ?_
                  refine .nil ?_
                  refine seqQ_n ?_
                  refine .seq ?_
                  refine .region ?_
                  refine TriOps.q .move ?_
                  refine TriOps.q .move ?_
                  refine TriOps.q .move ?_
                  refine TriOps.q .move ?_
                  refine TriOps.q .move ?_
                  refine TriOps.callM (ih v qs T7 a mid l2 _ hO7 (by omega) (by omega) (by omega) hl2 hf hok7 (hlb7.less (by omega)) (by omega)) (fun u T8 hu => ?_)
                  obtain ⟨rfl, rs, hO8, hR8, hS8⟩ := hu
                  have hX8 := hX7.left so hP7 hR8 hS8 ha0 hb0 (by omega)
                  have hR08 := hR07.trans (hR8.mono ha0 (by omega) (by omega))
                  refine .nil ?_
                  refine seqQ_n ?_
                  refine .region ?_
                  refine TriOps.q .move ?_
                  refine TriOps.q (.i64 ((mid + 1 : Nat) : Int) .add ⟨by omega, by omega, by omega⟩) ?_
                  refine TriOps.q .assign ?_
                  refine .nil ?_
                  refine blkQ_n ?_
                  first
                    | exact loopQ_i (mid + 1, b, l2, _, _, rs, T8) ⟨⟨by simp only; omega, by simp only; omega, by simp only; omega, hl2⟩, hO8, hR08, hX8⟩ (by simp only; omega) ((((((((EnvLe.nil _).cons rfl).cons rfl).cons rfl).cons rfl).cons rfl).cons rfl).cons rfl) (HLe.refl _)
                    | exact loopQ_i (a, mid, l2, _, _, rs, T8) ⟨⟨ha0, hmlo, by simp only; omega, hl2⟩, hO8, hR08, hX8⟩ (by simp only; omega) ((((((((EnvLe.nil _).cons rfl).cons rfl).cons rfl).cons rfl).cons rfl).cons rfl).cons rfl) (HLe.refl _)
                    | exact loopQ_i (mid, b, l2, _, _, qs, T7) ⟨⟨by simp only; omega, hmhi, hb0, hl2⟩, hO7, hR06.trans (hR7.mono ha0 hb0 (by omega)), (hX6.rp hR7 ha0 hb0).eqs so hP7⟩ (by simp only; omega) ((((((((EnvLe.nil _).cons rfl).cons rfl).cons rfl).cons rfl).cons rfl).cons rfl).cons rfl) (HLe.refl _)
                · skip
                  refine .seq ?_
                  refine .region ?_
                  refine TriOps.q .move ?_
                  refine TriOps.q .move ?_
                  refine TriOps.q .geq ?_
                  refine TriOps.q .assign ?_
                  refine .nil ?_
                  refine seqQ_n ?_
                  refine .seq ?_
                  refine .region ?_
                  refine TriOps.q .move ?_
                  refine TriOps.q .move ?_
                  refine TriOps.q (.i64 ((mid + 1 : Nat) : Int) .add ⟨by omega, by omega, by omega⟩) ?_
                  refine TriOps.q .move ?_
                  refine TriOps.q .move ?_
                  refine TriOps.q .move ?_
                  refine TriOps.callM (ih v qs T7 (mid + 1) b l2 _ hO7 (by omega) (by omega) (by omega) hl2 hf hok7 hP7.lb (by omega)) (fun u T8 hu => ?_)
                  obtain ⟨rfl, rs, hO8, hR8, hS8⟩ := hu
                  have hX8 := hX7.right so hP7 hR8 hS8 ha0 hb0 (by omega)
                  have hR08 := hR07.trans (hR8.mono (by omega) hb0 (by omega))
                  refine .nil ?_
                  refine seqQ_n ?_
                  refine .region ?_
                  refine TriOps.q .move ?_
                  refine TriOps.q .assign ?_
                  refine .nil ?_
                  refine blkQ_n ?_
                  first
                    | exact loopQ_i (mid + 1, b, l2, _, _, rs, T8) ⟨⟨by simp only; omega, by simp only; omega, by simp only; omega, hl2⟩, hO8, hR08, hX8⟩ (by simp only; omega) ((((((((EnvLe.nil _).cons rfl).cons rfl).cons rfl).cons rfl).cons rfl).cons rfl).cons rfl) (HLe.refl _)
                    | exact loopQ_i (a, mid, l2, _, _, rs, T8) ⟨⟨ha0, hmlo, by simp only; omega, hl2⟩, hO8, hR08, hX8⟩ (by simp only; omega) ((((((((EnvLe.nil _).cons rfl).cons rfl).cons rfl).cons rfl).cons rfl).cons rfl).cons rfl) (HLe.refl _)
                    | exact loopQ_i (mid, b, l2, _, _, qs, T7) ⟨⟨by simp only; omega, hmhi, hb0, hl2⟩, hO7, hR06.trans (hR7.mono ha0 hb0 (by omega)), (hX6.rp hR7 ha0 hb0).eqs so hP7⟩ (by simp only; omega) ((((((((EnvLe.nil _).cons rfl).cons rfl).cons rfl).cons rfl).cons rfl).cons rfl).cons rfl) (HLe.refl _)
            · skip
              refine TriOps.gF g17_2 ?_
              refine TriOps.gF g17_2 ?_
              refine TriOps.gF g17_2 ?_
              refine TriOps.gF g17_2 ?_
              refine TriOps.gF g17_2 ?_
              refine TriOps.gF g17_2 ?_
              refine TriOps.gF g17_2 ?_
              refine TriOps.gF g17_2 ?_
              refine TriOps.gF g17_2 ?_
              refine TriOps.gF g17_2 ?_
              refine .nil ?_
              refine TriOps.gF g17_2 ?_
              refine TriOps.gF g17_2 ?_
              refine TriOps.gF g17_2 ?_
              refine TriOps.q (.pickFh g17_2) ?_
              refine .nil ?_
              refine seqQ_n ?_
              refine .condF ?_
              refine .skip ?_
              refine seqQ_n ?_
              refine .seq ?_
              refine .region ?_
              refine TriOps.q .move ?_
              refine TriOps.q .move ?_
              refine TriOps.q .move ?_
              refine TriOps.q .move ?_
              refine TriOps.q .move ?_
              refine TriOps.callM (parti_spec v us2 T6 a b q p _ hO6 (by omega) ⟨hqa, hqb⟩ hp (by omega) (by omega) hf hok6 so) (fun u T7 hu => ?_)
              obtain ⟨qs, mid, wp2, rfl, hO7, hR7, hP7⟩ := hu
              have hmlo := hP7.lo
              have hmhi := hP7.hi
              have hlen7 := hR7.length
              have hok7 : ∀ x ∈ qs, ok x := fun x hx => hok6 x (hR7.perm.mem_iff.1 hx)
              have hX7 := hX6.rp hR7 ha0 hb0
              have hR07 : RP a0 b0 xs qs := hR06.trans (hR7.mono ha0 hb0 (by omega))
              have hlb7 := hlb6.rp hR7
              refine TriOps.q .move ?_
              refine TriOps.q .extract ?_
              refine TriOps.q .extract ?_
              refine TriOps.q .assign ?_
              refine TriOps.q .assign ?_
              refine .nil ?_
              refine seqQ_n ?_
              refine .seq ?_
              refine .region ?_
              refine TriOps.q .move ?_
              refine TriOps.q .assign ?_
              refine .nil ?_
              refine seqQ_n ?_
              refine .seq ?_
              refine .region ?_
              refine TriOps.q .move ?_
              refine TriOps.q .move ?_
              refine TriOps.q (.i64 ((mid - a : Nat) : Int) .sub ⟨by omega, by omega, by omega⟩) ?_
              refine TriOps.q .move ?_
              refine TriOps.q .move ?_
              refine TriOps.q (.i64 ((b - mid : Nat) : Int) .sub ⟨by omega, by omega, by omega⟩) ?_
              refine TriOps.q .assign ?_
              refine TriOps.q .assign ?_
              refine .nil ?_
              refine seqQ_n ?_
              refine .seq ?_
              refine .region ?_
              refine TriOps.q .move ?_
              refine TriOps.q (.i64 (((b - a) / 8 : Nat) : Int) .quo ⟨by rw [Int.tdiv_eq_ediv_of_nonneg (by omega)]; omega, by omega, by omega⟩) ?_
              refine TriOps.q .assign ?_
              refine .nil ?_
              refine seqQ_n ?_
              refine .seq ?_
              refine .region ?_
              refine TriOps.q .move ?_
              refine TriOps.q .move ?_
              refine TriOps.q .lss ?_
              refine .nil ?_
              refine seqQ_n ?_
              refine .cond rfl (fun h8 => ?_) (fun h8 => ?_)
              · skip
                refine .seq ?_
                refine .region ?_
                refine TriOps.q .move ?_
                refine TriOps.q .move ?_
                refine TriOps.q .geq ?_
                refine TriOps.q .assign ?_
                refine .nil ?_
                refine seqQ_n ?_
                refine .seq ?_
                refine .region ?_
                refine TriOps.q .move ?_
                refine TriOps.q .move ?_
                refine TriOps.q .move ?_
                refine TriOps.q .move ?_
                refine TriOps.q .move ?_
                refine TriOps.callM (ih v qs T7 a mid l2 _ hO7 (by omega) (by omega) (by omega) hl2 hf hok7 (hlb7.less (by omega)) (by omega)) (fun u T8 hu => ?_)
                obtain ⟨rfl, rs, hO8, hR8, hS8⟩ := hu
                have hX8 := hX7.left so hP7 hR8 hS8 ha0 hb0 (by omega)
                have hR08 := hR07.trans (hR8.mono ha0 (by omega) (by omega))
                refine .nil ?_
                refine seqQ_n ?_
                refine .region ?_
                refine TriOps.q .move ?_
                refine TriOps.q (.i64 ((mid + 1 : Nat) : Int) .add ⟨by omega, by omega, by omega⟩) ?_
                refine TriOps.q .assign ?_
                refine .nil ?_
                refine blkQ_n ?_
                first
                  | exact loopQ_i (mid + 1, b, l2, _, _, rs, T8) ⟨⟨by simp only; omega, by simp only; omega, by simp only; omega, hl2⟩, hO8, hR08, hX8⟩ (by simp only; omega) ((((((((EnvLe.nil _).cons rfl).cons rfl).cons rfl).cons rfl).cons rfl).cons rfl).cons rfl) (HLe.refl _)
                  | exact loopQ_i (a, mid, l2, _, _, rs, T8) ⟨⟨ha0, hmlo, by simp only; omega, hl2⟩, hO8, hR08, hX8⟩ (by simp only; omega) ((((((((EnvLe.nil _).cons rfl).cons rfl).cons rfl).cons rfl).cons rfl).cons rfl).cons rfl) (HLe.refl _)
                  | exact loopQ_i (mid, b, l2, _, _, qs, T7) ⟨⟨by simp only; omega, hmhi, hb0, hl2⟩, hO7, hR06.trans (hR7.mono ha0 hb0 (by omega)), (hX6.rp hR7 ha0 hb0).eqs so hP7⟩ (by simp only; omega) ((((((((EnvLe.nil _).cons rfl).cons rfl).cons rfl).cons rfl).cons rfl).cons rfl).cons rfl) (HLe.refl _)
              · skip
                refine .seq ?_
                refine .region ?_
                refine TriOps.q .move ?_
                refine TriOps.q .move ?_
                refine TriOps.q .geq ?_
                refine TriOps.q .assign ?_
                refine .nil ?_
                refine seqQ_n ?_
                refine .seq ?_
                refine .region ?_
                refine TriOps.q .move ?_
                refine TriOps.q .move ?_
                refine TriOps.q (.i64 ((mid + 1 : Nat) : Int) .add ⟨by omega, by omega, by omega⟩) ?_
                refine TriOps.q .move ?_
                refine TriOps.q .move ?_
                refine TriOps.q .move ?_
                refine TriOps.callM (ih v qs T7 (mid + 1) b l2 _ hO7 (by omega) (by omega) (by omega) hl2 hf hok7 hP7.lb (by omega)) (fun u T8 hu => ?_)
                obtain ⟨rfl, rs, hO8, hR8, hS8⟩ := hu
                have hX8 := hX7.right so hP7 hR8 hS8 ha0 hb0 (by omega)
                have hR08 := hR07.trans (hR8.mono (by omega) hb0 (by omega))
                refine .nil ?_
                refine seqQ_n ?_
                refine .region ?_
                refine TriOps.q .move ?_
                refine TriOps.q .assign ?_
                refine .nil ?_
                refine blkQ_n ?_
                first
                  | exact loopQ_i (mid + 1, b, l2, _, _, rs, T8) ⟨⟨by simp only; omega, by simp only; omega, by simp only; omega, hl2⟩, hO8, hR08, hX8⟩ (by simp only; omega) ((((((((EnvLe.nil _).cons rfl).cons rfl).cons rfl).cons rfl).cons rfl).cons rfl).cons rfl) (HLe.refl _)
                  | exact loopQ_i (a, mid, l2, _, _, rs, T8) ⟨⟨ha0, hmlo, by simp only; omega, hl2⟩, hO8, hR08, hX8⟩ (by simp only; omega) ((((((((EnvLe.nil _).cons rfl).cons rfl).cons rfl).cons rfl).cons rfl).cons rfl).cons rfl) (HLe.refl _)
                  | exact loopQ_i (mid, b, l2, _, _, qs, T7) ⟨⟨by simp only; omega, hmhi, hb0, hl2⟩, hO7, hR06.trans (hR7.mono ha0 hb0 (by omega)), (hX6.rp hR7 ha0 hb0).eqs so hP7⟩ (by simp only; omega) ((((((((EnvLe.nil _).cons rfl).cons rfl).cons rfl).cons rfl).cons rfl).cons rfl).cons rfl) (HLe.refl _)
theorem pdq_spec (so : SO (ltc c)) (n : Nat) : Pdq c ok f caps n := by
  induction n with
  | zero => exact fun v xs T a b lim R _ _ _ _ _ _ _ _ hn => by omega
  | succ n ih => exact fun v xs T a b lim R h1 h2 h3 h4 h5 h6 h7 h8 h9 => pdq_step n ih so v xs T a b lim R h1 h2 h3 h4 h5 h6 h7 h8 h9
end
end SCL
end Go.Proofs.Ytlmdgdehjpahiaa
