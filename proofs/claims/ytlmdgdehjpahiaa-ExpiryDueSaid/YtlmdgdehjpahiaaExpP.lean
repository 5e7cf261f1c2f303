/- Expiry's Queue: its keys, in order. No condition. -/
import Derived.Test.YtlmdgdehjpahiaaExpE
import Derived.Test.YtlmdgdehjpahiaaSXEG
set_option linter.unusedVariables false
set_option maxRecDepth 4000
namespace Go.Proofs.Ytlmdgdehjpahiaa

theorem ltc_ecmp {e f : XE} : ltc ecmp e f = elt e f := rfl
theorem ltc_so : SO (ltc ecmp) := elt_so
/-- In order by time and key. -/
def KSort (L : List (ByteArray × Int)) : Prop := L.Pairwise fun p r => kaLt r p = false
theorem kaLt_anti {p r : ByteArray × Int} (h1 : kaLt p r = false) (h2 : kaLt r p = false) : p = r := by
  obtain ⟨k1, a1⟩ := p
  obtain ⟨k2, a2⟩ := r
  simp only [kaLt, Bool.or_eq_false_iff, decide_eq_false_iff_not, Bool.and_eq_false_iff] at h1 h2
  have ha : a1 = a2 := by omega
  subst ha
  have s1 : sLt k1 k2 = false := by simpa using h1.2
  have s2 : sLt k2 k1 = false := by simpa using h2.2
  rw [sLt_conn s1 s2]
theorem KSort.uniq {A B : List (ByteArray × Int)} (ha : KSort A) (hb : KSort B) (h : A.Perm B) : A = B :=
  List.Perm.eq_of_pairwise (fun p r _ _ h1 h2 => kaLt_anti h2 h1) ha hb h
theorem SR.pw {α : Type} {lt : α → α → Bool} {ys : List α} (h : SR lt ys 0 ys.length) : ys.Pairwise fun p r => lt r p = false := by
  rw [List.pairwise_iff_getElem]
  intro i j hi hj hij
  exact h i j (Nat.zero_le _) hij hj _ _ (List.getElem?_eq_getElem hi) (List.getElem?_eq_getElem hj)

theorem eclone_spec (v : Value) (xs : List XE) (R : Rds) (h : RS R 1 encP v xs) (hl : xs.length ≤ 1000000000) :
    Spec Try.prog 82 [v] R [] fun v' H' => ∃ T, H' = [T] ∧ OS 118 1 encP v' xs T := by
  obtain ⟨pr, cap, rfl⟩ := h.val
  have hx : ∀ H, RS (Rx R H) 1 encP (.slice pr xs.length cap) xs := fun H => h.rx
  refine Spec.segs (H' := [[]]) (by simp) ?_
  refine Spec.body Try.func82 rfl Try.results82 Try.ntmps82 rfl ?_
  refine .seq ?_
  refine .region ?_
  refine TriOps.q .assign ?_
  refine .nil ?_
  refine seqQ_n ?_
  refine .seq ?_
  refine .seq ?_
  refine .region ?_
  refine TriOps.q .move ?_
  refine TriOps.q (.eqNilS rfl rfl) ?_
  refine .nil ?_
  refine seqQ_n ?_
  refine .cond rfl (fun h1 => ?_) (fun h1 => ?_)
  · skip
    refine .seq ?_
    refine .region ?_
    refine TriOps.q .assign ?_
    refine .nil ?_
    refine seqQ_n ?_
    refine .ret (seqQ_r (retQ_r _ (.one (.tmp rfl)) (.one [0] _) ?_))
    obtain rfl : pr = none := by simpa using h1
    have := h.none_nil
    subst this
    exact ⟨[], rfl, OS.nil⟩
  · skip
    refine .skip ?_
    refine seqQ_n ?_
    refine .seq ?_
    refine .region ?_
    refine TriOps.buildSlice0 (fun b5 => ?_)
    refine TriOps.q .move ?_
    refine TriOps.append (OS.empty (enc := encP) (sz := 1)) (hx _) (by simp; omega) (fun v' T' h3 => ?_)
    refine TriOps.q .assign ?_
    refine .nil ?_
    refine seqQ_n ?_
    refine .ret (retQ_r _ (.one (.tmp rfl)) (.one [0] _) ?_)
    exact ⟨T', by simp [take], by simpa using h3⟩
theorem qkeys_spec (q : Nat) (A : List (ByteArray × Int)) (T : Seg) (h : QI q A T) (R : Rds) (hr : ∀ p ∈ T, R p.1 p.2) :
    Spec Try.prog 34 [.pointer (some ⟨q, 0, none⟩)] R [] fun v H' => ∃ To, H' = [To] ∧ ∃ ks, OS 9 1 encS v (ks.map (·.1)) To ∧ ks.Perm A ∧ KSort ks := by
  obtain ⟨L, vm, M, T1, Tm, rfl, hTI, hM, hp, hh, hA⟩ := h
  have hmem := fun (i : Nat) (e : XE) (hi : L[i]? = some e) => hTI.mem hi
  obtain ⟨vt, Tt, Te, rfl, hO, hE, hl⟩ := hTI
  obtain ⟨bm, rfl⟩ : ∃ b, vm = .map (some b) := by obtain ⟨b, es, clock, h1, _⟩ := hM; exact ⟨b, h1⟩
  have pq : PC R (.pointer (some ⟨q, 0, none⟩)) [vt, .map (some bm)] := PC.of (E := 67) (fr := (0, 0)) (hr (q, .cells [vt, .map (some bm)].toArray 67 (0, 0)) (by simp))
  have hs : RS R 1 encP vt L := hO.rs fun p hp => hr p (by simp [hp])
  have hok : ∀ e ∈ L, ∃ i, R e.b (e.obj i) := fun e he => by
    obtain ⟨i, hi, hie⟩ := List.mem_iff_getElem.1 he
    have hi' : L[i]? = some e := by rw [List.getElem?_eq_getElem hi, hie]
    refine ⟨i, hr (e.b, e.obj i) ?_⟩
    have := hmem i e hi'
    simp only [List.mem_append] at this ⊢
    exact .inl this
  have hf : FnC Try.prog 84 [] R XE.ptr ecmp (fun e => ∃ i, R e.b (e.obj i)) := fun x y ⟨i, hx⟩ ⟨k, hy⟩ R2 h2 => ecmp_spec x y i k R2 (h2 _ _ hx) (h2 _ _ hy)
  have i1 := hO.oneCell
  refine Spec.segs (H' := [[]]) (by simp) ?_
  refine Spec.body Try.func34 rfl Try.results34 Try.ntmps34 rfl ?_
  refine .seq ?_
  refine .region ?_
  refine TriOps.q .assign ?_
  refine .nil ?_
  refine seqQ_n ?_
  refine .seq ?_
  refine .seq ?_
  refine .region ?_
  refine TriOps.q .move ?_
  refine TriOps.callR (qok_spec q vt bm _) (fun v hv => ?_)
  subst hv
  refine TriOps.q .not ?_
  refine .nil ?_
  refine seqQ_n ?_
  refine .condF ?_
  refine .skip ?_
  refine seqQ_n ?_
  refine .seq ?_
  refine .region ?_
  refine TriOps.q .move ?_
  refine TriOps.q (.nilCheck rfl) ?_
  refine TriOps.q (.fieldAddr rfl) ?_
  refine TriOps.q (.load1 rfl) ?_
  refine TriOps.callN (eclone_spec vt L _ hs.rx hl) (fun v' T2 hO2 => ?_)
  have i2 := hO2.oneCell
  refine TriOps.q .assign ?_
  refine .nil ?_
  refine seqQ_n ?_
  refine .seq ?_
  refine .region ?_
  refine TriOps.q .move ?_
  refine TriOps.callM (SXE.sort_spec (caps := []) v' L T2 _ hO2 hl hf hok ltc_so) (fun u T3 hu => ?_)
  obtain ⟨rfl, ys, hO3, hpy, hsy⟩ := hu
  have hly := hpy.length_eq
  refine .nil ?_
  refine seqQ_n ?_
  refine .seq ?_
  refine .region ?_
  refine TriOps.q .assign ?_
  refine .nil ?_
  refine seqQ_n ?_
  refine .seq ?_
  refine .seq ?_
  refine .region ?_
  refine TriOps.q .move ?_
  refine TriOps.q (.lenO hO3) ?_
  refine TriOps.q .move ?_
  refine .nil ?_
  refine seqQ_n ?_
  refine .block ?_
  refine .loop (X := Nat × Value × Seg) (fun y => y.1 ≤ ys.length ∧ OS 9 1 encS y.2.1 ((ys.take y.1).map (·.key)) y.2.2) (fun y => [(4, y.2.1), (17, v'), (18, .int .i64 (ys.length : Nat)), (19, .int .i64 (y.1 : Nat))]) (fun y => [T3, y.2.2]) (fun y => ys.length - y.1) (0, .slice none 0 0, []) ⟨Nat.zero_le _, OS.nil⟩ (((((EnvLe.nil _).cons rfl).cons rfl).cons rfl).cons rfl) (HLe.refl _) ?_
  rintro ⟨k, vo, To⟩ ⟨hk, hO4⟩
  simp only at hk hO4 ⊢
  have i4 := hO4.oneCell
  refine .seq ?_
  refine .region ?_
  refine TriOps.q .lss ?_
  refine .nil ?_
  refine seqQ_n ?_
  refine .seq ?_
  refine .cond rfl (fun h2 => ?_) (fun h2 => ?_)
  · skip
    have hk2 : k < ys.length := by have := of_decide_eq_true h2; omega
    obtain ⟨x, hx⟩ : ∃ x, ys[k]? = some x := ⟨_, List.getElem?_eq_getElem hk2⟩
    obtain ⟨i, hxi⟩ := hok x (hpy.mem_iff.1 (List.mem_of_getElem? hx))
    have px : PC R x.ptr (x.cells i) := PC.of hxi
    refine .skip ?_
    refine seqQ_n ?_
    refine .seq ?_
    refine .block ?_
    refine .seq ?_
    refine .region ?_
    refine TriOps.indexO k hO3 hx (fun p21 => ?_)
    refine TriOps.q (.load1 rfl) ?_
    refine TriOps.q .assign ?_
    refine .nil ?_
    refine seqQ_n ?_
    refine .region ?_
    refine TriOps.q .move ?_
    refine TriOps.q .move ?_
    refine TriOps.q (.nilCheck rfl) ?_
    refine TriOps.q (.fieldAddr rfl) ?_
    refine TriOps.q (.load1 rfl) ?_
    refine TriOps.buildSlice11 (fun b28 => ?_)
    refine TriOps.append hO4 (RS.lits (xs := [x.key]) rfl (by simp [encS]) (by simp [encS, oneCell])) (by simp; omega) (fun v5 T5 hO5 => ?_)
    refine TriOps.q .assign ?_
    refine .nil ?_
    refine blkQ_n (seqQ_n ?_)
    refine .region ?_
    refine TriOps.q (.i64 ((k + 1 : Nat) : Int) .add ⟨by omega, by omega, by omega⟩) ?_
    refine TriOps.q .move ?_
    refine .nil ?_
    exact loopQ_i (k + 1, v5, T5) ⟨hk2, by
      rw [List.take_add_one, hx, List.map_append]
      exact hO5⟩ (by simp only; omega) (((((EnvLe.nil _).cons rfl).cons rfl).cons rfl).cons rfl) (HLe.pick [1, 1] _)
  · skip
    refine .exit (seqQ_x (loopQ_x (blkQ_x ?_)))
    refine seqQ_n ?_
    refine .seq ?_
    refine .region ?_
    refine TriOps.q .move ?_
    refine TriOps.q .assign ?_
    refine .nil ?_
    refine seqQ_n ?_
    refine .ret (retQ_r _ (.one (.tmp rfl)) (.one [1] _) ?_)
    have hk3 : k = ys.length := by have := of_decide_eq_false h2; omega
    subst hk3
    rw [List.take_length] at hO4
    refine ⟨To, by simp [take], ys.map XE.ka, by rw [List.map_map]; exact hO4, (hpy.map _).trans hA, ?_⟩
    unfold KSort
    rw [List.pairwise_map]
    exact hsy.pw.imp fun {a b} hab => by rw [← elt_ka]; exact hab
end Go.Proofs.Ytlmdgdehjpahiaa
