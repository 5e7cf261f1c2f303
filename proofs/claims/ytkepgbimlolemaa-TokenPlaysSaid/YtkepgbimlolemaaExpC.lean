/- Expiry's Queue: New, Set, At, Drop, Len. No condition. -/
import Derived.Test.YtkepgbimlolemaaKv
import Derived.Test.YtkepgbimlolemaaExpB
set_option linter.unusedVariables false
namespace Go.Proofs.Ytkepgbimlolemaa

abbrev ptrV (b : Nat) : Value := .pointer (some ⟨b, 0, none⟩)
def XE.kb (e : XE) : ByteArray × Nat := (e.key, e.b)
def XE.ka (e : XE) : ByteArray × Int := (e.key, e.at_)
/-- A queue: its keys with their times. -/
def QI (q : Nat) (A : List (ByteArray × Int)) (T : Seg) : Prop := ∃ L vm M T1 Tm, T = T1 ++ Tm ∧ TI q vm L T1 ∧ MS (fun s : ByteArray => .string s) ptrV vm M Tm ∧
  M.Perm (L.map XE.kb) ∧ Heap elt L L.length ∧ (L.map XE.ka).Perm A

theorem QI.nodup {q : Nat} {A : List (ByteArray × Int)} {T : Seg} (h : QI q A T) : (A.map (·.1)).Nodup := by
  obtain ⟨L, vm, M, T1, Tm, rfl, hT, hM, hp, hh, hA⟩ := h
  have h1 := (hp.map (·.1)).nodup_iff.1 hM.nd
  have h2 := (hA.map (·.1)).nodup_iff.1 (by rw [List.map_map] at h1 ⊢; exact h1)
  exact h2
theorem QI.len {q : Nat} {A : List (ByteArray × Int)} {T : Seg} (h : QI q A T) : A.length ≤ 1000000000 := by
  obtain ⟨L, vm, M, T1, Tm, rfl, ⟨vt, Tt, Te, _, _, _, hl⟩, hM, hp, hh, hA⟩ := h
  have := hA.length_eq
  simp at this; omega
theorem QI.perm {q : Nat} {A B : List (ByteArray × Int)} {T : Seg} (h : QI q A T) (hp : A.Perm B) : QI q B T := by
  obtain ⟨L, vm, M, T1, Tm, h1, h2, h3, h4, h5, h6⟩ := h
  exact ⟨L, vm, M, T1, Tm, h1, h2, h3, h4, h5, h6.trans hp⟩

theorem qnew_spec (R : Rds) : Spec Try.prog 49 [] R [] fun v H' => ∃ T, H' = [T] ∧ ∃ q, v = .pointer (some ⟨q, 0, none⟩) ∧ QI q [] T := by
  refine Spec.body Try.func49 rfl Try.results49 Try.ntmps49 rfl ?_
  refine .seq ?_
  refine .region ?_
  refine TriOps.q .assign ?_
  refine .nil ?_
  refine seqQ_n ?_
  refine .seq ?_
  refine .region ?_
  refine TriOps.makeMap (fun b1 => ?_)
  refine TriOps.q .bld ?_
  refine TriOps.boxA rfl (fun b3 => ?_)
  refine TriOps.q .assign ?_
  refine .nil ?_
  refine seqQ_n ?_
  refine .ret (retQ_r _ (.one (.tmp rfl)) (.one [0, 0] _) ?_)
  exact ⟨_, rfl, _, rfl, [], _, [], [(b3, .cells [.slice none 0 0, .map (some b1)].toArray 148 (0, 0))], _, rfl, ⟨_, [], [], rfl, OS.nil, .refl _, by simp⟩, MS.nil, .refl _, fun k h0 hk => by simp at hk, .refl _⟩
theorem qok_spec (q : Nat) (vt : Value) (b : Nat) (R : Rds) [pc : PC R (.pointer (some ⟨q, 0, none⟩)) [vt, .map (some b)]] :
    Spec Try.prog 112 [.pointer (some ⟨q, 0, none⟩)] R [] fun v H' => v = .bool true ∧ H' = [] := by
  refine Spec.body Try.func112 rfl Try.results112 Try.ntmps112 rfl ?_
  refine .seq ?_
  refine .region ?_
  refine TriOps.q .assign ?_
  refine .nil ?_
  refine seqQ_n ?_
  refine .seq ?_
  refine .region ?_
  refine TriOps.q .move ?_
  refine TriOps.q (.neNilP rfl rfl) ?_
  refine TriOps.q .move ?_
  refine TriOps.gt rfl ?_
  refine TriOps.q .move ?_
  refine TriOps.gt rfl ?_
  refine TriOps.q (.nilCheck rfl) ?_
  refine TriOps.gt rfl ?_
  refine TriOps.q (.fieldAddr rfl) ?_
  refine TriOps.gt rfl ?_
  refine TriOps.q (.load1 rfl) ?_
  refine TriOps.gt rfl ?_
  refine TriOps.q (.neNilM rfl rfl) ?_
  refine TriOps.q .pickT ?_
  refine TriOps.q .assign ?_
  refine .nil ?_
  refine seqQ_n ?_
  refine .ret (retQ_r _ (.one (.tmp rfl)) (.none _) ?_)
  exact ⟨rfl, rfl⟩
theorem qlen_spec (q : Nat) (A : List (ByteArray × Int)) (T : Seg) (h : QI q A T) (R : Rds) (hr : ∀ p ∈ T, R p.1 p.2) :
    Spec Try.prog 92 [.pointer (some ⟨q, 0, none⟩)] R [] fun v H' => v = .int .i64 A.length ∧ H' = [] := by
  obtain ⟨L, vm, M, T1, Tm, rfl, ⟨vt, Tt, Te, rfl, hO, hE, hl⟩, hM, hp, hh, hA⟩ := h
  obtain ⟨bm, rfl⟩ : ∃ b, vm = .map (some b) := by obtain ⟨b, es, clock, h1, _⟩ := hM; exact ⟨b, h1⟩
  have pq : PC R (.pointer (some ⟨q, 0, none⟩)) [vt, .map (some bm)] := PC.of (E := 148) (fr := (0, 0)) (hr (q, .cells [vt, .map (some bm)].toArray 148 (0, 0)) (by simp))
  have hs : RS R 1 encP vt L := hO.rs fun p hp => hr p (by simp [hp])
  have i1 := hO.oneCell
  refine Spec.body Try.func92 rfl Try.results92 Try.ntmps92 rfl ?_
  refine .seq ?_
  refine .region ?_
  refine TriOps.q .assign ?_
  refine .nil ?_
  refine seqQ_n ?_
  refine .seq ?_
  refine .seq ?_
  refine .region ?_
  refine TriOps.q .move ?_
  refine TriOps.callR (qok_spec q vt bm _) (fun v hv => ?_)
  subst hv
  refine TriOps.q .not ?_
  refine .nil ?_
  refine seqQ_n ?_
  refine .condF ?_
  refine .skip ?_
  refine seqQ_n ?_
  refine .seq ?_
  refine .region ?_
  refine TriOps.q .move ?_
  refine TriOps.q (.nilCheck rfl) ?_
  refine TriOps.q (.fieldAddr rfl) ?_
  refine TriOps.q (.load1 rfl) ?_
  refine TriOps.q (.lenR hs) ?_
  refine TriOps.q .assign ?_
  refine .nil ?_
  refine seqQ_n ?_
  refine .ret (retQ_r _ (.one (.tmp rfl)) (.none _) ?_)
  exact ⟨by rw [← hA.length_eq]; simp, rfl⟩
theorem at_get {L : List XE} {M : List (ByteArray × Nat)} {A : List (ByteArray × Int)} (hn : (M.map (·.1)).Nodup) (hp : M.Perm (L.map XE.kb)) (hA : (L.map XE.ka).Perm A) (key : ByteArray) :
    (mget key M = none ∧ mget key A = none ∧ ∀ e ∈ L, e.key ≠ key) ∨ ∃ (i : Nat) (e : XE), L[i]? = some e ∧ e.key = key ∧ mget key M = some e.b ∧ mget key A = some e.at_ := by
  have hnL : ((L.map XE.kb).map (·.1)).Nodup := (hp.map (·.1)).nodup_iff.1 hn
  have hnA : (A.map (·.1)).Nodup := (hA.map (·.1)).nodup_iff.1 (by rw [List.map_map] at hnL ⊢; exact hnL)
  cases hm : mget key M with
  | none =>
    have h1 := mget_none.1 hm
    have h2 : ∀ e ∈ L, e.key ≠ key := fun e he hk => h1 (by
      rw [(hp.map (·.1)).mem_iff, List.map_map]
      exact List.mem_map.2 ⟨e, he, hk⟩)
    refine .inl ⟨rfl, mget_none.2 fun hc => ?_, h2⟩
    rw [← (hA.map (·.1)).mem_iff, List.map_map] at hc
    obtain ⟨e, he, hk⟩ := List.mem_map.1 hc
    exact h2 e he hk
  | some b =>
    have h1 := hp.mem_iff.1 (mget_some hm)
    obtain ⟨e, he, hk⟩ := List.mem_map.1 h1
    simp only [XE.kb, Prod.mk.injEq] at hk
    obtain ⟨i, hi, hie⟩ := List.mem_iff_getElem.1 he
    refine .inr ⟨i, e, by rw [List.getElem?_eq_getElem hi, hie], hk.1, by rw [hk.2], mget_of_mem hnA (hA.mem_iff.1 (List.mem_map.2 ⟨e, he, ?_⟩))⟩
    simp [XE.ka, hk.1]
end Go.Proofs.Ytkepgbimlolemaa
