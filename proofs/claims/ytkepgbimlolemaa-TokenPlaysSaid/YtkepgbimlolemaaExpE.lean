/- Expiry's Queue: Drop, Next, Due. No condition. -/
import Derived.Test.YtkepgbimlolemaaExpD
set_option linter.unusedVariables false
set_option maxRecDepth 4000
namespace Go.Proofs.Ytkepgbimlolemaa

theorem rest_pairs {L L' : List XE} {x : XE} {M : List (ByteArray × Nat)} {A : List (ByteArray × Int)} (hn : (M.map (·.1)).Nodup) (hp : M.Perm (L.map XE.kb)) (hA : (L.map XE.ka).Perm A) (hL : L.Perm (x :: L')) :
    (mdel x.key M).Perm (L'.map XE.kb) ∧ (L'.map XE.ka).Perm (kdel x.key A) := by
  have h1 : M.Perm ((x.key, x.b) :: L'.map XE.kb) := hp.trans (hL.map _)
  have h2 : A.Perm ((x.key, x.at_) :: L'.map XE.ka) := hA.symm.trans (hL.map _)
  have n1 := (h1.map (·.1)).nodup_iff.1 hn
  simp only [List.map_cons, List.nodup_cons] at n1
  have n2 : x.key ∉ (L'.map XE.ka).map (·.1) := by rw [List.map_map] at n1 ⊢; exact n1.1
  refine ⟨?_, ?_⟩
  · rw [mdel_kdel hn]
    have := kdel_perm (k := x.key) h1
    rwa [kdel_cons n1.1] at this
  · have := kdel_perm (k := x.key) h2
    rw [kdel_cons n2] at this
    exact this.symm

theorem qdrop_spec (q : Nat) (A : List (ByteArray × Int)) (T : Seg) (h : QI q A T) (key : ByteArray) (R : Rds) :
    Spec Try.prog 91 [.pointer (some ⟨q, 0, none⟩), .string key] R [T] fun v H' => ∃ T', H' = [T'] ∧ v = .bool (mget key A).isSome ∧ QI q (kdel key A) T' := by
  have hnA := h.nodup
  obtain ⟨L, vm, M, T1, Tm, rfl, hT, hM, hp, hh, hA⟩ := h
  obtain ⟨bm, rfl⟩ : ∃ b, vm = .map (some b) := by obtain ⟨b, es, clock, h1, _⟩ := hM; exact ⟨b, h1⟩
  obtain ⟨vt, i1, ps⟩ := hT.ps
  have hg := at_get hM.nd hp hA key
  refine Spec.segs (H' := [T1, Tm]) (by simp) ?_
  refine Spec.body Try.func91 rfl Try.results91 Try.ntmps91 rfl ?_
  refine .seq ?_
  refine .region ?_
  refine TriOps.q .assign ?_
  refine .nil ?_
  refine seqQ_n ?_
  refine .seq ?_
  refine .seq ?_
  refine .region ?_
  refine TriOps.q .move ?_
  refine TriOps.callR (qok_spec q vt bm _) (fun v hv => ?_)
  subst hv
  refine TriOps.q .not ?_
  refine .nil ?_
  refine seqQ_n ?_
  refine .condF ?_
  refine .skip ?_
  refine seqQ_n ?_
  refine .seq ?_
  refine .region ?_
  refine TriOps.q .move ?_
  refine TriOps.q (.nilCheck rfl) ?_
  refine TriOps.q (.fieldAddr rfl) ?_
  refine TriOps.q (.load1 rfl) ?_
  refine TriOps.q .move ?_
  refine TriOps.q (.lookup2 hM.rx rfl (show _ = some (Value.string key) from rfl)) ?_
  refine TriOps.q .move ?_
  refine TriOps.q .extract ?_
  refine TriOps.q .extract ?_
  refine TriOps.q .assign ?_
  refine TriOps.q .assign ?_
  refine .nil ?_
  refine seqQ_n ?_
  refine .seq ?_
  refine .seq ?_
  refine .region ?_
  refine TriOps.q .move ?_
  refine .nil ?_
  refine seqQ_n ?_
  refine .cond rfl (fun h2 => ?_) (fun h2 => ?_)
  · skip
    obtain ⟨i, e, hi, hk, hm, ha⟩ : ∃ (i : Nat) (e : XE), L[i]? = some e ∧ e.key = key ∧ mget key M = some e.b ∧ mget key A = some e.at_ := by
      rcases hg with ⟨h3, _⟩ | h3
      · rw [h3] at h2; simp at h2
      · exact h3
    have me := hT.mem hi
    have pe : PS T1 (.pointer (some ⟨e.b, 0, none⟩)) (e.cells i) := PS.of me
    rw [hm]
    simp only [Option.map_some, Option.getD_some]
    refine .seq ?_
    refine .region_tail 8 mixed (by kernel_rfl) ?_
    conv => arg 6; dsimp only [List.take]
    refine TriOps.q .move ?_
    refine TriOps.q (.nilCheck rfl) ?_
    refine TriOps.q (.fieldAddr rfl) ?_
    refine TriOps.q .makeInterface ?_
    refine TriOps.q .move ?_
    refine TriOps.q (.nilCheck rfl) ?_
    refine TriOps.q (.fieldAddr rfl) ?_
    refine TriOps.q (.load1 rfl) ?_
    refine .nil ?_
    refine TriOps.callM (remove_spec (tree_hi q (.map (some bm)) _) elt_so L T1 hT i e hi hh (fun x => .iface 157 x.ptr) (TJ q (.map (some bm)) e) (fun L' T' h' _ => tree_pop q _ L' e T' h' _)) (fun v T2 hv => ?_)
    obtain ⟨rfl, L2, ⟨T3, i3, hp3, hT3⟩, hp2, hh2⟩ := hv
    obtain ⟨vt', i1', ps'⟩ := hT3.ps
    refine TriOps.sub (H' := [T3, Tm, [(e.b, e.obj i3)]]) (HLe.ofPerm (by
      simp only [List.flatten_cons, List.flatten_nil, List.append_nil]
      refine (hp3.append_right Tm).trans ?_
      rw [List.append_assoc]
      exact List.perm_append_comm.append_left T3)) ?_
    refine .nil ?_
    refine seqQ_n ?_
    refine .region ?_
    refine TriOps.q .move ?_
    refine TriOps.q (.nilCheck rfl) ?_
    refine TriOps.q (.fieldAddr rfl) ?_
    refine TriOps.q (.load1 rfl) ?_
    refine TriOps.q .move ?_
    refine TriOps.delete hM rfl (show _ = some (Value.string key) from rfl) (fun Tm2 hM2 _ => ?_)
    refine .nil ?_
    refine seqQ_n ?_
    refine .seq ?_
    refine .region ?_
    refine TriOps.q .move ?_
    refine TriOps.q .assign ?_
    refine .nil ?_
    refine seqQ_n ?_
    refine .ret (retQ_r _ (.one (.tmp rfl)) (HLe.one [0, 0] _) ?_)
    obtain ⟨g1, g2⟩ := rest_pairs hM.nd hp hA hp2
    rw [hk] at g1 g2
    refine ⟨T3 ++ Tm2, by simp [take, dropAt], by rw [ha]; rfl, L2, _, _, T3, Tm2, rfl, hT3, hM2, g1, hh2, g2⟩
  · skip
    have hnone : mget key M = none ∧ mget key A = none ∧ ∀ e ∈ L, e.key ≠ key := by
      rcases hg with h3 | ⟨i, e, _, _, h3, _⟩
      · exact h3
      · rw [h3] at h2; simp at h2
    refine .skip ?_
    refine seqQ_n ?_
    refine .seq ?_
    refine .region ?_
    refine TriOps.q .move ?_
    refine TriOps.q .assign ?_
    refine .nil ?_
    refine seqQ_n ?_
    refine .ret (retQ_r _ (.one (.tmp rfl)) (HLe.one [0, 0] _) ?_)
    refine ⟨T1 ++ Tm, by simp [take, dropAt], by rw [hnone.1, hnone.2.1]; rfl, L, _, M, T1, Tm, rfl, hT, hM, hp, hh, ?_⟩
    rw [kdel_none (mget_none.1 hnone.2.1)]
    exact hA
def kaLt (p r : ByteArray × Int) : Bool := decide (p.2 < r.2) || decide (p.2 = r.2) && sLt p.1 r.1
theorem elt_ka {e f : XE} : elt e f = kaLt e.ka f.ka := by
  rw [show kaLt e.ka f.ka = (decide (e.at_ < f.at_) || decide (e.at_ = f.at_) && sLt e.key f.key) from rfl, Bool.eq_iff_iff, ecmp_lt]
  simp only [Bool.or_eq_true, Bool.and_eq_true, decide_eq_true_eq]
theorem TI.read {q : Nat} {vm : Value} {L : List XE} {T : Seg} (h : TI q vm L T) : ∃ vt, One vt ∧ PS T (.pointer (some ⟨q, 0, none⟩)) [vt, vm] ∧ RS (sg T) 1 encP vt L ∧ ∀ (i : Nat) (e : XE), L[i]? = some e → PS T (.pointer (some ⟨e.b, 0, none⟩)) (e.cells i) := by
  have hm := fun (i : Nat) (e : XE) (hi : L[i]? = some e) => h.mem hi
  obtain ⟨vt, Tt, Te, rfl, hO, hE, hl⟩ := h
  exact ⟨vt, hO.oneCell, PS.of (E := 148) (fr := (0, 0)) (by simp), hO.rs fun p hp => by simp [sg, hp], fun i e hi => PS.of (hm i e hi)⟩
/-- What Due takes: B, in order; what it leaves: A'. -/
structure DueR (A : List (ByteArray × Int)) (now : Int) (B A' : List (ByteArray × Int)) : Prop where
  pm : A.Perm (B ++ A')
  ord : B.Pairwise fun p r => kaLt r p = false
  le : ∀ p ∈ B, p.2 ≤ now
  front : ∀ p ∈ B, ∀ r ∈ A', kaLt r p = false
theorem DueR.filter {A B A' : List (ByteArray × Int)} {now : Int} (h : DueR A now B A') (h' : ∀ p ∈ A', now < p.2) : A'.Perm (A.filter fun p => decide (now < p.2)) := by
  have h1 := h.pm.filter (fun p => decide (now < p.2))
  rw [List.filter_append] at h1
  have e1 : B.filter (fun p => decide (now < p.2)) = [] := by
    rw [List.filter_eq_nil_iff]
    intro p hp
    have := h.le p hp
    simp; omega
  have e2 : A'.filter (fun p => decide (now < p.2)) = A' := by
    rw [List.filter_eq_self]
    intro p hp
    simpa using h' p hp
  rw [e1, e2] at h1
  exact h1.symm

theorem qdue_spec (q : Nat) (A : List (ByteArray × Int)) (T : Seg) (h : QI q A T) (now : Int) (R : Rds) :
    Spec Try.prog 61 [.pointer (some ⟨q, 0, none⟩), .int .i64 now] R [T] fun v H' => ∃ T' To B A', H' = [T', To] ∧ OS 9 1 encS v (B.map (·.1)) To ∧ QI q A' T' ∧ DueR A now B A' ∧ ∀ p ∈ A', now < p.2 := by
  refine Spec.segs (H' := [T, []]) (by simp) ?_
  refine Spec.body Try.func61 rfl Try.results61 Try.ntmps61 rfl ?_
  refine .seq ?_
  refine .region ?_
  refine TriOps.q .assign ?_
  refine .nil ?_
  refine seqQ_n ?_
  refine .seq ?_
  refine .region ?_
  refine TriOps.q .assign ?_
  refine .nil ?_
  refine seqQ_n ?_
  refine .seq ?_
  refine .block ?_
  refine .loop (X := List (ByteArray × Int) × List (ByteArray × Int) × Value × Seg × Seg) (fun y => QI q y.1 y.2.2.2.1 ∧ OS 9 1 encS y.2.2.1 (y.2.1.map (·.1)) y.2.2.2.2 ∧ DueR A now y.2.1 y.1) (fun y => [(0, .pointer (some ⟨q, 0, none⟩)), (1, .int .i64 now), (5, y.2.2.1)]) (fun y => [y.2.2.2.1, y.2.2.2.2]) (fun y => y.1.length) (A, [], .slice none 0 0, T, []) ⟨h, OS.nil, ⟨.refl _, by simp, by simp, by simp⟩⟩ ((((EnvLe.nil _).cons rfl).cons rfl).cons rfl) (HLe.refl _) ?_
  rintro ⟨A1, B, v, T1, To⟩ ⟨hQ, hO, hD⟩
  simp only at hQ hO hD ⊢
  have hQ' := hQ
  have hlen := hQ.len
  have hAB := hD.pm.length_eq
  have hA0 := h.len
  obtain ⟨L, vm, M, T2, Tm, hT12, hT, hM, hp, hh, hA⟩ := hQ
  obtain ⟨vt, i1, ps, hs, pe⟩ := hT.read
  have i2 := hO.oneCell
  have hlA : A1.length = L.length := by simpa using hA.length_eq.symm
  have hsub : HLe [T1, To] [T2, Tm, To] := HLe.ofPerm (by rw [hT12]; simp)
  refine .seq ?_
  refine .seq ?_
  refine .region ?_
  refine TriOps.q .move ?_
  refine TriOps.callR (qlen_spec q A1 _ hQ' _ (fun p hp => .inr (by simp [hp]))) (fun v hv => ?_)
  subst hv
  refine TriOps.q .gtr ?_
  refine TriOps.q .move ?_
  refine TriOps.split (t := 10) rfl (fun g2_3 => ?_) (fun g2_3 => ?_)
  · skip
    obtain ⟨e, he⟩ : ∃ e, L[0]? = some e := ⟨_, List.getElem?_eq_getElem (by simp at g2_3; omega)⟩
    have pe1 := pe 0 e he
    have px : PS T2 (baseP vt (0 * 1)) (encP e) := ⟨hs.pc he⟩
    refine TriOps.sub hsub ?_
    refine TriOps.gT g2_3 ?_
    refine TriOps.q .move ?_
    refine TriOps.gT g2_3 ?_
    refine TriOps.q (.nilCheck rfl) ?_
    refine TriOps.gT g2_3 ?_
    refine TriOps.q (.fieldAddr rfl) ?_
    refine TriOps.gT g2_3 ?_
    refine TriOps.q (.load1 rfl) ?_
    refine TriOps.gT g2_3 ?_
    refine TriOps.q (.indexR 0 hs he rfl rfl rfl) ?_
    refine TriOps.gT g2_3 ?_
    refine TriOps.q (.load1 rfl) ?_
    refine TriOps.gT g2_3 ?_
    refine TriOps.q (.nilCheck rfl) ?_
    refine TriOps.gT g2_3 ?_
    refine TriOps.q (.fieldAddr rfl) ?_
    refine TriOps.gT g2_3 ?_
    refine TriOps.q (.load1 rfl) ?_
    refine TriOps.gT g2_3 ?_
    refine TriOps.q .move ?_
    refine TriOps.gT g2_3 ?_
    refine TriOps.q .leq ?_
    refine TriOps.q (.pickTh g2_3) ?_
    refine .nil ?_
    refine seqQ_n ?_
    refine .cond rfl (fun h1 => ?_) (fun h1 => ?_)
    · skip
      refine .skip ?_
      refine seqQ_n ?_
      refine .block ?_
      refine .seq ?_
      refine .region ?_
      refine TriOps.q .move ?_
      refine TriOps.q (.nilCheck rfl) ?_
      refine TriOps.q (.fieldAddr rfl) ?_
      refine TriOps.q .makeInterface ?_
      refine TriOps.callM (pop_spec (tree_hi q vm _) elt_so L T2 hT e he hh (fun x => .iface 157 x.ptr) (TJ q vm e) (fun L' T' h' _ => tree_pop q _ L' e T' h' _)) (fun v T2 hv => ?_)
      obtain ⟨rfl, L2, ⟨T3, i3, hp3, hT3⟩, hp2, hh2⟩ := hv
      obtain ⟨vt', i1', ps'⟩ := hT3.ps
      have pe3 : PS [(e.b, e.obj i3)] (.pointer (some ⟨e.b, 0, none⟩)) (e.cells i3) := PS.of (E := 156) (fr := (0, 0)) (by simp [XE.obj])
      refine TriOps.sub (H' := [T3, Tm, To, [(e.b, e.obj i3)]]) (HLe.ofPerm (by
        simp only [List.flatten_cons, List.flatten_nil, List.append_nil]
        refine (hp3.append_right _).trans ?_
        simpa [List.append_assoc] using (List.perm_append_comm (l₁ := [(e.b, e.obj i3)]) (l₂ := Tm ++ To)).append_left T3)) ?_
      refine TriOps.q (.assertC) ?_
      refine TriOps.q .assign ?_
      refine .nil ?_
      refine seqQ_n ?_
      refine .seq ?_
      refine .region_tail 8 mixed (by kernel_rfl) ?_
      conv => arg 6; dsimp only [List.take]
      refine TriOps.q .move ?_
      refine TriOps.q (.nilCheck rfl) ?_
      refine TriOps.q (.fieldAddr rfl) ?_
      refine TriOps.q (.load1 rfl) ?_
      refine TriOps.q .move ?_
      refine TriOps.q (.nilCheck rfl) ?_
      refine TriOps.q (.fieldAddr rfl) ?_
      refine TriOps.q (.load1 rfl) ?_
      refine .nil ?_
      obtain ⟨g1, g2⟩ := rest_pairs hM.nd hp hA hp2
      refine TriOps.delete hM rfl (show _ = some (Value.string e.key) from rfl) (fun Tm2 hM2 _ => ?_)
      refine .nil ?_
      refine seqQ_n ?_
      refine .region ?_
      refine TriOps.q .move ?_
      refine TriOps.q .move ?_
      refine TriOps.q (.nilCheck rfl) ?_
      refine TriOps.q (.fieldAddr rfl) ?_
      refine TriOps.q (.load1 rfl) ?_
      refine TriOps.buildSlice11 (fun b42 => ?_)
      refine TriOps.append hO (RS.lits (xs := [e.key]) rfl (by simp [encS]) (by simp [encS, oneCell])) (by simp at hAB ⊢; omega) (fun v3 To3 hO3 => ?_)
      refine TriOps.q .assign ?_
      refine .nil ?_
      refine blkQ_n ?_
      have hle : e.at_ ≤ now := by simpa using h1
      have hmin : ∀ r ∈ A1, kaLt r e.ka = false := fun r hr2 => by
        obtain ⟨f, hf, rfl⟩ := List.mem_map.1 (hA.mem_iff.2 hr2)
        obtain ⟨k, hk, hfk⟩ := List.mem_iff_getElem.1 hf
        rw [← elt_ka]
        exact hh.least elt_so he k f (by rw [List.getElem?_eq_getElem hk, hfk])
      have hpA : A1.Perm (e.ka :: kdel e.key A1) := hA.symm.trans ((hp2.map _).trans (g2.cons _))
      have hmem : e.ka ∈ A1 := hpA.mem_iff.2 (by simp)
      refine loopQ_i (kdel e.key A1, B ++ [e.ka], v3, T3 ++ Tm2, To3) ⟨⟨L2, vm, _, T3, Tm2, rfl, hT3, hM2, g1, hh2, g2⟩, by rw [List.map_append]; exact hO3, ⟨?_, ?_, ?_, ?_⟩⟩ ?_ ((((EnvLe.nil _).cons rfl).cons rfl).cons rfl) ?_
      · refine hD.pm.trans ?_
        simp only [List.append_assoc]
        exact hpA.append_left B
      · rw [List.pairwise_append]
        exact ⟨hD.ord, by simp, fun p hp r hr => by simp at hr; subst hr; exact hD.front p hp _ hmem⟩
      · intro p hp
        rcases List.mem_append.1 hp with hp | hp
        · exact hD.le p hp
        · simp at hp; subst hp; exact hle
      · intro p hp r hr
        have hr' : r ∈ A1 := (List.mem_filter.1 hr).1
        rcases List.mem_append.1 hp with hp | hp
        · exact hD.front p hp r hr'
        · simp at hp; subst hp; exact hmin r hr'
      · have := hpA.length_eq
        simp at this ⊢; omega
      · exact (HLe.pick [1, 1, 1] _).trans (HLe.ofPerm (by simp [take, dropAt]))
    · skip
      refine .exit (seqQ_x (loopQ_x (blkQ_x ?_)))
      refine seqQ_n ?_
      refine .seq ?_
      refine .region ?_
      refine TriOps.q .move ?_
      refine TriOps.q .assign ?_
      refine .nil ?_
      refine seqQ_n ?_
      refine .ret (retQ_r _ (.one (.tmp rfl)) (HLe.ofPerm (H' := [T2 ++ Tm, To]) (by simp)) ?_)
      refine ⟨T2 ++ Tm, To, B, A1, rfl, hO, hT12 ▸ hQ', hD, fun p hp => ?_⟩
      have hle : now < e.at_ := by simpa using h1
      obtain ⟨f, hf, rfl⟩ := List.mem_map.1 (hA.mem_iff.2 hp)
      obtain ⟨k, hk, hfk⟩ := List.mem_iff_getElem.1 hf
      have h3 := hh.least elt_so he k f (by rw [List.getElem?_eq_getElem hk, hfk])
      rw [Bool.eq_false_iff, ne_eq, ecmp_lt] at h3
      have h4 : e.at_ ≤ f.at_ := by omega
      show now < f.at_
      omega
  · skip
    refine TriOps.gF g2_3 ?_
    refine TriOps.gF g2_3 ?_
    refine TriOps.gF g2_3 ?_
    refine TriOps.gF g2_3 ?_
    refine TriOps.gF g2_3 ?_
    refine TriOps.gF g2_3 ?_
    refine TriOps.gF g2_3 ?_
    refine TriOps.gF g2_3 ?_
    refine TriOps.gF g2_3 ?_
    refine TriOps.gF g2_3 ?_
    refine TriOps.gF g2_3 ?_
    refine TriOps.q (.pickFh g2_3) ?_
    refine .nil ?_
    refine seqQ_n ?_
    refine .condF ?_
    refine .exit (seqQ_x (loopQ_x (blkQ_x ?_)))
    refine seqQ_n ?_
    refine .seq ?_
    refine .region ?_
    refine TriOps.q .move ?_
    refine TriOps.q .assign ?_
    refine .nil ?_
    refine seqQ_n ?_
    refine .ret (retQ_r _ (.one (.tmp rfl)) (HLe.refl _) ?_)
    have hz : A1 = [] := by
      rcases A1 with _ | ⟨a, r⟩
      · rfl
      · simp at g2_3
    exact ⟨T1, To, B, A1, rfl, hO, hQ', hD, by rw [hz]; simp⟩
end Go.Proofs.Ytkepgbimlolemaa
