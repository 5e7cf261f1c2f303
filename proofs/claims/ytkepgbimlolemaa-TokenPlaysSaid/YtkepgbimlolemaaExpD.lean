/- Expiry's Queue: Set and Drop. No condition. -/
import Derived.Test.YtkepgbimlolemaaExpC
set_option linter.unusedVariables false
set_option maxRecDepth 4000
namespace Go.Proofs.Ytkepgbimlolemaa

theorem OS.congr {α β : Type} {E sz : Nat} {enc : α → List Value} {enc' : β → List Value} {v : Value} {xs : List α} {ys : List β} {T : Seg} (h : OS E sz enc v xs T) (he : ys.map enc' = xs.map enc) : OS E sz enc' v ys T := by
  have hl : ys.length = xs.length := by simpa using congrArg List.length he
  have hf : ys.flatMap enc' = xs.flatMap enc := by rw [List.flatMap_def, List.flatMap_def, he]
  have hm : ∀ y ∈ ys, ∃ x ∈ xs, enc' y = enc x := fun y hy => by
    have : enc' y ∈ xs.map enc := he ▸ List.mem_map_of_mem hy
    obtain ⟨x, hx, e⟩ := List.mem_map.1 this
    exact ⟨x, hx, e.symm⟩
  refine ⟨fun y hy => ?_, fun y hy => ?_, ?_⟩
  · obtain ⟨x, hx, e⟩ := hm y hy; rw [e]; exact h.len x hx
  · obtain ⟨x, hx, e⟩ := hm y hy; rw [e]; exact h.one x hx
  · rcases h.h with ⟨h1, h2, h3⟩ | ⟨b, off, c, cap, h1, h2, h3, h4, h5, h6⟩
    · exact .inl ⟨h1, List.length_eq_zero_iff.1 (by rw [hl, h2]; rfl), h3⟩
    · exact .inr ⟨b, off, c, cap, by rw [hl]; exact h1, h2, by omega, h4, h5, by rw [hf]; exact h6⟩
theorem TI.set {q : Nat} {vm : Value} {L : List XE} {T : Seg} (h : TI q vm L T) (hn : (T.map (·.1)).Nodup) {i : Nat} {e e' : XE} (hi : L[i]? = some e) (hb : e'.b = e.b) : TI q vm (L.set i e') (upB T e.b (e'.obj i)) := by
  obtain ⟨vt, Tt, Te, rfl, hO, hE, hl⟩ := h
  have hm := hE.mem_iff.2 (entSeg_mem hi)
  have hn' := hn
  simp only [List.map_cons, List.map_append, List.nodup_cons, List.nodup_append, List.mem_append] at hn
  obtain ⟨h1, h2, h3, h4⟩ := hn
  have hbT : e.b ∈ Te.map (·.1) := List.mem_map_of_mem hm
  have hq : q ≠ e.b := fun hh => h1 (.inr (hh ▸ hbT))
  have ht : upB Tt e.b (e'.obj i) = Tt := upB_old fun p hp hh => h4 p.1 (List.mem_map_of_mem hp) e.b hbT hh
  have hnL : (L.map (·.b)).Nodup := by rw [← entSeg_ids, ← (hE.map (·.1)).nodup_iff]; exact h3
  refine ⟨vt, Tt, upB Te e.b (e'.obj i), ?_, hO.congr ?_, ?_, by simpa using hl⟩
  · have : upB ((q, Obj.cells [vt, vm].toArray 148 (0, 0)) :: (Tt ++ Te)) e.b (e'.obj i) = (q, Obj.cells [vt, vm].toArray 148 (0, 0)) :: (upB Tt e.b (e'.obj i) ++ upB Te e.b (e'.obj i)) := by simp [upB, hq]
    rw [this, ht]
  · apply List.ext_getElem?
    intro j
    rw [List.getElem?_map, List.getElem?_map, List.getElem?_set]
    by_cases hij : i = j
    · subst hij
      have : i < L.length := (List.getElem?_eq_some_iff.1 hi).1
      rw [if_pos rfl, if_pos this, hi]
      simp [encP, XE.ptr, hb]
    · simp [hij]
  · refine (upB_perm hE).trans ?_
    have : upB (entSeg L) e.b (e'.obj i) = entSeg (L.set i e') := by
      apply List.ext_getElem?
      intro j
      rw [upB_get, entSeg_get, entSeg_get, List.getElem?_set]
      by_cases hij : i = j
      · subst hij
        have : i < L.length := (List.getElem?_eq_some_iff.1 hi).1
        rw [if_pos rfl, if_pos this, hi]
        simp [hb]
      · simp only [hij, if_false]
        cases hj : L[j]? with
        | none => rfl
        | some u =>
          have : u.b ≠ e.b := fun hh => hij (ent_inj hnL hj hi hh).symm
          simp [this]
    rw [this]
theorem TI.ps {q : Nat} {vm : Value} {L : List XE} {T : Seg} (h : TI q vm L T) : ∃ vt, One vt ∧ PS T (.pointer (some ⟨q, 0, none⟩)) [vt, vm] := by
  obtain ⟨vt, Tt, Te, rfl, hO, hE, hl⟩ := h
  exact ⟨vt, hO.oneCell, PS.of (E := 148) (fr := (0, 0)) (by simp)⟩
theorem TI.mem {q : Nat} {vm : Value} {L : List XE} {T : Seg} (h : TI q vm L T) {i : Nat} {e : XE} (hi : L[i]? = some e) : (e.b, e.obj i) ∈ T := by
  obtain ⟨vt, Tt, Te, rfl, hO, hE, hl⟩ := h
  have := hE.mem_iff.2 (entSeg_mem hi)
  simp [this]
theorem set_split {L : List XE} {i : Nat} {e : XE} (hi : L[i]? = some e) : ∃ L1 L2, L = L1 ++ e :: L2 ∧ ∀ e', L.set i e' = L1 ++ e' :: L2 := by
  obtain ⟨h, rfl⟩ := List.getElem?_eq_some_iff.1 hi
  refine ⟨L.take i, L.drop (i + 1), ?_, fun e' => ?_⟩
  · rw [List.getElem_cons_drop, List.take_append_drop]
  · rw [List.set_eq_take_append_cons_drop, if_pos h]

theorem qset_spec (q : Nat) (A : List (ByteArray × Int)) (T : Seg) (h : QI q A T) (key : ByteArray) (at_ : Int) (hl : A.length < 1000000000) (R : Rds) :
    Spec Try.prog 86 [.pointer (some ⟨q, 0, none⟩), .string key, .int .i64 at_] R [T] fun v H' => ∃ T', H' = [T'] ∧ v = .tuple #[] ∧ QI q (kset key at_ A) T' := by
  have hnA := h.nodup
  obtain ⟨L, vm, M, T1, Tm, rfl, hT, hM, hp, hh, hA⟩ := h
  obtain ⟨bm, rfl⟩ : ∃ b, vm = .map (some b) := by obtain ⟨b, es, clock, h1, _⟩ := hM; exact ⟨b, h1⟩
  obtain ⟨vt, i1, ps⟩ := hT.ps
  have hg := at_get hM.nd hp hA key
  have hLl : L.length = A.length := by simpa using hA.length_eq
  refine Spec.segs (H' := [T1, Tm]) (by simp) ?_
  refine Spec.body Try.func86 rfl Try.results86 Try.ntmps86 rfl ?_
  refine .seq ?_
  refine .seq ?_
  refine .region ?_
  refine TriOps.q .move ?_
  refine TriOps.callR (qok_spec q vt bm _) (fun v hv => ?_)
  subst hv
  refine TriOps.q .not ?_
  refine .nil ?_
  refine seqQ_n ?_
  refine .condF ?_
  refine .skip ?_
  refine seqQ_n ?_
  refine .seq ?_
  refine .seq ?_
  refine .region ?_
  refine TriOps.q .move ?_
  refine TriOps.q (.nilCheck rfl) ?_
  refine TriOps.q (.fieldAddr rfl) ?_
  refine TriOps.q (.load1 rfl) ?_
  refine TriOps.q .move ?_
  refine TriOps.q (.lookup2 hM.rx rfl (show _ = some (Value.string key) from rfl)) ?_
  refine TriOps.q .move ?_
  refine TriOps.q .extract ?_
  refine TriOps.q .extract ?_
  refine TriOps.q .assign ?_
  refine TriOps.q .assign ?_
  refine .nil ?_
  refine seqQ_n ?_
  refine .seq ?_
  refine .region ?_
  refine TriOps.q .move ?_
  refine .nil ?_
  refine seqQ_n ?_
  refine .cond rfl (fun h2 => ?_) (fun h2 => ?_)
  · skip
    obtain ⟨i, e, hi, hk, hm, ha⟩ : ∃ (i : Nat) (e : XE), L[i]? = some e ∧ e.key = key ∧ mget key M = some e.b ∧ mget key A = some e.at_ := by
      rcases hg with ⟨h3, _⟩ | h3
      · rw [h3] at h2; simp at h2
      · exact h3
    have me := hT.mem hi
    have pe : PS T1 (.pointer (some ⟨e.b, 0, none⟩)) (e.cells i) := PS.of me
    obtain ⟨e', he'⟩ : ∃ e' : XE, e' = ⟨e.b, e.key, at_⟩ := ⟨_, rfl⟩
    rw [hm]
    simp only [Option.map_some, Option.getD_some]
    refine .seq ?_
    refine .region ?_
    refine TriOps.q .move ?_
    refine TriOps.q .move ?_
    refine TriOps.q (.nilCheck rfl) ?_
    refine TriOps.q (.fieldAddr rfl) ?_
    refine TriOps.nodup fun hnd => ?_
    have hnT : (T1.map (·.1)).Nodup := by
      simp only [List.flatten_cons, List.map_append, List.nodup_append] at hnd
      exact hnd.1
    refine TriOps.storeB (vs := e.cells i) (off := 1) me ?_
    rw [show Obj.cells (setL (e.cells i) 1 [.int .i64 at_]).toArray 156 (0, 0) = e'.obj i from by rw [he']; rfl]
    have hT' := hT.set hnT hi (e' := e') (by rw [he'])
    have pe' : PS (upB T1 e.b (e'.obj i)) (.pointer (some ⟨e.b, 0, none⟩)) (e'.cells i) := PS.of (upB_self me)
    generalize upB T1 e.b (e'.obj i) = T1' at hT' pe' ⊢
    obtain ⟨vt', i1', ps'⟩ := hT'.ps
    clear pe ps
    have hil : i < L.length := (List.getElem?_eq_some_iff.1 hi).1
    have hhole : Hole elt (L.set i e') (L.set i e').length i := by
      rw [List.length_set]
      exact hh.hole elt_so (Nat.le_refl _) fun k hk hki => by rw [List.getElem?_set_ne (Ne.symm hki)]
    refine .nil ?_
    refine seqQ_n ?_
    refine .seq ?_
    refine .region_tail 8 mixed (by kernel_rfl) ?_
    conv => arg 6; dsimp only [List.take]
    refine TriOps.q .move ?_
    refine TriOps.q (.nilCheck rfl) ?_
    refine TriOps.q (.fieldAddr rfl) ?_
    refine TriOps.q .makeInterface ?_
    refine TriOps.q .move ?_
    refine TriOps.q (.nilCheck rfl) ?_
    refine TriOps.q (.fieldAddr rfl) ?_
    refine TriOps.q (.load1 rfl) ?_
    refine .nil ?_
    refine TriOps.callM (fix_spec (tree_hi q (.map (some bm)) _) elt_so _ _ hT' i (by simpa using hil) hhole) (fun v T2 hv => ?_)
    obtain ⟨rfl, L2, hT2, hp2, hh2⟩ := hv
    refine .nil ?_
    refine seqQ_n ?_
    refine .ret (seqQ_r (retQ_r _ .none (HLe.merge [0, 0] _) ?_))
    obtain ⟨L1, L3, hs1, hs2⟩ := set_split hi
    have hs := hs2 e'
    have hkb : e'.kb = e.kb := by rw [he']; rfl
    refine ⟨T2 ++ Tm, by simp [take, rest, dropAt], rfl, L2, _, M, T2, Tm, rfl, hT2, hM, ?_, hh2, ?_⟩
    · refine hp.trans ?_
      have : (L.set i e').map XE.kb = L.map XE.kb := by rw [hs, hs1]; simp [hkb]
      rw [← this]
      exact (hp2.map _).symm
    · refine ((hp2.map _).trans ?_).trans (kset_perm hA)
      have hnL : ((L.map XE.ka).map (·.1)).Nodup := (hA.map (·.1)).nodup_iff.2 hnA
      rw [hs, hs1] at *
      simp only [List.map_append, List.map_cons] at hnL ⊢
      have e1 : e'.ka = (key, at_) := by rw [he']; simp [XE.ka, hk]
      have e2 : e.ka = (key, e.at_) := by simp [XE.ka, hk]
      rw [e1, e2]
      exact kset_mid (by rw [← e2]; simpa using hnL)
  · skip
    have hnone : mget key M = none ∧ mget key A = none ∧ ∀ e ∈ L, e.key ≠ key := by
      rcases hg with h3 | ⟨i, e, _, _, h3, _⟩
      · exact h3
      · rw [h3] at h2; simp at h2
    refine .skip ?_
    refine seqQ_n ?_
    refine .seq ?_
    refine .region ?_
    refine TriOps.q .move ?_
    refine TriOps.q .move ?_
    refine TriOps.q .bld ?_
    refine TriOps.boxA rfl (fun b38 => ?_)
    refine TriOps.q .assign ?_
    refine .nil ?_
    refine seqQ_n ?_
    refine .seq ?_
    refine .region ?_
    refine TriOps.q .move ?_
    refine TriOps.q (.nilCheck rfl) ?_
    refine TriOps.q (.fieldAddr rfl) ?_
    refine TriOps.q (.load1 rfl) ?_
    refine TriOps.q .move ?_
    refine TriOps.q .move ?_
    refine TriOps.update (u := b38) hM rfl (show _ = some (Value.string key) from rfl) rfl (fun Tm2 hM2 _ => ?_)
    refine .nil ?_
    refine seqQ_n ?_
    refine .region ?_
    refine TriOps.q .move ?_
    refine TriOps.q (.nilCheck rfl) ?_
    refine TriOps.q (.fieldAddr rfl) ?_
    refine TriOps.q .makeInterface ?_
    refine TriOps.q .move ?_
    refine TriOps.q .makeInterface ?_
    obtain ⟨e, he⟩ : ∃ e : XE, e = ⟨b38, key, at_⟩ := ⟨_, rfl⟩
    refine TriOps.sub (H' := [T1 ++ [(e.b, e.obj 0)], Tm2]) (HLe.ofPerm (by
      rw [he]
      simp only [List.flatten_cons, List.flatten_nil, List.append_nil, List.append_assoc, List.cons_append, List.nil_append]
      exact List.perm_middle.symm)) ?_
    refine TriOps.callM (push_spec (tree_hi q (.map (some bm)) _) elt_so L _ (.iface 157 e.ptr) e (tree_push q (.map (some bm)) L T1 hT e (by omega) _) hh) (fun v T2 hv => ?_) (hxs := by rw [he]; rfl)
    obtain ⟨rfl, L2, hT2, hp2, hh2⟩ := hv
    refine .nil ?_
    refine retQ_n _ .none (HLe.merge [0, 0] _) ?_
    refine ⟨T2 ++ Tm2, by simp [take, rest, dropAt], rfl, L2, _, _, T2, Tm2, rfl, hT2, hM2, ?_, hh2, ?_⟩
    · rw [mset_new (mget_none.1 hnone.1)]
      refine (hp.append_right _).trans ?_
      have := (hp2.map XE.kb).symm
      rw [List.map_append] at this
      rw [he] at this
      exact this
    · refine (hp2.map _).trans ?_
      unfold kset
      rw [kdel_none (mget_none.1 hnone.2.1), List.map_append, he]
      exact hA.append_right _
end Go.Proofs.Ytkepgbimlolemaa
