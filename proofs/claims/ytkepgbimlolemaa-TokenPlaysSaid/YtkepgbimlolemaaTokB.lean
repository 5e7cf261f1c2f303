/- Tokens: Put, Find. No condition. -/
import Derived.Test.YtkepgbimlolemaaTokA
set_option linter.unusedVariables false
set_option maxRecDepth 4000
namespace Go.Proofs.Ytkepgbimlolemaa
def Tok.fresh (t : Tok) : Tok := ⟨t.text, t.kind, t.client, t.user, t.scopes, t.family, t.expires, t.rev, false⟩
def tput (A : List (ByteArray × Tok)) (last : Int) (t : Tok) : Int × List (ByteArray × Tok) :=
  if rightB t last = false then (2, A) else if (mget t.text A).isSome then (22, A) else if 4096 ≤ A.length then (8, A) else (0, kset t.text t.fresh A)
theorem vPut_spec (g : Nat) (A : List (ByteArray × Tok)) (last : Int) (T : Seg) (h : VI g A last T) (w : Value) (t : Tok) (R : Rds) (ht : TokR R (w, t)) (hf : t.few) :
    Spec Try.prog 12 [.pointer (some ⟨g, 0, none⟩), .agg (encT (w, t)).toArray] R [T] fun v H' => ∃ T', H' = [T'] ∧ v = .int .i64 (tput A last t).1 ∧ VI g (tput A last t).2 last T' := by
  have h0 := h
  obtain ⟨Td, _, rfl, vm, M, q, Tm, Tq, rfl, hM, hI, hA, hQ⟩ := h
  obtain ⟨bm, rfl⟩ : ∃ b, vm = .map (some b) := by obtain ⟨b, es, clock, h1, _⟩ := hM; exact ⟨b, h1⟩
  have io : Ones (encT (w, t)) := ⟨ht.ones⟩
  have iw : One w := ht.oneCell
  have hlen : M.length = A.length := by simpa [kmap_length] using hA.length_eq
  obtain ⟨w0, t0, hr0, hc0, hf0, hs0, _, _⟩ := vi_get hM.nd hI hA t.text
  have i0 : Ones (encT (w0, t0)) := ⟨hc0.ones⟩
  refine Spec.segs (H' := [[(g, .cells [.map (some bm), .pointer (some ⟨q, 0, none⟩), .int .i64 last].toArray 65 (0, 0))], Tm, Tq, Td]) (by simp) ?_
  refine Spec.body Try.func12 rfl Try.results12 Try.ntmps12 rfl ?_
  refine .seq ?_
  refine .region ?_
  refine TriOps.boxA rfl (fun b3 => ?_)
  refine TriOps.q .assign ?_
  refine .nil ?_
  refine seqQ_n ?_
  refine .seq ?_
  refine .seq ?_
  refine .region ?_
  refine TriOps.q .move ?_
  refine TriOps.callR (vok_spec g bm _ _ _) (fun v hv => ?_)
  subst hv
  refine TriOps.q .not ?_
  refine .nil ?_
  refine seqQ_n ?_
  refine .condF ?_
  refine .skip ?_
  refine seqQ_n ?_
  refine .seq ?_
  refine .seq ?_
  refine .region ?_
  refine TriOps.q .move ?_
  refine TriOps.q (.loadA rfl) ?_
  refine TriOps.callR (vright_spec g _ _ last w t _ iw) (fun v hv => ?_)
  subst hv
  refine TriOps.q .not ?_
  refine .nil ?_
  refine seqQ_n ?_
  refine .cond rfl (fun h2 => ?_) (fun h2 => ?_)
  · skip
    refine .seq ?_
    refine .region ?_
    refine TriOps.q .assign ?_
    refine .nil ?_
    refine seqQ_n ?_
    refine .ret (seqQ_r (retQ_r _ (.one (.tmp rfl)) (.one [1, 1, 1, 1] _) ?_))
    have e : tput A last t = (2, A) := by unfold tput; rw [if_pos (by simpa using h2)]
    rw [e]; exact ⟨_, by simp [take, dropAt], rfl, h0⟩
  · skip
    have hrt : rightB t last = true := by simpa using h2
    refine .skip ?_
    refine seqQ_n ?_
    refine .seq ?_
    refine .seq ?_
    refine .region_all [11] mixed ?_
    refine RA.takeO 0 rfl .move (by kernel_rfl) ?_
    refine RA.takeO 1 rfl (.nilCheck rfl) (by kernel_rfl) ?_
    refine RA.takeO 2 rfl (.fieldAddr rfl) (by kernel_rfl) ?_
    refine RA.takeO 3 rfl (.load1 rfl) (by kernel_rfl) ?_
    refine RA.takeO 4 rfl (.fieldAddr rfl) (by kernel_rfl) ?_
    refine RA.takeO 5 rfl (.load1 rfl) (by kernel_rfl) ?_
    refine RA.takeO 6 rfl (Quiet.cast (v' := .tuple [.agg (encT (w0, t0)).toArray, .bool (mget t.text A).isSome].toArray) (.lookup2 hM.rx rfl (show _ = some (Value.string t.text) from rfl)) (by rw [← hs0, ← hr0]; rfl)) (by kernel_rfl) ?_
    refine RA.takeO 7 rfl .move (by kernel_rfl) ?_
    refine RA.takeO 8 rfl .extract (by kernel_rfl) ?_
    refine RA.take 9 rfl .extract (by kernel_rfl) ?_
    refine RA.step 10 rfl (by kernel_rfl) rfl ?_
    refine TriOps.allocA (fun b5 => ?_)
    refine .nil (Next.sub ?_)
    refine RA.step 11 rfl (by kernel_rfl) rfl ?_
    refine TriOps.storeA rfl rfl ?_
    refine .nil (Next.mod rfl ?_)
    refine RA.take 12 rfl .assign (by kernel_rfl) ?_
    refine RA.nil (by kernel_rfl) ?_
    refine seqQ_n ?_
    refine .seq ?_
    refine .region ?_
    refine TriOps.q .move ?_
    refine .nil ?_
    refine seqQ_n ?_
    refine .cond rfl (fun h3 => ?_) (fun h3 => ?_)
    · skip
      refine .seq ?_
      refine .region ?_
      refine TriOps.q .assign ?_
      refine .nil ?_
      refine seqQ_n ?_
      refine .ret (seqQ_r (retQ_r _ (.one (.tmp rfl)) (.one [2, 2, 2, 2] _) ?_))
      have e : tput A last t = (22, A) := by unfold tput; rw [if_neg (by simp [hrt]), if_pos h3]
      rw [e]; exact ⟨_, by simp [take, dropAt], rfl, h0⟩
    · skip
      refine .skip ?_
      refine seqQ_n ?_
      refine .seq ?_
      refine .seq ?_
      refine .region ?_
      refine TriOps.q .move ?_
      refine TriOps.q (.nilCheck rfl) ?_
      refine TriOps.q (.fieldAddr rfl) ?_
      refine TriOps.q (.load1 rfl) ?_
      refine TriOps.q (.lenM hM.rx rfl) ?_
      refine TriOps.q .geq ?_
      refine .nil ?_
      refine seqQ_n ?_
      refine .cond rfl (fun h4 => ?_) (fun h4 => ?_)
      · skip
        refine .seq ?_
        refine .region ?_
        refine TriOps.q .assign ?_
        refine .nil ?_
        refine seqQ_n ?_
        refine .ret (seqQ_r (retQ_r _ (.one (.tmp rfl)) (.one [2, 2, 2, 2] _) ?_))
        have e : tput A last t = (8, A) := by unfold tput; rw [if_neg (by simp [hrt]), if_neg (by rw [h3]; simp), if_pos (by have := of_decide_eq_true h4; omega)]
        rw [e]; exact ⟨_, by simp [take, dropAt], rfl, h0⟩
      · skip
        have hlt : ¬ 4096 ≤ A.length := by have := of_decide_eq_false h4; omega
        refine .skip ?_
        refine seqQ_n ?_
        refine .seq ?_
        refine .region ?_
        refine TriOps.q (.fieldAddr rfl) ?_
        refine TriOps.store1 rfl rfl ?_
        refine .nil ?_
        refine seqQ_n ?_
        refine .seq ?_
        refine .region ?_
        refine TriOps.q .move ?_
        refine TriOps.q (.loadA rfl) ?_
        refine TriOps.sub (H' := [((g, .cells [.map (some bm), .pointer (some ⟨q, 0, none⟩), .int .i64 last].toArray 65 (0, 0)) :: (Tm ++ Tq)) ++ Td]) ((HLe.pick [2, 2, 2, 2] _).trans (HLe.ofPerm (by simp [take, dropAt]))) ?_
        refine TriOps.callM (vput_spec g A last _ h0 w t.fresh _ ht hf (by omega)) (fun v T2 hv => ?_)
        obtain ⟨rfl, hV2⟩ := hv
        refine .nil ?_
        refine seqQ_n ?_
        refine .seq ?_
        refine .region ?_
        refine TriOps.q .assign ?_
        refine .nil ?_
        refine seqQ_n ?_
        refine .ret (retQ_r _ (.one (.tmp rfl)) (.one [0] _) ?_)
        have e : tput A last t = (0, kset t.text t.fresh A) := by unfold tput; rw [if_neg (by simp [hrt]), if_neg (by rw [h3]; simp), if_neg hlt]
        rw [e]; exact ⟨T2, by simp [take], rfl, hV2⟩
def tfind (A : List (ByteArray × Tok)) (k : ByteArray) (now : Int) : Option Tok := (mget k A).filter fun t => decide (now < t.expires)
theorem vfind_spec (g : Nat) (A : List (ByteArray × Tok)) (last : Int) (T : Seg) (h : VI g A last T) (k : ByteArray) (now : Int) (R : Rds) (hr : ∀ p ∈ T, R p.1 p.2) :
    Spec Try.prog 19 [.pointer (some ⟨g, 0, none⟩), .string k, .int .i64 now] R [] fun v H' => ∃ T', H' = [T'] ∧ ∃ w t, v = .tuple [.agg (encT (w, t)).toArray, .bool (tfind A k now).isSome].toArray ∧ TokR (sg0 T') (w, t) ∧ (tfind A k now).getD Tok.zero = t := by
  obtain ⟨Td, _, rfl, vm, M, q, Tm, Tq, rfl, hM, hI, hA, hQ⟩ := h
  obtain ⟨bm, rfl⟩ : ∃ b, vm = .map (some b) := by obtain ⟨b, es, clock, h1, _⟩ := hM; exact ⟨b, h1⟩
  have pq : PC R (.pointer (some ⟨g, 0, none⟩)) [.map (some bm), .pointer (some ⟨q, 0, none⟩), .int .i64 last] := PC.of (E := 65) (fr := (0, 0)) (hr (g, .cells [.map (some bm), .pointer (some ⟨q, 0, none⟩), .int .i64 last].toArray 65 (0, 0)) (by simp))
  have rm : ∀ H', RM (Rx R H') (fun s : ByteArray => .string s) (fun p : TP => .agg (encT p).toArray) (.map (some bm)) M := fun H' => hM.rm fun p hp => .inl (hr p (by simp [hp]))
  have hT : ∀ b o, sg0 Td b o → R b o := fun b o hb => hr (b, o) (by have : (b, o) ∈ Td := hb.1; simp [this])
  obtain ⟨w0, t0, hr0, hc0, hf0, hs0, hz0, hu0⟩ := vi_get hM.nd hI hA k
  have i0 : Ones (encT (w0, t0)) := ⟨hc0.ones⟩
  refine Spec.body Try.func19 rfl Try.results19 Try.ntmps19 rfl ?_
  refine .seq ?_
  refine .region ?_
  refine TriOps.allocA (fun b6 => ?_)
  refine TriOps.q .assign ?_
  refine .nil ?_
  refine seqQ_n ?_
  refine .seq ?_
  refine .seq ?_
  refine .region ?_
  refine TriOps.q .move ?_
  refine TriOps.callR (vok_spec g bm _ _ _) (fun v hv => ?_)
  subst hv
  refine TriOps.q .not ?_
  refine .nil ?_
  refine seqQ_n ?_
  refine .condF ?_
  refine .skip ?_
  refine seqQ_n ?_
  refine .seq ?_
  refine .region ?_
  refine TriOps.q .move ?_
  refine TriOps.q (.nilCheck rfl) ?_
  refine TriOps.q (.fieldAddr rfl) ?_
  refine TriOps.q (.load1 rfl) ?_
  refine TriOps.q .move ?_
  refine TriOps.q (Quiet.cast (v' := .tuple [.agg (encT (w0, t0)).toArray, .bool (mget k A).isSome].toArray) (.lookup2 (rm _) rfl (show _ = some (Value.string k) from rfl)) (by rw [← hs0, ← hr0]; rfl)) ?_
  refine TriOps.q .move ?_
  refine TriOps.q .extract ?_
  refine TriOps.q .extract ?_
  refine TriOps.allocA (fun b8 => ?_)
  refine TriOps.storeA rfl rfl ?_
  refine TriOps.q .assign ?_
  refine .nil ?_
  refine seqQ_n ?_
  refine .seq ?_
  refine .seq ?_
  refine .region ?_
  refine TriOps.q .move ?_
  refine TriOps.q .not ?_
  refine TriOps.q .move ?_
  refine TriOps.split (t := 25) rfl (fun g4_2 => ?_) (fun g4_2 => ?_)
  · skip
    refine TriOps.gF g4_2 ?_
    refine TriOps.gF g4_2 ?_
    refine TriOps.gF g4_2 ?_
    refine TriOps.gF g4_2 ?_
    refine TriOps.q (.pickTh g4_2) ?_
    refine .nil ?_
    refine seqQ_n ?_
    refine .condT ?_
    refine .seq ?_
    refine .region ?_
    refine TriOps.q .bld ?_
    refine TriOps.storeA rfl rfl ?_
    refine TriOps.q .assign ?_
    refine .nil ?_
    refine seqQ_n ?_
    refine .ret (seqQ_r (retQ_r _ (.two (.cellA rfl rfl) (.tmp rfl)) (.one [0] _) ?_))
    skip
    first
      | (have he : tfind A k now = some t0 := by
           have hsm : (mget k A).isSome = true := by simpa using g4_2
           obtain ⟨u, hu⟩ := Option.isSome_iff_exists.1 hsm
           have hnow : now < t0.expires := by have h2' : ¬ t0.expires ≤ now := of_decide_eq_false h2; omega
           unfold tfind
           rw [hu, (hu0 u hu).1]
           simp [hnow]
         rw [he]
         exact ⟨T1, by simp [take], w1, t0, rfl, hc1, rfl⟩)
      | (have he : tfind A k now = none := by
           unfold tfind
           first
             | (have hno : mget k A = none := by simpa using g4_2
                rw [hno]; rfl)
             | (have hnow : ¬ now < t0.expires := by have h2' : t0.expires ≤ now := of_decide_eq_true h2; omega
                cases hu : mget k A with
                | none => rfl
                | some u => rw [(hu0 u hu).1, Option.filter, decide_eq_false hnow]; rfl)
         rw [he]
         exact ⟨_, rfl, _, Tok.zero, rfl, TokR.zero _, rfl⟩)
  · skip
    refine TriOps.gT g4_2 ?_
    refine TriOps.q (.fieldAddr rfl) ?_
    refine TriOps.gT g4_2 ?_
    refine TriOps.q (.load1 rfl) ?_
    refine TriOps.gT g4_2 ?_
    refine TriOps.q .move ?_
    refine TriOps.gT g4_2 ?_
    refine TriOps.q .leq ?_
    refine TriOps.q (.pickFh g4_2) ?_
    refine .nil ?_
    refine seqQ_n ?_
    refine .cond rfl (fun h2 => ?_) (fun h2 => ?_)
    · skip
      refine .seq ?_
      refine .region ?_
      refine TriOps.q .bld ?_
      refine TriOps.storeA rfl rfl ?_
      refine TriOps.q .assign ?_
      refine .nil ?_
      refine seqQ_n ?_
      refine .ret (seqQ_r (retQ_r _ (.two (.cellA rfl rfl) (.tmp rfl)) (.one [0] _) ?_))
      skip
      first
        | (have he : tfind A k now = some t0 := by
             have hsm : (mget k A).isSome = true := by simpa using g4_2
             obtain ⟨u, hu⟩ := Option.isSome_iff_exists.1 hsm
             have hnow : now < t0.expires := by have h2' : ¬ t0.expires ≤ now := of_decide_eq_false h2; omega
             unfold tfind
             rw [hu, (hu0 u hu).1]
             simp [hnow]
           rw [he]
           exact ⟨T1, by simp [take], w1, t0, rfl, hc1, rfl⟩)
        | (have he : tfind A k now = none := by
             unfold tfind
             first
               | (have hno : mget k A = none := by simpa using g4_2
                  rw [hno]; rfl)
               | (have hnow : ¬ now < t0.expires := by have h2' : t0.expires ≤ now := of_decide_eq_true h2; omega
                  cases hu : mget k A with
                  | none => rfl
                  | some u => rw [(hu0 u hu).1, Option.filter, decide_eq_false hnow]; rfl)
           rw [he]
           exact ⟨_, rfl, _, Tok.zero, rfl, TokR.zero _, rfl⟩)
    · skip
      refine .skip ?_
      refine seqQ_n ?_
      refine .seq ?_
      refine .region ?_
      refine TriOps.q (.loadA rfl) ?_
      refine TriOps.callN (tcopied_spec w0 t0 _ (hc0.mono fun b o hb => .inl (hT b o hb)) hf0) (fun v T1 hv => ?_)
      obtain ⟨w1, rfl, hc1⟩ := hv
      have i1 : Ones (encT (w1, t0)) := ⟨hc1.ones⟩
      refine TriOps.storeA rfl rfl ?_
      refine TriOps.q .assign ?_
      refine .nil ?_
      refine seqQ_n ?_
      refine .ret (retQ_r _ (.two (.cellA rfl rfl) (.tmp rfl)) (.one [0] _) ?_)
      skip
      first
        | (have he : tfind A k now = some t0 := by
             have hsm : (mget k A).isSome = true := by simpa using g4_2
             obtain ⟨u, hu⟩ := Option.isSome_iff_exists.1 hsm
             have hnow : now < t0.expires := by have h2' : ¬ t0.expires ≤ now := of_decide_eq_false h2; omega
             unfold tfind
             rw [hu, (hu0 u hu).1]
             simp [hnow]
           rw [he]
           exact ⟨T1, by simp [take], w1, t0, rfl, hc1, rfl⟩)
        | (have he : tfind A k now = none := by
             unfold tfind
             first
               | (have hno : mget k A = none := by simpa using g4_2
                  rw [hno]; rfl)
               | (have hnow : ¬ now < t0.expires := by have h2' : t0.expires ≤ now := of_decide_eq_true h2; omega
                  cases hu : mget k A with
                  | none => rfl
                  | some u => rw [(hu0 u hu).1, Option.filter, decide_eq_false hnow]; rfl)
           rw [he]
           exact ⟨_, rfl, _, Tok.zero, rfl, TokR.zero _, rfl⟩)
end Go.Proofs.Ytkepgbimlolemaa
