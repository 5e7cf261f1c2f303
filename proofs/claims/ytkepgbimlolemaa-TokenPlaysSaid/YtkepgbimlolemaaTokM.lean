/- Tokens: Revoke, Drop, Sweep. No condition. -/
import Derived.Test.YtkepgbimlolemaaTokD
set_option linter.unusedVariables false
set_option maxRecDepth 4000
namespace Go.Proofs.Ytkepgbimlolemaa
theorem trev1_spec (k : ByteArray) (b : Nat) (w : Value) (t : Tok) (hw : One w) (R : Rds) [pc : PC R (.pointer (some ⟨b, 0, none⟩)) [.string k]] :
    Spec Try.prog 58 [.agg (encT (w, t)).toArray, .pointer (some ⟨b, 0, none⟩)] R [] fun v H' => v = .bool (decide (t.text = k)) ∧ H' = [] := by
  have i0 := encT_ones (t := t) hw
  refine Spec.body Try.func58 rfl Try.results58 Try.ntmps58 rfl ?_
  refine .seq ?_
  refine .region ?_
  refine TriOps.boxA rfl (fun b2 => ?_)
  refine TriOps.q .assign ?_
  refine .nil ?_
  refine seqQ_n ?_
  refine .seq ?_
  refine .region ?_
  refine TriOps.q (.fieldAddr rfl) ?_
  refine TriOps.q (.load1 rfl) ?_
  refine TriOps.q (.load1 rfl) ?_
  refine TriOps.q .eqS ?_
  refine TriOps.q .assign ?_
  refine .nil ?_
  refine seqQ_n ?_
  refine .ret (retQ_r _ (.one (.tmp rfl)) (.none _) ?_)
  exact ⟨rfl, rfl⟩
def tdropB (client user : ByteArray) (t : Tok) : Bool := decide (t.client = client) && (decide (user = ⟨#[]⟩) || decide (user = t.user))
theorem tdrop1_spec (client user : ByteArray) (b b' : Nat) (w : Value) (t : Tok) (hw : One w) (R : Rds) [pc : PC R (.pointer (some ⟨b, 0, none⟩)) [.string client]] [pd : PC R (.pointer (some ⟨b', 0, none⟩)) [.string user]] :
    Spec Try.prog 60 [.agg (encT (w, t)).toArray, .pointer (some ⟨b, 0, none⟩), .pointer (some ⟨b', 0, none⟩)] R [] fun v H' => v = .bool (tdropB client user t) ∧ H' = [] := by
  have i0 := encT_ones (t := t) hw
  refine Spec.body Try.func60 rfl Try.results60 Try.ntmps60 rfl ?_
  refine .seq ?_
  refine .region ?_
  refine TriOps.boxA rfl (fun b3 => ?_)
  refine TriOps.q .assign ?_
  refine .nil ?_
  refine seqQ_n ?_
  refine .seq ?_
  refine .region ?_
  refine TriOps.q (.fieldAddr rfl) ?_
  refine TriOps.q (.load1 rfl) ?_
  refine TriOps.q (.load1 rfl) ?_
  refine TriOps.q .eqS ?_
  refine TriOps.q .move ?_
  refine TriOps.split (t := 9) rfl (fun g1_4 => ?_) (fun g1_4 => ?_)
  · skip
    refine TriOps.gT g1_4 ?_
    refine TriOps.q (.load1 rfl) ?_
    refine TriOps.gT g1_4 ?_
    refine TriOps.q .eqS ?_
    refine TriOps.gT g1_4 ?_
    refine TriOps.q .move ?_
    refine TriOps.split (t := 12) rfl (fun g1_7 => ?_) (fun g1_7 => ?_)
    · skip
      refine TriOps.gF g1_7 ?_
      refine TriOps.gF g1_7 ?_
      refine TriOps.gF g1_7 ?_
      refine TriOps.gF g1_7 ?_
      refine TriOps.gT g1_4 ?_
      refine TriOps.q (.pickTh g1_7) ?_
      refine TriOps.q (.pickTh g1_4) ?_
      refine TriOps.q .assign ?_
      refine .nil ?_
      refine seqQ_n ?_
      refine .ret (retQ_r _ (.one (.tmp rfl)) (.none _) ?_)
      refine ⟨congrArg _ ?_, rfl⟩
      unfold tdropB
      simp_all
    · skip
      refine TriOps.gT g1_7 ?_
      refine TriOps.q (.load1 rfl) ?_
      refine TriOps.gT g1_7 ?_
      refine TriOps.q (.fieldAddr rfl) ?_
      refine TriOps.gT g1_7 ?_
      refine TriOps.q (.load1 rfl) ?_
      refine TriOps.gT g1_7 ?_
      refine TriOps.q .eqS ?_
      refine TriOps.gT g1_4 ?_
      refine TriOps.q (.pickFh g1_7) ?_
      refine TriOps.q (.pickTh g1_4) ?_
      refine TriOps.q .assign ?_
      refine .nil ?_
      refine seqQ_n ?_
      refine .ret (retQ_r _ (.one (.tmp rfl)) (.none _) ?_)
      refine ⟨congrArg _ ?_, rfl⟩
      unfold tdropB
      simp_all
  · skip
    refine TriOps.gF g1_4 ?_
    refine TriOps.gF g1_4 ?_
    refine TriOps.gF g1_4 ?_
    refine TriOps.gfU rfl ?_
    refine TriOps.gfU rfl ?_
    refine TriOps.gfU rfl ?_
    refine TriOps.gfU rfl ?_
    refine TriOps.gF g1_4 ?_
    refine TriOps.q (.pickFh g1_4) ?_
    refine TriOps.q .assign ?_
    refine .nil ?_
    refine seqQ_n ?_
    refine .ret (retQ_r _ (.one (.tmp rfl)) (.none _) ?_)
    refine ⟨congrArg _ ?_, rfl⟩
    unfold tdropB
    simp_all
theorem vdrop_spec (g : Nat) (A : List (ByteArray × Tok)) (last : Int) (T : Seg) (h : VI g A last T) (client user : ByteArray) (R : Rds) :
    Spec Try.prog 17 [.pointer (some ⟨g, 0, none⟩), .string client, .string user] R [T] fun v H' => ∃ T', H' = [T'] ∧ v = .tuple #[] ∧ VI g (A.filter fun x => !tdropB client user x.2) last T' := by
  obtain ⟨Td, T0, rfl, hJ⟩ := h
  have hJ0 := hJ
  obtain ⟨vm, M, q, Tm, Tq, hT0, hM, hI, hA, hQ⟩ := hJ
  obtain ⟨bm, rfl⟩ : ∃ b, vm = .map (some b) := by obtain ⟨b, es, clock, h1, _⟩ := hM; exact ⟨b, h1⟩
  have ps : PS T0 (.pointer (some ⟨g, 0, none⟩)) [.map (some bm), .pointer (some ⟨q, 0, none⟩), .int .i64 last] := PS.of (E := 65) (fr := (0, 0)) (by rw [hT0]; simp)
  refine Spec.segs (H' := [T0, Td]) (by simp) ?_
  refine Spec.body Try.func17 rfl Try.results17 Try.ntmps17 rfl ?_
  refine .seq ?_
  refine .region ?_
  refine TriOps.box1 rfl (fun b4 => ?_)
  refine TriOps.box1 rfl (fun b5 => ?_)
  refine .nil ?_
  refine seqQ_n ?_
  refine .seq ?_
  refine .region ?_
  refine TriOps.q .move ?_
  refine TriOps.callR (vok_spec g bm _ _ _) (fun v hv => ?_)
  subst hv
  refine .nil ?_
  refine seqQ_n ?_
  refine .condT ?_
  refine .region ?_
  refine TriOps.q .move ?_
  refine TriOps.q .makeFunc ?_
  refine TriOps.callW (vremove_spec g A last Td T0 hJ0 60 [.pointer (some ⟨b4, 0, none⟩), .pointer (some ⟨b5, 0, none⟩)] (tdropB client user) _ (fun w t hw R' hR => by
    have : PC R' (.pointer (some ⟨b4, 0, none⟩)) [.string client] := PC.of (E := 9) (fr := (0, 0)) (hR _ _ (.inr (by simp)))
    have : PC R' (.pointer (some ⟨b5, 0, none⟩)) [.string user] := PC.of (E := 9) (fr := (0, 0)) (hR _ _ (.inr (by simp)))
    exact tdrop1_spec client user b4 b5 w t hw R')) (fun v T2 hv => ?_)
  obtain ⟨rfl, hV2⟩ := hv
  refine .nil ?_
  refine retQ_n _ .none ((HLe.pick [2, 2] _).trans (HLe.ofPerm (H' := [T2 ++ Td]) (by simp [take, dropAt]))) ?_
  exact ⟨_, rfl, rfl, Td, T2, rfl, hV2⟩
def trev (A : List (ByteArray × Tok)) (k client : ByteArray) : Int × List (ByteArray × Tok) := match mget k A with
  | none => (0, A)
  | some t => if t.client ≠ client then (20, A) else if t.kind = 2 then (0, A.filter fun x => !(x.2.family == t.family)) else (0, A.filter fun x => !decide (x.2.text = k))
theorem vrevoke_spec (g : Nat) (A : List (ByteArray × Tok)) (last : Int) (T : Seg) (h : VI g A last T) (k client : ByteArray) (R : Rds) :
    Spec Try.prog 15 [.pointer (some ⟨g, 0, none⟩), .string k, .string client] R [T] fun v H' => ∃ T', H' = [T'] ∧ v = .int .i64 (trev A k client).1 ∧ VI g (trev A k client).2 last T' := by
  have h0 := h
  obtain ⟨Td, T0, rfl, hJ⟩ := h
  have hJ0 := hJ
  obtain ⟨vm, M, q, Tm, Tq, hT0, hM, hI, hA, hQ⟩ := hJ
  obtain ⟨bm, rfl⟩ : ∃ b, vm = .map (some b) := by obtain ⟨b, es, clock, h1, _⟩ := hM; exact ⟨b, h1⟩
  have ps : PS T0 (.pointer (some ⟨g, 0, none⟩)) [.map (some bm), .pointer (some ⟨q, 0, none⟩), .int .i64 last] := PS.of (E := 65) (fr := (0, 0)) (by rw [hT0]; simp)
  have rm : RM (sg T0) (fun s : ByteArray => .string s) (fun p : TP => .agg (encT p).toArray) (.map (some bm)) M := hM.rm fun p hp => by rw [hT0]; simp [sg, hp]
  obtain ⟨w0, t0, hr0, hc0, hf0, hs0, hz0, hu0⟩ := vi_get hM.nd hI hA k
  have i0 : Ones (encT (w0, t0)) := ⟨hc0.ones⟩
  refine Spec.segs (H' := [T0, Td]) (by simp) ?_
  refine Spec.body Try.func15 rfl Try.results15 Try.ntmps15 rfl ?_
  refine .seq ?_
  refine .region ?_
  refine TriOps.box1 rfl (fun b4 => ?_)
  refine TriOps.q .assign ?_
  refine .nil ?_
  refine seqQ_n ?_
  refine .seq ?_
  refine .seq ?_
  refine .region ?_
  refine TriOps.q .move ?_
  refine TriOps.callR (vok_spec g bm _ _ _) (fun v hv => ?_)
  subst hv
  refine TriOps.q .not ?_
  refine .nil ?_
  refine seqQ_n ?_
  refine .condF ?_
  refine .skip ?_
  refine seqQ_n ?_
  refine .seq ?_
  refine .region_all [10] mixed ?_
  refine RA.takeO 0 rfl .move (by kernel_rfl) ?_
  refine RA.takeO 1 rfl (.nilCheck rfl) (by kernel_rfl) ?_
  refine RA.takeO 2 rfl (.fieldAddr rfl) (by kernel_rfl) ?_
  refine RA.takeO 3 rfl (.load1 rfl) (by kernel_rfl) ?_
  refine RA.takeO 4 rfl (.load1 rfl) (by kernel_rfl) ?_
  refine RA.takeO 5 rfl (Quiet.cast (v' := .tuple [.agg (encT (w0, t0)).toArray, .bool (mget k A).isSome].toArray) (.lookup2 (rm.mono fun b o hb => .inr (by have hb' : (b, o) ∈ T0 := hb; simp [hb'])) rfl (show _ = some (Value.string k) from rfl)) (by rw [← hs0, ← hr0]; rfl)) (by kernel_rfl) ?_
  refine RA.takeO 6 rfl .move (by kernel_rfl) ?_
  refine RA.takeO 7 rfl .extract (by kernel_rfl) ?_
  refine RA.take 8 rfl .extract (by kernel_rfl) ?_
  refine RA.step 9 rfl (by kernel_rfl) rfl ?_
  refine TriOps.allocA (fun b7 => ?_)
  refine .nil (Next.sub ?_)
  refine RA.step 10 rfl (by kernel_rfl) rfl ?_
  refine TriOps.storeA rfl rfl ?_
  refine .nil (Next.mod rfl ?_)
  refine RA.take 11 rfl .assign (by kernel_rfl) ?_
  refine RA.nil (by kernel_rfl) ?_
  refine seqQ_n ?_
  refine .seq ?_
  refine .block ?_
  refine .seq ?_
  refine .region ?_
  refine TriOps.q .move ?_
  refine TriOps.q .not ?_
  refine TriOps.q .assign ?_
  refine .nil ?_
  refine seqQ_n ?_
  refine .cond rfl (fun h2 => ?_) (fun h2 => ?_)
  · skip
    refine .seq ?_
    refine .region ?_
    refine TriOps.q .assign ?_
    refine .nil ?_
    refine seqQ_n ?_
    refine .ret (blkQ_r (seqQ_r (retQ_r _ (.one (.tmp rfl)) ((HLe.pick [2, 2] _).trans (HLe.ofPerm (H' := [T0 ++ Td]) (by simp [take, dropAt]))) ?_)))
    have hm : mget k A = none := by simpa using h2
    have e : trev A k client = (0, A) := by unfold trev; rw [hm]
    rw [e]; exact ⟨_, rfl, rfl, h0⟩
  · skip
    have hm : mget k A = some t0 := by
      have hsm : (mget k A).isSome = true := by simpa using h2
      obtain ⟨u, hu⟩ := Option.isSome_iff_exists.1 hsm
      exact (hu0 u hu).1 ▸ hu
    refine .seq ?_
    refine .region ?_
    refine TriOps.q (.fieldAddr rfl) ?_
    refine TriOps.q (.load1 rfl) ?_
    refine TriOps.q .move ?_
    refine TriOps.q .neS ?_
    refine TriOps.q .assign ?_
    refine .nil ?_
    refine seqQ_n ?_
    refine .cond rfl (fun h3 => ?_) (fun h3 => ?_)
    · skip
      refine .seq ?_
      refine .region ?_
      refine TriOps.q .assign ?_
      refine .nil ?_
      refine seqQ_n ?_
      refine .ret (blkQ_r (seqQ_r (retQ_r _ (.one (.tmp rfl)) ((HLe.pick [2, 2] _).trans (HLe.ofPerm (H' := [T0 ++ Td]) (by simp [take, dropAt]))) ?_)))
      have e : trev A k client = (20, A) := by unfold trev; rw [hm]; simp only; rw [if_pos (by simpa using h3)]
      rw [e]; exact ⟨_, rfl, rfl, h0⟩
    · skip
      refine .seq ?_
      refine .region ?_
      refine TriOps.q (.fieldAddr rfl) ?_
      refine TriOps.q (.load1 rfl) ?_
      refine TriOps.q .eqI ?_
      refine TriOps.q .assign ?_
      refine .nil ?_
      refine seqQ_n ?_
      refine .cond rfl (fun h4 => ?_) (fun h4 => ?_)
      · skip
        refine .region ?_
        refine TriOps.q .move ?_
        refine TriOps.q (.fieldAddr rfl) ?_
        refine TriOps.q (.load1 rfl) ?_
        refine TriOps.callM (vcut_spec g A last Td T0 hJ0 t0.family _) (fun v T2 hv => ?_)
        obtain ⟨rfl, hV2⟩ := hv
        refine .nil ?_
        refine blkQ_n (seqQ_n ?_)
        refine .seq ?_
        refine .region ?_
        refine TriOps.q .assign ?_
        refine .nil ?_
        refine seqQ_n ?_
        refine .ret (retQ_r _ (.one (.tmp rfl)) ((HLe.pick [2, 2] _).trans (HLe.ofPerm (H' := [T2 ++ Td]) (by simp [take, dropAt]))) ?_)
        have e : trev A k client = (0, A.filter fun x => !(x.2.family == t0.family)) := by unfold trev; rw [hm]; simp only; rw [if_neg (by simpa using h3), if_pos (by simpa using h4)]
        rw [e]; exact ⟨_, rfl, rfl, Td, T2, rfl, hV2⟩
      · skip
        refine .region ?_
        refine TriOps.q .move ?_
        refine TriOps.q .makeFunc ?_
        refine TriOps.callW (vremove_spec g A last Td T0 hJ0 58 [.pointer (some ⟨b4, 0, none⟩)] (fun t => decide (t.text = k)) _ (fun w t hw R' hR => by
          have : PC R' (.pointer (some ⟨b4, 0, none⟩)) [.string k] := PC.of (E := 9) (fr := (0, 0)) (hR _ _ (.inr (by simp)))
          exact trev1_spec k b4 w t hw R')) (fun v T2 hv => ?_)
        obtain ⟨rfl, hV2⟩ := hv
        refine .nil ?_
        refine blkQ_n (seqQ_n ?_)
        refine .seq ?_
        refine .region ?_
        refine TriOps.q .assign ?_
        refine .nil ?_
        refine seqQ_n ?_
        refine .ret (retQ_r _ (.one (.tmp rfl)) ((HLe.pick [2, 2] _).trans (HLe.ofPerm (H' := [T2 ++ Td]) (by simp [take, dropAt]))) ?_)
        have e : trev A k client = (0, A.filter fun x => !decide (x.2.text = k)) := by unfold trev; rw [hm]; simp only; rw [if_neg (by simpa using h3), if_neg (by simpa using h4)]
        rw [e]; exact ⟨_, rfl, rfl, Td, T2, rfl, hV2⟩
theorem sweep_step {β : Type} {M : List (ByteArray × β)} {Bs : List ByteArray} {k : ByteArray} : kdel k (M.filter fun x => decide (x.1 ∉ Bs)) = M.filter fun x => decide (x.1 ∉ Bs ++ [k]) := by
  unfold kdel
  rw [List.filter_filter]
  refine List.filter_congr fun x _ => ?_
  by_cases h : x.1 = k <;> simp [h]
theorem vsweep_spec (g : Nat) (A : List (ByteArray × Tok)) (last : Int) (T : Seg) (h : VI g A last T) (now : Int) (R : Rds) :
    Spec Try.prog 18 [.pointer (some ⟨g, 0, none⟩), .int .i64 now] R [T] fun v H' => ∃ T', H' = [T'] ∧ v = .tuple #[] ∧ VI g (A.filter fun x => decide (now < x.2.expires)) last T' := by
  have hAn := h.nd
  obtain ⟨Td, _, rfl, vm, M, q, Tm, Tq, rfl, hM, hI, hA, hQ⟩ := h
  obtain ⟨bm, rfl⟩ : ∃ b, vm = .map (some b) := by obtain ⟨b, es, clock, h1, _⟩ := hM; exact ⟨b, h1⟩
  refine Spec.segs (H' := [[(g, .cells [.map (some bm), .pointer (some ⟨q, 0, none⟩), .int .i64 last].toArray 65 (0, 0))], Tm, Tq, Td]) (by simp) ?_
  refine Spec.body Try.func18 rfl Try.results18 Try.ntmps18 rfl ?_
  refine .seq ?_
  refine .seq ?_
  refine .region ?_
  refine TriOps.q .move ?_
  refine TriOps.callR (vok_spec g bm _ _ _) (fun v hv => ?_)
  subst hv
  refine TriOps.q .not ?_
  refine .nil ?_
  refine seqQ_n ?_
  refine .condF ?_
  refine .skip ?_
  refine seqQ_n ?_
  refine .seq ?_
  refine .region ?_
  refine TriOps.q .move ?_
  refine TriOps.q (.nilCheck rfl) ?_
  refine TriOps.q (.fieldAddr rfl) ?_
  refine TriOps.q (.load1 rfl) ?_
  refine TriOps.q .move ?_
  refine TriOps.call [2] (qdue_spec q _ Tq hQ now _) (fun u H' hu => ?_)
  obtain ⟨Tq2, To, B, A', rfl, hO, hQ2, hD, hD2⟩ := hu
  show TriOps _ _ _ _ _ _ _ [Tq2, To, [(g, .cells [.map (some bm), .pointer (some ⟨q, 0, none⟩), .int .i64 last].toArray 65 (0, 0))], Tm, Td] _
  have hOl := hO.le
  refine TriOps.q (.lenO hO) ?_
  refine TriOps.q .move ?_
  refine .nil ?_
  refine seqQ_n ?_
  refine .block ?_
  refine .loop (X := Nat × List (ByteArray × TP) × Seg) (fun y => (y.1 ≤ B.length ∧ y.2.1 = M.filter fun x => decide (x.1 ∉ (B.map (·.1)).take y.1)) ∧ MS (fun s : ByteArray => .string s) (fun p : TP => .agg (encT p).toArray) (.map (some bm)) y.2.1 y.2.2) (fun y => [(0, .pointer (some ⟨g, 0, none⟩)), (14, u), (15, .int .i64 ((B.map (·.1)).length : Nat)), (16, .int .i64 (y.1 : Nat))]) (fun y => [Tq2, To, [(g, .cells [.map (some bm), .pointer (some ⟨q, 0, none⟩), .int .i64 last].toArray 65 (0, 0))], y.2.2, Td]) (fun y => B.length - y.1) (0, M, Tm) ⟨⟨by omega, by simp only [List.take_zero]; exact (List.filter_eq_self.2 fun x _ => by simp).symm⟩, hM⟩ (((((EnvLe.nil _).cons rfl).cons rfl).cons rfl).cons rfl) (HLe.refl _) ?_
  rintro ⟨i, M1, Tm1⟩ ⟨⟨hi, hM1e⟩, hM1⟩
  simp only at hi hM1e hM1 ⊢
  refine .seq ?_
  refine .region ?_
  refine TriOps.q .lss ?_
  refine .nil ?_
  refine seqQ_n ?_
  refine .seq ?_
  refine .cond rfl (fun h2 => ?_) (fun h2 => ?_)
  · skip
    have hlt : i < (B.map (·.1)).length := by have := of_decide_eq_true h2; omega
    obtain ⟨k, hk⟩ : ∃ k, (B.map (·.1))[i]? = some k := ⟨_, List.getElem?_eq_getElem hlt⟩
    have hlt2 : i < B.length := by simpa using hlt
    refine .skip ?_
    refine seqQ_n ?_
    refine .seq ?_
    refine .block ?_
    refine .seq ?_
    refine .region ?_
    refine TriOps.indexO i hO hk (fun p18 => ?_)
    refine TriOps.q (.load1 rfl) ?_
    refine TriOps.q .assign ?_
    refine .nil ?_
    refine seqQ_n ?_
    refine .region ?_
    refine TriOps.q .move ?_
    refine TriOps.q (.nilCheck rfl) ?_
    refine TriOps.q (.fieldAddr rfl) ?_
    refine TriOps.q (.load1 rfl) ?_
    refine TriOps.q .move ?_
    refine TriOps.delete hM1 rfl (show _ = some (Value.string k) from rfl) (fun Tm2 hM2 _ => ?_)
    refine .nil ?_
    refine blkQ_n (seqQ_n ?_)
    refine .region ?_
    refine TriOps.q (.i64 ((i + 1 : Nat) : Int) .add ⟨by omega, by omega, by omega⟩) ?_
    refine TriOps.q .move ?_
    refine .nil ?_
    exact loopQ_i (i + 1, mdel k M1, Tm2) ⟨⟨by simp only; omega, by simp only; rw [mdel_kdel hM1.nd, hM1e, sweep_step, List.take_add_one, hk]; rfl⟩, hM2⟩ (by simp only; omega) (((((EnvLe.nil _).cons rfl).cons rfl).cons rfl).cons rfl) (HLe.refl _)
  · skip
    have hiB : i = B.length := by have := of_decide_eq_false h2; simp at this; omega
    have hM1f : M1 = M.filter fun x => decide (now < x.2.2.expires) := by
      rw [hM1e, hiB, List.take_of_length_le (by simp)]
      refine List.filter_congr fun x hx => ?_
      have hpm := hD.pm
      have hxA : (x.1, x.2.2) ∈ A := hA.mem_iff.1 (kmap_mem hx)
      have hxe : (x.1, x.2.2.expires) ∈ kmap (fun t : Tok => t.expires) A := kmap_mem hxA
      by_cases hle : now < x.2.2.expires
      · have : x.1 ∉ B.map (·.1) := fun hm => by
          obtain ⟨p, hp, hpe⟩ := List.mem_map.1 hm
          have h5 : p ∈ kmap (fun t : Tok => t.expires) A := hpm.mem_iff.2 (List.mem_append_left _ hp)
          have h6 : mget x.1 (kmap (fun t : Tok => t.expires) A) = some p.2 := mget_of_mem (by rw [kmap_keys]; exact hAn) (by rw [← hpe]; exact h5)
          have h7 : mget x.1 (kmap (fun t : Tok => t.expires) A) = some x.2.2.expires := mget_of_mem (by rw [kmap_keys]; exact hAn) hxe
          rw [h6] at h7
          have h8 := hD.le p hp
          simp only [Option.some.injEq] at h7
          omega
        rw [decide_eq_true this, decide_eq_true hle]
      · have : x.1 ∈ B.map (·.1) := by
          rcases List.mem_append.1 (hpm.mem_iff.1 hxe) with h5 | h5
          · exact List.mem_map.2 ⟨_, h5, rfl⟩
          · exact absurd (hD2 _ h5) hle
        rw [decide_eq_false hle, decide_eq_false (fun hh => hh this)]
    refine .exit (seqQ_x (loopQ_x (blkQ_x ?_)))
    refine retQ_n _ .none ((HLe.pick [2, 2, 0, 1] _).trans (HLe.ofPerm (H' := [((g, .cells [.map (some bm), .pointer (some ⟨q, 0, none⟩), .int .i64 last].toArray 65 (0, 0)) :: (Tm1 ++ Tq2)) ++ Td]) (by simp [take, dropAt]))) ?_
    refine ⟨_, rfl, rfl, Td, _, rfl, _, M1, q, Tm1, Tq2, rfl, hM1, fun p hp => hI p (List.mem_filter.1 (hM1f ▸ hp)).1, ?_, ?_⟩
    · rw [hM1f, ← kmap_filter (q := fun t : Tok => decide (now < t.expires))]
      exact hA.filter _
    · refine hQ2.perm ((hD.filter hD2).trans (List.Perm.of_eq ?_))
      exact kmap_filter (f := fun t : Tok => t.expires) (q := fun z : Int => decide (now < z))
end Go.Proofs.Ytkepgbimlolemaa
