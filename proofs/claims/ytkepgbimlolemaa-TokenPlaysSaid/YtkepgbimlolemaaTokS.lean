/- Layer 29's law: what every row of calls answers, and what a vault has. No condition. -/
import Derived.Test.YtkepgbimlolemaaTokR
set_option linter.unusedVariables false
set_option linter.unusedSimpArgs false
set_option maxRecDepth 4000
namespace Go.Proofs.Ytkepgbimlolemaa
theorem RTV.read {x : Nat} {ps : List TP} {last : Int} {T : Seg} (h : RTV x ps last T) : ∃ vt, One vt ∧ PS T (.pointer (some ⟨x, 0, none⟩)) [vt, .int .i64 last] ∧ RS (sg T) 9 encT vt ps := by
  obtain ⟨vt, Tt, rfl, hO, hl⟩ := h
  exact ⟨vt, hO.oneCell, PS.of (E := 49) (fr := (0, 0)) (by simp), hO.rs fun p hp => by simp [sg, hp]⟩
theorem tplays_spec (v : Value) (ds : List TDo) (R : Rds) (hS : RS R 15 TDo.enc v ds) (hD : ∀ d ∈ ds, TokR R (d.w, d.t)) :
    Spec Try.prog 4 [v] R [] fun u H' => u = .bool true ∧ H' = [] := by
  have hsl := hS.le
  obtain ⟨pv, kv_, rfl⟩ := hS.val
  refine Spec.body Try.func4 rfl Try.results4 Try.ntmps4 rfl ?_
  refine .seq ?_
  refine .region ?_
  refine TriOps.q .assign ?_
  refine .nil ?_
  refine seqQ_n ?_
  refine .seq ?_
  refine .region ?_
  refine TriOps.callN (vnew_spec _) (fun u T0 hu => ?_)
  obtain ⟨g, rfl, hg0⟩ := hu
  refine TriOps.q .bld ?_
  refine TriOps.boxA rfl (fun b20 => ?_)
  refine TriOps.q .assign ?_
  refine TriOps.q .assign ?_
  refine .nil ?_
  refine seqQ_n ?_
  refine .seq ?_
  refine .seq ?_
  refine .region ?_
  refine TriOps.q .move ?_
  refine TriOps.q (.eqNilA rfl rfl) ?_
  refine .nil ?_
  refine seqQ_n ?_
  refine .condF ?_
  refine .skip ?_
  refine seqQ_n ?_
  refine .seq ?_
  refine .seq ?_
  refine .region ?_
  refine TriOps.q .assign ?_
  refine .nil ?_
  refine seqQ_n ?_
  refine Tri.cut (X := Unit) (fun _ => True) (fun _ => []) (fun _ => []) ?_ ?_
  · refine .block ?_
    refine .loop (X := Nat × List (ByteArray × Tok) × List TP × Nat × Seg × Seg × Seg) (fun y => (y.1 ≤ ds.length ∧ y.1 ≤ 40 ∧ y.2.2.1.length ≤ y.1 ∧ y.2.2.2.1 ≤ y.1) ∧ BothT y.2.1 y.2.2.1 ∧ VI g y.2.1 (y.2.2.2.1 : Nat) y.2.2.2.2.1 ∧ RTV b20 y.2.2.1 (y.2.2.2.1 : Nat) y.2.2.2.2.2.1 ∧ ∀ p ∈ y.2.2.1, TokR (sg y.2.2.2.2.2.2) p) (fun y => [(0, .slice pv ds.length kv_), (3, .pointer (some ⟨g, 0, none⟩)), (4, .pointer (some ⟨b20, 0, none⟩)), (5, .int .i64 (y.1 : Nat))]) (fun y => [y.2.2.2.2.1, y.2.2.2.2.2.1, y.2.2.2.2.2.2]) (fun y => ds.length - y.1) (0, [], [], 0, T0, [(b20, .cells [.slice none 0 0, .int .i64 0].toArray 49 (0, 0))], []) ⟨⟨by omega, by omega, by simp, Nat.le_refl _⟩, ⟨.refl _, List.Pairwise.nil⟩, hg0, ⟨_, [], rfl, OS.nil, by simp⟩, by simp⟩ (((((EnvLe.nil _).cons rfl).cons rfl).cons rfl).cons rfl) ((HLe.pick [1, 0] _).trans (HLe.ofPerm (by simp [take, dropAt]; try exact .refl _))) ?_
    rintro ⟨i, A, ps, n, T, TR, Td⟩ ⟨⟨hi, hi40, hpl, hn⟩, hB, hV, hX, hP⟩
    simp only at hi hi40 hpl hn hB hV hX hP ⊢
    refine .seq ?_
    refine .seq ?_
    refine .region ?_
    refine TriOps.q .move ?_
    refine TriOps.q .move ?_
    refine TriOps.q (.lenR hS) ?_
    refine TriOps.q .lss ?_
    refine TriOps.q .move ?_
    refine TriOps.split (t := 27) rfl (fun g5_4 => ?_) (fun g5_4 => ?_)
    · skip
      refine TriOps.gT g5_4 ?_
      refine TriOps.q .move ?_
      refine TriOps.gT g5_4 ?_
      refine TriOps.q .lss ?_
      refine TriOps.q (.pickTh g5_4) ?_
      refine .nil ?_
      refine seqQ_n ?_
      refine .cond rfl (fun h2 => ?_) (fun h2 => ?_)
      · skip
        have hlt : i < ds.length ∧ i < 40 := by simp at g5_4 h2; omega
        obtain ⟨d, hd⟩ : ∃ d, ds[i]? = some d := ⟨_, List.getElem?_eq_getElem hlt.1⟩
        have hdt := hD d (List.mem_of_getElem? hd)
        have id9 : Ones d.enc := ⟨hS.one d (List.mem_of_getElem? hd)⟩
        have idt : Ones (encT (d.w, d.t)) := ⟨hdt.ones⟩
        have hAl := hB.len
        refine .skip ?_
        refine seqQ_n ?_
        refine .seq ?_
        refine .block ?_
        refine .seq ?_
        refine .region ?_
        refine TriOps.q .move ?_
        refine TriOps.q .move ?_
        refine TriOps.indexR i hS hd (fun p35 => ?_)
        refine TriOps.q (.loadA rfl) ?_
        refine TriOps.allocA (fun b6 => ?_)
        refine TriOps.storeA rfl rfl ?_
        refine .nil ?_
        refine seqQ_n ?_
        refine .seq ?_
        refine .seq ?_
        refine .region ?_
        refine TriOps.q (.fieldAddr rfl) ?_
        refine TriOps.q (.load1 rfl) ?_
        refine .nil ?_
        refine seqQ_n ?_
        refine Tri.cut (X := List (ByteArray × Tok) × List TP × Nat × Seg × Seg × Seg) (fun y => (y.2.1.length ≤ i + 1 ∧ y.2.2.1 ≤ i + 1) ∧ BothT y.1 y.2.1 ∧ VI g y.1 (y.2.2.1 : Nat) y.2.2.2.1 ∧ RTV b20 y.2.1 (y.2.2.1 : Nat) y.2.2.2.2.1 ∧ ∀ p ∈ y.2.1, TokR (sg y.2.2.2.2.2) p) (fun y => [(0, .slice pv ds.length kv_), (3, .pointer (some ⟨g, 0, none⟩)), (4, .pointer (some ⟨b20, 0, none⟩)), (5, .int .i64 (i : Nat)), (6, .pointer (some ⟨b6, 0, none⟩))]) (fun y => [y.2.2.2.1, y.2.2.2.2.1, y.2.2.2.2.2, [(b6, .cells d.enc.toArray 28 (0, 0))]]) ?_ ?_
        · refine .block ?_
          refine .seq ?_
          refine .region ?_
          refine TriOps.q .eqI ?_
          refine TriOps.q .assign ?_
          refine .nil ?_
          refine seqQ_n ?_
          refine .cond rfl (fun h3 => ?_) (fun h3 => ?_)
          · skip
            refine .seq ?_
            refine .region ?_
            refine TriOps.q (.fieldAddr rfl) ?_
            refine TriOps.q (.loadT rfl) ?_
            refine TriOps.callN (tmine_spec d.w d.t _ (hdt.mono fun b o hb => .inl hb)) (fun w T1 hw => ?_)
            obtain ⟨w1, rfl, hc1⟩ := hw
            have iz1 : Ones (encT (w1, d.t.short)) := ⟨hc1.ones⟩
            have i7 : One w1 := hc1.oneCell
            refine TriOps.allocA (fun b7 => ?_)
            refine TriOps.storeA rfl rfl ?_
            refine .nil ?_
            refine seqQ_n ?_
            refine .seq ?_
            refine .seq ?_
            refine .region_any [3, 3] [2, 7] mixed ?_
            conv => arg 3; simp only [take, rest, dropAt, List.getD_cons_zero, List.getD_cons_succ]
            conv => arg 5; simp only [take, rest, dropAt, List.getD_cons_zero, List.getD_cons_succ]
            conv => arg 9; simp only [take, rest, dropAt, List.getD_cons_zero, List.getD_cons_succ]
            refine RA.takeO 0 rfl .move (by kernel_rfl) ?_
            refine RA.takeO 1 rfl (.loadA rfl) (by kernel_rfl) ?_
            refine RA.take 3 rfl .move (by kernel_rfl) ?_
            refine RA.take 4 rfl (.fieldAddrA rfl) (by kernel_rfl) ?_
            refine RA.take 5 rfl (.loadT rfl) (by kernel_rfl) ?_
            refine RA.step 2 rfl (by kernel_rfl) rfl ?_
            refine TriOps.callW (vPut_spec g A n T hV w1 d.t.short _ (hc1.mono fun b o hb => .inl (.inr (by have hb' : (b, o) ∈ T1 := hb.1; simp [hb']))) d.t.short_few) (fun w T2 hw => ?_)
            obtain ⟨rfl, hV2⟩ := hw
            refine .nil (Next.mod rfl ?_)
            refine RA.step 6 rfl (by kernel_rfl) rfl ?_
            refine TriOps.callN (tshort_spec d.w d.t _ (hdt.mono fun b o hb => .inl (.inl hb))) (fun w T3 hw => ?_)
            obtain ⟨w3, rfl, hc3⟩ := hw
            have iz3 : Ones (encT (w3, d.t.short)) := ⟨hc3.ones⟩
            refine .nil (Next.mod rfl ?_)
            refine RA.step 7 rfl (by kernel_rfl) rfl ?_
            refine TriOps.callW (rput_spec b20 ps n TR hX (by omega) A hB w3 d.t.short _ (hc3.mono fun b o hb => .inr (by have hb' : (b, o) ∈ T3 := hb.1; simp [hb'])) (fun p hp => (hP p hp).mono fun b o hb => .inl (.inr (by have hb' : (b, o) ∈ Td := hb; simp [hb'])))) (fun w TR2 hw => ?_)
            obtain ⟨rfl, ps2, hX2, hB2, hpp, hpl2⟩ := hw
            refine .nil (Next.mod rfl ?_)
            refine RA.take 8 rfl .neI (by kernel_rfl) ?_
            refine RA.nil (by kernel_rfl) ?_
            refine seqQ_n ?_
            refine .cond rfl (fun h4 => ?_) (fun h4 => ?_)
            · skip
              simp at h4
            · skip
              have hP2 : ∀ p ∈ ps2, TokR (sg (T3 ++ Td)) p := fun p hp => by
                rcases hpp p hp with hp | rfl
                · exact (hP p hp).mono fun b o hb => sg_right hb
                · exact TokR.mono (p := (w3, d.t.short)) hc3 fun b o hb => sg_left hb.1
              refine .skip ?_
              refine seqQ_n ?_
              refine .seq ?_
              refine .region ?_
              refine TriOps.q .assign ?_
              refine .nil ?_
              refine seqQ_n ?_
              refine .block ?_
              refine .loop (X := Nat × List ByteArray × Seg) (fun y => RS (sg0 y.2.2) 1 encS w1 y.2.1 ∧ y.2.1.length = d.t.short.scopes.length) (fun y => [(0, .slice pv ds.length kv_), (3, .pointer (some ⟨g, 0, none⟩)), (4, .pointer (some ⟨b20, 0, none⟩)), (5, .int .i64 (i : Nat)), (6, .pointer (some ⟨b6, 0, none⟩)), (7, .pointer (some ⟨b7, 0, none⟩)), (8, .int .i64 (y.1 : Nat))]) (fun y => [T2, TR2, T3 ++ Td, [(b6, .cells d.enc.toArray 28 (0, 0))], [(b7, .cells (encT (w1, d.t.short)).toArray 34 (0, 0))], y.2.2]) (fun y => d.t.short.scopes.length - y.1) (0, d.t.short.scopes, T1) ⟨hc1, rfl⟩ ((((((((EnvLe.nil _).cons rfl).cons rfl).cons rfl).cons rfl).cons rfl).cons rfl).cons rfl) ((HLe.pick [1, 1, 0, 3, 2, 0, 0] _).trans (HLe.ofPerm (by simp [take, dropAt, rest]; try exact .refl _))) ?_
              rintro ⟨k, xs, T1w⟩ ⟨hxw, hxl⟩
              simp only at hxw hxl ⊢
              have hfew := d.t.short_few
              unfold Tok.few at hfew
              refine .seq ?_
              refine .seq ?_
              refine .region ?_
              refine TriOps.q .move ?_
              refine TriOps.q (.fieldAddr rfl) ?_
              refine TriOps.q (.load1 rfl) ?_
              refine TriOps.q (.lenR hxw) ?_
              refine TriOps.q .lss ?_
              refine .nil ?_
              refine seqQ_n ?_
              refine .cond rfl (fun h5 => ?_) (fun h5 => ?_)
              · skip
                have hkx : k < xs.length := by have := of_decide_eq_true h5; omega
                obtain ⟨z, hz⟩ : ∃ z, xs[k]? = some z := ⟨_, List.getElem?_eq_getElem hkx⟩
                refine .skip ?_
                refine seqQ_n ?_
                refine .seq ?_
                refine .block ?_
                refine .region ?_
                refine TriOps.q (.fieldAddr rfl) ?_
                refine TriOps.q (.load1 rfl) ?_
                refine TriOps.q .move ?_
                refine TriOps.q (.indexR k hxw hz rfl rfl rfl) ?_
                refine TriOps.pokeS k hxw hz rfl rfl (fun T1n hpk => ?_)
                obtain ⟨xs', hx', hl'⟩ := hpk _ _ hxw
                refine .nil ?_
                refine blkQ_n (seqQ_n ?_)
                refine .region ?_
                refine TriOps.q .move ?_
                refine TriOps.q (.i64 ((k + 1 : Nat) : Int) .add ⟨by omega, by omega, by omega⟩) ?_
                refine TriOps.q .assign ?_
                refine .nil ?_
                exact loopQ_i (k + 1, xs', T1n) ⟨hx', hl'.trans hxl⟩ (by simp only; omega) ((((((((EnvLe.nil _).cons rfl).cons rfl).cons rfl).cons rfl).cons rfl).cons rfl).cons rfl) (HLe.refl _)
              · skip
                refine .exit (seqQ_x (loopQ_x (blkQ_x ?_)))
                refine blkQ_n ?_
                first
                  | exact joinQ_n (_, ps2, n, T2, TR2, T3 ++ Td) ⟨⟨by simp only; omega, by simp only; omega⟩, hB2, hV2, hX2, hP2⟩ ((((((EnvLe.nil _).cons rfl).cons rfl).cons rfl).cons rfl).cons rfl) (HLe.pick [0, 0, 0, 0] _)
                  | exact joinQ_n (A, ps, n + 1, T2, (b20, .cells [vt, .int .i64 ((n + 1 : Nat) : Int)].toArray 49 (0, 0)) :: Tt, Td) ⟨⟨by simp only; omega, by simp only; omega⟩, hB, hV2, ⟨vt, Tt, rfl, hOx, hlx⟩, hP⟩ ((((((EnvLe.nil _).cons rfl).cons rfl).cons rfl).cons rfl).cons rfl) (HLe.ofPerm (by simp; try exact .refl _))
                  | exact joinQ_n (_, ps2, n, T2, TR2, Td) ⟨⟨by simp only; omega, by simp only; omega⟩, hB2, hV2, hX2, hP2⟩ ((((((EnvLe.nil _).cons rfl).cons rfl).cons rfl).cons rfl).cons rfl) (HLe.pick [0, 0, 0, 0] _)
                  | exact joinQ_n (_, _, n, T2 ++ Td0, TR2, Td) ⟨⟨by have := List.length_filter_le (fun p : TP => !(p.2.family == d.family)) ps; simp only; omega, by simp only; omega⟩, hB.filter fun u => !(u.family == d.family), ⟨Td0, T2, rfl, hV2⟩, hX2, fun p hp => hP p (List.mem_filter.1 hp).1⟩ ((((((EnvLe.nil _).cons rfl).cons rfl).cons rfl).cons rfl).cons rfl) ((HLe.pick [0, 1, 0, 0, 0] _).trans (HLe.ofPerm (by simp [take, dropAt, rest])))
                  | exact joinQ_n (_, _, n, T2 ++ Td0, TR2, Td) ⟨⟨by have := List.length_filter_le (fun p : TP => !(p.2.family == d.family)) ps; simp only; omega, by simp only; omega⟩, hB.filter fun u => !(u.family == d.family), ⟨Td0, T2, rfl, hV2⟩, hX2, fun p hp => hP p (List.mem_filter.1 hp).1⟩ ((((((EnvLe.nil _).cons rfl).cons rfl).cons rfl).cons rfl).cons rfl) ((HLe.pick [0, 1, 0, 0] _).trans (HLe.ofPerm (by simp [take, dropAt])))
                  | exact joinQ_n (_, _, n, T2, TR2, Td) ⟨⟨by have := List.length_filter_le (fun p : TP => !tdropB d.client d.user p.2) ps; simp only; omega, by simp only; omega⟩, hB.filter fun u => !tdropB d.client d.user u, hV2, hX2, fun p hp => hP p (List.mem_filter.1 hp).1⟩ ((((((EnvLe.nil _).cons rfl).cons rfl).cons rfl).cons rfl).cons rfl) (HLe.pick [0, 0, 0, 0] _)
                  | exact joinQ_n (_, _, n, T2, TR2, Td) ⟨⟨by have := List.length_filter_le (fun p : TP => decide (d.now < p.2.expires)) ps; simp only; omega, by simp only; omega⟩, hB.filter fun u => decide (d.now < u.expires), hV2, hX2, fun p hp => hP p (List.mem_filter.1 hp).1⟩ ((((((EnvLe.nil _).cons rfl).cons rfl).cons rfl).cons rfl).cons rfl) (HLe.pick [0, 0, 0, 0] _)
                  | exact joinQ_n (A, ps, n, T, TR, Td) ⟨⟨by simp only; omega, by simp only; omega⟩, hB, hV, hX, hP⟩ ((((((EnvLe.nil _).cons rfl).cons rfl).cons rfl).cons rfl).cons rfl) (HLe.pick [1, 1, 1, 0] _)
          · skip
            refine .seq ?_
            refine .region ?_
            refine TriOps.q .eqI ?_
            refine TriOps.q .assign ?_
            refine .nil ?_
            refine seqQ_n ?_
            refine .cond rfl (fun h6 => ?_) (fun h6 => ?_)
            · skip
              obtain ⟨vt, Tt, hTR, hOx, hlx⟩ := hX
              subst hTR
              refine Tri.le (EnvLe.refl _) (H' := [T, [(b20, .cells [vt, .int .i64 (n : Nat)].toArray 49 (0, 0))], Tt, Td, [(b6, .cells d.enc.toArray 28 (0, 0))]]) ((HLe.pick [1, 1, 1, 0] _).trans (HLe.ofPerm (by simp [take, dropAt]; try exact .refl _))) ?_
              refine .seq ?_
              refine .region ?_
              refine TriOps.q .move ?_
              refine TriOps.q (.nilCheck rfl) ?_
              refine TriOps.q (.fieldAddr rfl) ?_
              refine TriOps.q (.load1 rfl) ?_
              refine TriOps.q (.i64 ((n + 1 : Nat) : Int) .add ⟨by omega, by omega, by omega⟩) ?_
              refine TriOps.q (.nilCheck rfl) ?_
              refine TriOps.q (.fieldAddr rfl) ?_
              refine TriOps.store1 rfl rfl ?_
              refine .nil ?_
              refine seqQ_n ?_
              refine .seq ?_
              refine .region_any [0] [1] mixed ?_
              conv => arg 3; simp only [take, rest, dropAt, List.getD_cons_zero, List.getD_cons_succ]
              conv => arg 5; simp only [take, rest, dropAt, List.getD_cons_zero, List.getD_cons_succ]
              conv => arg 9; simp only [take, rest, dropAt, List.getD_cons_zero, List.getD_cons_succ]
              refine RA.takeO 0 rfl .move (by kernel_rfl) ?_
              refine RA.take 2 rfl .move (by kernel_rfl) ?_
              refine RA.take 3 rfl (.nilCheckA rfl) (by kernel_rfl) ?_
              refine RA.take 4 rfl (.fieldAddrA rfl) (by kernel_rfl) ?_
              refine RA.take 5 rfl (.load1 rfl) (by kernel_rfl) ?_
              refine RA.step 1 rfl (by kernel_rfl) rfl ?_
              refine TriOps.callM (vfamily_spec g A n T hV (by omega) (by omega) _) (fun w T2 hw => ?_)
              obtain ⟨rfl, hV2⟩ := hw
              rw [show ((n : Nat) : Int) + 1 = ((n + 1 : Nat) : Int) by omega] at hV2
              refine .nil (Next.mod rfl ?_)
              refine RA.take 6 rfl .neI (by kernel_rfl) ?_
              refine RA.nil (by kernel_rfl) ?_
              refine seqQ_n ?_
              refine .cond rfl (fun h7 => ?_) (fun h7 => ?_)
              · skip
                have h9 : (((n : Nat) : Int) + 1 != ((n + 1 : Nat) : Int)) = true := h7
                simp at h9
              · skip
                refine .skip ?_
                refine blkQ_n ?_
                first
                  | exact joinQ_n (_, ps2, n, T2, TR2, T3 ++ Td) ⟨⟨by simp only; omega, by simp only; omega⟩, hB2, hV2, hX2, hP2⟩ ((((((EnvLe.nil _).cons rfl).cons rfl).cons rfl).cons rfl).cons rfl) (HLe.pick [0, 0, 0, 0] _)
                  | exact joinQ_n (A, ps, n + 1, T2, (b20, .cells [vt, .int .i64 ((n + 1 : Nat) : Int)].toArray 49 (0, 0)) :: Tt, Td) ⟨⟨by simp only; omega, by simp only; omega⟩, hB, hV2, ⟨vt, Tt, rfl, hOx, hlx⟩, hP⟩ ((((((EnvLe.nil _).cons rfl).cons rfl).cons rfl).cons rfl).cons rfl) (HLe.ofPerm (by simp; try exact .refl _))
                  | exact joinQ_n (_, ps2, n, T2, TR2, Td) ⟨⟨by simp only; omega, by simp only; omega⟩, hB2, hV2, hX2, hP2⟩ ((((((EnvLe.nil _).cons rfl).cons rfl).cons rfl).cons rfl).cons rfl) (HLe.pick [0, 0, 0, 0] _)
                  | exact joinQ_n (_, _, n, T2 ++ Td0, TR2, Td) ⟨⟨by have := List.length_filter_le (fun p : TP => !(p.2.family == d.family)) ps; simp only; omega, by simp only; omega⟩, hB.filter fun u => !(u.family == d.family), ⟨Td0, T2, rfl, hV2⟩, hX2, fun p hp => hP p (List.mem_filter.1 hp).1⟩ ((((((EnvLe.nil _).cons rfl).cons rfl).cons rfl).cons rfl).cons rfl) ((HLe.pick [0, 1, 0, 0, 0] _).trans (HLe.ofPerm (by simp [take, dropAt, rest])))
                  | exact joinQ_n (_, _, n, T2 ++ Td0, TR2, Td) ⟨⟨by have := List.length_filter_le (fun p : TP => !(p.2.family == d.family)) ps; simp only; omega, by simp only; omega⟩, hB.filter fun u => !(u.family == d.family), ⟨Td0, T2, rfl, hV2⟩, hX2, fun p hp => hP p (List.mem_filter.1 hp).1⟩ ((((((EnvLe.nil _).cons rfl).cons rfl).cons rfl).cons rfl).cons rfl) ((HLe.pick [0, 1, 0, 0] _).trans (HLe.ofPerm (by simp [take, dropAt])))
                  | exact joinQ_n (_, _, n, T2, TR2, Td) ⟨⟨by have := List.length_filter_le (fun p : TP => !tdropB d.client d.user p.2) ps; simp only; omega, by simp only; omega⟩, hB.filter fun u => !tdropB d.client d.user u, hV2, hX2, fun p hp => hP p (List.mem_filter.1 hp).1⟩ ((((((EnvLe.nil _).cons rfl).cons rfl).cons rfl).cons rfl).cons rfl) (HLe.pick [0, 0, 0, 0] _)
                  | exact joinQ_n (_, _, n, T2, TR2, Td) ⟨⟨by have := List.length_filter_le (fun p : TP => decide (d.now < p.2.expires)) ps; simp only; omega, by simp only; omega⟩, hB.filter fun u => decide (d.now < u.expires), hV2, hX2, fun p hp => hP p (List.mem_filter.1 hp).1⟩ ((((((EnvLe.nil _).cons rfl).cons rfl).cons rfl).cons rfl).cons rfl) (HLe.pick [0, 0, 0, 0] _)
                  | exact joinQ_n (A, ps, n, T, TR, Td) ⟨⟨by simp only; omega, by simp only; omega⟩, hB, hV, hX, hP⟩ ((((((EnvLe.nil _).cons rfl).cons rfl).cons rfl).cons rfl).cons rfl) (HLe.pick [1, 1, 1, 0] _)
            · skip
              refine .seq ?_
              refine .region ?_
              refine TriOps.q .eqI ?_
              refine TriOps.q .assign ?_
              refine .nil ?_
              refine seqQ_n ?_
              refine .cond rfl (fun h8 => ?_) (fun h8 => ?_)
              · skip
                refine Tri.le (EnvLe.refl _) (H' := [T, TR, Td, [(b6, .cells d.enc.toArray 28 (0, 0))]]) ((HLe.pick [1, 1, 1, 0] _)) ?_
                refine .seq ?_
                refine .region ?_
                refine TriOps.q .move ?_
                refine TriOps.q (.fieldAddr rfl) ?_
                refine TriOps.q (.load1 rfl) ?_
                refine TriOps.q (.fieldAddr rfl) ?_
                refine TriOps.q (.load1 rfl) ?_
                refine TriOps.q (.fieldAddr rfl) ?_
                refine TriOps.q (.load1 rfl) ?_
                refine TriOps.call [0] (vrotate_spec g A n T hV d.text d.client d.now _) (fun w H' hw => ?_)
                obtain ⟨T2, Tn, rfl, w3, rfl, hc3, hV2⟩ := hw
                show TriOps _ _ _ _ _ _ _ [T2, Tn, TR, Td, [(b6, .cells d.enc.toArray 28 (0, 0))]] _
                have i3 := (⟨hc3.ones⟩ : Ones (encT (w3, _)))
                have iw3 : One w3 := hc3.oneCell
                refine TriOps.q .move ?_
                refine TriOps.q .extract ?_
                refine TriOps.q .extract ?_
                refine TriOps.allocA (fun b9 => ?_)
                refine TriOps.storeA rfl rfl ?_
                refine TriOps.q .assign ?_
                refine .nil ?_
                refine seqQ_n ?_
                refine .seq ?_
                refine .region ?_
                refine TriOps.q .move ?_
                refine TriOps.q (.fieldAddr rfl) ?_
                refine TriOps.q (.load1 rfl) ?_
                refine TriOps.q (.fieldAddr rfl) ?_
                refine TriOps.q (.load1 rfl) ?_
                refine TriOps.q (.fieldAddr rfl) ?_
                refine TriOps.q (.load1 rfl) ?_
                refine TriOps.callW ((rrotate_spec b20 ps n TR hX A hB d.text d.client d.now (sg Td) hP).weaken fun b o hb => .inr (by have hb' : (b, o) ∈ Td := hb; simp [hb'])) (fun w TR2 hw => ?_)
                obtain ⟨w4, ps2, rfl, hc4, hX2, hB2, hP2, hpl2⟩ := hw
                have i4 := (⟨hc4.ones⟩ : Ones (encT (w4, _)))
                refine TriOps.q .move ?_
                refine TriOps.q .extract ?_
                refine TriOps.q .extract ?_
                refine TriOps.allocA (fun b11 => ?_)
                refine TriOps.storeA rfl rfl ?_
                refine TriOps.q .assign ?_
                refine .nil ?_
                refine seqQ_n ?_
                refine .seq ?_
                refine .seq ?_
                refine .region_all [] mixed ?_
                refine RA.takeO 0 rfl (.loadA rfl) (by kernel_rfl) ?_
                refine RA.takeO 2 rfl (.loadA rfl) (by kernel_rfl) ?_
                refine RA.step 1 rfl (by kernel_rfl) rfl ?_
                refine TriOps.callR (tplain_spec w3 _ _ hc3) (fun w hw => ?_)
                subst hw
                refine .nil (Next.sub ?_)
                refine RA.step 3 rfl (by kernel_rfl) rfl ?_
                refine TriOps.callR (sameT_spec w3 w4 _ _ _ (hc3.mono fun b o hb => .inr (by have hb' : (b, o) ∈ Tn := hb.1; simp [hb'])) (hc4.mono fun b o hb => .inr (by have hb' : (b, o) ∈ Td := hb; simp [hb']))) (fun w hw => ?_)
                rw [sameT_self] at hw
                subst hw
                refine .nil (Next.sub ?_)
                refine RA.takeO 4 rfl .not (by kernel_rfl) ?_
                refine RA.takeO 5 rfl .move (by kernel_rfl) ?_
                refine RA.takeGO 6 rfl rfl .move (by kernel_rfl) ?_
                refine RA.takeGO 7 rfl rfl .move (by kernel_rfl) ?_
                refine RA.takeGO 8 rfl rfl .neI (by kernel_rfl) ?_
                refine RA.takeO 9 rfl .pickF (by kernel_rfl) ?_
                refine RA.nil (by kernel_rfl) ?_
                refine seqQ_n ?_
                refine .cond rfl (fun h9 => ?_) (fun h9 => ?_)
                · skip
                  simp at h9
                · skip
                  generalize hr1 : (trot A d.text d.client d.now).1 = r1 at hc3 hc4
                  have hfr : r1.scopes.length ≤ 9223372036854775807 := (show RS (sg0 Tn) 1 encS w3 r1.scopes from hc3).le
                  refine .skip ?_
                  refine seqQ_n ?_
                  refine .seq ?_
                  refine .region ?_
                  refine TriOps.q .assign ?_
                  refine .nil ?_
                  refine seqQ_n ?_
                  refine .block ?_
                  refine .loop (X := Nat × List ByteArray × Seg) (fun y => RS (sg0 y.2.2) 1 encS w3 y.2.1 ∧ y.2.1.length = r1.scopes.length) (fun y => [(0, .slice pv ds.length kv_), (3, .pointer (some ⟨g, 0, none⟩)), (4, .pointer (some ⟨b20, 0, none⟩)), (5, .int .i64 (i : Nat)), (6, .pointer (some ⟨b6, 0, none⟩)), (9, .pointer (some ⟨b9, 0, none⟩)), (13, .int .i64 (y.1 : Nat))]) (fun y => [T2, TR2, Td, [(b6, .cells d.enc.toArray 28 (0, 0))], [(b9, .cells (encT (w3, r1)).toArray 34 (0, 0))], y.2.2]) (fun y => r1.scopes.length - y.1) (0, r1.scopes, Tn) ⟨hc3, rfl⟩ ((((((((EnvLe.nil _).cons rfl).cons rfl).cons rfl).cons rfl).cons rfl).cons rfl).cons rfl) (by subst hr1; exact (HLe.pick [2, 3, 3, 3, 1, 1] _)) ?_
                  rintro ⟨k, xs, T1w⟩ ⟨hxw, hxl⟩
                  simp only at hxw hxl ⊢
                  refine .seq ?_
                  refine .seq ?_
                  refine .region ?_
                  refine TriOps.q .move ?_
                  refine TriOps.q (.fieldAddr rfl) ?_
                  refine TriOps.q (.load1 rfl) ?_
                  refine TriOps.q (.lenR hxw) ?_
                  refine TriOps.q .lss ?_
                  refine .nil ?_
                  refine seqQ_n ?_
                  refine .cond rfl (fun h10 => ?_) (fun h10 => ?_)
                  · skip
                    have hkx : k < xs.length := by have := of_decide_eq_true h10; omega
                    obtain ⟨z, hz⟩ : ∃ z, xs[k]? = some z := ⟨_, List.getElem?_eq_getElem hkx⟩
                    refine .skip ?_
                    refine seqQ_n ?_
                    refine .seq ?_
                    refine .block ?_
                    refine .region ?_
                    refine TriOps.q (.fieldAddr rfl) ?_
                    refine TriOps.q (.load1 rfl) ?_
                    refine TriOps.q .move ?_
                    refine TriOps.q (.indexR k hxw hz rfl rfl rfl) ?_
                    refine TriOps.pokeS k hxw hz rfl rfl (fun T1n hpk => ?_)
                    obtain ⟨xs', hx', hl'⟩ := hpk _ _ hxw
                    refine .nil ?_
                    refine blkQ_n (seqQ_n ?_)
                    refine .region ?_
                    refine TriOps.q .move ?_
                    refine TriOps.q (.i64 ((k + 1 : Nat) : Int) .add ⟨by omega, by omega, by omega⟩) ?_
                    refine TriOps.q .assign ?_
                    refine .nil ?_
                    exact loopQ_i (k + 1, xs', T1n) ⟨hx', hl'.trans hxl⟩ (by simp only; omega) ((((((((EnvLe.nil _).cons rfl).cons rfl).cons rfl).cons rfl).cons rfl).cons rfl).cons rfl) (HLe.refl _)
                  · skip
                    refine .exit (seqQ_x (loopQ_x (blkQ_x ?_)))
                    refine blkQ_n ?_
                    first
                      | exact joinQ_n (_, ps2, n, T2, TR2, T3 ++ Td) ⟨⟨by simp only; omega, by simp only; omega⟩, hB2, hV2, hX2, hP2⟩ ((((((EnvLe.nil _).cons rfl).cons rfl).cons rfl).cons rfl).cons rfl) (HLe.pick [0, 0, 0, 0] _)
                      | exact joinQ_n (A, ps, n + 1, T2, (b20, .cells [vt, .int .i64 ((n + 1 : Nat) : Int)].toArray 49 (0, 0)) :: Tt, Td) ⟨⟨by simp only; omega, by simp only; omega⟩, hB, hV2, ⟨vt, Tt, rfl, hOx, hlx⟩, hP⟩ ((((((EnvLe.nil _).cons rfl).cons rfl).cons rfl).cons rfl).cons rfl) (HLe.ofPerm (by simp; try exact .refl _))
                      | exact joinQ_n (_, ps2, n, T2, TR2, Td) ⟨⟨by simp only; omega, by simp only; omega⟩, hB2, hV2, hX2, hP2⟩ ((((((EnvLe.nil _).cons rfl).cons rfl).cons rfl).cons rfl).cons rfl) (HLe.pick [0, 0, 0, 0] _)
                      | exact joinQ_n (_, _, n, T2 ++ Td0, TR2, Td) ⟨⟨by have := List.length_filter_le (fun p : TP => !(p.2.family == d.family)) ps; simp only; omega, by simp only; omega⟩, hB.filter fun u => !(u.family == d.family), ⟨Td0, T2, rfl, hV2⟩, hX2, fun p hp => hP p (List.mem_filter.1 hp).1⟩ ((((((EnvLe.nil _).cons rfl).cons rfl).cons rfl).cons rfl).cons rfl) ((HLe.pick [0, 1, 0, 0, 0] _).trans (HLe.ofPerm (by simp [take, dropAt, rest])))
                      | exact joinQ_n (_, _, n, T2 ++ Td0, TR2, Td) ⟨⟨by have := List.length_filter_le (fun p : TP => !(p.2.family == d.family)) ps; simp only; omega, by simp only; omega⟩, hB.filter fun u => !(u.family == d.family), ⟨Td0, T2, rfl, hV2⟩, hX2, fun p hp => hP p (List.mem_filter.1 hp).1⟩ ((((((EnvLe.nil _).cons rfl).cons rfl).cons rfl).cons rfl).cons rfl) ((HLe.pick [0, 1, 0, 0] _).trans (HLe.ofPerm (by simp [take, dropAt])))
                      | exact joinQ_n (_, _, n, T2, TR2, Td) ⟨⟨by have := List.length_filter_le (fun p : TP => !tdropB d.client d.user p.2) ps; simp only; omega, by simp only; omega⟩, hB.filter fun u => !tdropB d.client d.user u, hV2, hX2, fun p hp => hP p (List.mem_filter.1 hp).1⟩ ((((((EnvLe.nil _).cons rfl).cons rfl).cons rfl).cons rfl).cons rfl) (HLe.pick [0, 0, 0, 0] _)
                      | exact joinQ_n (_, _, n, T2, TR2, Td) ⟨⟨by have := List.length_filter_le (fun p : TP => decide (d.now < p.2.expires)) ps; simp only; omega, by simp only; omega⟩, hB.filter fun u => decide (d.now < u.expires), hV2, hX2, fun p hp => hP p (List.mem_filter.1 hp).1⟩ ((((((EnvLe.nil _).cons rfl).cons rfl).cons rfl).cons rfl).cons rfl) (HLe.pick [0, 0, 0, 0] _)
                      | exact joinQ_n (A, ps, n, T, TR, Td) ⟨⟨by simp only; omega, by simp only; omega⟩, hB, hV, hX, hP⟩ ((((((EnvLe.nil _).cons rfl).cons rfl).cons rfl).cons rfl).cons rfl) (HLe.pick [1, 1, 1, 0] _)
              · skip
                refine .seq ?_
                refine .region ?_
                refine TriOps.q .eqI ?_
                refine TriOps.q .assign ?_
                refine .nil ?_
                refine seqQ_n ?_
                refine .cond rfl (fun h11 => ?_) (fun h11 => ?_)
                · skip
                  refine Tri.le (EnvLe.refl _) (H' := [T, TR, Td, [(b6, .cells d.enc.toArray 28 (0, 0))]]) ((HLe.pick [1, 1, 1, 0] _)) ?_
                  refine .seq ?_
                  refine .region_any [0, 0] [5, 11] mixed ?_
                  conv => arg 3; simp only [take, rest, dropAt, List.getD_cons_zero, List.getD_cons_succ]
                  conv => arg 5; simp only [take, rest, dropAt, List.getD_cons_zero, List.getD_cons_succ]
                  conv => arg 9; simp only [take, rest, dropAt, List.getD_cons_zero, List.getD_cons_succ]
                  refine RA.takeO 0 rfl .move (by kernel_rfl) ?_
                  refine RA.takeO 1 rfl (.fieldAddr rfl) (by kernel_rfl) ?_
                  refine RA.takeO 2 rfl (.load1 rfl) (by kernel_rfl) ?_
                  refine RA.takeO 3 rfl (.fieldAddr rfl) (by kernel_rfl) ?_
                  refine RA.takeO 4 rfl (.load1 rfl) (by kernel_rfl) ?_
                  refine RA.take 6 rfl .move (by kernel_rfl) ?_
                  refine RA.take 7 rfl (.fieldAddrA rfl) (by kernel_rfl) ?_
                  refine RA.take 8 rfl (.load1 rfl) (by kernel_rfl) ?_
                  refine RA.take 9 rfl (.fieldAddrA rfl) (by kernel_rfl) ?_
                  refine RA.take 10 rfl (.load1 rfl) (by kernel_rfl) ?_
                  refine RA.step 5 rfl (by kernel_rfl) rfl ?_
                  refine TriOps.callM (vrevoke_spec g A n T hV d.text d.client _) (fun w T2 hw => ?_)
                  obtain ⟨rfl, hV2⟩ := hw
                  refine .nil (Next.mod rfl ?_)
                  refine RA.step 11 rfl (by kernel_rfl) rfl ?_
                  refine TriOps.callM ((rrevoke_spec b20 ps n TR hX A hB d.text d.client (sg Td) hP).weaken fun b o hb => .inr (by have hb' : (b, o) ∈ Td := hb; simp [hb'])) (fun w TR2 hw => ?_)
                  obtain ⟨rfl, ps2, hX2, hB2, hP2, hpl2⟩ := hw
                  refine .nil (Next.mod rfl ?_)
                  refine RA.take 12 rfl .neI (by kernel_rfl) ?_
                  refine RA.nil (by kernel_rfl) ?_
                  refine seqQ_n ?_
                  refine .cond rfl (fun h12 => ?_) (fun h12 => ?_)
                  · skip
                    simp at h12
                  · skip
                    refine .skip ?_
                    refine blkQ_n ?_
                    first
                      | exact joinQ_n (_, ps2, n, T2, TR2, T3 ++ Td) ⟨⟨by simp only; omega, by simp only; omega⟩, hB2, hV2, hX2, hP2⟩ ((((((EnvLe.nil _).cons rfl).cons rfl).cons rfl).cons rfl).cons rfl) (HLe.pick [0, 0, 0, 0] _)
                      | exact joinQ_n (A, ps, n + 1, T2, (b20, .cells [vt, .int .i64 ((n + 1 : Nat) : Int)].toArray 49 (0, 0)) :: Tt, Td) ⟨⟨by simp only; omega, by simp only; omega⟩, hB, hV2, ⟨vt, Tt, rfl, hOx, hlx⟩, hP⟩ ((((((EnvLe.nil _).cons rfl).cons rfl).cons rfl).cons rfl).cons rfl) (HLe.ofPerm (by simp; try exact .refl _))
                      | exact joinQ_n (_, ps2, n, T2, TR2, Td) ⟨⟨by simp only; omega, by simp only; omega⟩, hB2, hV2, hX2, hP2⟩ ((((((EnvLe.nil _).cons rfl).cons rfl).cons rfl).cons rfl).cons rfl) (HLe.pick [0, 0, 0, 0] _)
                      | exact joinQ_n (_, _, n, T2 ++ Td0, TR2, Td) ⟨⟨by have := List.length_filter_le (fun p : TP => !(p.2.family == d.family)) ps; simp only; omega, by simp only; omega⟩, hB.filter fun u => !(u.family == d.family), ⟨Td0, T2, rfl, hV2⟩, hX2, fun p hp => hP p (List.mem_filter.1 hp).1⟩ ((((((EnvLe.nil _).cons rfl).cons rfl).cons rfl).cons rfl).cons rfl) ((HLe.pick [0, 1, 0, 0, 0] _).trans (HLe.ofPerm (by simp [take, dropAt, rest])))
                      | exact joinQ_n (_, _, n, T2 ++ Td0, TR2, Td) ⟨⟨by have := List.length_filter_le (fun p : TP => !(p.2.family == d.family)) ps; simp only; omega, by simp only; omega⟩, hB.filter fun u => !(u.family == d.family), ⟨Td0, T2, rfl, hV2⟩, hX2, fun p hp => hP p (List.mem_filter.1 hp).1⟩ ((((((EnvLe.nil _).cons rfl).cons rfl).cons rfl).cons rfl).cons rfl) ((HLe.pick [0, 1, 0, 0] _).trans (HLe.ofPerm (by simp [take, dropAt])))
                      | exact joinQ_n (_, _, n, T2, TR2, Td) ⟨⟨by have := List.length_filter_le (fun p : TP => !tdropB d.client d.user p.2) ps; simp only; omega, by simp only; omega⟩, hB.filter fun u => !tdropB d.client d.user u, hV2, hX2, fun p hp => hP p (List.mem_filter.1 hp).1⟩ ((((((EnvLe.nil _).cons rfl).cons rfl).cons rfl).cons rfl).cons rfl) (HLe.pick [0, 0, 0, 0] _)
                      | exact joinQ_n (_, _, n, T2, TR2, Td) ⟨⟨by have := List.length_filter_le (fun p : TP => decide (d.now < p.2.expires)) ps; simp only; omega, by simp only; omega⟩, hB.filter fun u => decide (d.now < u.expires), hV2, hX2, fun p hp => hP p (List.mem_filter.1 hp).1⟩ ((((((EnvLe.nil _).cons rfl).cons rfl).cons rfl).cons rfl).cons rfl) (HLe.pick [0, 0, 0, 0] _)
                      | exact joinQ_n (A, ps, n, T, TR, Td) ⟨⟨by simp only; omega, by simp only; omega⟩, hB, hV, hX, hP⟩ ((((((EnvLe.nil _).cons rfl).cons rfl).cons rfl).cons rfl).cons rfl) (HLe.pick [1, 1, 1, 0] _)
                · skip
                  refine .seq ?_
                  refine .region ?_
                  refine TriOps.q .eqI ?_
                  refine TriOps.q .assign ?_
                  refine .nil ?_
                  refine seqQ_n ?_
                  refine .cond rfl (fun h13 => ?_) (fun h13 => ?_)
                  · skip
                    obtain ⟨Td0, T00, hTe, hJ⟩ := hV
                    subst hTe
                    refine Tri.le (EnvLe.refl _) (H' := [T00, Td0, TR, Td, [(b6, .cells d.enc.toArray 28 (0, 0))]]) ((HLe.pick [1, 1, 1, 0] _).trans (HLe.ofPerm (by simp [take, dropAt]; try exact .refl _))) ?_
                    refine .seq ?_
                    refine .region_any [0, 1] [3, 7] mixed ?_
                    conv => arg 3; simp only [take, rest, dropAt, List.getD_cons_zero, List.getD_cons_succ]
                    conv => arg 5; simp only [take, rest, dropAt, List.getD_cons_zero, List.getD_cons_succ]
                    conv => arg 9; simp only [take, rest, dropAt, List.getD_cons_zero, List.getD_cons_succ]
                    refine RA.takeO 0 rfl .move (by kernel_rfl) ?_
                    refine RA.takeO 1 rfl (.fieldAddr rfl) (by kernel_rfl) ?_
                    refine RA.takeO 2 rfl (.load1 rfl) (by kernel_rfl) ?_
                    refine RA.take 4 rfl .move (by kernel_rfl) ?_
                    refine RA.take 5 rfl (.fieldAddrA rfl) (by kernel_rfl) ?_
                    refine RA.take 6 rfl (.load1 rfl) (by kernel_rfl) ?_
                    refine RA.step 3 rfl (by kernel_rfl) rfl ?_
                    refine TriOps.callM (vcut_spec g A n Td0 T00 hJ d.family _) (fun w T2 hw => ?_)
                    obtain ⟨rfl, hV2⟩ := hw
                    refine .nil (Next.mod rfl ?_)
                    refine RA.step 7 rfl (by kernel_rfl) rfl ?_
                    refine TriOps.callM ((rcut_spec b20 ps n TR hX A hB d.family (sg Td) hP).weaken fun b o hb => .inr (by have hb' : (b, o) ∈ Td := hb; simp [hb'])) (fun w TR2 hw => ?_)
                    obtain ⟨rfl, hX2⟩ := hw
                    refine .nil (Next.mod rfl ?_)
                    refine RA.take 8 rfl .neI (by kernel_rfl) ?_
                    refine RA.nil (by kernel_rfl) ?_
                    refine seqQ_n ?_
                    refine .cond rfl (fun h14 => ?_) (fun h14 => ?_)
                    · skip
                      simp at h14
                    · skip
                      refine .skip ?_
                      refine blkQ_n ?_
                      first
                        | exact joinQ_n (_, ps2, n, T2, TR2, T3 ++ Td) ⟨⟨by simp only; omega, by simp only; omega⟩, hB2, hV2, hX2, hP2⟩ ((((((EnvLe.nil _).cons rfl).cons rfl).cons rfl).cons rfl).cons rfl) (HLe.pick [0, 0, 0, 0] _)
                        | exact joinQ_n (A, ps, n + 1, T2, (b20, .cells [vt, .int .i64 ((n + 1 : Nat) : Int)].toArray 49 (0, 0)) :: Tt, Td) ⟨⟨by simp only; omega, by simp only; omega⟩, hB, hV2, ⟨vt, Tt, rfl, hOx, hlx⟩, hP⟩ ((((((EnvLe.nil _).cons rfl).cons rfl).cons rfl).cons rfl).cons rfl) (HLe.ofPerm (by simp; try exact .refl _))
                        | exact joinQ_n (_, ps2, n, T2, TR2, Td) ⟨⟨by simp only; omega, by simp only; omega⟩, hB2, hV2, hX2, hP2⟩ ((((((EnvLe.nil _).cons rfl).cons rfl).cons rfl).cons rfl).cons rfl) (HLe.pick [0, 0, 0, 0] _)
                        | exact joinQ_n (_, _, n, T2 ++ Td0, TR2, Td) ⟨⟨by have := List.length_filter_le (fun p : TP => !(p.2.family == d.family)) ps; simp only; omega, by simp only; omega⟩, hB.filter fun u => !(u.family == d.family), ⟨Td0, T2, rfl, hV2⟩, hX2, fun p hp => hP p (List.mem_filter.1 hp).1⟩ ((((((EnvLe.nil _).cons rfl).cons rfl).cons rfl).cons rfl).cons rfl) ((HLe.pick [0, 1, 0, 0, 0] _).trans (HLe.ofPerm (by simp [take, dropAt, rest])))
                        | exact joinQ_n (_, _, n, T2 ++ Td0, TR2, Td) ⟨⟨by have := List.length_filter_le (fun p : TP => !(p.2.family == d.family)) ps; simp only; omega, by simp only; omega⟩, hB.filter fun u => !(u.family == d.family), ⟨Td0, T2, rfl, hV2⟩, hX2, fun p hp => hP p (List.mem_filter.1 hp).1⟩ ((((((EnvLe.nil _).cons rfl).cons rfl).cons rfl).cons rfl).cons rfl) ((HLe.pick [0, 1, 0, 0] _).trans (HLe.ofPerm (by simp [take, dropAt])))
                        | exact joinQ_n (_, _, n, T2, TR2, Td) ⟨⟨by have := List.length_filter_le (fun p : TP => !tdropB d.client d.user p.2) ps; simp only; omega, by simp only; omega⟩, hB.filter fun u => !tdropB d.client d.user u, hV2, hX2, fun p hp => hP p (List.mem_filter.1 hp).1⟩ ((((((EnvLe.nil _).cons rfl).cons rfl).cons rfl).cons rfl).cons rfl) (HLe.pick [0, 0, 0, 0] _)
                        | exact joinQ_n (_, _, n, T2, TR2, Td) ⟨⟨by have := List.length_filter_le (fun p : TP => decide (d.now < p.2.expires)) ps; simp only; omega, by simp only; omega⟩, hB.filter fun u => decide (d.now < u.expires), hV2, hX2, fun p hp => hP p (List.mem_filter.1 hp).1⟩ ((((((EnvLe.nil _).cons rfl).cons rfl).cons rfl).cons rfl).cons rfl) (HLe.pick [0, 0, 0, 0] _)
                        | exact joinQ_n (A, ps, n, T, TR, Td) ⟨⟨by simp only; omega, by simp only; omega⟩, hB, hV, hX, hP⟩ ((((((EnvLe.nil _).cons rfl).cons rfl).cons rfl).cons rfl).cons rfl) (HLe.pick [1, 1, 1, 0] _)
                  · skip
                    refine .seq ?_
                    refine .region ?_
                    refine TriOps.q .eqI ?_
                    refine TriOps.q .assign ?_
                    refine .nil ?_
                    refine seqQ_n ?_
                    refine .cond rfl (fun h15 => ?_) (fun h15 => ?_)
                    · skip
                      refine Tri.le (EnvLe.refl _) (H' := [T, TR, Td, [(b6, .cells d.enc.toArray 28 (0, 0))]]) ((HLe.pick [1, 1, 1, 0] _)) ?_
                      refine .seq ?_
                      refine .region ?_
                      refine TriOps.q .move ?_
                      refine TriOps.q (.fieldAddr rfl) ?_
                      refine TriOps.q (.load1 rfl) ?_
                      refine TriOps.q (.fieldAddr rfl) ?_
                      refine TriOps.q (.load1 rfl) ?_
                      refine TriOps.callM (vdrop_spec g A n T hV d.client d.user _) (fun w T2 hw => ?_)
                      obtain ⟨rfl, hV2⟩ := hw
                      refine .nil ?_
                      refine seqQ_n ?_
                      refine .region ?_
                      refine TriOps.q .move ?_
                      refine TriOps.q (.fieldAddr rfl) ?_
                      refine TriOps.q (.load1 rfl) ?_
                      refine TriOps.q (.fieldAddr rfl) ?_
                      refine TriOps.q (.load1 rfl) ?_
                      refine TriOps.callW ((rdrop_spec b20 ps n TR hX d.client d.user (sg Td) hP).weaken fun b o hb => .inr (by have hb' : (b, o) ∈ Td := hb; simp [hb'])) (fun w TR2 hw => ?_)
                      obtain ⟨rfl, hX2⟩ := hw
                      refine .nil ?_
                      refine blkQ_n ?_
                      first
                        | exact joinQ_n (_, ps2, n, T2, TR2, T3 ++ Td) ⟨⟨by simp only; omega, by simp only; omega⟩, hB2, hV2, hX2, hP2⟩ ((((((EnvLe.nil _).cons rfl).cons rfl).cons rfl).cons rfl).cons rfl) (HLe.pick [0, 0, 0, 0] _)
                        | exact joinQ_n (A, ps, n + 1, T2, (b20, .cells [vt, .int .i64 ((n + 1 : Nat) : Int)].toArray 49 (0, 0)) :: Tt, Td) ⟨⟨by simp only; omega, by simp only; omega⟩, hB, hV2, ⟨vt, Tt, rfl, hOx, hlx⟩, hP⟩ ((((((EnvLe.nil _).cons rfl).cons rfl).cons rfl).cons rfl).cons rfl) (HLe.ofPerm (by simp; try exact .refl _))
                        | exact joinQ_n (_, ps2, n, T2, TR2, Td) ⟨⟨by simp only; omega, by simp only; omega⟩, hB2, hV2, hX2, hP2⟩ ((((((EnvLe.nil _).cons rfl).cons rfl).cons rfl).cons rfl).cons rfl) (HLe.pick [0, 0, 0, 0] _)
                        | exact joinQ_n (_, _, n, T2 ++ Td0, TR2, Td) ⟨⟨by have := List.length_filter_le (fun p : TP => !(p.2.family == d.family)) ps; simp only; omega, by simp only; omega⟩, hB.filter fun u => !(u.family == d.family), ⟨Td0, T2, rfl, hV2⟩, hX2, fun p hp => hP p (List.mem_filter.1 hp).1⟩ ((((((EnvLe.nil _).cons rfl).cons rfl).cons rfl).cons rfl).cons rfl) ((HLe.pick [0, 1, 0, 0, 0] _).trans (HLe.ofPerm (by simp [take, dropAt, rest])))
                        | exact joinQ_n (_, _, n, T2 ++ Td0, TR2, Td) ⟨⟨by have := List.length_filter_le (fun p : TP => !(p.2.family == d.family)) ps; simp only; omega, by simp only; omega⟩, hB.filter fun u => !(u.family == d.family), ⟨Td0, T2, rfl, hV2⟩, hX2, fun p hp => hP p (List.mem_filter.1 hp).1⟩ ((((((EnvLe.nil _).cons rfl).cons rfl).cons rfl).cons rfl).cons rfl) ((HLe.pick [0, 1, 0, 0] _).trans (HLe.ofPerm (by simp [take, dropAt])))
                        | exact joinQ_n (_, _, n, T2, TR2, Td) ⟨⟨by have := List.length_filter_le (fun p : TP => !tdropB d.client d.user p.2) ps; simp only; omega, by simp only; omega⟩, hB.filter fun u => !tdropB d.client d.user u, hV2, hX2, fun p hp => hP p (List.mem_filter.1 hp).1⟩ ((((((EnvLe.nil _).cons rfl).cons rfl).cons rfl).cons rfl).cons rfl) (HLe.pick [0, 0, 0, 0] _)
                        | exact joinQ_n (_, _, n, T2, TR2, Td) ⟨⟨by have := List.length_filter_le (fun p : TP => decide (d.now < p.2.expires)) ps; simp only; omega, by simp only; omega⟩, hB.filter fun u => decide (d.now < u.expires), hV2, hX2, fun p hp => hP p (List.mem_filter.1 hp).1⟩ ((((((EnvLe.nil _).cons rfl).cons rfl).cons rfl).cons rfl).cons rfl) (HLe.pick [0, 0, 0, 0] _)
                        | exact joinQ_n (A, ps, n, T, TR, Td) ⟨⟨by simp only; omega, by simp only; omega⟩, hB, hV, hX, hP⟩ ((((((EnvLe.nil _).cons rfl).cons rfl).cons rfl).cons rfl).cons rfl) (HLe.pick [1, 1, 1, 0] _)
                    · skip
                      refine .seq ?_
                      refine .region ?_
                      refine TriOps.q .eqI ?_
                      refine TriOps.q .assign ?_
                      refine .nil ?_
                      refine seqQ_n ?_
                      refine .cond rfl (fun h16 => ?_) (fun h16 => ?_)
                      · skip
                        refine Tri.le (EnvLe.refl _) (H' := [T, TR, Td, [(b6, .cells d.enc.toArray 28 (0, 0))]]) ((HLe.pick [1, 1, 1, 0] _)) ?_
                        refine .seq ?_
                        refine .region ?_
                        refine TriOps.q .move ?_
                        refine TriOps.q (.fieldAddr rfl) ?_
                        refine TriOps.q (.load1 rfl) ?_
                        refine TriOps.callM (vsweep_spec g A n T hV d.now _) (fun w T2 hw => ?_)
                        obtain ⟨rfl, hV2⟩ := hw
                        refine .nil ?_
                        refine seqQ_n ?_
                        refine .region ?_
                        refine TriOps.q .move ?_
                        refine TriOps.q (.fieldAddr rfl) ?_
                        refine TriOps.q (.load1 rfl) ?_
                        refine TriOps.callW ((rsweep_spec b20 ps n TR hX d.now (sg Td) hP).weaken fun b o hb => .inr (by have hb' : (b, o) ∈ Td := hb; simp [hb'])) (fun w TR2 hw => ?_)
                        obtain ⟨rfl, hX2⟩ := hw
                        refine .nil ?_
                        refine blkQ_n ?_
                        first
                          | exact joinQ_n (_, ps2, n, T2, TR2, T3 ++ Td) ⟨⟨by simp only; omega, by simp only; omega⟩, hB2, hV2, hX2, hP2⟩ ((((((EnvLe.nil _).cons rfl).cons rfl).cons rfl).cons rfl).cons rfl) (HLe.pick [0, 0, 0, 0] _)
                          | exact joinQ_n (A, ps, n + 1, T2, (b20, .cells [vt, .int .i64 ((n + 1 : Nat) : Int)].toArray 49 (0, 0)) :: Tt, Td) ⟨⟨by simp only; omega, by simp only; omega⟩, hB, hV2, ⟨vt, Tt, rfl, hOx, hlx⟩, hP⟩ ((((((EnvLe.nil _).cons rfl).cons rfl).cons rfl).cons rfl).cons rfl) (HLe.ofPerm (by simp; try exact .refl _))
                          | exact joinQ_n (_, ps2, n, T2, TR2, Td) ⟨⟨by simp only; omega, by simp only; omega⟩, hB2, hV2, hX2, hP2⟩ ((((((EnvLe.nil _).cons rfl).cons rfl).cons rfl).cons rfl).cons rfl) (HLe.pick [0, 0, 0, 0] _)
                          | exact joinQ_n (_, _, n, T2 ++ Td0, TR2, Td) ⟨⟨by have := List.length_filter_le (fun p : TP => !(p.2.family == d.family)) ps; simp only; omega, by simp only; omega⟩, hB.filter fun u => !(u.family == d.family), ⟨Td0, T2, rfl, hV2⟩, hX2, fun p hp => hP p (List.mem_filter.1 hp).1⟩ ((((((EnvLe.nil _).cons rfl).cons rfl).cons rfl).cons rfl).cons rfl) ((HLe.pick [0, 1, 0, 0, 0] _).trans (HLe.ofPerm (by simp [take, dropAt, rest])))
                          | exact joinQ_n (_, _, n, T2 ++ Td0, TR2, Td) ⟨⟨by have := List.length_filter_le (fun p : TP => !(p.2.family == d.family)) ps; simp only; omega, by simp only; omega⟩, hB.filter fun u => !(u.family == d.family), ⟨Td0, T2, rfl, hV2⟩, hX2, fun p hp => hP p (List.mem_filter.1 hp).1⟩ ((((((EnvLe.nil _).cons rfl).cons rfl).cons rfl).cons rfl).cons rfl) ((HLe.pick [0, 1, 0, 0] _).trans (HLe.ofPerm (by simp [take, dropAt])))
                          | exact joinQ_n (_, _, n, T2, TR2, Td) ⟨⟨by have := List.length_filter_le (fun p : TP => !tdropB d.client d.user p.2) ps; simp only; omega, by simp only; omega⟩, hB.filter fun u => !tdropB d.client d.user u, hV2, hX2, fun p hp => hP p (List.mem_filter.1 hp).1⟩ ((((((EnvLe.nil _).cons rfl).cons rfl).cons rfl).cons rfl).cons rfl) (HLe.pick [0, 0, 0, 0] _)
                          | exact joinQ_n (_, _, n, T2, TR2, Td) ⟨⟨by have := List.length_filter_le (fun p : TP => decide (d.now < p.2.expires)) ps; simp only; omega, by simp only; omega⟩, hB.filter fun u => decide (d.now < u.expires), hV2, hX2, fun p hp => hP p (List.mem_filter.1 hp).1⟩ ((((((EnvLe.nil _).cons rfl).cons rfl).cons rfl).cons rfl).cons rfl) (HLe.pick [0, 0, 0, 0] _)
                          | exact joinQ_n (A, ps, n, T, TR, Td) ⟨⟨by simp only; omega, by simp only; omega⟩, hB, hV, hX, hP⟩ ((((((EnvLe.nil _).cons rfl).cons rfl).cons rfl).cons rfl).cons rfl) (HLe.pick [1, 1, 1, 0] _)
                      · skip
                        refine .skip ?_
                        refine blkQ_n ?_
                        first
                          | exact joinQ_n (_, ps2, n, T2, TR2, T3 ++ Td) ⟨⟨by simp only; omega, by simp only; omega⟩, hB2, hV2, hX2, hP2⟩ ((((((EnvLe.nil _).cons rfl).cons rfl).cons rfl).cons rfl).cons rfl) (HLe.pick [0, 0, 0, 0] _)
                          | exact joinQ_n (A, ps, n + 1, T2, (b20, .cells [vt, .int .i64 ((n + 1 : Nat) : Int)].toArray 49 (0, 0)) :: Tt, Td) ⟨⟨by simp only; omega, by simp only; omega⟩, hB, hV2, ⟨vt, Tt, rfl, hOx, hlx⟩, hP⟩ ((((((EnvLe.nil _).cons rfl).cons rfl).cons rfl).cons rfl).cons rfl) (HLe.ofPerm (by simp; try exact .refl _))
                          | exact joinQ_n (_, ps2, n, T2, TR2, Td) ⟨⟨by simp only; omega, by simp only; omega⟩, hB2, hV2, hX2, hP2⟩ ((((((EnvLe.nil _).cons rfl).cons rfl).cons rfl).cons rfl).cons rfl) (HLe.pick [0, 0, 0, 0] _)
                          | exact joinQ_n (_, _, n, T2 ++ Td0, TR2, Td) ⟨⟨by have := List.length_filter_le (fun p : TP => !(p.2.family == d.family)) ps; simp only; omega, by simp only; omega⟩, hB.filter fun u => !(u.family == d.family), ⟨Td0, T2, rfl, hV2⟩, hX2, fun p hp => hP p (List.mem_filter.1 hp).1⟩ ((((((EnvLe.nil _).cons rfl).cons rfl).cons rfl).cons rfl).cons rfl) ((HLe.pick [0, 1, 0, 0, 0] _).trans (HLe.ofPerm (by simp [take, dropAt, rest])))
                          | exact joinQ_n (_, _, n, T2 ++ Td0, TR2, Td) ⟨⟨by have := List.length_filter_le (fun p : TP => !(p.2.family == d.family)) ps; simp only; omega, by simp only; omega⟩, hB.filter fun u => !(u.family == d.family), ⟨Td0, T2, rfl, hV2⟩, hX2, fun p hp => hP p (List.mem_filter.1 hp).1⟩ ((((((EnvLe.nil _).cons rfl).cons rfl).cons rfl).cons rfl).cons rfl) ((HLe.pick [0, 1, 0, 0] _).trans (HLe.ofPerm (by simp [take, dropAt])))
                          | exact joinQ_n (_, _, n, T2, TR2, Td) ⟨⟨by have := List.length_filter_le (fun p : TP => !tdropB d.client d.user p.2) ps; simp only; omega, by simp only; omega⟩, hB.filter fun u => !tdropB d.client d.user u, hV2, hX2, fun p hp => hP p (List.mem_filter.1 hp).1⟩ ((((((EnvLe.nil _).cons rfl).cons rfl).cons rfl).cons rfl).cons rfl) (HLe.pick [0, 0, 0, 0] _)
                          | exact joinQ_n (_, _, n, T2, TR2, Td) ⟨⟨by have := List.length_filter_le (fun p : TP => decide (d.now < p.2.expires)) ps; simp only; omega, by simp only; omega⟩, hB.filter fun u => decide (d.now < u.expires), hV2, hX2, fun p hp => hP p (List.mem_filter.1 hp).1⟩ ((((((EnvLe.nil _).cons rfl).cons rfl).cons rfl).cons rfl).cons rfl) (HLe.pick [0, 0, 0, 0] _)
                          | exact joinQ_n (A, ps, n, T, TR, Td) ⟨⟨by simp only; omega, by simp only; omega⟩, hB, hV, hX, hP⟩ ((((((EnvLe.nil _).cons rfl).cons rfl).cons rfl).cons rfl).cons rfl) (HLe.pick [1, 1, 1, 0] _)
        · intro x hx
          clear hB hV hX hP hAl hpl hn A ps n T TR Td
          obtain ⟨A, ps, n, T, TR, Td⟩ := x
          obtain ⟨⟨hpl, hn⟩, hB, hV, hX, hP⟩ := hx
          simp only at hpl hn hB hV hX hP ⊢
          obtain ⟨vt, ivt, px, hsx⟩ := hX.read
          have hAl := hB.len
          refine seqQ_n ?_
          refine .seq ?_
          refine .region ?_
          refine TriOps.q .move ?_
          refine TriOps.q (.fieldAddr rfl) ?_
          refine TriOps.q (.load1 rfl) ?_
          refine TriOps.q (.fieldAddr rfl) ?_
          refine TriOps.q (.load1 rfl) ?_
          refine TriOps.callN (vfind_spec g A n T hV d.text d.now _ fun p hp => .inr (by simp [hp])) (fun w T5 hw => ?_)
          obtain ⟨w5, t5, rfl, hc5, ht5⟩ := hw
          have i5 : Ones (encT (w5, t5)) := ⟨hc5.ones⟩
          refine TriOps.q .move ?_
          refine TriOps.q .extract ?_
          refine TriOps.q .extract ?_
          refine TriOps.allocA (fun b14 => ?_)
          refine TriOps.storeA rfl rfl ?_
          refine TriOps.q .assign ?_
          refine .nil ?_
          refine seqQ_n ?_
          refine .seq ?_
          refine .region ?_
          refine TriOps.q .move ?_
          refine TriOps.q (.fieldAddr rfl) ?_
          refine TriOps.q (.load1 rfl) ?_
          refine TriOps.callR (rtfind_spec b20 vt n ps d.text _ (hsx.mono fun b o hb => .inr (by have hb' : (b, o) ∈ TR := hb; simp [hb'])) fun p hp => (hP p hp).mono fun b o hb => .inr (by have hb' : (b, o) ∈ Td := hb; simp [hb'])) (fun w hw => ?_)
          obtain ⟨z, rfl, hz⟩ := hw
          refine TriOps.q .assign ?_
          refine .nil ?_
          refine seqQ_n ?_
          refine .seq ?_
          refine Tri.cut (X := Unit) (fun _ => True) (fun _ => [(0, .slice pv ds.length kv_), (3, .pointer (some ⟨g, 0, none⟩)), (4, .pointer (some ⟨b20, 0, none⟩)), (5, .int .i64 (i : Nat)), (6, .pointer (some ⟨b6, 0, none⟩)), (14, .pointer (some ⟨b14, 0, none⟩)), (15, .bool (tfind A d.text d.now).isSome), (16, .int .i64 z), (17, .bool (tfind A d.text d.now).isSome)]) (fun _ => [[(b14, .cells (encT (w5, t5)).toArray 34 (0, 0))], T5, T, TR, Td, [(b6, .cells d.enc.toArray 28 (0, 0))]]) ?_ ?_
          · skip
            refine .region_still mixed (by kernel_rfl) ?_
            refine TriOps.q .move ?_
            refine TriOps.q .geq ?_
            refine TriOps.q .move ?_
            refine TriOps.split (t := 190) rfl (fun g44_2 => ?_) (fun g44_2 => ?_)
            · skip
              obtain ⟨j, wj, tj, rfl, hj, hjk, hjm⟩ := hz.at hB (by have := of_decide_eq_true g44_2; omega)
              have cj := hP _ (List.mem_of_getElem? hj)
              have ij : Ones (encT (wj, tj)) := ⟨cj.ones⟩
              have pj : PS TR (baseP vt (j * 9)) (encT (wj, tj)) := ⟨hsx.pc hj⟩
              have his : (tfind A d.text d.now).isSome = decide (d.now < tj.expires) := by
                unfold tfind
                rw [hjm, Option.filter]
                by_cases hh : d.now < tj.expires <;> simp [hh]
              refine TriOps.gT g44_2 ?_
              refine TriOps.q .move ?_
              refine TriOps.gT g44_2 ?_
              refine TriOps.q (.nilCheck rfl) ?_
              refine TriOps.gT g44_2 ?_
              refine TriOps.q (.fieldAddr rfl) ?_
              refine TriOps.gT g44_2 ?_
              refine TriOps.q (.load1 rfl) ?_
              refine TriOps.gT g44_2 ?_
              refine TriOps.q .move ?_
              refine TriOps.gT g44_2 ?_
              refine TriOps.q (.indexR j hsx hj rfl rfl rfl) ?_
              refine TriOps.gT g44_2 ?_
              refine TriOps.q (.fieldAddr rfl) ?_
              refine TriOps.gT g44_2 ?_
              refine TriOps.q (.load1 rfl) ?_
              refine TriOps.gT g44_2 ?_
              refine TriOps.q (.fieldAddr rfl) ?_
              refine TriOps.gT g44_2 ?_
              refine TriOps.q (.load1 rfl) ?_
              refine TriOps.gT g44_2 ?_
              refine TriOps.q .gtr ?_
              refine TriOps.q (.pickTh g44_2) ?_
              refine TriOps.q .assign ?_
              refine .nil ?_
              exact joinQ_n () trivial (by rw [his]; exact (((((((((EnvLe.nil _).cons rfl).cons rfl).cons rfl).cons rfl).cons rfl).cons rfl).cons rfl).cons rfl).cons rfl) (HLe.refl _)
            · skip
              have his : (tfind A d.text d.now).isSome = false := by
                have hno := hz.neg (by have := of_decide_eq_false g44_2; omega)
                rw [hB.get] at hno
                unfold tfind
                rw [hno]; rfl
              refine TriOps.gF g44_2 ?_
              refine TriOps.gF g44_2 ?_
              refine TriOps.gF g44_2 ?_
              refine TriOps.gF g44_2 ?_
              refine TriOps.gF g44_2 ?_
              refine TriOps.gF g44_2 ?_
              refine TriOps.gF g44_2 ?_
              refine TriOps.gF g44_2 ?_
              refine TriOps.gF g44_2 ?_
              refine TriOps.gF g44_2 ?_
              refine TriOps.gF g44_2 ?_
              refine TriOps.q (.pickFh g44_2) ?_
              refine TriOps.q .assign ?_
              refine .nil ?_
              exact joinQ_n () trivial (by rw [his]; exact (((((((((EnvLe.nil _).cons rfl).cons rfl).cons rfl).cons rfl).cons rfl).cons rfl).cons rfl).cons rfl).cons rfl) (HLe.refl _)
          · intro y hy
            skip
            refine seqQ_n ?_
            refine .seq ?_
            refine .region_all [] mixed ?_
            refine RA.takeO 0 rfl .move (by kernel_rfl) ?_
            refine RA.takeO 1 rfl .move (by kernel_rfl) ?_
            refine RA.step 2 rfl (by kernel_rfl) rfl ?_
            refine TriOps.callR (tsame_spec g A n T hV (by omega) b20 vt ps _ (fun p hp => .inr (by simp [hp])) (PC.mono px.h fun b o hb => .inr (by have hb' : (b, o) ∈ TR := hb; simp [hb'])) (hsx.mono fun b o hb => .inr (by have hb' : (b, o) ∈ TR := hb; simp [hb'])) (fun p hp => (hP p hp).mono fun b o hb => .inr (by have hb' : (b, o) ∈ Td := hb; simp [hb'])) hB.pm hB.asc) (fun w hw => ?_)
            subst hw
            refine .nil (Next.sub ?_)
            refine RA.takeO 3 rfl .not (by kernel_rfl) ?_
            refine RA.takeO 4 rfl .move (by kernel_rfl) ?_
            refine RA.takeGO 5 rfl rfl .move (by kernel_rfl) ?_
            refine RA.takeGO 6 rfl rfl .move (by kernel_rfl) ?_
            refine RA.takeGO 7 rfl rfl .neB (by kernel_rfl) ?_
            refine RA.takeO 8 rfl .pickF (by kernel_rfl) ?_
            refine RA.takeO 9 rfl .move (by kernel_rfl) ?_
            refine RA.split (t := 212) rfl (fun g45_9 => ?_) (fun g45_9 => ?_)
            · skip
              simp at g45_9
            · skip
              refine RA.takeGhO 10 rfl rfl g45_9 .move (by kernel_rfl) ?_
              refine RA.takeGhO 11 rfl rfl g45_9 .move (by kernel_rfl) ?_
              refine RA.split (t := 214) rfl (fun g45_11 => ?_) (fun g45_11 => ?_)
              · skip
                obtain ⟨tj, htj⟩ := Option.isSome_iff_exists.1 g45_11
                have hmj : mget d.text A = some tj := by
                  unfold tfind at htj
                  exact (Option.filter_eq_some_iff.1 htj).1
                obtain ⟨j, wj, tj2, rfl, hj, hjk, hjm⟩ : ∃ (j : Nat) (w : Value) (t : Tok), z = (j : Int) ∧ ps[j]? = some (w, t) ∧ t.text = d.text ∧ mget d.text A = some t := by
                  rcases hz with ⟨_, h9⟩ | ⟨j, w9, t9, a1, a2, a3, a4⟩
                  · rw [hB.get, hmj] at h9; cases h9
                  · rw [hB.get] at a4; exact ⟨j, w9, t9, a1, a2, a3, a4⟩
                rw [hmj] at hjm
                cases hjm
                have cj := hP _ (List.mem_of_getElem? hj)
                have ij : Ones (encT (wj, tj)) := ⟨cj.ones⟩
                have pj : PS TR (baseP vt (j * 9)) (encT (wj, tj)) := ⟨hsx.pc hj⟩
                have h5j : t5 = tj := by rw [htj] at ht5; exact ht5.symm
                refine RA.takeGhO 12 rfl rfl g45_11 (.loadA rfl) (by kernel_rfl) ?_
                refine RA.takeGhO 14 rfl rfl g45_11 .move (by kernel_rfl) ?_
                refine RA.takeGhO 15 rfl rfl g45_11 (.nilCheck rfl) (by kernel_rfl) ?_
                refine RA.takeGhO 16 rfl rfl g45_11 (.fieldAddr rfl) (by kernel_rfl) ?_
                refine RA.takeGhO 17 rfl rfl g45_11 (.load1 rfl) (by kernel_rfl) ?_
                refine RA.takeGhO 18 rfl rfl g45_11 .move (by kernel_rfl) ?_
                refine RA.takeGhO 19 rfl rfl g45_11 (.indexR j hsx hj rfl rfl rfl) (by kernel_rfl) ?_
                refine RA.takeGhO 20 rfl rfl g45_11 (.loadA rfl) (by kernel_rfl) ?_
                refine RA.step 13 rfl (by kernel_rfl) rfl ?_
                refine TriOps.gT g45_11 ?_
                refine TriOps.callR (tplain_spec w5 t5 _ hc5) (fun w hw => ?_)
                subst hw
                refine .nil (Next.sub ?_)
                refine RA.step 21 rfl (by kernel_rfl) rfl ?_
                refine TriOps.gT g45_11 ?_
                refine TriOps.callR (sameT_spec w5 wj t5 tj _ (hc5.mono fun b o hb => .inr (by have hb' : (b, o) ∈ T5 := hb.1; simp [hb'])) (cj.mono fun b o hb => .inr (by have hb' : (b, o) ∈ Td := hb; simp [hb']))) (fun w hw => ?_)
                rw [h5j, sameT_self] at hw
                subst hw
                refine .nil (Next.sub ?_)
                refine RA.takeGhO 22 rfl rfl g45_11 .not (by kernel_rfl) ?_
                refine RA.takeGhO 23 rfl rfl g45_9 (.pickTh g45_11) (by kernel_rfl) ?_
                refine RA.takeO 24 rfl (.pickFh g45_9) (by kernel_rfl) ?_
                refine RA.takeO 25 rfl .move (by kernel_rfl) ?_
                refine RA.takeGO 26 rfl rfl .move (by kernel_rfl) ?_
                refine RA.takeGO 27 rfl rfl .not (by kernel_rfl) ?_
                refine RA.takeGO 28 rfl rfl .move (by kernel_rfl) ?_
                refine RA.takeFh 29 rfl rfl (congrArg not g45_11) rfl (by kernel_rfl) ?_
                refine RA.takeFh 31 rfl rfl (congrArg not g45_11) rfl (by kernel_rfl) ?_
                refine RA.step 30 rfl (by kernel_rfl) rfl ?_
                refine TriOps.gF (congrArg not g45_11) ?_
                refine .nil (Next.sub ?_)
                refine RA.step 32 rfl (by kernel_rfl) rfl ?_
                refine TriOps.gF (congrArg not g45_11) ?_
                refine .nil (Next.sub ?_)
                refine RA.takeFh 33 rfl rfl (congrArg not g45_11) rfl (by kernel_rfl) ?_
                refine RA.takeGO 34 rfl rfl (.pickFh (congrArg not g45_11)) (by kernel_rfl) ?_
                refine RA.takeO 35 rfl .pickF (by kernel_rfl) ?_
                refine RA.nil (by kernel_rfl) ?_
                refine seqQ_n ?_
                refine .condF ?_
                refine .skip ?_
                refine blkQ_n (seqQ_n ?_)
                refine .region ?_
                refine TriOps.q .move ?_
                refine TriOps.q (.i64 ((i + 1 : Nat) : Int) .add ⟨by omega, by omega, by omega⟩) ?_
                refine TriOps.q .assign ?_
                refine .nil ?_
                exact loopQ_i (i + 1, A, ps, n, T, TR, Td) ⟨⟨by simp only; omega, by simp only; omega, hpl, hn⟩, hB, hV, hX, hP⟩ (by simp only; omega) (((((EnvLe.nil _).cons rfl).cons rfl).cons rfl).cons rfl) (HLe.pick [2, 2, 2] _)
              · skip
                have h50 : t5 = Tok.zero := by
                  have h9 : tfind A d.text d.now = none := by
                    cases hh : tfind A d.text d.now with
                    | none => rfl
                    | some u => rw [hh] at g45_11; cases g45_11
                  rw [h9] at ht5; exact ht5.symm
                refine RA.takeFh 12 rfl rfl g45_11 rfl (by kernel_rfl) ?_
                refine RA.takeFh 14 rfl rfl g45_11 rfl (by kernel_rfl) ?_
                refine RA.takeFh 15 rfl rfl g45_11 rfl (by kernel_rfl) ?_
                refine RA.takeFh 16 rfl rfl g45_11 rfl (by kernel_rfl) ?_
                refine RA.takeFh 17 rfl rfl g45_11 rfl (by kernel_rfl) ?_
                refine RA.takeFh 18 rfl rfl g45_11 rfl (by kernel_rfl) ?_
                refine RA.takeFh 19 rfl rfl g45_11 rfl (by kernel_rfl) ?_
                refine RA.takeFh 20 rfl rfl g45_11 rfl (by kernel_rfl) ?_
                refine RA.step 13 rfl (by kernel_rfl) rfl ?_
                refine TriOps.gF g45_11 ?_
                refine .nil (Next.sub ?_)
                refine RA.step 21 rfl (by kernel_rfl) rfl ?_
                refine TriOps.gF g45_11 ?_
                refine .nil (Next.sub ?_)
                refine RA.takeFh 22 rfl rfl g45_11 rfl (by kernel_rfl) ?_
                refine RA.takeGhO 23 rfl rfl g45_9 (.pickFh g45_11) (by kernel_rfl) ?_
                refine RA.takeO 24 rfl (.pickFh g45_9) (by kernel_rfl) ?_
                refine RA.takeO 25 rfl .move (by kernel_rfl) ?_
                refine RA.takeGO 26 rfl rfl .move (by kernel_rfl) ?_
                refine RA.takeGO 27 rfl rfl .not (by kernel_rfl) ?_
                refine RA.takeGO 28 rfl rfl .move (by kernel_rfl) ?_
                refine RA.takeGhO 29 rfl rfl (congrArg not g45_11) (.loadA rfl) (by kernel_rfl) ?_
                refine RA.takeGhO 31 rfl rfl (congrArg not g45_11) .bld (by kernel_rfl) ?_
                refine RA.step 30 rfl (by kernel_rfl) rfl ?_
                refine TriOps.gT (congrArg not g45_11) ?_
                refine TriOps.callR (tplain_spec w5 t5 _ hc5) (fun w hw => ?_)
                subst hw
                refine .nil (Next.sub ?_)
                refine RA.step 32 rfl (by kernel_rfl) rfl ?_
                refine TriOps.gT (congrArg not g45_11) ?_
                refine TriOps.callR (sameT_spec w5 (.slice none 0 0) t5 Tok.zero _ (hc5.mono fun b o hb => .inr (by have hb' : (b, o) ∈ T5 := hb.1; simp [hb'])) (TokR.zero _)) (fun w hw => ?_)
                rw [h50, sameT_self] at hw
                subst hw
                refine .nil (Next.sub ?_)
                refine RA.takeGhO 33 rfl rfl (congrArg not g45_11) .not (by kernel_rfl) ?_
                refine RA.takeGO 34 rfl rfl (.pickTh (congrArg not g45_11)) (by kernel_rfl) ?_
                refine RA.takeO 35 rfl .pickF (by kernel_rfl) ?_
                refine RA.nil (by kernel_rfl) ?_
                refine seqQ_n ?_
                refine .condF ?_
                refine .skip ?_
                refine blkQ_n (seqQ_n ?_)
                refine .region ?_
                refine TriOps.q .move ?_
                refine TriOps.q (.i64 ((i + 1 : Nat) : Int) .add ⟨by omega, by omega, by omega⟩) ?_
                refine TriOps.q .assign ?_
                refine .nil ?_
                exact loopQ_i (i + 1, A, ps, n, T, TR, Td) ⟨⟨by simp only; omega, by simp only; omega, hpl, hn⟩, hB, hV, hX, hP⟩ (by simp only; omega) (((((EnvLe.nil _).cons rfl).cons rfl).cons rfl).cons rfl) (HLe.pick [2, 2, 2] _)
      · skip
        refine .exit (seqQ_x (loopQ_x (blkQ_x ?_)))
        exact joinQ_n () trivial (EnvLe.nil _) (HLe.pick [] _)
    · skip
      refine TriOps.gF g5_4 ?_
      refine TriOps.gF g5_4 ?_
      refine TriOps.q (.pickFh g5_4) ?_
      refine .nil ?_
      refine seqQ_n ?_
      refine .condF ?_
      refine .exit (seqQ_x (loopQ_x (blkQ_x ?_)))
      exact joinQ_n () trivial (EnvLe.nil _) (HLe.pick [] _)
  · intro x hx
    refine seqQ_n ?_
    refine .seq ?_
    refine .region ?_
    refine TriOps.callR (tlives_spec _) (fun w hw => ?_)
    subst hw
    refine TriOps.q .assign ?_
    refine .nil ?_
    refine seqQ_n ?_
    refine .ret (retQ_r _ (.one (.tmp rfl)) (.none _) ?_)
    exact ⟨rfl, rfl⟩
end Go.Proofs.Ytkepgbimlolemaa
