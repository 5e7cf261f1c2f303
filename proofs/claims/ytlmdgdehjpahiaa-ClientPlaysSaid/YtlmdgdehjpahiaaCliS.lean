/- Layer 25's law: what every row of calls answers: the walk. No condition. -/
import Derived.Test.YtlmdgdehjpahiaaCliR
set_option linter.unusedVariables false
set_option maxRecDepth 4000
namespace Go.Proofs.Ytlmdgdehjpahiaa
theorem chk_len {c : Cli} (h : c.check = 0) : 1 ≤ c.uris.length := by
  by_cases hu : 1 ≤ c.uris.length
  · exact hu
  exfalso
  cases h1 : isID c.id with
  | false => rw [chk_id h1] at h; cases h
  | true =>
    cases h2 : isSecret c.secret with
    | false => rw [chk_sec h1 h2] at h; cases h
    | true => rw [chk_u h1 h2 (.inl (by omega))] at h; cases h
theorem asc_uniq {cs ds : List Cli} (hc : cs.Pairwise fun c d => sLt c.id d.id = true) (hp : ds.Perm cs) (hs : ds.Pairwise fun c d => sLt d.id c.id = false) : ds = cs := by
  refine List.Perm.eq_of_pairwise (le := fun c d : Cli => sLt d.id c.id = false) (fun a b ha hb h1 h2 => ?_) hs (hc.imp fun {a b} hab => ?_) hp
  · have he : a.id = b.id := sLt_conn h2 h1
    have ha := hp.mem_iff.1 ha
    obtain ⟨i, hi, rfl⟩ := List.mem_iff_getElem.1 ha
    obtain ⟨j, hj, rfl⟩ := List.mem_iff_getElem.1 hb
    rw [List.pairwise_iff_getElem] at hc
    rcases Nat.lt_trichotomy i j with hij | hij | hij
    · have := hc i j hi hj hij
      rw [he, sLt_irr] at this; cases this
    · subst hij; rfl
    · have := hc j i hj hi hij
      rw [he, sLt_irr] at this; cases this
  · exact sLt_so.asym hab
theorem RL.ps {g : Nat} {ps : List CP} {T : Seg} (h : RL g ps T) : ∃ vt, One vt ∧ PS T (.pointer (some ⟨g, 0, none⟩)) [vt] ∧ RS (sg T) 4 encC vt ps := by
  obtain ⟨vt, Tt, rfl, hO, hl⟩ := h
  exact ⟨vt, hO.oneCell, PS.of (E := 94) (fr := (0, 0)) (by simp), hO.rs fun p hp => by simp [sg, hp]⟩
theorem cplays_spec (v : Value) (ds : List CDo) (R : Rds) (hS : RS R 9 CDo.enc v ds) (hD : ∀ d ∈ ds, d.is R) :
    Spec Try.prog 11 [v] R [] fun u H' => u = .bool true ∧ H' = [] := by
  have hsl := hS.le
  refine Spec.body Try.func11 rfl Try.results11 Try.ntmps11 rfl ?_
  refine .seq ?_
  refine .region ?_
  refine TriOps.q .assign ?_
  refine .nil ?_
  refine seqQ_n ?_
  refine .seq ?_
  refine .region ?_
  refine TriOps.callN (cnew_spec _) (fun u T0 hu => ?_)
  obtain ⟨q, rfl, hq0⟩ := hu
  refine TriOps.q .bld ?_
  refine TriOps.boxA rfl (fun b16 => ?_)
  refine TriOps.q .assign ?_
  refine TriOps.q .assign ?_
  refine .nil ?_
  refine seqQ_n ?_
  refine .seq ?_
  refine .seq ?_
  refine .region ?_
  refine TriOps.q .move ?_
  refine TriOps.q (.eqNilA rfl rfl) ?_
  refine .nil ?_
  refine seqQ_n ?_
  refine .condF ?_
  refine .skip ?_
  refine seqQ_n ?_
  refine .seq ?_
  refine .seq ?_
  refine .region ?_
  refine TriOps.q .assign ?_
  refine .nil ?_
  refine seqQ_n ?_
  refine Tri.cut (X := Unit) (fun _ => True) (fun _ => []) (fun _ => []) ?_ ?_
  · refine .block ?_
    refine .loop (X := Nat × List Cli × List CP × Seg × Seg × Seg) (fun y => (y.1 ≤ ds.length ∧ y.1 ≤ 30) ∧ BothC y.2.1 y.2.2.1 ∧ RI q y.2.1 y.2.2.2.2.2 ∧ RL b16 y.2.2.1 y.2.2.2.1 ∧ CL (sg y.2.2.2.2.1) y.2.2.1) (fun y => [(0, v), (3, .pointer (some ⟨q, 0, none⟩)), (4, .pointer (some ⟨b16, 0, none⟩)), (5, .int .i64 (y.1 : Nat))]) (fun y => [y.2.2.2.1, y.2.2.2.2.2, y.2.2.2.2.1]) (fun y => ds.length - y.1) (0, [], [], _, [], T0) ⟨⟨by omega, by omega⟩, ⟨.refl _, List.Pairwise.nil, by simp, by simp⟩, hq0, ⟨_, [], rfl, OS.nil, by simp⟩, fun p hp => by simp at hp⟩ (((((EnvLe.nil _).cons rfl).cons rfl).cons rfl).cons rfl) (HLe.ofPerm (by simp)) ?_
    rintro ⟨i, A, ps, TR, Td, TQ⟩ ⟨⟨hi, hi30⟩, hB, hI, hX, hP⟩
    simp only at hi hi30 hB hI hX hP ⊢
    refine .seq ?_
    refine .seq ?_
    refine .region ?_
    refine TriOps.q .move ?_
    refine TriOps.q .move ?_
    refine TriOps.q (.lenR hS) ?_
    refine TriOps.q .lss ?_
    refine TriOps.q .move ?_
    refine TriOps.split (t := 23) rfl (fun g5_4 => ?_) (fun g5_4 => ?_)
    · skip
      refine TriOps.gT g5_4 ?_
      refine TriOps.q .move ?_
      refine TriOps.gT g5_4 ?_
      refine TriOps.q .lss ?_
      refine TriOps.q (.pickTh g5_4) ?_
      refine .nil ?_
      refine seqQ_n ?_
      refine .cond rfl (fun h2 => ?_) (fun h2 => ?_)
      · skip
        have hlt : i < ds.length ∧ i < 30 := by simp at g5_4 h2; omega
        obtain ⟨d, hd⟩ : ∃ d, ds[i]? = some d := ⟨_, List.getElem?_eq_getElem hlt.1⟩
        have hd9 := hD d (List.mem_of_getElem? hd)
        have pd := hS.pc hd
        obtain ⟨da, hda⟩ : ∃ da, baseP v (i * 9) = .pointer (some da) := let ⟨b, off, _, _, _, h, _⟩ := pd.h; ⟨_, h⟩
        have id9 : Ones d.enc := ⟨hS.one d (List.mem_of_getElem? hd)⟩
        have idr : Ones d.r.cells := ⟨hd9.1.ones⟩
        refine .skip ?_
        refine seqQ_n ?_
        refine .seq ?_
        refine .block ?_
        refine .seq ?_
        refine Tri.cut (X := CR × CR × Seg × Seg × Nat × Nat) (fun z => CliR (sg0 z.2.2.1) z.1 d.c.short ∧ CliR (sg0 z.2.2.2.1) z.2.1 d.c.short) (fun z => [(0, v), (3, .pointer (some ⟨q, 0, none⟩)), (4, .pointer (some ⟨b16, 0, none⟩)), (5, .int .i64 (i : Nat)), (6, .pointer (some ⟨z.2.2.2.2.1, 0, none⟩)), (7, .pointer (some ⟨z.2.2.2.2.2, 0, none⟩))]) (fun z => [[(z.2.2.2.2.1, .cells z.1.cells.toArray 35 (0, 0))], [(z.2.2.2.2.2, .cells z.2.1.cells.toArray 35 (0, 0))], z.2.2.1, z.2.2.2.1, TR, TQ, Td]) ?_ ?_
        · skip
          refine .region_all [14, 15] mixed ?_
          refine RA.takeO 0 rfl .move (by kernel_rfl) ?_
          refine RA.takeO 1 rfl .move (by kernel_rfl) ?_
          refine RA.takeO 2 rfl (.indexR i hS hd rfl rfl rfl) (by kernel_rfl) ?_
          refine RA.takeO 3 rfl (.fieldAddr rfl) (by kernel_rfl) ?_
          refine RA.takeO 4 rfl (.loadT rfl) (by kernel_rfl) ?_
          refine RA.takeO 6 rfl .move (by kernel_rfl) ?_
          refine RA.takeO 7 rfl .move (by kernel_rfl) ?_
          refine RA.takeO 8 rfl (.indexR i hS hd rfl rfl rfl) (by kernel_rfl) ?_
          refine RA.takeO 9 rfl (.fieldAddr rfl) (by kernel_rfl) ?_
          refine RA.takeO 10 rfl (.loadT rfl) (by kernel_rfl) ?_
          refine RA.step3 5 12 13 rfl rfl rfl (by kernel_rfl) rfl ?_ ?_ ?_
          · skip
            refine TriOps.callN (cshort0_spec d.r d.c _ (hd9.1.mono fun b o hb => .inl hb)) (fun w T1 hw => ?_)
            obtain ⟨r1, rfl, hc1⟩ := hw
            have ir1 : Ones r1.cells := ⟨hc1.ones⟩
            refine .nil (Next.sub ?_)
            refine RA.step3 11 12 13 rfl rfl rfl (by kernel_rfl) rfl ?_ ?_ ?_
            · skip
              refine TriOps.callN (cshort0_spec d.r d.c _ (hd9.1.mono fun b o hb => .inl hb)) (fun w T2 hw => ?_)
              obtain ⟨r2, rfl, hc2⟩ := hw
              have ir2 : Ones r2.cells := ⟨hc2.ones⟩
              refine .nil (Next.sub ?_)
              refine RA.step2 12 13 rfl rfl (by kernel_rfl) rfl ?_ ?_
              · skip
                refine TriOps.allocA (fun b6 => ?_)
                refine .nil (Next.sub ?_)
                refine RA.step 13 rfl (by kernel_rfl) rfl ?_
                refine TriOps.allocA (fun b7 => ?_)
                refine .nil (Next.sub ?_)
                refine RA.step 14 rfl (by kernel_rfl) rfl ?_
                refine TriOps.storeA rfl rfl ?_
                refine .nil (Next.mod rfl ?_)
                refine RA.step 15 rfl (by kernel_rfl) rfl ?_
                refine TriOps.storeA rfl rfl ?_
                refine .nil (Next.mod rfl ?_)
                refine RA.nil (by kernel_rfl) ?_
                first
                  | exact joinQ_n (r1, r2, T1, T2, b6, b7) ⟨hc1, hc2⟩ (((((((EnvLe.nil _).cons rfl).cons rfl).cons rfl).cons rfl).cons rfl).cons rfl) (HLe.pick [0, 0, 0, 0, 0, 0, 0] _)
                  | exact joinQ_n (r1, r2, T1, T2, b6, b7) ⟨hc1, hc2⟩ (((((((EnvLe.nil _).cons rfl).cons rfl).cons rfl).cons rfl).cons rfl).cons rfl) (HLe.pick [0, 0, 1, 0, 0, 0, 0] _)
                  | exact joinQ_n (r1, r2, T1, T2, b6, b7) ⟨hc1, hc2⟩ (((((((EnvLe.nil _).cons rfl).cons rfl).cons rfl).cons rfl).cons rfl).cons rfl) (HLe.pick [0, 1, 0, 0, 0, 0, 0] _)
                  | exact joinQ_n (r1, r2, T1, T2, b6, b7) ⟨hc1, hc2⟩ (((((((EnvLe.nil _).cons rfl).cons rfl).cons rfl).cons rfl).cons rfl).cons rfl) (HLe.pick [0, 2, 0, 0, 0, 0, 0] _)
                  | exact joinQ_n (r1, r2, T1, T2, b6, b7) ⟨hc1, hc2⟩ (((((((EnvLe.nil _).cons rfl).cons rfl).cons rfl).cons rfl).cons rfl).cons rfl) (HLe.pick [0, 1, 1, 0, 0, 0, 0] _)
                  | exact joinQ_n (r1, r2, T1, T2, b6, b7) ⟨hc1, hc2⟩ (((((((EnvLe.nil _).cons rfl).cons rfl).cons rfl).cons rfl).cons rfl).cons rfl) (HLe.pick [0, 2, 1, 0, 0, 0, 0] _)
                  | exact joinQ_n (r1, r2, T1, T2, b6, b7) ⟨hc1, hc2⟩ (((((((EnvLe.nil _).cons rfl).cons rfl).cons rfl).cons rfl).cons rfl).cons rfl) (HLe.pick [1, 0, 0, 0, 0, 0, 0] _)
                  | exact joinQ_n (r1, r2, T1, T2, b6, b7) ⟨hc1, hc2⟩ (((((((EnvLe.nil _).cons rfl).cons rfl).cons rfl).cons rfl).cons rfl).cons rfl) (HLe.pick [1, 0, 1, 0, 0, 0, 0] _)
                  | exact joinQ_n (r1, r2, T1, T2, b6, b7) ⟨hc1, hc2⟩ (((((((EnvLe.nil _).cons rfl).cons rfl).cons rfl).cons rfl).cons rfl).cons rfl) (HLe.pick [2, 0, 0, 0, 0, 0, 0] _)
                  | exact joinQ_n (r1, r2, T1, T2, b6, b7) ⟨hc1, hc2⟩ (((((((EnvLe.nil _).cons rfl).cons rfl).cons rfl).cons rfl).cons rfl).cons rfl) (HLe.pick [3, 0, 0, 0, 0, 0, 0] _)
                  | exact joinQ_n (r1, r2, T1, T2, b6, b7) ⟨hc1, hc2⟩ (((((((EnvLe.nil _).cons rfl).cons rfl).cons rfl).cons rfl).cons rfl).cons rfl) (HLe.pick [2, 0, 1, 0, 0, 0, 0] _)
                  | exact joinQ_n (r1, r2, T1, T2, b6, b7) ⟨hc1, hc2⟩ (((((((EnvLe.nil _).cons rfl).cons rfl).cons rfl).cons rfl).cons rfl).cons rfl) (HLe.pick [3, 0, 1, 0, 0, 0, 0] _)
                  | exact joinQ_n (r1, r2, T1, T2, b6, b7) ⟨hc1, hc2⟩ (((((((EnvLe.nil _).cons rfl).cons rfl).cons rfl).cons rfl).cons rfl).cons rfl) (HLe.pick [1, 1, 0, 0, 0, 0, 0] _)
                  | exact joinQ_n (r1, r2, T1, T2, b6, b7) ⟨hc1, hc2⟩ (((((((EnvLe.nil _).cons rfl).cons rfl).cons rfl).cons rfl).cons rfl).cons rfl) (HLe.pick [1, 2, 0, 0, 0, 0, 0] _)
                  | exact joinQ_n (r1, r2, T1, T2, b6, b7) ⟨hc1, hc2⟩ (((((((EnvLe.nil _).cons rfl).cons rfl).cons rfl).cons rfl).cons rfl).cons rfl) (HLe.pick [2, 1, 0, 0, 0, 0, 0] _)
                  | exact joinQ_n (r1, r2, T1, T2, b6, b7) ⟨hc1, hc2⟩ (((((((EnvLe.nil _).cons rfl).cons rfl).cons rfl).cons rfl).cons rfl).cons rfl) (HLe.pick [3, 1, 0, 0, 0, 0, 0] _)
                  | exact joinQ_n (r1, r2, T1, T2, b6, b7) ⟨hc1, hc2⟩ (((((((EnvLe.nil _).cons rfl).cons rfl).cons rfl).cons rfl).cons rfl).cons rfl) (HLe.pick [2, 2, 0, 0, 0, 0, 0] _)
                  | exact joinQ_n (r1, r2, T1, T2, b6, b7) ⟨hc1, hc2⟩ (((((((EnvLe.nil _).cons rfl).cons rfl).cons rfl).cons rfl).cons rfl).cons rfl) (HLe.pick [3, 2, 0, 0, 0, 0, 0] _)
                  | exact joinQ_n (r1, r2, T1, T2, b6, b7) ⟨hc1, hc2⟩ (((((((EnvLe.nil _).cons rfl).cons rfl).cons rfl).cons rfl).cons rfl).cons rfl) (HLe.pick [1, 1, 1, 0, 0, 0, 0] _)
                  | exact joinQ_n (r1, r2, T1, T2, b6, b7) ⟨hc1, hc2⟩ (((((((EnvLe.nil _).cons rfl).cons rfl).cons rfl).cons rfl).cons rfl).cons rfl) (HLe.pick [1, 2, 1, 0, 0, 0, 0] _)
                  | exact joinQ_n (r1, r2, T1, T2, b6, b7) ⟨hc1, hc2⟩ (((((((EnvLe.nil _).cons rfl).cons rfl).cons rfl).cons rfl).cons rfl).cons rfl) (HLe.pick [2, 1, 1, 0, 0, 0, 0] _)
                  | exact joinQ_n (r1, r2, T1, T2, b6, b7) ⟨hc1, hc2⟩ (((((((EnvLe.nil _).cons rfl).cons rfl).cons rfl).cons rfl).cons rfl).cons rfl) (HLe.pick [3, 1, 1, 0, 0, 0, 0] _)
                  | exact joinQ_n (r1, r2, T1, T2, b6, b7) ⟨hc1, hc2⟩ (((((((EnvLe.nil _).cons rfl).cons rfl).cons rfl).cons rfl).cons rfl).cons rfl) (HLe.pick [2, 2, 1, 0, 0, 0, 0] _)
                  | exact joinQ_n (r1, r2, T1, T2, b6, b7) ⟨hc1, hc2⟩ (((((((EnvLe.nil _).cons rfl).cons rfl).cons rfl).cons rfl).cons rfl).cons rfl) (HLe.pick [3, 2, 1, 0, 0, 0, 0] _)
              · skip
                refine TriOps.allocA (fun b7 => ?_)
                refine .nil (Next.sub ?_)
                refine RA.step 12 rfl (by kernel_rfl) rfl ?_
                refine TriOps.allocA (fun b6 => ?_)
                refine .nil (Next.sub ?_)
                refine RA.step 14 rfl (by kernel_rfl) rfl ?_
                refine TriOps.storeA rfl rfl ?_
                refine .nil (Next.mod rfl ?_)
                refine RA.step 15 rfl (by kernel_rfl) rfl ?_
                refine TriOps.storeA rfl rfl ?_
                refine .nil (Next.mod rfl ?_)
                refine RA.nil (by kernel_rfl) ?_
                first
                  | exact joinQ_n (r1, r2, T1, T2, b6, b7) ⟨hc1, hc2⟩ (((((((EnvLe.nil _).cons rfl).cons rfl).cons rfl).cons rfl).cons rfl).cons rfl) (HLe.pick [0, 0, 0, 0, 0, 0, 0] _)
                  | exact joinQ_n (r1, r2, T1, T2, b6, b7) ⟨hc1, hc2⟩ (((((((EnvLe.nil _).cons rfl).cons rfl).cons rfl).cons rfl).cons rfl).cons rfl) (HLe.pick [0, 0, 1, 0, 0, 0, 0] _)
                  | exact joinQ_n (r1, r2, T1, T2, b6, b7) ⟨hc1, hc2⟩ (((((((EnvLe.nil _).cons rfl).cons rfl).cons rfl).cons rfl).cons rfl).cons rfl) (HLe.pick [0, 1, 0, 0, 0, 0, 0] _)
                  | exact joinQ_n (r1, r2, T1, T2, b6, b7) ⟨hc1, hc2⟩ (((((((EnvLe.nil _).cons rfl).cons rfl).cons rfl).cons rfl).cons rfl).cons rfl) (HLe.pick [0, 2, 0, 0, 0, 0, 0] _)
                  | exact joinQ_n (r1, r2, T1, T2, b6, b7) ⟨hc1, hc2⟩ (((((((EnvLe.nil _).cons rfl).cons rfl).cons rfl).cons rfl).cons rfl).cons rfl) (HLe.pick [0, 1, 1, 0, 0, 0, 0] _)
                  | exact joinQ_n (r1, r2, T1, T2, b6, b7) ⟨hc1, hc2⟩ (((((((EnvLe.nil _).cons rfl).cons rfl).cons rfl).cons rfl).cons rfl).cons rfl) (HLe.pick [0, 2, 1, 0, 0, 0, 0] _)
                  | exact joinQ_n (r1, r2, T1, T2, b6, b7) ⟨hc1, hc2⟩ (((((((EnvLe.nil _).cons rfl).cons rfl).cons rfl).cons rfl).cons rfl).cons rfl) (HLe.pick [1, 0, 0, 0, 0, 0, 0] _)
                  | exact joinQ_n (r1, r2, T1, T2, b6, b7) ⟨hc1, hc2⟩ (((((((EnvLe.nil _).cons rfl).cons rfl).cons rfl).cons rfl).cons rfl).cons rfl) (HLe.pick [1, 0, 1, 0, 0, 0, 0] _)
                  | exact joinQ_n (r1, r2, T1, T2, b6, b7) ⟨hc1, hc2⟩ (((((((EnvLe.nil _).cons rfl).cons rfl).cons rfl).cons rfl).cons rfl).cons rfl) (HLe.pick [2, 0, 0, 0, 0, 0, 0] _)
                  | exact joinQ_n (r1, r2, T1, T2, b6, b7) ⟨hc1, hc2⟩ (((((((EnvLe.nil _).cons rfl).cons rfl).cons rfl).cons rfl).cons rfl).cons rfl) (HLe.pick [3, 0, 0, 0, 0, 0, 0] _)
                  | exact joinQ_n (r1, r2, T1, T2, b6, b7) ⟨hc1, hc2⟩ (((((((EnvLe.nil _).cons rfl).cons rfl).cons rfl).cons rfl).cons rfl).cons rfl) (HLe.pick [2, 0, 1, 0, 0, 0, 0] _)
                  | exact joinQ_n (r1, r2, T1, T2, b6, b7) ⟨hc1, hc2⟩ (((((((EnvLe.nil _).cons rfl).cons rfl).cons rfl).cons rfl).cons rfl).cons rfl) (HLe.pick [3, 0, 1, 0, 0, 0, 0] _)
                  | exact joinQ_n (r1, r2, T1, T2, b6, b7) ⟨hc1, hc2⟩ (((((((EnvLe.nil _).cons rfl).cons rfl).cons rfl).cons rfl).cons rfl).cons rfl) (HLe.pick [1, 1, 0, 0, 0, 0, 0] _)
                  | exact joinQ_n (r1, r2, T1, T2, b6, b7) ⟨hc1, hc2⟩ (((((((EnvLe.nil _).cons rfl).cons rfl).cons rfl).cons rfl).cons rfl).cons rfl) (HLe.pick [1, 2, 0, 0, 0, 0, 0] _)
                  | exact joinQ_n (r1, r2, T1, T2, b6, b7) ⟨hc1, hc2⟩ (((((((EnvLe.nil _).cons rfl).cons rfl).cons rfl).cons rfl).cons rfl).cons rfl) (HLe.pick [2, 1, 0, 0, 0, 0, 0] _)
                  | exact joinQ_n (r1, r2, T1, T2, b6, b7) ⟨hc1, hc2⟩ (((((((EnvLe.nil _).cons rfl).cons rfl).cons rfl).cons rfl).cons rfl).cons rfl) (HLe.pick [3, 1, 0, 0, 0, 0, 0] _)
                  | exact joinQ_n (r1, r2, T1, T2, b6, b7) ⟨hc1, hc2⟩ (((((((EnvLe.nil _).cons rfl).cons rfl).cons rfl).cons rfl).cons rfl).cons rfl) (HLe.pick [2, 2, 0, 0, 0, 0, 0] _)
                  | exact joinQ_n (r1, r2, T1, T2, b6, b7) ⟨hc1, hc2⟩ (((((((EnvLe.nil _).cons rfl).cons rfl).cons rfl).cons rfl).cons rfl).cons rfl) (HLe.pick [3, 2, 0, 0, 0, 0, 0] _)
                  | exact joinQ_n (r1, r2, T1, T2, b6, b7) ⟨hc1, hc2⟩ (((((((EnvLe.nil _).cons rfl).cons rfl).cons rfl).cons rfl).cons rfl).cons rfl) (HLe.pick [1, 1, 1, 0, 0, 0, 0] _)
                  | exact joinQ_n (r1, r2, T1, T2, b6, b7) ⟨hc1, hc2⟩ (((((((EnvLe.nil _).cons rfl).cons rfl).cons rfl).cons rfl).cons rfl).cons rfl) (HLe.pick [1, 2, 1, 0, 0, 0, 0] _)
                  | exact joinQ_n (r1, r2, T1, T2, b6, b7) ⟨hc1, hc2⟩ (((((((EnvLe.nil _).cons rfl).cons rfl).cons rfl).cons rfl).cons rfl).cons rfl) (HLe.pick [2, 1, 1, 0, 0, 0, 0] _)
                  | exact joinQ_n (r1, r2, T1, T2, b6, b7) ⟨hc1, hc2⟩ (((((((EnvLe.nil _).cons rfl).cons rfl).cons rfl).cons rfl).cons rfl).cons rfl) (HLe.pick [3, 1, 1, 0, 0, 0, 0] _)
                  | exact joinQ_n (r1, r2, T1, T2, b6, b7) ⟨hc1, hc2⟩ (((((((EnvLe.nil _).cons rfl).cons rfl).cons rfl).cons rfl).cons rfl).cons rfl) (HLe.pick [2, 2, 1, 0, 0, 0, 0] _)
                  | exact joinQ_n (r1, r2, T1, T2, b6, b7) ⟨hc1, hc2⟩ (((((((EnvLe.nil _).cons rfl).cons rfl).cons rfl).cons rfl).cons rfl).cons rfl) (HLe.pick [3, 2, 1, 0, 0, 0, 0] _)
            · skip
              refine TriOps.allocA (fun b6 => ?_)
              refine .nil (Next.sub ?_)
              refine RA.step2 11 13 rfl rfl (by kernel_rfl) rfl ?_ ?_
              · skip
                refine TriOps.callN (cshort0_spec d.r d.c _ (hd9.1.mono fun b o hb => .inl hb)) (fun w T2 hw => ?_)
                obtain ⟨r2, rfl, hc2⟩ := hw
                have ir2 : Ones r2.cells := ⟨hc2.ones⟩
                refine .nil (Next.sub ?_)
                refine RA.step 13 rfl (by kernel_rfl) rfl ?_
                refine TriOps.allocA (fun b7 => ?_)
                refine .nil (Next.sub ?_)
                refine RA.step 14 rfl (by kernel_rfl) rfl ?_
                refine TriOps.storeA rfl rfl ?_
                refine .nil (Next.mod rfl ?_)
                refine RA.step 15 rfl (by kernel_rfl) rfl ?_
                refine TriOps.storeA rfl rfl ?_
                refine .nil (Next.mod rfl ?_)
                refine RA.nil (by kernel_rfl) ?_
                first
                  | exact joinQ_n (r1, r2, T1, T2, b6, b7) ⟨hc1, hc2⟩ (((((((EnvLe.nil _).cons rfl).cons rfl).cons rfl).cons rfl).cons rfl).cons rfl) (HLe.pick [0, 0, 0, 0, 0, 0, 0] _)
                  | exact joinQ_n (r1, r2, T1, T2, b6, b7) ⟨hc1, hc2⟩ (((((((EnvLe.nil _).cons rfl).cons rfl).cons rfl).cons rfl).cons rfl).cons rfl) (HLe.pick [0, 0, 1, 0, 0, 0, 0] _)
                  | exact joinQ_n (r1, r2, T1, T2, b6, b7) ⟨hc1, hc2⟩ (((((((EnvLe.nil _).cons rfl).cons rfl).cons rfl).cons rfl).cons rfl).cons rfl) (HLe.pick [0, 1, 0, 0, 0, 0, 0] _)
                  | exact joinQ_n (r1, r2, T1, T2, b6, b7) ⟨hc1, hc2⟩ (((((((EnvLe.nil _).cons rfl).cons rfl).cons rfl).cons rfl).cons rfl).cons rfl) (HLe.pick [0, 2, 0, 0, 0, 0, 0] _)
                  | exact joinQ_n (r1, r2, T1, T2, b6, b7) ⟨hc1, hc2⟩ (((((((EnvLe.nil _).cons rfl).cons rfl).cons rfl).cons rfl).cons rfl).cons rfl) (HLe.pick [0, 1, 1, 0, 0, 0, 0] _)
                  | exact joinQ_n (r1, r2, T1, T2, b6, b7) ⟨hc1, hc2⟩ (((((((EnvLe.nil _).cons rfl).cons rfl).cons rfl).cons rfl).cons rfl).cons rfl) (HLe.pick [0, 2, 1, 0, 0, 0, 0] _)
                  | exact joinQ_n (r1, r2, T1, T2, b6, b7) ⟨hc1, hc2⟩ (((((((EnvLe.nil _).cons rfl).cons rfl).cons rfl).cons rfl).cons rfl).cons rfl) (HLe.pick [1, 0, 0, 0, 0, 0, 0] _)
                  | exact joinQ_n (r1, r2, T1, T2, b6, b7) ⟨hc1, hc2⟩ (((((((EnvLe.nil _).cons rfl).cons rfl).cons rfl).cons rfl).cons rfl).cons rfl) (HLe.pick [1, 0, 1, 0, 0, 0, 0] _)
                  | exact joinQ_n (r1, r2, T1, T2, b6, b7) ⟨hc1, hc2⟩ (((((((EnvLe.nil _).cons rfl).cons rfl).cons rfl).cons rfl).cons rfl).cons rfl) (HLe.pick [2, 0, 0, 0, 0, 0, 0] _)
                  | exact joinQ_n (r1, r2, T1, T2, b6, b7) ⟨hc1, hc2⟩ (((((((EnvLe.nil _).cons rfl).cons rfl).cons rfl).cons rfl).cons rfl).cons rfl) (HLe.pick [3, 0, 0, 0, 0, 0, 0] _)
                  | exact joinQ_n (r1, r2, T1, T2, b6, b7) ⟨hc1, hc2⟩ (((((((EnvLe.nil _).cons rfl).cons rfl).cons rfl).cons rfl).cons rfl).cons rfl) (HLe.pick [2, 0, 1, 0, 0, 0, 0] _)
                  | exact joinQ_n (r1, r2, T1, T2, b6, b7) ⟨hc1, hc2⟩ (((((((EnvLe.nil _).cons rfl).cons rfl).cons rfl).cons rfl).cons rfl).cons rfl) (HLe.pick [3, 0, 1, 0, 0, 0, 0] _)
                  | exact joinQ_n (r1, r2, T1, T2, b6, b7) ⟨hc1, hc2⟩ (((((((EnvLe.nil _).cons rfl).cons rfl).cons rfl).cons rfl).cons rfl).cons rfl) (HLe.pick [1, 1, 0, 0, 0, 0, 0] _)
                  | exact joinQ_n (r1, r2, T1, T2, b6, b7) ⟨hc1, hc2⟩ (((((((EnvLe.nil _).cons rfl).cons rfl).cons rfl).cons rfl).cons rfl).cons rfl) (HLe.pick [1, 2, 0, 0, 0, 0, 0] _)
                  | exact joinQ_n (r1, r2, T1, T2, b6, b7) ⟨hc1, hc2⟩ (((((((EnvLe.nil _).cons rfl).cons rfl).cons rfl).cons rfl).cons rfl).cons rfl) (HLe.pick [2, 1, 0, 0, 0, 0, 0] _)
                  | exact joinQ_n (r1, r2, T1, T2, b6, b7) ⟨hc1, hc2⟩ (((((((EnvLe.nil _).cons rfl).cons rfl).cons rfl).cons rfl).cons rfl).cons rfl) (HLe.pick [3, 1, 0, 0, 0, 0, 0] _)
                  | exact joinQ_n (r1, r2, T1, T2, b6, b7) ⟨hc1, hc2⟩ (((((((EnvLe.nil _).cons rfl).cons rfl).cons rfl).cons rfl).cons rfl).cons rfl) (HLe.pick [2, 2, 0, 0, 0, 0, 0] _)
                  | exact joinQ_n (r1, r2, T1, T2, b6, b7) ⟨hc1, hc2⟩ (((((((EnvLe.nil _).cons rfl).cons rfl).cons rfl).cons rfl).cons rfl).cons rfl) (HLe.pick [3, 2, 0, 0, 0, 0, 0] _)
                  | exact joinQ_n (r1, r2, T1, T2, b6, b7) ⟨hc1, hc2⟩ (((((((EnvLe.nil _).cons rfl).cons rfl).cons rfl).cons rfl).cons rfl).cons rfl) (HLe.pick [1, 1, 1, 0, 0, 0, 0] _)
                  | exact joinQ_n (r1, r2, T1, T2, b6, b7) ⟨hc1, hc2⟩ (((((((EnvLe.nil _).cons rfl).cons rfl).cons rfl).cons rfl).cons rfl).cons rfl) (HLe.pick [1, 2, 1, 0, 0, 0, 0] _)
                  | exact joinQ_n (r1, r2, T1, T2, b6, b7) ⟨hc1, hc2⟩ (((((((EnvLe.nil _).cons rfl).cons rfl).cons rfl).cons rfl).cons rfl).cons rfl) (HLe.pick [2, 1, 1, 0, 0, 0, 0] _)
                  | exact joinQ_n (r1, r2, T1, T2, b6, b7) ⟨hc1, hc2⟩ (((((((EnvLe.nil _).cons rfl).cons rfl).cons rfl).cons rfl).cons rfl).cons rfl) (HLe.pick [3, 1, 1, 0, 0, 0, 0] _)
                  | exact joinQ_n (r1, r2, T1, T2, b6, b7) ⟨hc1, hc2⟩ (((((((EnvLe.nil _).cons rfl).cons rfl).cons rfl).cons rfl).cons rfl).cons rfl) (HLe.pick [2, 2, 1, 0, 0, 0, 0] _)
                  | exact joinQ_n (r1, r2, T1, T2, b6, b7) ⟨hc1, hc2⟩ (((((((EnvLe.nil _).cons rfl).cons rfl).cons rfl).cons rfl).cons rfl).cons rfl) (HLe.pick [3, 2, 1, 0, 0, 0, 0] _)
              · skip
                refine TriOps.allocA (fun b7 => ?_)
                refine .nil (Next.sub ?_)
                refine RA.step 11 rfl (by kernel_rfl) rfl ?_
                refine TriOps.callN (cshort0_spec d.r d.c _ (hd9.1.mono fun b o hb => .inl hb)) (fun w T2 hw => ?_)
                obtain ⟨r2, rfl, hc2⟩ := hw
                have ir2 : Ones r2.cells := ⟨hc2.ones⟩
                refine .nil (Next.sub ?_)
                refine RA.step 14 rfl (by kernel_rfl) rfl ?_
                refine TriOps.storeA rfl rfl ?_
                refine .nil (Next.mod rfl ?_)
                refine RA.step 15 rfl (by kernel_rfl) rfl ?_
                refine TriOps.storeA rfl rfl ?_
                refine .nil (Next.mod rfl ?_)
                refine RA.nil (by kernel_rfl) ?_
                first
                  | exact joinQ_n (r1, r2, T1, T2, b6, b7) ⟨hc1, hc2⟩ (((((((EnvLe.nil _).cons rfl).cons rfl).cons rfl).cons rfl).cons rfl).cons rfl) (HLe.pick [0, 0, 0, 0, 0, 0, 0] _)
                  | exact joinQ_n (r1, r2, T1, T2, b6, b7) ⟨hc1, hc2⟩ (((((((EnvLe.nil _).cons rfl).cons rfl).cons rfl).cons rfl).cons rfl).cons rfl) (HLe.pick [0, 0, 1, 0, 0, 0, 0] _)
                  | exact joinQ_n (r1, r2, T1, T2, b6, b7) ⟨hc1, hc2⟩ (((((((EnvLe.nil _).cons rfl).cons rfl).cons rfl).cons rfl).cons rfl).cons rfl) (HLe.pick [0, 1, 0, 0, 0, 0, 0] _)
                  | exact joinQ_n (r1, r2, T1, T2, b6, b7) ⟨hc1, hc2⟩ (((((((EnvLe.nil _).cons rfl).cons rfl).cons rfl).cons rfl).cons rfl).cons rfl) (HLe.pick [0, 2, 0, 0, 0, 0, 0] _)
                  | exact joinQ_n (r1, r2, T1, T2, b6, b7) ⟨hc1, hc2⟩ (((((((EnvLe.nil _).cons rfl).cons rfl).cons rfl).cons rfl).cons rfl).cons rfl) (HLe.pick [0, 1, 1, 0, 0, 0, 0] _)
                  | exact joinQ_n (r1, r2, T1, T2, b6, b7) ⟨hc1, hc2⟩ (((((((EnvLe.nil _).cons rfl).cons rfl).cons rfl).cons rfl).cons rfl).cons rfl) (HLe.pick [0, 2, 1, 0, 0, 0, 0] _)
                  | exact joinQ_n (r1, r2, T1, T2, b6, b7) ⟨hc1, hc2⟩ (((((((EnvLe.nil _).cons rfl).cons rfl).cons rfl).cons rfl).cons rfl).cons rfl) (HLe.pick [1, 0, 0, 0, 0, 0, 0] _)
                  | exact joinQ_n (r1, r2, T1, T2, b6, b7) ⟨hc1, hc2⟩ (((((((EnvLe.nil _).cons rfl).cons rfl).cons rfl).cons rfl).cons rfl).cons rfl) (HLe.pick [1, 0, 1, 0, 0, 0, 0] _)
                  | exact joinQ_n (r1, r2, T1, T2, b6, b7) ⟨hc1, hc2⟩ (((((((EnvLe.nil _).cons rfl).cons rfl).cons rfl).cons rfl).cons rfl).cons rfl) (HLe.pick [2, 0, 0, 0, 0, 0, 0] _)
                  | exact joinQ_n (r1, r2, T1, T2, b6, b7) ⟨hc1, hc2⟩ (((((((EnvLe.nil _).cons rfl).cons rfl).cons rfl).cons rfl).cons rfl).cons rfl) (HLe.pick [3, 0, 0, 0, 0, 0, 0] _)
                  | exact joinQ_n (r1, r2, T1, T2, b6, b7) ⟨hc1, hc2⟩ (((((((EnvLe.nil _).cons rfl).cons rfl).cons rfl).cons rfl).cons rfl).cons rfl) (HLe.pick [2, 0, 1, 0, 0, 0, 0] _)
                  | exact joinQ_n (r1, r2, T1, T2, b6, b7) ⟨hc1, hc2⟩ (((((((EnvLe.nil _).cons rfl).cons rfl).cons rfl).cons rfl).cons rfl).cons rfl) (HLe.pick [3, 0, 1, 0, 0, 0, 0] _)
                  | exact joinQ_n (r1, r2, T1, T2, b6, b7) ⟨hc1, hc2⟩ (((((((EnvLe.nil _).cons rfl).cons rfl).cons rfl).cons rfl).cons rfl).cons rfl) (HLe.pick [1, 1, 0, 0, 0, 0, 0] _)
                  | exact joinQ_n (r1, r2, T1, T2, b6, b7) ⟨hc1, hc2⟩ (((((((EnvLe.nil _).cons rfl).cons rfl).cons rfl).cons rfl).cons rfl).cons rfl) (HLe.pick [1, 2, 0, 0, 0, 0, 0] _)
                  | exact joinQ_n (r1, r2, T1, T2, b6, b7) ⟨hc1, hc2⟩ (((((((EnvLe.nil _).cons rfl).cons rfl).cons rfl).cons rfl).cons rfl).cons rfl) (HLe.pick [2, 1, 0, 0, 0, 0, 0] _)
                  | exact joinQ_n (r1, r2, T1, T2, b6, b7) ⟨hc1, hc2⟩ (((((((EnvLe.nil _).cons rfl).cons rfl).cons rfl).cons rfl).cons rfl).cons rfl) (HLe.pick [3, 1, 0, 0, 0, 0, 0] _)
                  | exact joinQ_n (r1, r2, T1, T2, b6, b7) ⟨hc1, hc2⟩ (((((((EnvLe.nil _).cons rfl).cons rfl).cons rfl).cons rfl).cons rfl).cons rfl) (HLe.pick [2, 2, 0, 0, 0, 0, 0] _)
                  | exact joinQ_n (r1, r2, T1, T2, b6, b7) ⟨hc1, hc2⟩ (((((((EnvLe.nil _).cons rfl).cons rfl).cons rfl).cons rfl).cons rfl).cons rfl) (HLe.pick [3, 2, 0, 0, 0, 0, 0] _)
                  | exact joinQ_n (r1, r2, T1, T2, b6, b7) ⟨hc1, hc2⟩ (((((((EnvLe.nil _).cons rfl).cons rfl).cons rfl).cons rfl).cons rfl).cons rfl) (HLe.pick [1, 1, 1, 0, 0, 0, 0] _)
                  | exact joinQ_n (r1, r2, T1, T2, b6, b7) ⟨hc1, hc2⟩ (((((((EnvLe.nil _).cons rfl).cons rfl).cons rfl).cons rfl).cons rfl).cons rfl) (HLe.pick [1, 2, 1, 0, 0, 0, 0] _)
                  | exact joinQ_n (r1, r2, T1, T2, b6, b7) ⟨hc1, hc2⟩ (((((((EnvLe.nil _).cons rfl).cons rfl).cons rfl).cons rfl).cons rfl).cons rfl) (HLe.pick [2, 1, 1, 0, 0, 0, 0] _)
                  | exact joinQ_n (r1, r2, T1, T2, b6, b7) ⟨hc1, hc2⟩ (((((((EnvLe.nil _).cons rfl).cons rfl).cons rfl).cons rfl).cons rfl).cons rfl) (HLe.pick [3, 1, 1, 0, 0, 0, 0] _)
                  | exact joinQ_n (r1, r2, T1, T2, b6, b7) ⟨hc1, hc2⟩ (((((((EnvLe.nil _).cons rfl).cons rfl).cons rfl).cons rfl).cons rfl).cons rfl) (HLe.pick [2, 2, 1, 0, 0, 0, 0] _)
                  | exact joinQ_n (r1, r2, T1, T2, b6, b7) ⟨hc1, hc2⟩ (((((((EnvLe.nil _).cons rfl).cons rfl).cons rfl).cons rfl).cons rfl).cons rfl) (HLe.pick [3, 2, 1, 0, 0, 0, 0] _)
            · skip
              refine TriOps.allocA (fun b7 => ?_)
              refine .nil (Next.sub ?_)
              refine RA.step2 11 12 rfl rfl (by kernel_rfl) rfl ?_ ?_
              · skip
                refine TriOps.callN (cshort0_spec d.r d.c _ (hd9.1.mono fun b o hb => .inl hb)) (fun w T2 hw => ?_)
                obtain ⟨r2, rfl, hc2⟩ := hw
                have ir2 : Ones r2.cells := ⟨hc2.ones⟩
                refine .nil (Next.sub ?_)
                refine RA.step 12 rfl (by kernel_rfl) rfl ?_
                refine TriOps.allocA (fun b6 => ?_)
                refine .nil (Next.sub ?_)
                refine RA.step 14 rfl (by kernel_rfl) rfl ?_
                refine TriOps.storeA rfl rfl ?_
                refine .nil (Next.mod rfl ?_)
                refine RA.step 15 rfl (by kernel_rfl) rfl ?_
                refine TriOps.storeA rfl rfl ?_
                refine .nil (Next.mod rfl ?_)
                refine RA.nil (by kernel_rfl) ?_
                first
                  | exact joinQ_n (r1, r2, T1, T2, b6, b7) ⟨hc1, hc2⟩ (((((((EnvLe.nil _).cons rfl).cons rfl).cons rfl).cons rfl).cons rfl).cons rfl) (HLe.pick [0, 0, 0, 0, 0, 0, 0] _)
                  | exact joinQ_n (r1, r2, T1, T2, b6, b7) ⟨hc1, hc2⟩ (((((((EnvLe.nil _).cons rfl).cons rfl).cons rfl).cons rfl).cons rfl).cons rfl) (HLe.pick [0, 0, 1, 0, 0, 0, 0] _)
                  | exact joinQ_n (r1, r2, T1, T2, b6, b7) ⟨hc1, hc2⟩ (((((((EnvLe.nil _).cons rfl).cons rfl).cons rfl).cons rfl).cons rfl).cons rfl) (HLe.pick [0, 1, 0, 0, 0, 0, 0] _)
                  | exact joinQ_n (r1, r2, T1, T2, b6, b7) ⟨hc1, hc2⟩ (((((((EnvLe.nil _).cons rfl).cons rfl).cons rfl).cons rfl).cons rfl).cons rfl) (HLe.pick [0, 2, 0, 0, 0, 0, 0] _)
                  | exact joinQ_n (r1, r2, T1, T2, b6, b7) ⟨hc1, hc2⟩ (((((((EnvLe.nil _).cons rfl).cons rfl).cons rfl).cons rfl).cons rfl).cons rfl) (HLe.pick [0, 1, 1, 0, 0, 0, 0] _)
                  | exact joinQ_n (r1, r2, T1, T2, b6, b7) ⟨hc1, hc2⟩ (((((((EnvLe.nil _).cons rfl).cons rfl).cons rfl).cons rfl).cons rfl).cons rfl) (HLe.pick [0, 2, 1, 0, 0, 0, 0] _)
                  | exact joinQ_n (r1, r2, T1, T2, b6, b7) ⟨hc1, hc2⟩ (((((((EnvLe.nil _).cons rfl).cons rfl).cons rfl).cons rfl).cons rfl).cons rfl) (HLe.pick [1, 0, 0, 0, 0, 0, 0] _)
                  | exact joinQ_n (r1, r2, T1, T2, b6, b7) ⟨hc1, hc2⟩ (((((((EnvLe.nil _).cons rfl).cons rfl).cons rfl).cons rfl).cons rfl).cons rfl) (HLe.pick [1, 0, 1, 0, 0, 0, 0] _)
                  | exact joinQ_n (r1, r2, T1, T2, b6, b7) ⟨hc1, hc2⟩ (((((((EnvLe.nil _).cons rfl).cons rfl).cons rfl).cons rfl).cons rfl).cons rfl) (HLe.pick [2, 0, 0, 0, 0, 0, 0] _)
                  | exact joinQ_n (r1, r2, T1, T2, b6, b7) ⟨hc1, hc2⟩ (((((((EnvLe.nil _).cons rfl).cons rfl).cons rfl).cons rfl).cons rfl).cons rfl) (HLe.pick [3, 0, 0, 0, 0, 0, 0] _)
                  | exact joinQ_n (r1, r2, T1, T2, b6, b7) ⟨hc1, hc2⟩ (((((((EnvLe.nil _).cons rfl).cons rfl).cons rfl).cons rfl).cons rfl).cons rfl) (HLe.pick [2, 0, 1, 0, 0, 0, 0] _)
                  | exact joinQ_n (r1, r2, T1, T2, b6, b7) ⟨hc1, hc2⟩ (((((((EnvLe.nil _).cons rfl).cons rfl).cons rfl).cons rfl).cons rfl).cons rfl) (HLe.pick [3, 0, 1, 0, 0, 0, 0] _)
                  | exact joinQ_n (r1, r2, T1, T2, b6, b7) ⟨hc1, hc2⟩ (((((((EnvLe.nil _).cons rfl).cons rfl).cons rfl).cons rfl).cons rfl).cons rfl) (HLe.pick [1, 1, 0, 0, 0, 0, 0] _)
                  | exact joinQ_n (r1, r2, T1, T2, b6, b7) ⟨hc1, hc2⟩ (((((((EnvLe.nil _).cons rfl).cons rfl).cons rfl).cons rfl).cons rfl).cons rfl) (HLe.pick [1, 2, 0, 0, 0, 0, 0] _)
                  | exact joinQ_n (r1, r2, T1, T2, b6, b7) ⟨hc1, hc2⟩ (((((((EnvLe.nil _).cons rfl).cons rfl).cons rfl).cons rfl).cons rfl).cons rfl) (HLe.pick [2, 1, 0, 0, 0, 0, 0] _)
                  | exact joinQ_n (r1, r2, T1, T2, b6, b7) ⟨hc1, hc2⟩ (((((((EnvLe.nil _).cons rfl).cons rfl).cons rfl).cons rfl).cons rfl).cons rfl) (HLe.pick [3, 1, 0, 0, 0, 0, 0] _)
                  | exact joinQ_n (r1, r2, T1, T2, b6, b7) ⟨hc1, hc2⟩ (((((((EnvLe.nil _).cons rfl).cons rfl).cons rfl).cons rfl).cons rfl).cons rfl) (HLe.pick [2, 2, 0, 0, 0, 0, 0] _)
                  | exact joinQ_n (r1, r2, T1, T2, b6, b7) ⟨hc1, hc2⟩ (((((((EnvLe.nil _).cons rfl).cons rfl).cons rfl).cons rfl).cons rfl).cons rfl) (HLe.pick [3, 2, 0, 0, 0, 0, 0] _)
                  | exact joinQ_n (r1, r2, T1, T2, b6, b7) ⟨hc1, hc2⟩ (((((((EnvLe.nil _).cons rfl).cons rfl).cons rfl).cons rfl).cons rfl).cons rfl) (HLe.pick [1, 1, 1, 0, 0, 0, 0] _)
                  | exact joinQ_n (r1, r2, T1, T2, b6, b7) ⟨hc1, hc2⟩ (((((((EnvLe.nil _).cons rfl).cons rfl).cons rfl).cons rfl).cons rfl).cons rfl) (HLe.pick [1, 2, 1, 0, 0, 0, 0] _)
                  | exact joinQ_n (r1, r2, T1, T2, b6, b7) ⟨hc1, hc2⟩ (((((((EnvLe.nil _).cons rfl).cons rfl).cons rfl).cons rfl).cons rfl).cons rfl) (HLe.pick [2, 1, 1, 0, 0, 0, 0] _)
                  | exact joinQ_n (r1, r2, T1, T2, b6, b7) ⟨hc1, hc2⟩ (((((((EnvLe.nil _).cons rfl).cons rfl).cons rfl).cons rfl).cons rfl).cons rfl) (HLe.pick [3, 1, 1, 0, 0, 0, 0] _)
                  | exact joinQ_n (r1, r2, T1, T2, b6, b7) ⟨hc1, hc2⟩ (((((((EnvLe.nil _).cons rfl).cons rfl).cons rfl).cons rfl).cons rfl).cons rfl) (HLe.pick [2, 2, 1, 0, 0, 0, 0] _)
                  | exact joinQ_n (r1, r2, T1, T2, b6, b7) ⟨hc1, hc2⟩ (((((((EnvLe.nil _).cons rfl).cons rfl).cons rfl).cons rfl).cons rfl).cons rfl) (HLe.pick [3, 2, 1, 0, 0, 0, 0] _)
              · skip
                refine TriOps.allocA (fun b6 => ?_)
                refine .nil (Next.sub ?_)
                refine RA.step 11 rfl (by kernel_rfl) rfl ?_
                refine TriOps.callN (cshort0_spec d.r d.c _ (hd9.1.mono fun b o hb => .inl hb)) (fun w T2 hw => ?_)
                obtain ⟨r2, rfl, hc2⟩ := hw
                have ir2 : Ones r2.cells := ⟨hc2.ones⟩
                refine .nil (Next.sub ?_)
                refine RA.step 14 rfl (by kernel_rfl) rfl ?_
                refine TriOps.storeA rfl rfl ?_
                refine .nil (Next.mod rfl ?_)
                refine RA.step 15 rfl (by kernel_rfl) rfl ?_
                refine TriOps.storeA rfl rfl ?_
                refine .nil (Next.mod rfl ?_)
                refine RA.nil (by kernel_rfl) ?_
                first
                  | exact joinQ_n (r1, r2, T1, T2, b6, b7) ⟨hc1, hc2⟩ (((((((EnvLe.nil _).cons rfl).cons rfl).cons rfl).cons rfl).cons rfl).cons rfl) (HLe.pick [0, 0, 0, 0, 0, 0, 0] _)
                  | exact joinQ_n (r1, r2, T1, T2, b6, b7) ⟨hc1, hc2⟩ (((((((EnvLe.nil _).cons rfl).cons rfl).cons rfl).cons rfl).cons rfl).cons rfl) (HLe.pick [0, 0, 1, 0, 0, 0, 0] _)
                  | exact joinQ_n (r1, r2, T1, T2, b6, b7) ⟨hc1, hc2⟩ (((((((EnvLe.nil _).cons rfl).cons rfl).cons rfl).cons rfl).cons rfl).cons rfl) (HLe.pick [0, 1, 0, 0, 0, 0, 0] _)
                  | exact joinQ_n (r1, r2, T1, T2, b6, b7) ⟨hc1, hc2⟩ (((((((EnvLe.nil _).cons rfl).cons rfl).cons rfl).cons rfl).cons rfl).cons rfl) (HLe.pick [0, 2, 0, 0, 0, 0, 0] _)
                  | exact joinQ_n (r1, r2, T1, T2, b6, b7) ⟨hc1, hc2⟩ (((((((EnvLe.nil _).cons rfl).cons rfl).cons rfl).cons rfl).cons rfl).cons rfl) (HLe.pick [0, 1, 1, 0, 0, 0, 0] _)
                  | exact joinQ_n (r1, r2, T1, T2, b6, b7) ⟨hc1, hc2⟩ (((((((EnvLe.nil _).cons rfl).cons rfl).cons rfl).cons rfl).cons rfl).cons rfl) (HLe.pick [0, 2, 1, 0, 0, 0, 0] _)
                  | exact joinQ_n (r1, r2, T1, T2, b6, b7) ⟨hc1, hc2⟩ (((((((EnvLe.nil _).cons rfl).cons rfl).cons rfl).cons rfl).cons rfl).cons rfl) (HLe.pick [1, 0, 0, 0, 0, 0, 0] _)
                  | exact joinQ_n (r1, r2, T1, T2, b6, b7) ⟨hc1, hc2⟩ (((((((EnvLe.nil _).cons rfl).cons rfl).cons rfl).cons rfl).cons rfl).cons rfl) (HLe.pick [1, 0, 1, 0, 0, 0, 0] _)
                  | exact joinQ_n (r1, r2, T1, T2, b6, b7) ⟨hc1, hc2⟩ (((((((EnvLe.nil _).cons rfl).cons rfl).cons rfl).cons rfl).cons rfl).cons rfl) (HLe.pick [2, 0, 0, 0, 0, 0, 0] _)
                  | exact joinQ_n (r1, r2, T1, T2, b6, b7) ⟨hc1, hc2⟩ (((((((EnvLe.nil _).cons rfl).cons rfl).cons rfl).cons rfl).cons rfl).cons rfl) (HLe.pick [3, 0, 0, 0, 0, 0, 0] _)
                  | exact joinQ_n (r1, r2, T1, T2, b6, b7) ⟨hc1, hc2⟩ (((((((EnvLe.nil _).cons rfl).cons rfl).cons rfl).cons rfl).cons rfl).cons rfl) (HLe.pick [2, 0, 1, 0, 0, 0, 0] _)
                  | exact joinQ_n (r1, r2, T1, T2, b6, b7) ⟨hc1, hc2⟩ (((((((EnvLe.nil _).cons rfl).cons rfl).cons rfl).cons rfl).cons rfl).cons rfl) (HLe.pick [3, 0, 1, 0, 0, 0, 0] _)
                  | exact joinQ_n (r1, r2, T1, T2, b6, b7) ⟨hc1, hc2⟩ (((((((EnvLe.nil _).cons rfl).cons rfl).cons rfl).cons rfl).cons rfl).cons rfl) (HLe.pick [1, 1, 0, 0, 0, 0, 0] _)
                  | exact joinQ_n (r1, r2, T1, T2, b6, b7) ⟨hc1, hc2⟩ (((((((EnvLe.nil _).cons rfl).cons rfl).cons rfl).cons rfl).cons rfl).cons rfl) (HLe.pick [1, 2, 0, 0, 0, 0, 0] _)
                  | exact joinQ_n (r1, r2, T1, T2, b6, b7) ⟨hc1, hc2⟩ (((((((EnvLe.nil _).cons rfl).cons rfl).cons rfl).cons rfl).cons rfl).cons rfl) (HLe.pick [2, 1, 0, 0, 0, 0, 0] _)
                  | exact joinQ_n (r1, r2, T1, T2, b6, b7) ⟨hc1, hc2⟩ (((((((EnvLe.nil _).cons rfl).cons rfl).cons rfl).cons rfl).cons rfl).cons rfl) (HLe.pick [3, 1, 0, 0, 0, 0, 0] _)
                  | exact joinQ_n (r1, r2, T1, T2, b6, b7) ⟨hc1, hc2⟩ (((((((EnvLe.nil _).cons rfl).cons rfl).cons rfl).cons rfl).cons rfl).cons rfl) (HLe.pick [2, 2, 0, 0, 0, 0, 0] _)
                  | exact joinQ_n (r1, r2, T1, T2, b6, b7) ⟨hc1, hc2⟩ (((((((EnvLe.nil _).cons rfl).cons rfl).cons rfl).cons rfl).cons rfl).cons rfl) (HLe.pick [3, 2, 0, 0, 0, 0, 0] _)
                  | exact joinQ_n (r1, r2, T1, T2, b6, b7) ⟨hc1, hc2⟩ (((((((EnvLe.nil _).cons rfl).cons rfl).cons rfl).cons rfl).cons rfl).cons rfl) (HLe.pick [1, 1, 1, 0, 0, 0, 0] _)
                  | exact joinQ_n (r1, r2, T1, T2, b6, b7) ⟨hc1, hc2⟩ (((((((EnvLe.nil _).cons rfl).cons rfl).cons rfl).cons rfl).cons rfl).cons rfl) (HLe.pick [1, 2, 1, 0, 0, 0, 0] _)
                  | exact joinQ_n (r1, r2, T1, T2, b6, b7) ⟨hc1, hc2⟩ (((((((EnvLe.nil _).cons rfl).cons rfl).cons rfl).cons rfl).cons rfl).cons rfl) (HLe.pick [2, 1, 1, 0, 0, 0, 0] _)
                  | exact joinQ_n (r1, r2, T1, T2, b6, b7) ⟨hc1, hc2⟩ (((((((EnvLe.nil _).cons rfl).cons rfl).cons rfl).cons rfl).cons rfl).cons rfl) (HLe.pick [3, 1, 1, 0, 0, 0, 0] _)
                  | exact joinQ_n (r1, r2, T1, T2, b6, b7) ⟨hc1, hc2⟩ (((((((EnvLe.nil _).cons rfl).cons rfl).cons rfl).cons rfl).cons rfl).cons rfl) (HLe.pick [2, 2, 1, 0, 0, 0, 0] _)
                  | exact joinQ_n (r1, r2, T1, T2, b6, b7) ⟨hc1, hc2⟩ (((((((EnvLe.nil _).cons rfl).cons rfl).cons rfl).cons rfl).cons rfl).cons rfl) (HLe.pick [3, 2, 1, 0, 0, 0, 0] _)
          · skip
            refine TriOps.allocA (fun b6 => ?_)
            refine .nil (Next.sub ?_)
            refine RA.step2 5 13 rfl rfl (by kernel_rfl) rfl ?_ ?_
            · skip
              refine TriOps.callN (cshort0_spec d.r d.c _ (hd9.1.mono fun b o hb => .inl hb)) (fun w T1 hw => ?_)
              obtain ⟨r1, rfl, hc1⟩ := hw
              have ir1 : Ones r1.cells := ⟨hc1.ones⟩
              refine .nil (Next.sub ?_)
              refine RA.step2 11 13 rfl rfl (by kernel_rfl) rfl ?_ ?_
              · skip
                refine TriOps.callN (cshort0_spec d.r d.c _ (hd9.1.mono fun b o hb => .inl hb)) (fun w T2 hw => ?_)
                obtain ⟨r2, rfl, hc2⟩ := hw
                have ir2 : Ones r2.cells := ⟨hc2.ones⟩
                refine .nil (Next.sub ?_)
                refine RA.step 13 rfl (by kernel_rfl) rfl ?_
                refine TriOps.allocA (fun b7 => ?_)
                refine .nil (Next.sub ?_)
                refine RA.step 14 rfl (by kernel_rfl) rfl ?_
                refine TriOps.storeA rfl rfl ?_
                refine .nil (Next.mod rfl ?_)
                refine RA.step 15 rfl (by kernel_rfl) rfl ?_
                refine TriOps.storeA rfl rfl ?_
                refine .nil (Next.mod rfl ?_)
                refine RA.nil (by kernel_rfl) ?_
                first
                  | exact joinQ_n (r1, r2, T1, T2, b6, b7) ⟨hc1, hc2⟩ (((((((EnvLe.nil _).cons rfl).cons rfl).cons rfl).cons rfl).cons rfl).cons rfl) (HLe.pick [0, 0, 0, 0, 0, 0, 0] _)
                  | exact joinQ_n (r1, r2, T1, T2, b6, b7) ⟨hc1, hc2⟩ (((((((EnvLe.nil _).cons rfl).cons rfl).cons rfl).cons rfl).cons rfl).cons rfl) (HLe.pick [0, 0, 1, 0, 0, 0, 0] _)
                  | exact joinQ_n (r1, r2, T1, T2, b6, b7) ⟨hc1, hc2⟩ (((((((EnvLe.nil _).cons rfl).cons rfl).cons rfl).cons rfl).cons rfl).cons rfl) (HLe.pick [0, 1, 0, 0, 0, 0, 0] _)
                  | exact joinQ_n (r1, r2, T1, T2, b6, b7) ⟨hc1, hc2⟩ (((((((EnvLe.nil _).cons rfl).cons rfl).cons rfl).cons rfl).cons rfl).cons rfl) (HLe.pick [0, 2, 0, 0, 0, 0, 0] _)
                  | exact joinQ_n (r1, r2, T1, T2, b6, b7) ⟨hc1, hc2⟩ (((((((EnvLe.nil _).cons rfl).cons rfl).cons rfl).cons rfl).cons rfl).cons rfl) (HLe.pick [0, 1, 1, 0, 0, 0, 0] _)
                  | exact joinQ_n (r1, r2, T1, T2, b6, b7) ⟨hc1, hc2⟩ (((((((EnvLe.nil _).cons rfl).cons rfl).cons rfl).cons rfl).cons rfl).cons rfl) (HLe.pick [0, 2, 1, 0, 0, 0, 0] _)
                  | exact joinQ_n (r1, r2, T1, T2, b6, b7) ⟨hc1, hc2⟩ (((((((EnvLe.nil _).cons rfl).cons rfl).cons rfl).cons rfl).cons rfl).cons rfl) (HLe.pick [1, 0, 0, 0, 0, 0, 0] _)
                  | exact joinQ_n (r1, r2, T1, T2, b6, b7) ⟨hc1, hc2⟩ (((((((EnvLe.nil _).cons rfl).cons rfl).cons rfl).cons rfl).cons rfl).cons rfl) (HLe.pick [1, 0, 1, 0, 0, 0, 0] _)
                  | exact joinQ_n (r1, r2, T1, T2, b6, b7) ⟨hc1, hc2⟩ (((((((EnvLe.nil _).cons rfl).cons rfl).cons rfl).cons rfl).cons rfl).cons rfl) (HLe.pick [2, 0, 0, 0, 0, 0, 0] _)
                  | exact joinQ_n (r1, r2, T1, T2, b6, b7) ⟨hc1, hc2⟩ (((((((EnvLe.nil _).cons rfl).cons rfl).cons rfl).cons rfl).cons rfl).cons rfl) (HLe.pick [3, 0, 0, 0, 0, 0, 0] _)
                  | exact joinQ_n (r1, r2, T1, T2, b6, b7) ⟨hc1, hc2⟩ (((((((EnvLe.nil _).cons rfl).cons rfl).cons rfl).cons rfl).cons rfl).cons rfl) (HLe.pick [2, 0, 1, 0, 0, 0, 0] _)
                  | exact joinQ_n (r1, r2, T1, T2, b6, b7) ⟨hc1, hc2⟩ (((((((EnvLe.nil _).cons rfl).cons rfl).cons rfl).cons rfl).cons rfl).cons rfl) (HLe.pick [3, 0, 1, 0, 0, 0, 0] _)
                  | exact joinQ_n (r1, r2, T1, T2, b6, b7) ⟨hc1, hc2⟩ (((((((EnvLe.nil _).cons rfl).cons rfl).cons rfl).cons rfl).cons rfl).cons rfl) (HLe.pick [1, 1, 0, 0, 0, 0, 0] _)
                  | exact joinQ_n (r1, r2, T1, T2, b6, b7) ⟨hc1, hc2⟩ (((((((EnvLe.nil _).cons rfl).cons rfl).cons rfl).cons rfl).cons rfl).cons rfl) (HLe.pick [1, 2, 0, 0, 0, 0, 0] _)
                  | exact joinQ_n (r1, r2, T1, T2, b6, b7) ⟨hc1, hc2⟩ (((((((EnvLe.nil _).cons rfl).cons rfl).cons rfl).cons rfl).cons rfl).cons rfl) (HLe.pick [2, 1, 0, 0, 0, 0, 0] _)
                  | exact joinQ_n (r1, r2, T1, T2, b6, b7) ⟨hc1, hc2⟩ (((((((EnvLe.nil _).cons rfl).cons rfl).cons rfl).cons rfl).cons rfl).cons rfl) (HLe.pick [3, 1, 0, 0, 0, 0, 0] _)
                  | exact joinQ_n (r1, r2, T1, T2, b6, b7) ⟨hc1, hc2⟩ (((((((EnvLe.nil _).cons rfl).cons rfl).cons rfl).cons rfl).cons rfl).cons rfl) (HLe.pick [2, 2, 0, 0, 0, 0, 0] _)
                  | exact joinQ_n (r1, r2, T1, T2, b6, b7) ⟨hc1, hc2⟩ (((((((EnvLe.nil _).cons rfl).cons rfl).cons rfl).cons rfl).cons rfl).cons rfl) (HLe.pick [3, 2, 0, 0, 0, 0, 0] _)
                  | exact joinQ_n (r1, r2, T1, T2, b6, b7) ⟨hc1, hc2⟩ (((((((EnvLe.nil _).cons rfl).cons rfl).cons rfl).cons rfl).cons rfl).cons rfl) (HLe.pick [1, 1, 1, 0, 0, 0, 0] _)
                  | exact joinQ_n (r1, r2, T1, T2, b6, b7) ⟨hc1, hc2⟩ (((((((EnvLe.nil _).cons rfl).cons rfl).cons rfl).cons rfl).cons rfl).cons rfl) (HLe.pick [1, 2, 1, 0, 0, 0, 0] _)
                  | exact joinQ_n (r1, r2, T1, T2, b6, b7) ⟨hc1, hc2⟩ (((((((EnvLe.nil _).cons rfl).cons rfl).cons rfl).cons rfl).cons rfl).cons rfl) (HLe.pick [2, 1, 1, 0, 0, 0, 0] _)
                  | exact joinQ_n (r1, r2, T1, T2, b6, b7) ⟨hc1, hc2⟩ (((((((EnvLe.nil _).cons rfl).cons rfl).cons rfl).cons rfl).cons rfl).cons rfl) (HLe.pick [3, 1, 1, 0, 0, 0, 0] _)
                  | exact joinQ_n (r1, r2, T1, T2, b6, b7) ⟨hc1, hc2⟩ (((((((EnvLe.nil _).cons rfl).cons rfl).cons rfl).cons rfl).cons rfl).cons rfl) (HLe.pick [2, 2, 1, 0, 0, 0, 0] _)
                  | exact joinQ_n (r1, r2, T1, T2, b6, b7) ⟨hc1, hc2⟩ (((((((EnvLe.nil _).cons rfl).cons rfl).cons rfl).cons rfl).cons rfl).cons rfl) (HLe.pick [3, 2, 1, 0, 0, 0, 0] _)
              · skip
                refine TriOps.allocA (fun b7 => ?_)
                refine .nil (Next.sub ?_)
                refine RA.step 11 rfl (by kernel_rfl) rfl ?_
                refine TriOps.callN (cshort0_spec d.r d.c _ (hd9.1.mono fun b o hb => .inl hb)) (fun w T2 hw => ?_)
                obtain ⟨r2, rfl, hc2⟩ := hw
                have ir2 : Ones r2.cells := ⟨hc2.ones⟩
                refine .nil (Next.sub ?_)
                refine RA.step 14 rfl (by kernel_rfl) rfl ?_
                refine TriOps.storeA rfl rfl ?_
                refine .nil (Next.mod rfl ?_)
                refine RA.step 15 rfl (by kernel_rfl) rfl ?_
                refine TriOps.storeA rfl rfl ?_
                refine .nil (Next.mod rfl ?_)
                refine RA.nil (by kernel_rfl) ?_
                first
                  | exact joinQ_n (r1, r2, T1, T2, b6, b7) ⟨hc1, hc2⟩ (((((((EnvLe.nil _).cons rfl).cons rfl).cons rfl).cons rfl).cons rfl).cons rfl) (HLe.pick [0, 0, 0, 0, 0, 0, 0] _)
                  | exact joinQ_n (r1, r2, T1, T2, b6, b7) ⟨hc1, hc2⟩ (((((((EnvLe.nil _).cons rfl).cons rfl).cons rfl).cons rfl).cons rfl).cons rfl) (HLe.pick [0, 0, 1, 0, 0, 0, 0] _)
                  | exact joinQ_n (r1, r2, T1, T2, b6, b7) ⟨hc1, hc2⟩ (((((((EnvLe.nil _).cons rfl).cons rfl).cons rfl).cons rfl).cons rfl).cons rfl) (HLe.pick [0, 1, 0, 0, 0, 0, 0] _)
                  | exact joinQ_n (r1, r2, T1, T2, b6, b7) ⟨hc1, hc2⟩ (((((((EnvLe.nil _).cons rfl).cons rfl).cons rfl).cons rfl).cons rfl).cons rfl) (HLe.pick [0, 2, 0, 0, 0, 0, 0] _)
                  | exact joinQ_n (r1, r2, T1, T2, b6, b7) ⟨hc1, hc2⟩ (((((((EnvLe.nil _).cons rfl).cons rfl).cons rfl).cons rfl).cons rfl).cons rfl) (HLe.pick [0, 1, 1, 0, 0, 0, 0] _)
                  | exact joinQ_n (r1, r2, T1, T2, b6, b7) ⟨hc1, hc2⟩ (((((((EnvLe.nil _).cons rfl).cons rfl).cons rfl).cons rfl).cons rfl).cons rfl) (HLe.pick [0, 2, 1, 0, 0, 0, 0] _)
                  | exact joinQ_n (r1, r2, T1, T2, b6, b7) ⟨hc1, hc2⟩ (((((((EnvLe.nil _).cons rfl).cons rfl).cons rfl).cons rfl).cons rfl).cons rfl) (HLe.pick [1, 0, 0, 0, 0, 0, 0] _)
                  | exact joinQ_n (r1, r2, T1, T2, b6, b7) ⟨hc1, hc2⟩ (((((((EnvLe.nil _).cons rfl).cons rfl).cons rfl).cons rfl).cons rfl).cons rfl) (HLe.pick [1, 0, 1, 0, 0, 0, 0] _)
                  | exact joinQ_n (r1, r2, T1, T2, b6, b7) ⟨hc1, hc2⟩ (((((((EnvLe.nil _).cons rfl).cons rfl).cons rfl).cons rfl).cons rfl).cons rfl) (HLe.pick [2, 0, 0, 0, 0, 0, 0] _)
                  | exact joinQ_n (r1, r2, T1, T2, b6, b7) ⟨hc1, hc2⟩ (((((((EnvLe.nil _).cons rfl).cons rfl).cons rfl).cons rfl).cons rfl).cons rfl) (HLe.pick [3, 0, 0, 0, 0, 0, 0] _)
                  | exact joinQ_n (r1, r2, T1, T2, b6, b7) ⟨hc1, hc2⟩ (((((((EnvLe.nil _).cons rfl).cons rfl).cons rfl).cons rfl).cons rfl).cons rfl) (HLe.pick [2, 0, 1, 0, 0, 0, 0] _)
                  | exact joinQ_n (r1, r2, T1, T2, b6, b7) ⟨hc1, hc2⟩ (((((((EnvLe.nil _).cons rfl).cons rfl).cons rfl).cons rfl).cons rfl).cons rfl) (HLe.pick [3, 0, 1, 0, 0, 0, 0] _)
                  | exact joinQ_n (r1, r2, T1, T2, b6, b7) ⟨hc1, hc2⟩ (((((((EnvLe.nil _).cons rfl).cons rfl).cons rfl).cons rfl).cons rfl).cons rfl) (HLe.pick [1, 1, 0, 0, 0, 0, 0] _)
                  | exact joinQ_n (r1, r2, T1, T2, b6, b7) ⟨hc1, hc2⟩ (((((((EnvLe.nil _).cons rfl).cons rfl).cons rfl).cons rfl).cons rfl).cons rfl) (HLe.pick [1, 2, 0, 0, 0, 0, 0] _)
                  | exact joinQ_n (r1, r2, T1, T2, b6, b7) ⟨hc1, hc2⟩ (((((((EnvLe.nil _).cons rfl).cons rfl).cons rfl).cons rfl).cons rfl).cons rfl) (HLe.pick [2, 1, 0, 0, 0, 0, 0] _)
                  | exact joinQ_n (r1, r2, T1, T2, b6, b7) ⟨hc1, hc2⟩ (((((((EnvLe.nil _).cons rfl).cons rfl).cons rfl).cons rfl).cons rfl).cons rfl) (HLe.pick [3, 1, 0, 0, 0, 0, 0] _)
                  | exact joinQ_n (r1, r2, T1, T2, b6, b7) ⟨hc1, hc2⟩ (((((((EnvLe.nil _).cons rfl).cons rfl).cons rfl).cons rfl).cons rfl).cons rfl) (HLe.pick [2, 2, 0, 0, 0, 0, 0] _)
                  | exact joinQ_n (r1, r2, T1, T2, b6, b7) ⟨hc1, hc2⟩ (((((((EnvLe.nil _).cons rfl).cons rfl).cons rfl).cons rfl).cons rfl).cons rfl) (HLe.pick [3, 2, 0, 0, 0, 0, 0] _)
                  | exact joinQ_n (r1, r2, T1, T2, b6, b7) ⟨hc1, hc2⟩ (((((((EnvLe.nil _).cons rfl).cons rfl).cons rfl).cons rfl).cons rfl).cons rfl) (HLe.pick [1, 1, 1, 0, 0, 0, 0] _)
                  | exact joinQ_n (r1, r2, T1, T2, b6, b7) ⟨hc1, hc2⟩ (((((((EnvLe.nil _).cons rfl).cons rfl).cons rfl).cons rfl).cons rfl).cons rfl) (HLe.pick [1, 2, 1, 0, 0, 0, 0] _)
                  | exact joinQ_n (r1, r2, T1, T2, b6, b7) ⟨hc1, hc2⟩ (((((((EnvLe.nil _).cons rfl).cons rfl).cons rfl).cons rfl).cons rfl).cons rfl) (HLe.pick [2, 1, 1, 0, 0, 0, 0] _)
                  | exact joinQ_n (r1, r2, T1, T2, b6, b7) ⟨hc1, hc2⟩ (((((((EnvLe.nil _).cons rfl).cons rfl).cons rfl).cons rfl).cons rfl).cons rfl) (HLe.pick [3, 1, 1, 0, 0, 0, 0] _)
                  | exact joinQ_n (r1, r2, T1, T2, b6, b7) ⟨hc1, hc2⟩ (((((((EnvLe.nil _).cons rfl).cons rfl).cons rfl).cons rfl).cons rfl).cons rfl) (HLe.pick [2, 2, 1, 0, 0, 0, 0] _)
                  | exact joinQ_n (r1, r2, T1, T2, b6, b7) ⟨hc1, hc2⟩ (((((((EnvLe.nil _).cons rfl).cons rfl).cons rfl).cons rfl).cons rfl).cons rfl) (HLe.pick [3, 2, 1, 0, 0, 0, 0] _)
            · skip
              refine TriOps.allocA (fun b7 => ?_)
              refine .nil (Next.sub ?_)
              refine RA.step 5 rfl (by kernel_rfl) rfl ?_
              refine TriOps.callN (cshort0_spec d.r d.c _ (hd9.1.mono fun b o hb => .inl hb)) (fun w T1 hw => ?_)
              obtain ⟨r1, rfl, hc1⟩ := hw
              have ir1 : Ones r1.cells := ⟨hc1.ones⟩
              refine .nil (Next.sub ?_)
              refine RA.step 11 rfl (by kernel_rfl) rfl ?_
              refine TriOps.callN (cshort0_spec d.r d.c _ (hd9.1.mono fun b o hb => .inl hb)) (fun w T2 hw => ?_)
              obtain ⟨r2, rfl, hc2⟩ := hw
              have ir2 : Ones r2.cells := ⟨hc2.ones⟩
              refine .nil (Next.sub ?_)
              refine RA.step 14 rfl (by kernel_rfl) rfl ?_
              refine TriOps.storeA rfl rfl ?_
              refine .nil (Next.mod rfl ?_)
              refine RA.step 15 rfl (by kernel_rfl) rfl ?_
              refine TriOps.storeA rfl rfl ?_
              refine .nil (Next.mod rfl ?_)
              refine RA.nil (by kernel_rfl) ?_
              first
                | exact joinQ_n (r1, r2, T1, T2, b6, b7) ⟨hc1, hc2⟩ (((((((EnvLe.nil _).cons rfl).cons rfl).cons rfl).cons rfl).cons rfl).cons rfl) (HLe.pick [0, 0, 0, 0, 0, 0, 0] _)
                | exact joinQ_n (r1, r2, T1, T2, b6, b7) ⟨hc1, hc2⟩ (((((((EnvLe.nil _).cons rfl).cons rfl).cons rfl).cons rfl).cons rfl).cons rfl) (HLe.pick [0, 0, 1, 0, 0, 0, 0] _)
                | exact joinQ_n (r1, r2, T1, T2, b6, b7) ⟨hc1, hc2⟩ (((((((EnvLe.nil _).cons rfl).cons rfl).cons rfl).cons rfl).cons rfl).cons rfl) (HLe.pick [0, 1, 0, 0, 0, 0, 0] _)
                | exact joinQ_n (r1, r2, T1, T2, b6, b7) ⟨hc1, hc2⟩ (((((((EnvLe.nil _).cons rfl).cons rfl).cons rfl).cons rfl).cons rfl).cons rfl) (HLe.pick [0, 2, 0, 0, 0, 0, 0] _)
                | exact joinQ_n (r1, r2, T1, T2, b6, b7) ⟨hc1, hc2⟩ (((((((EnvLe.nil _).cons rfl).cons rfl).cons rfl).cons rfl).cons rfl).cons rfl) (HLe.pick [0, 1, 1, 0, 0, 0, 0] _)
                | exact joinQ_n (r1, r2, T1, T2, b6, b7) ⟨hc1, hc2⟩ (((((((EnvLe.nil _).cons rfl).cons rfl).cons rfl).cons rfl).cons rfl).cons rfl) (HLe.pick [0, 2, 1, 0, 0, 0, 0] _)
                | exact joinQ_n (r1, r2, T1, T2, b6, b7) ⟨hc1, hc2⟩ (((((((EnvLe.nil _).cons rfl).cons rfl).cons rfl).cons rfl).cons rfl).cons rfl) (HLe.pick [1, 0, 0, 0, 0, 0, 0] _)
                | exact joinQ_n (r1, r2, T1, T2, b6, b7) ⟨hc1, hc2⟩ (((((((EnvLe.nil _).cons rfl).cons rfl).cons rfl).cons rfl).cons rfl).cons rfl) (HLe.pick [1, 0, 1, 0, 0, 0, 0] _)
                | exact joinQ_n (r1, r2, T1, T2, b6, b7) ⟨hc1, hc2⟩ (((((((EnvLe.nil _).cons rfl).cons rfl).cons rfl).cons rfl).cons rfl).cons rfl) (HLe.pick [2, 0, 0, 0, 0, 0, 0] _)
                | exact joinQ_n (r1, r2, T1, T2, b6, b7) ⟨hc1, hc2⟩ (((((((EnvLe.nil _).cons rfl).cons rfl).cons rfl).cons rfl).cons rfl).cons rfl) (HLe.pick [3, 0, 0, 0, 0, 0, 0] _)
                | exact joinQ_n (r1, r2, T1, T2, b6, b7) ⟨hc1, hc2⟩ (((((((EnvLe.nil _).cons rfl).cons rfl).cons rfl).cons rfl).cons rfl).cons rfl) (HLe.pick [2, 0, 1, 0, 0, 0, 0] _)
                | exact joinQ_n (r1, r2, T1, T2, b6, b7) ⟨hc1, hc2⟩ (((((((EnvLe.nil _).cons rfl).cons rfl).cons rfl).cons rfl).cons rfl).cons rfl) (HLe.pick [3, 0, 1, 0, 0, 0, 0] _)
                | exact joinQ_n (r1, r2, T1, T2, b6, b7) ⟨hc1, hc2⟩ (((((((EnvLe.nil _).cons rfl).cons rfl).cons rfl).cons rfl).cons rfl).cons rfl) (HLe.pick [1, 1, 0, 0, 0, 0, 0] _)
                | exact joinQ_n (r1, r2, T1, T2, b6, b7) ⟨hc1, hc2⟩ (((((((EnvLe.nil _).cons rfl).cons rfl).cons rfl).cons rfl).cons rfl).cons rfl) (HLe.pick [1, 2, 0, 0, 0, 0, 0] _)
                | exact joinQ_n (r1, r2, T1, T2, b6, b7) ⟨hc1, hc2⟩ (((((((EnvLe.nil _).cons rfl).cons rfl).cons rfl).cons rfl).cons rfl).cons rfl) (HLe.pick [2, 1, 0, 0, 0, 0, 0] _)
                | exact joinQ_n (r1, r2, T1, T2, b6, b7) ⟨hc1, hc2⟩ (((((((EnvLe.nil _).cons rfl).cons rfl).cons rfl).cons rfl).cons rfl).cons rfl) (HLe.pick [3, 1, 0, 0, 0, 0, 0] _)
                | exact joinQ_n (r1, r2, T1, T2, b6, b7) ⟨hc1, hc2⟩ (((((((EnvLe.nil _).cons rfl).cons rfl).cons rfl).cons rfl).cons rfl).cons rfl) (HLe.pick [2, 2, 0, 0, 0, 0, 0] _)
                | exact joinQ_n (r1, r2, T1, T2, b6, b7) ⟨hc1, hc2⟩ (((((((EnvLe.nil _).cons rfl).cons rfl).cons rfl).cons rfl).cons rfl).cons rfl) (HLe.pick [3, 2, 0, 0, 0, 0, 0] _)
                | exact joinQ_n (r1, r2, T1, T2, b6, b7) ⟨hc1, hc2⟩ (((((((EnvLe.nil _).cons rfl).cons rfl).cons rfl).cons rfl).cons rfl).cons rfl) (HLe.pick [1, 1, 1, 0, 0, 0, 0] _)
                | exact joinQ_n (r1, r2, T1, T2, b6, b7) ⟨hc1, hc2⟩ (((((((EnvLe.nil _).cons rfl).cons rfl).cons rfl).cons rfl).cons rfl).cons rfl) (HLe.pick [1, 2, 1, 0, 0, 0, 0] _)
                | exact joinQ_n (r1, r2, T1, T2, b6, b7) ⟨hc1, hc2⟩ (((((((EnvLe.nil _).cons rfl).cons rfl).cons rfl).cons rfl).cons rfl).cons rfl) (HLe.pick [2, 1, 1, 0, 0, 0, 0] _)
                | exact joinQ_n (r1, r2, T1, T2, b6, b7) ⟨hc1, hc2⟩ (((((((EnvLe.nil _).cons rfl).cons rfl).cons rfl).cons rfl).cons rfl).cons rfl) (HLe.pick [3, 1, 1, 0, 0, 0, 0] _)
                | exact joinQ_n (r1, r2, T1, T2, b6, b7) ⟨hc1, hc2⟩ (((((((EnvLe.nil _).cons rfl).cons rfl).cons rfl).cons rfl).cons rfl).cons rfl) (HLe.pick [2, 2, 1, 0, 0, 0, 0] _)
                | exact joinQ_n (r1, r2, T1, T2, b6, b7) ⟨hc1, hc2⟩ (((((((EnvLe.nil _).cons rfl).cons rfl).cons rfl).cons rfl).cons rfl).cons rfl) (HLe.pick [3, 2, 1, 0, 0, 0, 0] _)
          · skip
            refine TriOps.allocA (fun b7 => ?_)
            refine .nil (Next.sub ?_)
            refine RA.step2 5 12 rfl rfl (by kernel_rfl) rfl ?_ ?_
            · skip
              refine TriOps.callN (cshort0_spec d.r d.c _ (hd9.1.mono fun b o hb => .inl hb)) (fun w T1 hw => ?_)
              obtain ⟨r1, rfl, hc1⟩ := hw
              have ir1 : Ones r1.cells := ⟨hc1.ones⟩
              refine .nil (Next.sub ?_)
              refine RA.step2 11 12 rfl rfl (by kernel_rfl) rfl ?_ ?_
              · skip
                refine TriOps.callN (cshort0_spec d.r d.c _ (hd9.1.mono fun b o hb => .inl hb)) (fun w T2 hw => ?_)
                obtain ⟨r2, rfl, hc2⟩ := hw
                have ir2 : Ones r2.cells := ⟨hc2.ones⟩
                refine .nil (Next.sub ?_)
                refine RA.step 12 rfl (by kernel_rfl) rfl ?_
                refine TriOps.allocA (fun b6 => ?_)
                refine .nil (Next.sub ?_)
                refine RA.step 14 rfl (by kernel_rfl) rfl ?_
                refine TriOps.storeA rfl rfl ?_
                refine .nil (Next.mod rfl ?_)
                refine RA.step 15 rfl (by kernel_rfl) rfl ?_
                refine TriOps.storeA rfl rfl ?_
                refine .nil (Next.mod rfl ?_)
                refine RA.nil (by kernel_rfl) ?_
                first
                  | exact joinQ_n (r1, r2, T1, T2, b6, b7) ⟨hc1, hc2⟩ (((((((EnvLe.nil _).cons rfl).cons rfl).cons rfl).cons rfl).cons rfl).cons rfl) (HLe.pick [0, 0, 0, 0, 0, 0, 0] _)
                  | exact joinQ_n (r1, r2, T1, T2, b6, b7) ⟨hc1, hc2⟩ (((((((EnvLe.nil _).cons rfl).cons rfl).cons rfl).cons rfl).cons rfl).cons rfl) (HLe.pick [0, 0, 1, 0, 0, 0, 0] _)
                  | exact joinQ_n (r1, r2, T1, T2, b6, b7) ⟨hc1, hc2⟩ (((((((EnvLe.nil _).cons rfl).cons rfl).cons rfl).cons rfl).cons rfl).cons rfl) (HLe.pick [0, 1, 0, 0, 0, 0, 0] _)
                  | exact joinQ_n (r1, r2, T1, T2, b6, b7) ⟨hc1, hc2⟩ (((((((EnvLe.nil _).cons rfl).cons rfl).cons rfl).cons rfl).cons rfl).cons rfl) (HLe.pick [0, 2, 0, 0, 0, 0, 0] _)
                  | exact joinQ_n (r1, r2, T1, T2, b6, b7) ⟨hc1, hc2⟩ (((((((EnvLe.nil _).cons rfl).cons rfl).cons rfl).cons rfl).cons rfl).cons rfl) (HLe.pick [0, 1, 1, 0, 0, 0, 0] _)
                  | exact joinQ_n (r1, r2, T1, T2, b6, b7) ⟨hc1, hc2⟩ (((((((EnvLe.nil _).cons rfl).cons rfl).cons rfl).cons rfl).cons rfl).cons rfl) (HLe.pick [0, 2, 1, 0, 0, 0, 0] _)
                  | exact joinQ_n (r1, r2, T1, T2, b6, b7) ⟨hc1, hc2⟩ (((((((EnvLe.nil _).cons rfl).cons rfl).cons rfl).cons rfl).cons rfl).cons rfl) (HLe.pick [1, 0, 0, 0, 0, 0, 0] _)
                  | exact joinQ_n (r1, r2, T1, T2, b6, b7) ⟨hc1, hc2⟩ (((((((EnvLe.nil _).cons rfl).cons rfl).cons rfl).cons rfl).cons rfl).cons rfl) (HLe.pick [1, 0, 1, 0, 0, 0, 0] _)
                  | exact joinQ_n (r1, r2, T1, T2, b6, b7) ⟨hc1, hc2⟩ (((((((EnvLe.nil _).cons rfl).cons rfl).cons rfl).cons rfl).cons rfl).cons rfl) (HLe.pick [2, 0, 0, 0, 0, 0, 0] _)
                  | exact joinQ_n (r1, r2, T1, T2, b6, b7) ⟨hc1, hc2⟩ (((((((EnvLe.nil _).cons rfl).cons rfl).cons rfl).cons rfl).cons rfl).cons rfl) (HLe.pick [3, 0, 0, 0, 0, 0, 0] _)
                  | exact joinQ_n (r1, r2, T1, T2, b6, b7) ⟨hc1, hc2⟩ (((((((EnvLe.nil _).cons rfl).cons rfl).cons rfl).cons rfl).cons rfl).cons rfl) (HLe.pick [2, 0, 1, 0, 0, 0, 0] _)
                  | exact joinQ_n (r1, r2, T1, T2, b6, b7) ⟨hc1, hc2⟩ (((((((EnvLe.nil _).cons rfl).cons rfl).cons rfl).cons rfl).cons rfl).cons rfl) (HLe.pick [3, 0, 1, 0, 0, 0, 0] _)
                  | exact joinQ_n (r1, r2, T1, T2, b6, b7) ⟨hc1, hc2⟩ (((((((EnvLe.nil _).cons rfl).cons rfl).cons rfl).cons rfl).cons rfl).cons rfl) (HLe.pick [1, 1, 0, 0, 0, 0, 0] _)
                  | exact joinQ_n (r1, r2, T1, T2, b6, b7) ⟨hc1, hc2⟩ (((((((EnvLe.nil _).cons rfl).cons rfl).cons rfl).cons rfl).cons rfl).cons rfl) (HLe.pick [1, 2, 0, 0, 0, 0, 0] _)
                  | exact joinQ_n (r1, r2, T1, T2, b6, b7) ⟨hc1, hc2⟩ (((((((EnvLe.nil _).cons rfl).cons rfl).cons rfl).cons rfl).cons rfl).cons rfl) (HLe.pick [2, 1, 0, 0, 0, 0, 0] _)
                  | exact joinQ_n (r1, r2, T1, T2, b6, b7) ⟨hc1, hc2⟩ (((((((EnvLe.nil _).cons rfl).cons rfl).cons rfl).cons rfl).cons rfl).cons rfl) (HLe.pick [3, 1, 0, 0, 0, 0, 0] _)
                  | exact joinQ_n (r1, r2, T1, T2, b6, b7) ⟨hc1, hc2⟩ (((((((EnvLe.nil _).cons rfl).cons rfl).cons rfl).cons rfl).cons rfl).cons rfl) (HLe.pick [2, 2, 0, 0, 0, 0, 0] _)
                  | exact joinQ_n (r1, r2, T1, T2, b6, b7) ⟨hc1, hc2⟩ (((((((EnvLe.nil _).cons rfl).cons rfl).cons rfl).cons rfl).cons rfl).cons rfl) (HLe.pick [3, 2, 0, 0, 0, 0, 0] _)
                  | exact joinQ_n (r1, r2, T1, T2, b6, b7) ⟨hc1, hc2⟩ (((((((EnvLe.nil _).cons rfl).cons rfl).cons rfl).cons rfl).cons rfl).cons rfl) (HLe.pick [1, 1, 1, 0, 0, 0, 0] _)
                  | exact joinQ_n (r1, r2, T1, T2, b6, b7) ⟨hc1, hc2⟩ (((((((EnvLe.nil _).cons rfl).cons rfl).cons rfl).cons rfl).cons rfl).cons rfl) (HLe.pick [1, 2, 1, 0, 0, 0, 0] _)
                  | exact joinQ_n (r1, r2, T1, T2, b6, b7) ⟨hc1, hc2⟩ (((((((EnvLe.nil _).cons rfl).cons rfl).cons rfl).cons rfl).cons rfl).cons rfl) (HLe.pick [2, 1, 1, 0, 0, 0, 0] _)
                  | exact joinQ_n (r1, r2, T1, T2, b6, b7) ⟨hc1, hc2⟩ (((((((EnvLe.nil _).cons rfl).cons rfl).cons rfl).cons rfl).cons rfl).cons rfl) (HLe.pick [3, 1, 1, 0, 0, 0, 0] _)
                  | exact joinQ_n (r1, r2, T1, T2, b6, b7) ⟨hc1, hc2⟩ (((((((EnvLe.nil _).cons rfl).cons rfl).cons rfl).cons rfl).cons rfl).cons rfl) (HLe.pick [2, 2, 1, 0, 0, 0, 0] _)
                  | exact joinQ_n (r1, r2, T1, T2, b6, b7) ⟨hc1, hc2⟩ (((((((EnvLe.nil _).cons rfl).cons rfl).cons rfl).cons rfl).cons rfl).cons rfl) (HLe.pick [3, 2, 1, 0, 0, 0, 0] _)
              · skip
                refine TriOps.allocA (fun b6 => ?_)
                refine .nil (Next.sub ?_)
                refine RA.step 11 rfl (by kernel_rfl) rfl ?_
                refine TriOps.callN (cshort0_spec d.r d.c _ (hd9.1.mono fun b o hb => .inl hb)) (fun w T2 hw => ?_)
                obtain ⟨r2, rfl, hc2⟩ := hw
                have ir2 : Ones r2.cells := ⟨hc2.ones⟩
                refine .nil (Next.sub ?_)
                refine RA.step 14 rfl (by kernel_rfl) rfl ?_
                refine TriOps.storeA rfl rfl ?_
                refine .nil (Next.mod rfl ?_)
                refine RA.step 15 rfl (by kernel_rfl) rfl ?_
                refine TriOps.storeA rfl rfl ?_
                refine .nil (Next.mod rfl ?_)
                refine RA.nil (by kernel_rfl) ?_
                first
                  | exact joinQ_n (r1, r2, T1, T2, b6, b7) ⟨hc1, hc2⟩ (((((((EnvLe.nil _).cons rfl).cons rfl).cons rfl).cons rfl).cons rfl).cons rfl) (HLe.pick [0, 0, 0, 0, 0, 0, 0] _)
                  | exact joinQ_n (r1, r2, T1, T2, b6, b7) ⟨hc1, hc2⟩ (((((((EnvLe.nil _).cons rfl).cons rfl).cons rfl).cons rfl).cons rfl).cons rfl) (HLe.pick [0, 0, 1, 0, 0, 0, 0] _)
                  | exact joinQ_n (r1, r2, T1, T2, b6, b7) ⟨hc1, hc2⟩ (((((((EnvLe.nil _).cons rfl).cons rfl).cons rfl).cons rfl).cons rfl).cons rfl) (HLe.pick [0, 1, 0, 0, 0, 0, 0] _)
                  | exact joinQ_n (r1, r2, T1, T2, b6, b7) ⟨hc1, hc2⟩ (((((((EnvLe.nil _).cons rfl).cons rfl).cons rfl).cons rfl).cons rfl).cons rfl) (HLe.pick [0, 2, 0, 0, 0, 0, 0] _)
                  | exact joinQ_n (r1, r2, T1, T2, b6, b7) ⟨hc1, hc2⟩ (((((((EnvLe.nil _).cons rfl).cons rfl).cons rfl).cons rfl).cons rfl).cons rfl) (HLe.pick [0, 1, 1, 0, 0, 0, 0] _)
                  | exact joinQ_n (r1, r2, T1, T2, b6, b7) ⟨hc1, hc2⟩ (((((((EnvLe.nil _).cons rfl).cons rfl).cons rfl).cons rfl).cons rfl).cons rfl) (HLe.pick [0, 2, 1, 0, 0, 0, 0] _)
                  | exact joinQ_n (r1, r2, T1, T2, b6, b7) ⟨hc1, hc2⟩ (((((((EnvLe.nil _).cons rfl).cons rfl).cons rfl).cons rfl).cons rfl).cons rfl) (HLe.pick [1, 0, 0, 0, 0, 0, 0] _)
                  | exact joinQ_n (r1, r2, T1, T2, b6, b7) ⟨hc1, hc2⟩ (((((((EnvLe.nil _).cons rfl).cons rfl).cons rfl).cons rfl).cons rfl).cons rfl) (HLe.pick [1, 0, 1, 0, 0, 0, 0] _)
                  | exact joinQ_n (r1, r2, T1, T2, b6, b7) ⟨hc1, hc2⟩ (((((((EnvLe.nil _).cons rfl).cons rfl).cons rfl).cons rfl).cons rfl).cons rfl) (HLe.pick [2, 0, 0, 0, 0, 0, 0] _)
                  | exact joinQ_n (r1, r2, T1, T2, b6, b7) ⟨hc1, hc2⟩ (((((((EnvLe.nil _).cons rfl).cons rfl).cons rfl).cons rfl).cons rfl).cons rfl) (HLe.pick [3, 0, 0, 0, 0, 0, 0] _)
                  | exact joinQ_n (r1, r2, T1, T2, b6, b7) ⟨hc1, hc2⟩ (((((((EnvLe.nil _).cons rfl).cons rfl).cons rfl).cons rfl).cons rfl).cons rfl) (HLe.pick [2, 0, 1, 0, 0, 0, 0] _)
                  | exact joinQ_n (r1, r2, T1, T2, b6, b7) ⟨hc1, hc2⟩ (((((((EnvLe.nil _).cons rfl).cons rfl).cons rfl).cons rfl).cons rfl).cons rfl) (HLe.pick [3, 0, 1, 0, 0, 0, 0] _)
                  | exact joinQ_n (r1, r2, T1, T2, b6, b7) ⟨hc1, hc2⟩ (((((((EnvLe.nil _).cons rfl).cons rfl).cons rfl).cons rfl).cons rfl).cons rfl) (HLe.pick [1, 1, 0, 0, 0, 0, 0] _)
                  | exact joinQ_n (r1, r2, T1, T2, b6, b7) ⟨hc1, hc2⟩ (((((((EnvLe.nil _).cons rfl).cons rfl).cons rfl).cons rfl).cons rfl).cons rfl) (HLe.pick [1, 2, 0, 0, 0, 0, 0] _)
                  | exact joinQ_n (r1, r2, T1, T2, b6, b7) ⟨hc1, hc2⟩ (((((((EnvLe.nil _).cons rfl).cons rfl).cons rfl).cons rfl).cons rfl).cons rfl) (HLe.pick [2, 1, 0, 0, 0, 0, 0] _)
                  | exact joinQ_n (r1, r2, T1, T2, b6, b7) ⟨hc1, hc2⟩ (((((((EnvLe.nil _).cons rfl).cons rfl).cons rfl).cons rfl).cons rfl).cons rfl) (HLe.pick [3, 1, 0, 0, 0, 0, 0] _)
                  | exact joinQ_n (r1, r2, T1, T2, b6, b7) ⟨hc1, hc2⟩ (((((((EnvLe.nil _).cons rfl).cons rfl).cons rfl).cons rfl).cons rfl).cons rfl) (HLe.pick [2, 2, 0, 0, 0, 0, 0] _)
                  | exact joinQ_n (r1, r2, T1, T2, b6, b7) ⟨hc1, hc2⟩ (((((((EnvLe.nil _).cons rfl).cons rfl).cons rfl).cons rfl).cons rfl).cons rfl) (HLe.pick [3, 2, 0, 0, 0, 0, 0] _)
                  | exact joinQ_n (r1, r2, T1, T2, b6, b7) ⟨hc1, hc2⟩ (((((((EnvLe.nil _).cons rfl).cons rfl).cons rfl).cons rfl).cons rfl).cons rfl) (HLe.pick [1, 1, 1, 0, 0, 0, 0] _)
                  | exact joinQ_n (r1, r2, T1, T2, b6, b7) ⟨hc1, hc2⟩ (((((((EnvLe.nil _).cons rfl).cons rfl).cons rfl).cons rfl).cons rfl).cons rfl) (HLe.pick [1, 2, 1, 0, 0, 0, 0] _)
                  | exact joinQ_n (r1, r2, T1, T2, b6, b7) ⟨hc1, hc2⟩ (((((((EnvLe.nil _).cons rfl).cons rfl).cons rfl).cons rfl).cons rfl).cons rfl) (HLe.pick [2, 1, 1, 0, 0, 0, 0] _)
                  | exact joinQ_n (r1, r2, T1, T2, b6, b7) ⟨hc1, hc2⟩ (((((((EnvLe.nil _).cons rfl).cons rfl).cons rfl).cons rfl).cons rfl).cons rfl) (HLe.pick [3, 1, 1, 0, 0, 0, 0] _)
                  | exact joinQ_n (r1, r2, T1, T2, b6, b7) ⟨hc1, hc2⟩ (((((((EnvLe.nil _).cons rfl).cons rfl).cons rfl).cons rfl).cons rfl).cons rfl) (HLe.pick [2, 2, 1, 0, 0, 0, 0] _)
                  | exact joinQ_n (r1, r2, T1, T2, b6, b7) ⟨hc1, hc2⟩ (((((((EnvLe.nil _).cons rfl).cons rfl).cons rfl).cons rfl).cons rfl).cons rfl) (HLe.pick [3, 2, 1, 0, 0, 0, 0] _)
            · skip
              refine TriOps.allocA (fun b6 => ?_)
              refine .nil (Next.sub ?_)
              refine RA.step 5 rfl (by kernel_rfl) rfl ?_
              refine TriOps.callN (cshort0_spec d.r d.c _ (hd9.1.mono fun b o hb => .inl hb)) (fun w T1 hw => ?_)
              obtain ⟨r1, rfl, hc1⟩ := hw
              have ir1 : Ones r1.cells := ⟨hc1.ones⟩
              refine .nil (Next.sub ?_)
              refine RA.step 11 rfl (by kernel_rfl) rfl ?_
              refine TriOps.callN (cshort0_spec d.r d.c _ (hd9.1.mono fun b o hb => .inl hb)) (fun w T2 hw => ?_)
              obtain ⟨r2, rfl, hc2⟩ := hw
              have ir2 : Ones r2.cells := ⟨hc2.ones⟩
              refine .nil (Next.sub ?_)
              refine RA.step 14 rfl (by kernel_rfl) rfl ?_
              refine TriOps.storeA rfl rfl ?_
              refine .nil (Next.mod rfl ?_)
              refine RA.step 15 rfl (by kernel_rfl) rfl ?_
              refine TriOps.storeA rfl rfl ?_
              refine .nil (Next.mod rfl ?_)
              refine RA.nil (by kernel_rfl) ?_
              first
                | exact joinQ_n (r1, r2, T1, T2, b6, b7) ⟨hc1, hc2⟩ (((((((EnvLe.nil _).cons rfl).cons rfl).cons rfl).cons rfl).cons rfl).cons rfl) (HLe.pick [0, 0, 0, 0, 0, 0, 0] _)
                | exact joinQ_n (r1, r2, T1, T2, b6, b7) ⟨hc1, hc2⟩ (((((((EnvLe.nil _).cons rfl).cons rfl).cons rfl).cons rfl).cons rfl).cons rfl) (HLe.pick [0, 0, 1, 0, 0, 0, 0] _)
                | exact joinQ_n (r1, r2, T1, T2, b6, b7) ⟨hc1, hc2⟩ (((((((EnvLe.nil _).cons rfl).cons rfl).cons rfl).cons rfl).cons rfl).cons rfl) (HLe.pick [0, 1, 0, 0, 0, 0, 0] _)
                | exact joinQ_n (r1, r2, T1, T2, b6, b7) ⟨hc1, hc2⟩ (((((((EnvLe.nil _).cons rfl).cons rfl).cons rfl).cons rfl).cons rfl).cons rfl) (HLe.pick [0, 2, 0, 0, 0, 0, 0] _)
                | exact joinQ_n (r1, r2, T1, T2, b6, b7) ⟨hc1, hc2⟩ (((((((EnvLe.nil _).cons rfl).cons rfl).cons rfl).cons rfl).cons rfl).cons rfl) (HLe.pick [0, 1, 1, 0, 0, 0, 0] _)
                | exact joinQ_n (r1, r2, T1, T2, b6, b7) ⟨hc1, hc2⟩ (((((((EnvLe.nil _).cons rfl).cons rfl).cons rfl).cons rfl).cons rfl).cons rfl) (HLe.pick [0, 2, 1, 0, 0, 0, 0] _)
                | exact joinQ_n (r1, r2, T1, T2, b6, b7) ⟨hc1, hc2⟩ (((((((EnvLe.nil _).cons rfl).cons rfl).cons rfl).cons rfl).cons rfl).cons rfl) (HLe.pick [1, 0, 0, 0, 0, 0, 0] _)
                | exact joinQ_n (r1, r2, T1, T2, b6, b7) ⟨hc1, hc2⟩ (((((((EnvLe.nil _).cons rfl).cons rfl).cons rfl).cons rfl).cons rfl).cons rfl) (HLe.pick [1, 0, 1, 0, 0, 0, 0] _)
                | exact joinQ_n (r1, r2, T1, T2, b6, b7) ⟨hc1, hc2⟩ (((((((EnvLe.nil _).cons rfl).cons rfl).cons rfl).cons rfl).cons rfl).cons rfl) (HLe.pick [2, 0, 0, 0, 0, 0, 0] _)
                | exact joinQ_n (r1, r2, T1, T2, b6, b7) ⟨hc1, hc2⟩ (((((((EnvLe.nil _).cons rfl).cons rfl).cons rfl).cons rfl).cons rfl).cons rfl) (HLe.pick [3, 0, 0, 0, 0, 0, 0] _)
                | exact joinQ_n (r1, r2, T1, T2, b6, b7) ⟨hc1, hc2⟩ (((((((EnvLe.nil _).cons rfl).cons rfl).cons rfl).cons rfl).cons rfl).cons rfl) (HLe.pick [2, 0, 1, 0, 0, 0, 0] _)
                | exact joinQ_n (r1, r2, T1, T2, b6, b7) ⟨hc1, hc2⟩ (((((((EnvLe.nil _).cons rfl).cons rfl).cons rfl).cons rfl).cons rfl).cons rfl) (HLe.pick [3, 0, 1, 0, 0, 0, 0] _)
                | exact joinQ_n (r1, r2, T1, T2, b6, b7) ⟨hc1, hc2⟩ (((((((EnvLe.nil _).cons rfl).cons rfl).cons rfl).cons rfl).cons rfl).cons rfl) (HLe.pick [1, 1, 0, 0, 0, 0, 0] _)
                | exact joinQ_n (r1, r2, T1, T2, b6, b7) ⟨hc1, hc2⟩ (((((((EnvLe.nil _).cons rfl).cons rfl).cons rfl).cons rfl).cons rfl).cons rfl) (HLe.pick [1, 2, 0, 0, 0, 0, 0] _)
                | exact joinQ_n (r1, r2, T1, T2, b6, b7) ⟨hc1, hc2⟩ (((((((EnvLe.nil _).cons rfl).cons rfl).cons rfl).cons rfl).cons rfl).cons rfl) (HLe.pick [2, 1, 0, 0, 0, 0, 0] _)
                | exact joinQ_n (r1, r2, T1, T2, b6, b7) ⟨hc1, hc2⟩ (((((((EnvLe.nil _).cons rfl).cons rfl).cons rfl).cons rfl).cons rfl).cons rfl) (HLe.pick [3, 1, 0, 0, 0, 0, 0] _)
                | exact joinQ_n (r1, r2, T1, T2, b6, b7) ⟨hc1, hc2⟩ (((((((EnvLe.nil _).cons rfl).cons rfl).cons rfl).cons rfl).cons rfl).cons rfl) (HLe.pick [2, 2, 0, 0, 0, 0, 0] _)
                | exact joinQ_n (r1, r2, T1, T2, b6, b7) ⟨hc1, hc2⟩ (((((((EnvLe.nil _).cons rfl).cons rfl).cons rfl).cons rfl).cons rfl).cons rfl) (HLe.pick [3, 2, 0, 0, 0, 0, 0] _)
                | exact joinQ_n (r1, r2, T1, T2, b6, b7) ⟨hc1, hc2⟩ (((((((EnvLe.nil _).cons rfl).cons rfl).cons rfl).cons rfl).cons rfl).cons rfl) (HLe.pick [1, 1, 1, 0, 0, 0, 0] _)
                | exact joinQ_n (r1, r2, T1, T2, b6, b7) ⟨hc1, hc2⟩ (((((((EnvLe.nil _).cons rfl).cons rfl).cons rfl).cons rfl).cons rfl).cons rfl) (HLe.pick [1, 2, 1, 0, 0, 0, 0] _)
                | exact joinQ_n (r1, r2, T1, T2, b6, b7) ⟨hc1, hc2⟩ (((((((EnvLe.nil _).cons rfl).cons rfl).cons rfl).cons rfl).cons rfl).cons rfl) (HLe.pick [2, 1, 1, 0, 0, 0, 0] _)
                | exact joinQ_n (r1, r2, T1, T2, b6, b7) ⟨hc1, hc2⟩ (((((((EnvLe.nil _).cons rfl).cons rfl).cons rfl).cons rfl).cons rfl).cons rfl) (HLe.pick [3, 1, 1, 0, 0, 0, 0] _)
                | exact joinQ_n (r1, r2, T1, T2, b6, b7) ⟨hc1, hc2⟩ (((((((EnvLe.nil _).cons rfl).cons rfl).cons rfl).cons rfl).cons rfl).cons rfl) (HLe.pick [2, 2, 1, 0, 0, 0, 0] _)
                | exact joinQ_n (r1, r2, T1, T2, b6, b7) ⟨hc1, hc2⟩ (((((((EnvLe.nil _).cons rfl).cons rfl).cons rfl).cons rfl).cons rfl).cons rfl) (HLe.pick [3, 2, 1, 0, 0, 0, 0] _)
        · intro y hy
          obtain ⟨r1, r2, T1, T2, b6, b7⟩ := y
          obtain ⟨hc1, hc2⟩ := hy
          simp only at hc1 hc2 ⊢
          have ir1 : Ones r1.cells := ⟨hc1.ones⟩
          have ir2 : Ones r2.cells := ⟨hc2.ones⟩
          refine seqQ_n ?_
          refine .seq ?_
          refine .seq ?_
          refine .region ?_
          refine TriOps.q .move ?_
          refine TriOps.q .move ?_
          refine TriOps.q (.indexR i hS hd rfl rfl rfl) ?_
          refine TriOps.q (.fieldAddr rfl) ?_
          refine TriOps.q (.load1 rfl) ?_
          refine .nil ?_
          refine seqQ_n ?_
          refine Tri.cut (X := List Cli × List CP × Seg × Seg × Seg) (fun y => BothC y.1 y.2.1 ∧ RI q y.1 y.2.2.1 ∧ RL b16 y.2.1 y.2.2.2.1 ∧ CL (sg y.2.2.2.2) y.2.1) (fun y => [(0, v), (3, .pointer (some ⟨q, 0, none⟩)), (4, .pointer (some ⟨b16, 0, none⟩)), (5, .int .i64 (i : Nat))]) (fun y => [y.2.2.2.1, y.2.2.1, y.2.2.2.2]) ?_ ?_
          · refine .block ?_
            refine .seq ?_
            refine .region ?_
            refine TriOps.q .eqI ?_
            refine TriOps.q .assign ?_
            refine .nil ?_
            refine seqQ_n ?_
            refine .cond rfl (fun h3 => ?_) (fun h3 => ?_)
            · skip
              refine .seq ?_
              refine .seq ?_
              refine .region_any [4, 4] [2, 5] mixed ?_
              conv => arg 3; simp only [take, rest, dropAt, List.getD_cons_zero, List.getD_cons_succ]
              conv => arg 5; simp only [take, rest, dropAt, List.getD_cons_zero, List.getD_cons_succ]
              conv => arg 9; simp only [take, rest, dropAt, List.getD_cons_zero, List.getD_cons_succ]
              refine RA.takeO 0 rfl .move (by kernel_rfl) ?_
              refine RA.takeO 1 rfl (.loadA rfl) (by kernel_rfl) ?_
              refine RA.take 3 rfl .move (by kernel_rfl) ?_
              refine RA.take 4 rfl (.loadA rfl) (by kernel_rfl) ?_
              refine RA.step 2 rfl (by kernel_rfl) rfl ?_
              refine TriOps.callM (cadd_spec q A TQ hI r1 d.c.short _ (hc1.mono fun b o hb => .inr (by have hb' : (b, o) ∈ T1 := hb.1; simp [hb'])) d.c.short_fits d.c.short_few) (fun w TQ1 hw => ?_)
              obtain ⟨rfl, hI1⟩ := hw
              refine .nil (Next.mod rfl ?_)
              refine RA.step 5 rfl (by kernel_rfl) rfl ?_
              refine TriOps.callM (radd_spec b16 ps TR hX r2 d.c.short _ (hc2.mono fun b o hb => .inr (by have hb' : (b, o) ∈ T2 := hb.1; simp [hb'])) d.c.short_fits (hP.mono fun b o hb => .inr (by have hb' : (b, o) ∈ Td := hb; simp [hb']))) (fun w TR1 hw => ?_)
              obtain ⟨rfl, hX1⟩ := hw
              refine .nil (Next.mod rfl ?_)
              refine RA.take 6 rfl .neI (by kernel_rfl) ?_
              refine RA.nil (by kernel_rfl) ?_
              refine seqQ_n ?_
              refine .cond rfl (fun h4 => ?_) (fun h4 => ?_)
              · skip
                rw [hB.code] at h4
                simp at h4
              · skip
                have hB1 := hB.add (r := r2) (c := d.c.short) hP hc2.id
                have hP1 : CL (sg (T2 ++ Td)) (if (cadd (clis ps) d.c.short).1 = 0 then cins (r2, d.c.short) ps else ps) := fun p hp => by
                  split at hp
                  · rcases List.mem_cons.1 (gins_perm.mem_iff.1 hp) with rfl | hm
                    · exact hc2.mono fun b o hb => sg_left hb.1
                    · exact (hP p hm).mono fun b o hb => sg_right hb
                  · exact (hP p hp).mono fun b o hb => sg_right hb
                refine .skip ?_
                refine seqQ_n ?_
                refine .seq ?_
                refine .region ?_
                refine TriOps.q .assign ?_
                refine .nil ?_
                refine seqQ_n ?_
                refine .block ?_
                refine .loop (X := Nat × List ByteArray × Seg) (fun y => RS (sg0 y.2.2) 1 encS r1.vu y.2.1 ∧ y.2.1.length = d.c.short.uris.length) (fun y => [(0, v), (3, .pointer (some ⟨q, 0, none⟩)), (4, .pointer (some ⟨b16, 0, none⟩)), (5, .int .i64 (i : Nat)), (6, .pointer (some ⟨b6, 0, none⟩)), (8, .int .i64 (y.1 : Nat))]) (fun y => [TR1, TQ1, [(b6, .cells r1.cells.toArray 35 (0, 0))], [(b7, .cells r2.cells.toArray 35 (0, 0))], y.2.2, T2, Td]) (fun y => d.c.short.uris.length - y.1) (0, d.c.short.uris, T1) ⟨hc1.u, rfl⟩ (((((((EnvLe.nil _).cons rfl).cons rfl).cons rfl).cons rfl).cons rfl).cons rfl) (HLe.refl _) ?_
                rintro ⟨k, xs, T1w⟩ ⟨hxw, hxl⟩
                simp only at hxw hxl ⊢
                have hfew : d.c.short.uris.length ≤ 1000000 := d.c.short_few.1
                refine .seq ?_
                refine .seq ?_
                refine .region ?_
                refine TriOps.q .move ?_
                refine TriOps.q (.fieldAddr rfl) ?_
                refine TriOps.q (.load1 rfl) ?_
                refine TriOps.q (.lenR hxw) ?_
                refine TriOps.q .lss ?_
                refine .nil ?_
                refine seqQ_n ?_
                refine .cond rfl (fun h5 => ?_) (fun h5 => ?_)
                · skip
                  have hkx : k < xs.length := by have := of_decide_eq_true h5; omega
                  obtain ⟨z, hz⟩ : ∃ z, xs[k]? = some z := ⟨_, List.getElem?_eq_getElem hkx⟩
                  refine .skip ?_
                  refine seqQ_n ?_
                  refine .seq ?_
                  refine .block ?_
                  refine .region ?_
                  refine TriOps.q (.fieldAddr rfl) ?_
                  refine TriOps.q (.load1 rfl) ?_
                  refine TriOps.q .move ?_
                  refine TriOps.q (.indexR k hxw hz rfl rfl rfl) ?_
                  refine TriOps.pokeS k hxw hz rfl rfl (fun T1n hpk => ?_)
                  obtain ⟨xs', hx', hl'⟩ := hpk _ _ hxw
                  refine .nil ?_
                  refine blkQ_n (seqQ_n ?_)
                  refine .region ?_
                  refine TriOps.q .move ?_
                  refine TriOps.q (.i64 ((k + 1 : Nat) : Int) .add ⟨by omega, by omega, by omega⟩) ?_
                  refine TriOps.q .assign ?_
                  refine .nil ?_
                  exact loopQ_i (k + 1, xs', T1n) ⟨hx', hl'.trans hxl⟩ (by simp only; omega) (((((((EnvLe.nil _).cons rfl).cons rfl).cons rfl).cons rfl).cons rfl).cons rfl) (HLe.refl _)
                · skip
                  refine .exit (seqQ_x (loopQ_x (blkQ_x ?_)))
                  refine blkQ_n ?_
                  first
                    | exact joinQ_n (_, _, TQ1, TR1, T2 ++ Td) ⟨hB1, hI1, hX1, hP1⟩ (((((EnvLe.nil _).cons rfl).cons rfl).cons rfl).cons rfl) ((HLe.pick [0, 0, 3, 3] _).trans (HLe.ofPerm (by simp [take, dropAt])))
                    | exact joinQ_n (_, _, TQ1, TR1, Td) ⟨hB1, hI1, hX1, hP1⟩ (((((EnvLe.nil _).cons rfl).cons rfl).cons rfl).cons rfl) (HLe.pick [1, 0, 4] _)
                    | exact joinQ_n (A, ps, TQ, TR, Td) ⟨hB, hI, hX, hP⟩ (((((EnvLe.nil _).cons rfl).cons rfl).cons rfl).cons rfl) (HLe.pick [4, 4, 4] _)
            · skip
              refine .seq ?_
              refine .region ?_
              refine TriOps.q .eqI ?_
              refine TriOps.q .assign ?_
              refine .nil ?_
              refine seqQ_n ?_
              refine .cond rfl (fun h6 => ?_) (fun h6 => ?_)
              · skip
                refine .seq ?_
                refine .region_any [5, 4] [6, 13] mixed ?_
                conv => arg 3; simp only [take, rest, dropAt, List.getD_cons_zero, List.getD_cons_succ]
                conv => arg 5; simp only [take, rest, dropAt, List.getD_cons_zero, List.getD_cons_succ]
                conv => arg 9; simp only [take, rest, dropAt, List.getD_cons_zero, List.getD_cons_succ]
                refine RA.takeO 0 rfl .move (by kernel_rfl) ?_
                refine RA.takeO 1 rfl .move (by kernel_rfl) ?_
                refine RA.takeO 2 rfl .move (by kernel_rfl) ?_
                refine RA.takeO 3 rfl (.indexR i hS hd rfl rfl rfl) (by kernel_rfl) ?_
                refine RA.takeO 4 rfl (.fieldAddrA rfl hda) (by kernel_rfl) ?_
                refine RA.takeO 5 rfl (.load1 rfl) (by kernel_rfl) ?_
                refine RA.take 7 rfl .move (by kernel_rfl) ?_
                refine RA.take 8 rfl .move (by kernel_rfl) ?_
                refine RA.take 9 rfl .move (by kernel_rfl) ?_
                refine RA.take 10 rfl (.indexR i hS hd rfl rfl rfl) (by kernel_rfl) ?_
                refine RA.take 11 rfl (.fieldAddrA rfl hda) (by kernel_rfl) ?_
                refine RA.take 12 rfl (.load1 rfl) (by kernel_rfl) ?_
                refine RA.step 6 rfl (by kernel_rfl) rfl ?_
                refine TriOps.callM (cremove_spec q A TQ hI d.id _) (fun w TQ1 hw => ?_)
                obtain ⟨rfl, hI1⟩ := hw
                refine .nil (Next.mod rfl ?_)
                refine RA.step 13 rfl (by kernel_rfl) rfl ?_
                refine TriOps.callM (rremove_spec b16 ps TR hX d.id _ (hP.mono fun b o hb => .inr (by have hb' : (b, o) ∈ Td := hb; simp [hb'])) hB.nd) (fun w TR1 hw => ?_)
                obtain ⟨rfl, hX1⟩ := hw
                refine .nil (Next.mod rfl ?_)
                refine RA.take 14 rfl .neI (by kernel_rfl) ?_
                refine RA.nil (by kernel_rfl) ?_
                refine seqQ_n ?_
                refine .cond rfl (fun h7 => ?_) (fun h7 => ?_)
                · skip
                  rw [hB.get] at h7
                  simp at h7
                · skip
                  have hB1 := hB.del d.id
                  have hP1 : CL (sg Td) (rdel d.id ps) := fun p hp => hP p (List.mem_filter.1 hp).1
                  refine .skip ?_
                  refine blkQ_n ?_
                  first
                    | exact joinQ_n (_, _, TQ1, TR1, T2 ++ Td) ⟨hB1, hI1, hX1, hP1⟩ (((((EnvLe.nil _).cons rfl).cons rfl).cons rfl).cons rfl) ((HLe.pick [0, 0, 3, 3] _).trans (HLe.ofPerm (by simp [take, dropAt])))
                    | exact joinQ_n (_, _, TQ1, TR1, Td) ⟨hB1, hI1, hX1, hP1⟩ (((((EnvLe.nil _).cons rfl).cons rfl).cons rfl).cons rfl) (HLe.pick [1, 0, 4] _)
                    | exact joinQ_n (A, ps, TQ, TR, Td) ⟨hB, hI, hX, hP⟩ (((((EnvLe.nil _).cons rfl).cons rfl).cons rfl).cons rfl) (HLe.pick [4, 4, 4] _)
              · skip
                refine .skip ?_
                refine blkQ_n ?_
                first
                  | exact joinQ_n (_, _, TQ1, TR1, T2 ++ Td) ⟨hB1, hI1, hX1, hP1⟩ (((((EnvLe.nil _).cons rfl).cons rfl).cons rfl).cons rfl) ((HLe.pick [0, 0, 3, 3] _).trans (HLe.ofPerm (by simp [take, dropAt])))
                  | exact joinQ_n (_, _, TQ1, TR1, Td) ⟨hB1, hI1, hX1, hP1⟩ (((((EnvLe.nil _).cons rfl).cons rfl).cons rfl).cons rfl) (HLe.pick [1, 0, 4] _)
                  | exact joinQ_n (A, ps, TQ, TR, Td) ⟨hB, hI, hX, hP⟩ (((((EnvLe.nil _).cons rfl).cons rfl).cons rfl).cons rfl) (HLe.pick [4, 4, 4] _)
          · intro x hx
            obtain ⟨A1, ps1, TQ1, TR1, Td1⟩ := x
            obtain ⟨hB1, hI1, hX1, hP1⟩ := hx
            simp only at hB1 hI1 hX1 hP1 ⊢
            obtain ⟨vt, ivt, pst, hvt⟩ := hX1.ps
            have hget := hB1.get d.id
            have hf1 := hB1.few
            refine seqQ_n ?_
            refine .seq ?_
            refine .region ?_
            refine TriOps.q .move ?_
            refine TriOps.callN (clist0_spec q A1 TQ1 hI1 (by omega) _ (fun p hp => .inr (by simp [hp]))) (fun w9 T9 hw => ?_)
            obtain ⟨ys, Ty, Ty2, rfl, hO9, hyc, hyp, hys⟩ := hw
            have i9 := hO9.oneCell
            have hyl : ys.length = A1.length := by simpa using hyp.length_eq
            have hsame : clis ys = clis ps1 := asc_uniq hB1.asc (hyp.trans hB1.pm) (by
              rw [List.pairwise_map]
              exact hys.imp_of_mem fun {a b} ha hb hab => by rw [ltc_ccmp, (hyc a ha).id, (hyc b hb).id] at hab; exact hab)
            refine TriOps.q .assign ?_
            refine .nil ?_
            refine seqQ_n ?_
            refine .seq ?_
            refine .region ?_
            refine TriOps.q .move ?_
            refine TriOps.q .move ?_
            refine TriOps.q .move ?_
            refine TriOps.q (.indexR i hS hd rfl rfl rfl) ?_
            refine TriOps.q (.fieldAddr rfl) ?_
            refine TriOps.q (.load1 rfl) ?_
            refine TriOps.callN (cget_spec q A1 TQ1 hI1 d.id _ fun p hp => .inr (by simp [hp])) (fun w5 T5 hw => ?_)
            obtain ⟨r5, rfl, hc5⟩ := hw
            have i5 : Ones r5.cells := ⟨hc5.ones⟩
            refine TriOps.q .move ?_
            refine TriOps.q .extract ?_
            refine TriOps.q .extract ?_
            refine TriOps.allocA (fun b10 => ?_)
            refine TriOps.storeA rfl rfl ?_
            refine TriOps.q .assign ?_
            refine .nil ?_
            refine seqQ_n ?_
            refine .seq ?_
            refine .region ?_
            refine TriOps.q .move ?_
            refine TriOps.q .move ?_
            refine TriOps.q .move ?_
            refine TriOps.q (.indexR i hS hd rfl rfl rfl) ?_
            refine TriOps.q (.fieldAddr rfl) ?_
            refine TriOps.q (.load1 rfl) ?_
            refine TriOps.callR (rfind_spec b16 ps1 TR1 hX1 d.id _ (hP1.mono fun b o hb => .inr (by have hb' : (b, o) ∈ Td1 := hb; simp [hb'])) fun p hp => .inr (by simp [hp])) (fun w hw => ?_)
            obtain ⟨z, rfl, hz⟩ := hw
            refine TriOps.q .assign ?_
            refine .nil ?_
            refine seqQ_n ?_
            refine .seq ?_
            refine .seq ?_
            refine .region_all [] mixed ?_
            refine RA.takeO 0 rfl .move (by kernel_rfl) ?_
            refine RA.takeO 1 rfl .move (by kernel_rfl) ?_
            refine RA.takeO 2 rfl (.nilCheck rfl) (by kernel_rfl) ?_
            refine RA.takeO 3 rfl (.fieldAddr rfl) (by kernel_rfl) ?_
            refine RA.takeO 4 rfl (.load1 rfl) (by kernel_rfl) ?_
            refine RA.step 5 rfl (by kernel_rfl) rfl ?_
            refine TriOps.callR (sameAll_spec _ _ ys ps1 _ (hO9.rs fun p hp => .inr (by simp [hp])) (hvt.mono fun b o hb => .inr (by have hb' : (b, o) ∈ TR1 := hb; simp [hb'])) (CL.mono (R := sg0 Ty2) hyc fun b o hb => .inr (by have hb' : (b, o) ∈ Ty2 := hb.1; simp [hb'])) (hP1.mono fun b o hb => .inr (by have hb' : (b, o) ∈ Td1 := hb; simp [hb']))) (fun w hw => ?_)
            rw [hsame, decide_eq_true rfl] at hw
            subst hw
            refine .nil (Next.sub ?_)
            refine RA.takeO 6 rfl .not (by kernel_rfl) ?_
            refine RA.takeO 7 rfl .move (by kernel_rfl) ?_
            refine RA.takeGO 8 rfl rfl .move (by kernel_rfl) ?_
            refine RA.takeGO 9 rfl rfl .move (by kernel_rfl) ?_
            refine RA.takeGO 10 rfl rfl .geq (by kernel_rfl) ?_
            refine RA.takeGO 11 rfl rfl .neB (by kernel_rfl) ?_
            refine RA.takeO 12 rfl .pickF (by kernel_rfl) ?_
            refine RA.takeO 13 rfl .move (by kernel_rfl) ?_
            refine RA.split (t := 115) rfl (fun g22_13 => ?_) (fun g22_13 => ?_)
            · skip
              exfalso
              rw [hget] at g22_13
              rcases hz with ⟨rfl, h1⟩ | ⟨j, c, rfl, _, _, h1⟩
              · rw [h1] at g22_13; simp at g22_13
              · rw [h1] at g22_13; simp at g22_13
            · skip
              refine RA.takeGhO 14 rfl rfl g22_13 .move (by kernel_rfl) ?_
              refine RA.takeGhO 15 rfl rfl g22_13 .move (by kernel_rfl) ?_
              refine RA.split (t := 117) rfl (fun g22_15 => ?_) (fun g22_15 => ?_)
              · skip
                obtain ⟨j, y, rfl, hy, cy, hid, hg⟩ := rl_open (g := b16) hP1 hz (by
                  rcases hz with ⟨rfl, h1⟩ | ⟨j, c, rfl, _, _, h1⟩
                  · rw [hget, h1] at g22_15; cases g22_15
                  · omega)
                have iy : Ones (encC y) := ⟨cy.ones⟩
                have pyj : PS TR1 (baseP vt (j * 4)) (encC y) := ⟨hvt.pc hy⟩
                refine RA.takeGhO 16 rfl rfl g22_15 (.loadA rfl) (by kernel_rfl) ?_
                refine RA.takeGhO 17 rfl rfl g22_15 .move (by kernel_rfl) ?_
                refine RA.takeGhO 18 rfl rfl g22_15 (.nilCheck rfl) (by kernel_rfl) ?_
                refine RA.takeGhO 19 rfl rfl g22_15 (.fieldAddr rfl) (by kernel_rfl) ?_
                refine RA.takeGhO 20 rfl rfl g22_15 (.load1 rfl) (by kernel_rfl) ?_
                refine RA.takeGhO 21 rfl rfl g22_15 .move (by kernel_rfl) ?_
                refine RA.takeGhO 22 rfl rfl g22_15 (.indexR j hvt hy rfl rfl rfl) (by kernel_rfl) ?_
                refine RA.takeGhO 23 rfl rfl g22_15 (.loadA rfl) (by kernel_rfl) ?_
                refine RA.step 24 rfl (by kernel_rfl) rfl ?_
                refine TriOps.gT g22_15 ?_
                refine TriOps.callR (sameC_spec r5 y.1 _ y.2 _ (hc5.mono fun b o hb => .inr (by have hb' : (b, o) ∈ T5 := hb; simp [hb'])) (cy.mono fun b o hb => .inr (by have hb' : (b, o) ∈ Td1 := hb; simp [hb']))) (fun w hw => ?_)
                rw [sameC_eq, hget, hg, Option.getD_some, decide_eq_true rfl] at hw
                subst hw
                refine .nil (Next.sub ?_)
                refine RA.takeGhO 25 rfl rfl g22_15 .not (by kernel_rfl) ?_
                refine RA.takeGhO 26 rfl rfl g22_13 (.pickTh g22_15) (by kernel_rfl) ?_
                refine RA.takeO 27 rfl (.pickFh g22_13) (by kernel_rfl) ?_
                refine RA.nil (by kernel_rfl) ?_
                refine seqQ_n ?_
                refine .condF ?_
                refine .skip ?_
                refine seqQ_n ?_
                refine .seq ?_
                refine .seq ?_
                refine .region ?_
                refine TriOps.q .assign ?_
                refine .nil ?_
                refine seqQ_n ?_
                refine .block ?_
                refine .loop (X := Nat × Seg) (fun y => ∀ p ∈ ys, ∃ us : List ByteArray, us.length = p.2.uris.length ∧ RS (sg0 y.2) 1 encS p.1.vu us) (fun y => [(0, v), (3, .pointer (some ⟨q, 0, none⟩)), (4, .pointer (some ⟨b16, 0, none⟩)), (5, .int .i64 (i : Nat)), (9, w9), (13, .int .i64 (y.1 : Nat))]) (fun y => [Ty, y.2, TR1, TQ1, Td1]) (fun y => ys.length - y.1) (0, Ty2) (fun p hp => ⟨_, rfl, (hyc p hp).u⟩) (((((((EnvLe.nil _).cons rfl).cons rfl).cons rfl).cons rfl).cons rfl).cons rfl) ((HLe.pick [2, 2, 2, 2] _).trans (HLe.ofPerm (by simp [take, dropAt]))) ?_
                rintro ⟨k, T9w⟩ hus
                simp only at hus ⊢
                refine .seq ?_
                refine .seq ?_
                refine .region ?_
                refine TriOps.q .move ?_
                refine TriOps.q .move ?_
                refine TriOps.q (.lenO hO9) ?_
                refine TriOps.q .lss ?_
                refine .nil ?_
                refine seqQ_n ?_
                refine .cond rfl (fun h9 => ?_) (fun h9 => ?_)
                · skip
                  have hky : k < ys.length := by have := of_decide_eq_true h9; omega
                  obtain ⟨y, hy⟩ : ∃ y, ys[k]? = some y := ⟨_, List.getElem?_eq_getElem hky⟩
                  have hym := List.mem_of_getElem? hy
                  obtain ⟨us, hul, hur⟩ := hus y hym
                  have hlen : 1 ≤ y.2.uris.length := chk_len (hB1.ok y.2 (by rw [← hsame]; exact List.mem_map.2 ⟨y, hym, rfl⟩))
                  obtain ⟨u0, hu0⟩ : ∃ u0, us[0]? = some u0 := ⟨_, List.getElem?_eq_getElem (by omega)⟩
                  refine .skip ?_
                  refine seqQ_n ?_
                  refine .seq ?_
                  refine .block ?_
                  refine .region ?_
                  refine TriOps.q .move ?_
                  refine TriOps.q .move ?_
                  refine TriOps.indexO k hO9 hy (fun p138 => ?_)
                  refine TriOps.q (.fieldAddr rfl) ?_
                  refine TriOps.q (.load1 rfl) ?_
                  refine TriOps.q (.indexR 0 hur hu0 rfl rfl rfl) ?_
                  refine TriOps.pokeS 0 hur hu0 rfl rfl (fun T9n hpk => ?_)
                  refine .nil ?_
                  refine blkQ_n (seqQ_n ?_)
                  refine .region ?_
                  refine TriOps.q .move ?_
                  refine TriOps.q (.i64 ((k + 1 : Nat) : Int) .add ⟨by omega, by omega, by omega⟩) ?_
                  refine TriOps.q .assign ?_
                  refine .nil ?_
                  exact loopQ_i (k + 1, T9n) (fun p hp => by
                    obtain ⟨us', h1, h2⟩ := hus p hp
                    obtain ⟨us2, h3, h4⟩ := hpk _ _ h2
                    exact ⟨us2, h4.trans h1, h3⟩) (by simp only; omega) (((((((EnvLe.nil _).cons rfl).cons rfl).cons rfl).cons rfl).cons rfl).cons rfl) (HLe.refl _)
                · skip
                  refine .exit (seqQ_x (loopQ_x (blkQ_x ?_)))
                  refine seqQ_n ?_
                  refine .seq ?_
                  refine .region_all [] mixed ?_
                  refine RA.takeO 0 rfl .move (by kernel_rfl) ?_
                  refine RA.takeO 1 rfl .move (by kernel_rfl) ?_
                  refine RA.takeO 2 rfl .move (by kernel_rfl) ?_
                  refine RA.takeO 3 rfl (.indexR i hS hd rfl rfl rfl) (by kernel_rfl) ?_
                  refine RA.takeO 4 rfl (.fieldAddr rfl) (by kernel_rfl) ?_
                  refine RA.takeO 5 rfl (.load1 rfl) (by kernel_rfl) ?_
                  refine RA.takeO 6 rfl .move (by kernel_rfl) ?_
                  refine RA.takeO 7 rfl .move (by kernel_rfl) ?_
                  refine RA.takeO 8 rfl (.indexR i hS hd rfl rfl rfl) (by kernel_rfl) ?_
                  refine RA.takeO 9 rfl (.fieldAddr rfl) (by kernel_rfl) ?_
                  refine RA.takeO 10 rfl (.load1 rfl) (by kernel_rfl) ?_
                  refine RA.takeO 12 rfl .move (by kernel_rfl) ?_
                  refine RA.takeO 13 rfl .move (by kernel_rfl) ?_
                  refine RA.takeO 14 rfl .move (by kernel_rfl) ?_
                  refine RA.takeO 15 rfl (.indexR i hS hd rfl rfl rfl) (by kernel_rfl) ?_
                  refine RA.takeO 16 rfl (.fieldAddr rfl) (by kernel_rfl) ?_
                  refine RA.takeO 17 rfl (.load1 rfl) (by kernel_rfl) ?_
                  refine RA.takeO 18 rfl .move (by kernel_rfl) ?_
                  refine RA.takeO 19 rfl .move (by kernel_rfl) ?_
                  refine RA.takeO 20 rfl (.indexR i hS hd rfl rfl rfl) (by kernel_rfl) ?_
                  refine RA.takeO 21 rfl (.fieldAddr rfl) (by kernel_rfl) ?_
                  refine RA.takeO 22 rfl (.load1 rfl) (by kernel_rfl) ?_
                  refine RA.step 11 rfl (by kernel_rfl) rfl ?_
                  refine TriOps.callR (cauth_spec q A1 TQ1 hI1 d.id d.secret _ fun p hp => .inr (by simp [hp])) (fun w hw => ?_)
                  rw [hget] at hw
                  subst hw
                  refine .nil (Next.sub ?_)
                  refine RA.step 23 rfl (by kernel_rfl) rfl ?_
                  refine TriOps.callR (rauth_spec b16 ps1 TR1 hX1 d.id d.secret _ (hP1.mono fun b o hb => .inr (by have hb' : (b, o) ∈ Td1 := hb; simp [hb'])) fun p hp => .inr (by simp [hp])) (fun w hw => ?_)
                  subst hw
                  refine .nil (Next.sub ?_)
                  refine RA.takeO 24 rfl .neI (by kernel_rfl) ?_
                  refine RA.takeO 25 rfl .move (by kernel_rfl) ?_
                  refine RA.split (t := 167) rfl (fun g28_25 => ?_) (fun g28_25 => ?_)
                  · skip
                    simp at g28_25
                  · skip
                    refine RA.takeGhO 26 rfl rfl g28_25 .move (by kernel_rfl) ?_
                    refine RA.takeGhO 27 rfl rfl g28_25 .move (by kernel_rfl) ?_
                    refine RA.takeGhO 28 rfl rfl g28_25 .move (by kernel_rfl) ?_
                    refine RA.takeGhO 29 rfl rfl g28_25 (.indexR i hS hd rfl rfl rfl) (by kernel_rfl) ?_
                    refine RA.takeGhO 30 rfl rfl g28_25 (.fieldAddr rfl) (by kernel_rfl) ?_
                    refine RA.takeGhO 31 rfl rfl g28_25 (.load1 rfl) (by kernel_rfl) ?_
                    refine RA.takeGhO 32 rfl rfl g28_25 .move (by kernel_rfl) ?_
                    refine RA.takeGhO 33 rfl rfl g28_25 .move (by kernel_rfl) ?_
                    refine RA.takeGhO 34 rfl rfl g28_25 (.indexR i hS hd rfl rfl rfl) (by kernel_rfl) ?_
                    refine RA.takeGhO 35 rfl rfl g28_25 (.fieldAddr rfl) (by kernel_rfl) ?_
                    refine RA.takeGhO 36 rfl rfl g28_25 (.load1 rfl) (by kernel_rfl) ?_
                    refine RA.takeGhO 38 rfl rfl g28_25 .move (by kernel_rfl) ?_
                    refine RA.takeGhO 39 rfl rfl g28_25 .move (by kernel_rfl) ?_
                    refine RA.takeGhO 40 rfl rfl g28_25 .move (by kernel_rfl) ?_
                    refine RA.takeGhO 41 rfl rfl g28_25 (.indexR i hS hd rfl rfl rfl) (by kernel_rfl) ?_
                    refine RA.takeGhO 42 rfl rfl g28_25 (.fieldAddr rfl) (by kernel_rfl) ?_
                    refine RA.takeGhO 43 rfl rfl g28_25 (.load1 rfl) (by kernel_rfl) ?_
                    refine RA.takeGhO 44 rfl rfl g28_25 .move (by kernel_rfl) ?_
                    refine RA.takeGhO 45 rfl rfl g28_25 .move (by kernel_rfl) ?_
                    refine RA.takeGhO 46 rfl rfl g28_25 (.indexR i hS hd rfl rfl rfl) (by kernel_rfl) ?_
                    refine RA.takeGhO 47 rfl rfl g28_25 (.fieldAddr rfl) (by kernel_rfl) ?_
                    refine RA.takeGhO 48 rfl rfl g28_25 (.load1 rfl) (by kernel_rfl) ?_
                    refine RA.step 37 rfl (by kernel_rfl) rfl ?_
                    refine TriOps.gT g28_25 ?_
                    refine TriOps.callR (credirect_spec q A1 TQ1 hI1 d.id d.uri _ fun p hp => .inr (by simp [hp])) (fun w hw => ?_)
                    rw [credi, hget, ← credi] at hw
                    subst hw
                    refine .nil (Next.sub ?_)
                    refine RA.step 49 rfl (by kernel_rfl) rfl ?_
                    refine TriOps.gT g28_25 ?_
                    refine TriOps.callR (rredirect_spec b16 ps1 TR1 hX1 d.id d.uri _ (hP1.mono fun b o hb => .inr (by have hb' : (b, o) ∈ Td1 := hb; simp [hb'])) fun p hp => .inr (by simp [hp])) (fun w hw => ?_)
                    subst hw
                    refine .nil (Next.sub ?_)
                    refine RA.takeGhO 50 rfl rfl g28_25 .neB (by kernel_rfl) ?_
                    refine RA.takeO 51 rfl (.pickFh g28_25) (by kernel_rfl) ?_
                    refine RA.takeO 52 rfl .move (by kernel_rfl) ?_
                    refine RA.split (t := 194) rfl (fun g28_52 => ?_) (fun g28_52 => ?_)
                    · skip
                      simp at g28_52
                    · skip
                      refine RA.takeGhO 53 rfl rfl g28_52 .move (by kernel_rfl) ?_
                      refine RA.takeGhO 54 rfl rfl g28_52 .move (by kernel_rfl) ?_
                      refine RA.takeGhO 55 rfl rfl g28_52 .move (by kernel_rfl) ?_
                      refine RA.takeGhO 56 rfl rfl g28_52 (.indexR i hS hd rfl rfl rfl) (by kernel_rfl) ?_
                      refine RA.takeGhO 57 rfl rfl g28_52 (.fieldAddr rfl) (by kernel_rfl) ?_
                      refine RA.takeGhO 58 rfl rfl g28_52 (.load1 rfl) (by kernel_rfl) ?_
                      refine RA.takeGhO 59 rfl rfl g28_52 .move (by kernel_rfl) ?_
                      refine RA.takeGhO 60 rfl rfl g28_52 .move (by kernel_rfl) ?_
                      refine RA.takeGhO 61 rfl rfl g28_52 (.indexR i hS hd rfl rfl rfl) (by kernel_rfl) ?_
                      refine RA.takeGhO 62 rfl rfl g28_52 (.fieldAddr rfl) (by kernel_rfl) ?_
                      refine RA.takeGhO 63 rfl rfl g28_52 (.load1 rfl) (by kernel_rfl) ?_
                      refine RA.takeGhO 65 rfl rfl g28_52 .move (by kernel_rfl) ?_
                      refine RA.takeGhO 66 rfl rfl g28_52 .move (by kernel_rfl) ?_
                      refine RA.takeGhO 67 rfl rfl g28_52 .move (by kernel_rfl) ?_
                      refine RA.takeGhO 68 rfl rfl g28_52 (.indexR i hS hd rfl rfl rfl) (by kernel_rfl) ?_
                      refine RA.takeGhO 69 rfl rfl g28_52 (.fieldAddr rfl) (by kernel_rfl) ?_
                      refine RA.takeGhO 70 rfl rfl g28_52 (.load1 rfl) (by kernel_rfl) ?_
                      refine RA.takeGhO 71 rfl rfl g28_52 .move (by kernel_rfl) ?_
                      refine RA.takeGhO 72 rfl rfl g28_52 .move (by kernel_rfl) ?_
                      refine RA.takeGhO 73 rfl rfl g28_52 (.indexR i hS hd rfl rfl rfl) (by kernel_rfl) ?_
                      refine RA.takeGhO 74 rfl rfl g28_52 (.fieldAddr rfl) (by kernel_rfl) ?_
                      refine RA.takeGhO 75 rfl rfl g28_52 (.load1 rfl) (by kernel_rfl) ?_
                      refine RA.step 64 rfl (by kernel_rfl) rfl ?_
                      refine TriOps.gT g28_52 ?_
                      refine TriOps.callR (casks_spec q A1 TQ1 hI1 d.id d.vs d.scopes _ (fun p hp => .inr (by simp [hp])) (hd9.2.mono fun b o hb => .inl hb)) (fun w hw => ?_)
                      rw [casks, hget, ← casks] at hw
                      subst hw
                      refine .nil (Next.sub ?_)
                      refine RA.step 76 rfl (by kernel_rfl) rfl ?_
                      refine TriOps.gT g28_52 ?_
                      refine TriOps.callR (rasks_spec b16 ps1 TR1 hX1 d.id d.vs d.scopes _ (hP1.mono fun b o hb => .inr (by have hb' : (b, o) ∈ Td1 := hb; simp [hb'])) (fun p hp => .inr (by simp [hp])) (hd9.2.mono fun b o hb => .inl hb)) (fun w hw => ?_)
                      subst hw
                      refine .nil (Next.sub ?_)
                      refine RA.takeGhO 77 rfl rfl g28_52 .neB (by kernel_rfl) ?_
                      refine RA.takeO 78 rfl (.pickFh g28_52) (by kernel_rfl) ?_
                      refine RA.nil (by kernel_rfl) ?_
                      refine seqQ_n ?_
                      refine .cond rfl (fun h10 => ?_) (fun h10 => ?_)
                      · skip
                        simp at h10
                      · skip
                        refine .skip ?_
                        refine blkQ_n (seqQ_n ?_)
                        refine .region ?_
                        refine TriOps.q .move ?_
                        refine TriOps.q (.i64 ((i + 1 : Nat) : Int) .add ⟨by omega, by omega, by omega⟩) ?_
                        refine TriOps.q .assign ?_
                        refine .nil ?_
                        exact loopQ_i (i + 1, A1, ps1, TR1, Td1, TQ1) ⟨⟨by simp only; omega, by simp only; omega⟩, hB1, hI1, hX1, hP1⟩ (by simp only; omega) (((((EnvLe.nil _).cons rfl).cons rfl).cons rfl).cons rfl) (HLe.pick [2, 2, 2] _)
              · skip
                refine RA.takeFh 16 rfl rfl g22_15 rfl (by kernel_rfl) ?_
                refine RA.takeFh 17 rfl rfl g22_15 rfl (by kernel_rfl) ?_
                refine RA.takeFh 18 rfl rfl g22_15 rfl (by kernel_rfl) ?_
                refine RA.takeFh 19 rfl rfl g22_15 rfl (by kernel_rfl) ?_
                refine RA.takeFh 20 rfl rfl g22_15 rfl (by kernel_rfl) ?_
                refine RA.takeFh 21 rfl rfl g22_15 rfl (by kernel_rfl) ?_
                refine RA.takeFh 22 rfl rfl g22_15 rfl (by kernel_rfl) ?_
                refine RA.takeFh 23 rfl rfl g22_15 rfl (by kernel_rfl) ?_
                refine RA.step 24 rfl (by kernel_rfl) rfl ?_
                refine TriOps.gF g22_15 ?_
                refine .nil (Next.sub ?_)
                refine RA.takeFh 25 rfl rfl g22_15 rfl (by kernel_rfl) ?_
                refine RA.takeGhO 26 rfl rfl g22_13 (.pickFh g22_15) (by kernel_rfl) ?_
                refine RA.takeO 27 rfl (.pickFh g22_13) (by kernel_rfl) ?_
                refine RA.nil (by kernel_rfl) ?_
                refine seqQ_n ?_
                refine .condF ?_
                refine .skip ?_
                refine seqQ_n ?_
                refine .seq ?_
                refine .seq ?_
                refine .region ?_
                refine TriOps.q .assign ?_
                refine .nil ?_
                refine seqQ_n ?_
                refine .block ?_
                refine .loop (X := Nat × Seg) (fun y => ∀ p ∈ ys, ∃ us : List ByteArray, us.length = p.2.uris.length ∧ RS (sg0 y.2) 1 encS p.1.vu us) (fun y => [(0, v), (3, .pointer (some ⟨q, 0, none⟩)), (4, .pointer (some ⟨b16, 0, none⟩)), (5, .int .i64 (i : Nat)), (9, w9), (13, .int .i64 (y.1 : Nat))]) (fun y => [Ty, y.2, TR1, TQ1, Td1]) (fun y => ys.length - y.1) (0, Ty2) (fun p hp => ⟨_, rfl, (hyc p hp).u⟩) (((((((EnvLe.nil _).cons rfl).cons rfl).cons rfl).cons rfl).cons rfl).cons rfl) ((HLe.pick [2, 2, 2, 2] _).trans (HLe.ofPerm (by simp [take, dropAt]))) ?_
                rintro ⟨k, T9w⟩ hus
                simp only at hus ⊢
                refine .seq ?_
                refine .seq ?_
                refine .region ?_
                refine TriOps.q .move ?_
                refine TriOps.q .move ?_
                refine TriOps.q (.lenO hO9) ?_
                refine TriOps.q .lss ?_
                refine .nil ?_
                refine seqQ_n ?_
                refine .cond rfl (fun h9 => ?_) (fun h9 => ?_)
                · skip
                  have hky : k < ys.length := by have := of_decide_eq_true h9; omega
                  obtain ⟨y, hy⟩ : ∃ y, ys[k]? = some y := ⟨_, List.getElem?_eq_getElem hky⟩
                  have hym := List.mem_of_getElem? hy
                  obtain ⟨us, hul, hur⟩ := hus y hym
                  have hlen : 1 ≤ y.2.uris.length := chk_len (hB1.ok y.2 (by rw [← hsame]; exact List.mem_map.2 ⟨y, hym, rfl⟩))
                  obtain ⟨u0, hu0⟩ : ∃ u0, us[0]? = some u0 := ⟨_, List.getElem?_eq_getElem (by omega)⟩
                  refine .skip ?_
                  refine seqQ_n ?_
                  refine .seq ?_
                  refine .block ?_
                  refine .region ?_
                  refine TriOps.q .move ?_
                  refine TriOps.q .move ?_
                  refine TriOps.indexO k hO9 hy (fun p138 => ?_)
                  refine TriOps.q (.fieldAddr rfl) ?_
                  refine TriOps.q (.load1 rfl) ?_
                  refine TriOps.q (.indexR 0 hur hu0 rfl rfl rfl) ?_
                  refine TriOps.pokeS 0 hur hu0 rfl rfl (fun T9n hpk => ?_)
                  refine .nil ?_
                  refine blkQ_n (seqQ_n ?_)
                  refine .region ?_
                  refine TriOps.q .move ?_
                  refine TriOps.q (.i64 ((k + 1 : Nat) : Int) .add ⟨by omega, by omega, by omega⟩) ?_
                  refine TriOps.q .assign ?_
                  refine .nil ?_
                  exact loopQ_i (k + 1, T9n) (fun p hp => by
                    obtain ⟨us', h1, h2⟩ := hus p hp
                    obtain ⟨us2, h3, h4⟩ := hpk _ _ h2
                    exact ⟨us2, h4.trans h1, h3⟩) (by simp only; omega) (((((((EnvLe.nil _).cons rfl).cons rfl).cons rfl).cons rfl).cons rfl).cons rfl) (HLe.refl _)
                · skip
                  refine .exit (seqQ_x (loopQ_x (blkQ_x ?_)))
                  refine seqQ_n ?_
                  refine .seq ?_
                  refine .region_all [] mixed ?_
                  refine RA.takeO 0 rfl .move (by kernel_rfl) ?_
                  refine RA.takeO 1 rfl .move (by kernel_rfl) ?_
                  refine RA.takeO 2 rfl .move (by kernel_rfl) ?_
                  refine RA.takeO 3 rfl (.indexR i hS hd rfl rfl rfl) (by kernel_rfl) ?_
                  refine RA.takeO 4 rfl (.fieldAddr rfl) (by kernel_rfl) ?_
                  refine RA.takeO 5 rfl (.load1 rfl) (by kernel_rfl) ?_
                  refine RA.takeO 6 rfl .move (by kernel_rfl) ?_
                  refine RA.takeO 7 rfl .move (by kernel_rfl) ?_
                  refine RA.takeO 8 rfl (.indexR i hS hd rfl rfl rfl) (by kernel_rfl) ?_
                  refine RA.takeO 9 rfl (.fieldAddr rfl) (by kernel_rfl) ?_
                  refine RA.takeO 10 rfl (.load1 rfl) (by kernel_rfl) ?_
                  refine RA.takeO 12 rfl .move (by kernel_rfl) ?_
                  refine RA.takeO 13 rfl .move (by kernel_rfl) ?_
                  refine RA.takeO 14 rfl .move (by kernel_rfl) ?_
                  refine RA.takeO 15 rfl (.indexR i hS hd rfl rfl rfl) (by kernel_rfl) ?_
                  refine RA.takeO 16 rfl (.fieldAddr rfl) (by kernel_rfl) ?_
                  refine RA.takeO 17 rfl (.load1 rfl) (by kernel_rfl) ?_
                  refine RA.takeO 18 rfl .move (by kernel_rfl) ?_
                  refine RA.takeO 19 rfl .move (by kernel_rfl) ?_
                  refine RA.takeO 20 rfl (.indexR i hS hd rfl rfl rfl) (by kernel_rfl) ?_
                  refine RA.takeO 21 rfl (.fieldAddr rfl) (by kernel_rfl) ?_
                  refine RA.takeO 22 rfl (.load1 rfl) (by kernel_rfl) ?_
                  refine RA.step 11 rfl (by kernel_rfl) rfl ?_
                  refine TriOps.callR (cauth_spec q A1 TQ1 hI1 d.id d.secret _ fun p hp => .inr (by simp [hp])) (fun w hw => ?_)
                  rw [hget] at hw
                  subst hw
                  refine .nil (Next.sub ?_)
                  refine RA.step 23 rfl (by kernel_rfl) rfl ?_
                  refine TriOps.callR (rauth_spec b16 ps1 TR1 hX1 d.id d.secret _ (hP1.mono fun b o hb => .inr (by have hb' : (b, o) ∈ Td1 := hb; simp [hb'])) fun p hp => .inr (by simp [hp])) (fun w hw => ?_)
                  subst hw
                  refine .nil (Next.sub ?_)
                  refine RA.takeO 24 rfl .neI (by kernel_rfl) ?_
                  refine RA.takeO 25 rfl .move (by kernel_rfl) ?_
                  refine RA.split (t := 167) rfl (fun g28_25 => ?_) (fun g28_25 => ?_)
                  · skip
                    simp at g28_25
                  · skip
                    refine RA.takeGhO 26 rfl rfl g28_25 .move (by kernel_rfl) ?_
                    refine RA.takeGhO 27 rfl rfl g28_25 .move (by kernel_rfl) ?_
                    refine RA.takeGhO 28 rfl rfl g28_25 .move (by kernel_rfl) ?_
                    refine RA.takeGhO 29 rfl rfl g28_25 (.indexR i hS hd rfl rfl rfl) (by kernel_rfl) ?_
                    refine RA.takeGhO 30 rfl rfl g28_25 (.fieldAddr rfl) (by kernel_rfl) ?_
                    refine RA.takeGhO 31 rfl rfl g28_25 (.load1 rfl) (by kernel_rfl) ?_
                    refine RA.takeGhO 32 rfl rfl g28_25 .move (by kernel_rfl) ?_
                    refine RA.takeGhO 33 rfl rfl g28_25 .move (by kernel_rfl) ?_
                    refine RA.takeGhO 34 rfl rfl g28_25 (.indexR i hS hd rfl rfl rfl) (by kernel_rfl) ?_
                    refine RA.takeGhO 35 rfl rfl g28_25 (.fieldAddr rfl) (by kernel_rfl) ?_
                    refine RA.takeGhO 36 rfl rfl g28_25 (.load1 rfl) (by kernel_rfl) ?_
                    refine RA.takeGhO 38 rfl rfl g28_25 .move (by kernel_rfl) ?_
                    refine RA.takeGhO 39 rfl rfl g28_25 .move (by kernel_rfl) ?_
                    refine RA.takeGhO 40 rfl rfl g28_25 .move (by kernel_rfl) ?_
                    refine RA.takeGhO 41 rfl rfl g28_25 (.indexR i hS hd rfl rfl rfl) (by kernel_rfl) ?_
                    refine RA.takeGhO 42 rfl rfl g28_25 (.fieldAddr rfl) (by kernel_rfl) ?_
                    refine RA.takeGhO 43 rfl rfl g28_25 (.load1 rfl) (by kernel_rfl) ?_
                    refine RA.takeGhO 44 rfl rfl g28_25 .move (by kernel_rfl) ?_
                    refine RA.takeGhO 45 rfl rfl g28_25 .move (by kernel_rfl) ?_
                    refine RA.takeGhO 46 rfl rfl g28_25 (.indexR i hS hd rfl rfl rfl) (by kernel_rfl) ?_
                    refine RA.takeGhO 47 rfl rfl g28_25 (.fieldAddr rfl) (by kernel_rfl) ?_
                    refine RA.takeGhO 48 rfl rfl g28_25 (.load1 rfl) (by kernel_rfl) ?_
                    refine RA.step 37 rfl (by kernel_rfl) rfl ?_
                    refine TriOps.gT g28_25 ?_
                    refine TriOps.callR (credirect_spec q A1 TQ1 hI1 d.id d.uri _ fun p hp => .inr (by simp [hp])) (fun w hw => ?_)
                    rw [credi, hget, ← credi] at hw
                    subst hw
                    refine .nil (Next.sub ?_)
                    refine RA.step 49 rfl (by kernel_rfl) rfl ?_
                    refine TriOps.gT g28_25 ?_
                    refine TriOps.callR (rredirect_spec b16 ps1 TR1 hX1 d.id d.uri _ (hP1.mono fun b o hb => .inr (by have hb' : (b, o) ∈ Td1 := hb; simp [hb'])) fun p hp => .inr (by simp [hp])) (fun w hw => ?_)
                    subst hw
                    refine .nil (Next.sub ?_)
                    refine RA.takeGhO 50 rfl rfl g28_25 .neB (by kernel_rfl) ?_
                    refine RA.takeO 51 rfl (.pickFh g28_25) (by kernel_rfl) ?_
                    refine RA.takeO 52 rfl .move (by kernel_rfl) ?_
                    refine RA.split (t := 194) rfl (fun g28_52 => ?_) (fun g28_52 => ?_)
                    · skip
                      simp at g28_52
                    · skip
                      refine RA.takeGhO 53 rfl rfl g28_52 .move (by kernel_rfl) ?_
                      refine RA.takeGhO 54 rfl rfl g28_52 .move (by kernel_rfl) ?_
                      refine RA.takeGhO 55 rfl rfl g28_52 .move (by kernel_rfl) ?_
                      refine RA.takeGhO 56 rfl rfl g28_52 (.indexR i hS hd rfl rfl rfl) (by kernel_rfl) ?_
                      refine RA.takeGhO 57 rfl rfl g28_52 (.fieldAddr rfl) (by kernel_rfl) ?_
                      refine RA.takeGhO 58 rfl rfl g28_52 (.load1 rfl) (by kernel_rfl) ?_
                      refine RA.takeGhO 59 rfl rfl g28_52 .move (by kernel_rfl) ?_
                      refine RA.takeGhO 60 rfl rfl g28_52 .move (by kernel_rfl) ?_
                      refine RA.takeGhO 61 rfl rfl g28_52 (.indexR i hS hd rfl rfl rfl) (by kernel_rfl) ?_
                      refine RA.takeGhO 62 rfl rfl g28_52 (.fieldAddr rfl) (by kernel_rfl) ?_
                      refine RA.takeGhO 63 rfl rfl g28_52 (.load1 rfl) (by kernel_rfl) ?_
                      refine RA.takeGhO 65 rfl rfl g28_52 .move (by kernel_rfl) ?_
                      refine RA.takeGhO 66 rfl rfl g28_52 .move (by kernel_rfl) ?_
                      refine RA.takeGhO 67 rfl rfl g28_52 .move (by kernel_rfl) ?_
                      refine RA.takeGhO 68 rfl rfl g28_52 (.indexR i hS hd rfl rfl rfl) (by kernel_rfl) ?_
                      refine RA.takeGhO 69 rfl rfl g28_52 (.fieldAddr rfl) (by kernel_rfl) ?_
                      refine RA.takeGhO 70 rfl rfl g28_52 (.load1 rfl) (by kernel_rfl) ?_
                      refine RA.takeGhO 71 rfl rfl g28_52 .move (by kernel_rfl) ?_
                      refine RA.takeGhO 72 rfl rfl g28_52 .move (by kernel_rfl) ?_
                      refine RA.takeGhO 73 rfl rfl g28_52 (.indexR i hS hd rfl rfl rfl) (by kernel_rfl) ?_
                      refine RA.takeGhO 74 rfl rfl g28_52 (.fieldAddr rfl) (by kernel_rfl) ?_
                      refine RA.takeGhO 75 rfl rfl g28_52 (.load1 rfl) (by kernel_rfl) ?_
                      refine RA.step 64 rfl (by kernel_rfl) rfl ?_
                      refine TriOps.gT g28_52 ?_
                      refine TriOps.callR (casks_spec q A1 TQ1 hI1 d.id d.vs d.scopes _ (fun p hp => .inr (by simp [hp])) (hd9.2.mono fun b o hb => .inl hb)) (fun w hw => ?_)
                      rw [casks, hget, ← casks] at hw
                      subst hw
                      refine .nil (Next.sub ?_)
                      refine RA.step 76 rfl (by kernel_rfl) rfl ?_
                      refine TriOps.gT g28_52 ?_
                      refine TriOps.callR (rasks_spec b16 ps1 TR1 hX1 d.id d.vs d.scopes _ (hP1.mono fun b o hb => .inr (by have hb' : (b, o) ∈ Td1 := hb; simp [hb'])) (fun p hp => .inr (by simp [hp])) (hd9.2.mono fun b o hb => .inl hb)) (fun w hw => ?_)
                      subst hw
                      refine .nil (Next.sub ?_)
                      refine RA.takeGhO 77 rfl rfl g28_52 .neB (by kernel_rfl) ?_
                      refine RA.takeO 78 rfl (.pickFh g28_52) (by kernel_rfl) ?_
                      refine RA.nil (by kernel_rfl) ?_
                      refine seqQ_n ?_
                      refine .cond rfl (fun h10 => ?_) (fun h10 => ?_)
                      · skip
                        simp at h10
                      · skip
                        refine .skip ?_
                        refine blkQ_n (seqQ_n ?_)
                        refine .region ?_
                        refine TriOps.q .move ?_
                        refine TriOps.q (.i64 ((i + 1 : Nat) : Int) .add ⟨by omega, by omega, by omega⟩) ?_
                        refine TriOps.q .assign ?_
                        refine .nil ?_
                        exact loopQ_i (i + 1, A1, ps1, TR1, Td1, TQ1) ⟨⟨by simp only; omega, by simp only; omega⟩, hB1, hI1, hX1, hP1⟩ (by simp only; omega) (((((EnvLe.nil _).cons rfl).cons rfl).cons rfl).cons rfl) (HLe.pick [2, 2, 2] _)
      · skip
        refine .exit (seqQ_x (loopQ_x (blkQ_x ?_)))
        exact joinQ_n () trivial (EnvLe.nil _) (HLe.pick [] _)
    · skip
      refine TriOps.gF g5_4 ?_
      refine TriOps.gF g5_4 ?_
      refine TriOps.q (.pickFh g5_4) ?_
      refine .nil ?_
      refine seqQ_n ?_
      refine .condF ?_
      refine .exit (seqQ_x (loopQ_x (blkQ_x ?_)))
      exact joinQ_n () trivial (EnvLe.nil _) (HLe.pick [] _)
  · intro x hx
    refine seqQ_n ?_
    refine .seq ?_
    refine .region ?_
    refine TriOps.callR (clives_spec _) (fun w hw => ?_)
    subst hw
    refine TriOps.q .assign ?_
    refine .nil ?_
    refine seqQ_n ?_
    refine .ret (retQ_r _ (.one (.tmp rfl)) (.none _) ?_)
    exact ⟨rfl, rfl⟩
end Go.Proofs.Ytlmdgdehjpahiaa
