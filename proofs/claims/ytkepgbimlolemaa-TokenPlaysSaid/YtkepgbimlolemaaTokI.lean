/- Tokens: the document's Right; whether a vault has what the document's has. No condition. -/
import Derived.Test.YtkepgbimlolemaaTokH
set_option linter.unusedVariables false
set_option maxRecDepth 4000
namespace Go.Proofs.Ytkepgbimlolemaa
theorem kv_inj {A B : List Tok} (h : (kv A).Perm (kv B)) : A.Perm B := by
  have := h.map (·.2)
  unfold kv at this
  rw [List.map_map, List.map_map] at this
  have e : ∀ L : List Tok, L.map ((fun p : ByteArray × Tok => p.2) ∘ fun t => (t.text, t)) = L := fun L => by
    conv => rhs; rw [← List.map_id L]
    rfl
  rwa [e, e] at this
theorem tsame_spec (g : Nat) (A : List (ByteArray × Tok)) (last : Int) (T : Seg) (hV : VI g A last T) (hl : A.length ≤ 1000000) (x : Nat) (vt : Value) (ps : List TP) (R : Rds) (hr : ∀ p ∈ T, R p.1 p.2) (px : PC R (.pointer (some ⟨x, 0, none⟩)) [vt, .int .i64 last]) (hS : RS R 9 encT vt ps) (hc : ∀ p ∈ ps, TokR R p)
    (hp : (kv (toks ps)).Perm A) (hasc : (toks ps).Pairwise fun c d => sLt c.text d.text = true) :
    Spec Try.prog 32 [.pointer (some ⟨g, 0, none⟩), .pointer (some ⟨x, 0, none⟩)] R [] fun u H' => u = .bool true ∧ H' = [] := by
  have hle := hS.le
  have i0 := hS.oneCell
  refine Spec.body Try.func32 rfl Try.results32 Try.ntmps32 rfl ?_
  refine .seq ?_
  refine .region ?_
  refine TriOps.q .assign ?_
  refine .nil ?_
  refine seqQ_n ?_
  refine .seq ?_
  refine .region ?_
  refine TriOps.q .move ?_
  refine TriOps.callN (vlist_spec g A last T hV hl _ fun p hp => .inl (hr p hp)) (fun w T1 hw => ?_)
  obtain ⟨ys, To, Ti, rfl, hO, hyc, hyp, hys⟩ := hw
  refine TriOps.sub (H' := [To, Ti]) (HLe.ofPerm (by simp)) ?_
  have i1 := hO.oneCell
  have hs1 := hO.sg
  have hsame : toks ys = toks ps := asc_same (fun t : Tok => t.text) hasc (kv_inj (hyp.trans hp.symm)) (by
    rw [List.pairwise_map]; exact hys)
  have hlen : ys.length = ps.length := by
    have := congrArg List.length hsame
    simpa using this
  refine TriOps.q .assign ?_
  refine .nil ?_
  refine seqQ_n ?_
  refine .seq ?_
  refine .seq ?_
  refine .region_all [] mixed ?_
  refine RA.takeO 0 rfl .move (by kernel_rfl) ?_
  refine RA.takeO 1 rfl (.lenO hO) (by kernel_rfl) ?_
  refine RA.takeO 2 rfl .move (by kernel_rfl) ?_
  refine RA.takeO 3 rfl (.nilCheck rfl) (by kernel_rfl) ?_
  refine RA.takeO 4 rfl (.fieldAddr rfl) (by kernel_rfl) ?_
  refine RA.takeO 5 rfl (.load1 rfl) (by kernel_rfl) ?_
  refine RA.takeO 6 rfl (.lenR hS) (by kernel_rfl) ?_
  refine RA.takeO 7 rfl .neI (by kernel_rfl) ?_
  refine RA.takeO 8 rfl .move (by kernel_rfl) ?_
  refine RA.split (t := 17) rfl (fun g2_8 => ?_) (fun g2_8 => ?_)
  · skip
    rw [hlen] at g2_8; simp at g2_8
  · skip
    refine RA.takeGhO 9 rfl rfl g2_8 .move (by kernel_rfl) ?_
    refine RA.takeGhO 11 rfl rfl g2_8 .move (by kernel_rfl) ?_
    refine RA.takeGhO 12 rfl rfl g2_8 (.nilCheck rfl) (by kernel_rfl) ?_
    refine RA.takeGhO 13 rfl rfl g2_8 (.fieldAddr rfl) (by kernel_rfl) ?_
    refine RA.takeGhO 14 rfl rfl g2_8 (.load1 rfl) (by kernel_rfl) ?_
    refine RA.step 10 rfl (by kernel_rfl) rfl ?_
    refine TriOps.gT g2_8 ?_
    refine TriOps.callR (vlast_spec g A last T hV _ fun p hp => .inl (hr p hp)) (fun u hu => ?_)
    subst hu
    refine .nil (Next.sub ?_)
    refine RA.takeGhO 15 rfl rfl g2_8 .neI (by kernel_rfl) ?_
    refine RA.takeO 16 rfl (.pickFh g2_8) (by kernel_rfl) ?_
    refine RA.nil (by kernel_rfl) ?_
    refine seqQ_n ?_
    refine .cond rfl (fun h1 => ?_) (fun h1 => ?_)
    · skip
      simp at h1
    · skip
      refine .skip ?_
      refine seqQ_n ?_
      refine .seq ?_
      refine .seq ?_
      refine .region ?_
      refine TriOps.q .assign ?_
      refine .nil ?_
      refine seqQ_n ?_
      refine .block ?_
      refine .loop (X := Nat) (fun i => i ≤ ys.length) (fun i => [(1, .pointer (some ⟨x, 0, none⟩)), (5, w), (6, .int .i64 (i : Nat))]) (fun _ => [To, Ti]) (fun i => ys.length - i) 0 (by omega) ((((EnvLe.nil _).cons rfl).cons rfl).cons rfl) (HLe.refl _) ?_
      rintro i hi
      refine .seq ?_
      refine .seq ?_
      refine .region ?_
      refine TriOps.q .move ?_
      refine TriOps.q .move ?_
      refine TriOps.q (.lenO hO) ?_
      refine TriOps.q .lss ?_
      refine .nil ?_
      refine seqQ_n ?_
      refine .cond rfl (fun h2 => ?_) (fun h2 => ?_)
      · skip
        have hlt : i < ys.length := by have := of_decide_eq_true h2; omega
        obtain ⟨⟨wy, ty⟩, hy⟩ : ∃ z, ys[i]? = some z := ⟨_, List.getElem?_eq_getElem hlt⟩
        obtain ⟨⟨wz, tz⟩, hz⟩ : ∃ z, ps[i]? = some z := ⟨_, List.getElem?_eq_getElem (by omega)⟩
        have cy := hyc _ (List.mem_of_getElem? hy)
        have cz := hc _ (List.mem_of_getElem? hz)
        have iy : Ones (encT (wy, ty)) := ⟨cy.ones⟩
        have iz : Ones (encT (wz, tz)) := ⟨cz.ones⟩
        have hyz : ty = tz := by
          have h1 : (toks ys)[i]? = some ty := by simp [hy]
          have h2 : (toks ps)[i]? = some tz := by simp [hz]
          rw [hsame, h2] at h1; cases h1; rfl
        have pz := hS.pc hz
        have py : PS To (baseP w (i * 9)) (encT (wy, ty)) := ⟨hs1.pc hy⟩
        refine .skip ?_
        refine seqQ_n ?_
        refine .seq ?_
        refine .block ?_
        refine .seq ?_
        refine .region_all [] mixed ?_
        refine RA.takeO 0 rfl .move (by kernel_rfl) ?_
        refine RA.takeO 1 rfl .move (by kernel_rfl) ?_
        refine RA.takeO 2 rfl (.indexR i hs1 hy rfl rfl rfl) (by kernel_rfl) ?_
        refine RA.takeO 3 rfl (.loadA rfl) (by kernel_rfl) ?_
        refine RA.takeO 5 rfl .move (by kernel_rfl) ?_
        refine RA.takeO 6 rfl (.nilCheck rfl) (by kernel_rfl) ?_
        refine RA.takeO 7 rfl (.fieldAddr rfl) (by kernel_rfl) ?_
        refine RA.takeO 8 rfl (.load1 rfl) (by kernel_rfl) ?_
        refine RA.takeO 9 rfl .move (by kernel_rfl) ?_
        refine RA.takeO 10 rfl (.indexR i hS hz rfl rfl rfl) (by kernel_rfl) ?_
        refine RA.takeO 11 rfl (.loadA rfl) (by kernel_rfl) ?_
        refine RA.step 4 rfl (by kernel_rfl) rfl ?_
        refine TriOps.callR (tplain_spec wy ty _ cy) (fun u hu => ?_)
        subst hu
        refine .nil (Next.sub ?_)
        refine RA.step 12 rfl (by kernel_rfl) rfl ?_
        refine TriOps.callR (sameT_spec wy wz ty tz _ (cy.mono fun b o hb => .inr (by have hb' : (b, o) ∈ Ti := hb.1; simp [hb'])) (cz.mono fun b o hb => .inl hb)) (fun u hu => ?_)
        rw [hyz, sameT_self] at hu
        subst hu
        refine .nil (Next.sub ?_)
        refine RA.takeO 13 rfl .not (by kernel_rfl) ?_
        refine RA.nil (by kernel_rfl) ?_
        refine seqQ_n ?_
        refine .cond rfl (fun h3 => ?_) (fun h3 => ?_)
        · skip
          simp at h3
        · skip
          refine .skip ?_
          refine blkQ_n (seqQ_n ?_)
          refine .region ?_
          refine TriOps.q .move ?_
          refine TriOps.q (.i64 ((i + 1 : Nat) : Int) .add ⟨by omega, by omega, by omega⟩) ?_
          refine TriOps.q .assign ?_
          refine .nil ?_
          exact loopQ_i (i + 1) (by omega) (by omega) ((((EnvLe.nil _).cons rfl).cons rfl).cons rfl) (HLe.refl _)
      · skip
        refine .exit (seqQ_x (loopQ_x (blkQ_x ?_)))
        refine seqQ_n ?_
        refine .seq ?_
        refine .region ?_
        refine TriOps.q .assign ?_
        refine .nil ?_
        refine seqQ_n ?_
        refine .ret (retQ_r _ (.one (.tmp rfl)) (.none _) ?_)
        exact ⟨rfl, rfl⟩
end Go.Proofs.Ytkepgbimlolemaa
