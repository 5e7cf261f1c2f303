/- Tokens: which are a vault's: Load, the document's Right. No condition. -/
import Derived.Test.YtlmdgdehjpahiaaTokG
import Derived.Test.YtlmdgdehjpahiaaTokF
import Derived.Test.YtlmdgdehjpahiaaAsc
set_option linter.unusedVariables false
set_option maxRecDepth 4000
namespace Go.Proofs.Ytlmdgdehjpahiaa
def stepQ (ts : List Tok) (last : Int) (i : Nat) : Bool := match ts[i]? with
  | none => false
  | some t => (rightB t last && !(t.used && t.kind == 1)) && (i == 0 || match ts[i - 1]? with
    | none => false
    | some u => sLt u.text t.text)
def rightL (ts : List Tok) (last : Int) : Bool := decide (ts.length ≤ 4096) && decide (0 ≤ last) && decide (last ≤ 1099511627776) && okN (stepQ ts last) ts.length
theorem stepQ_some {ts : List Tok} {last : Int} {i : Nat} {t : Tok} (ht : ts[i]? = some t) (h : stepQ ts last i = true) : rightB t last = true ∧ (t.used = true → t.kind ≠ 1) ∧ (i = 0 ∨ ∃ u, ts[i - 1]? = some u ∧ sLt u.text t.text = true) := by
  unfold stepQ at h
  rw [ht] at h
  simp only [Bool.and_eq_true, Bool.or_eq_true, beq_iff_eq] at h
  obtain ⟨⟨h1, h2⟩, h3⟩ := h
  refine ⟨h1, fun hu hk => by simp [hu, hk] at h2, h3.imp id fun h4 => ?_⟩
  cases hu : ts[i - 1]? with
  | none => rw [hu] at h4; cases h4
  | some u => rw [hu] at h4; exact ⟨u, rfl, h4⟩
theorem stepQ_of {ts : List Tok} {last : Int} {i : Nat} {t : Tok} (ht : ts[i]? = some t) (h1 : rightB t last = true) (h2 : t.used = true → t.kind ≠ 1) (h3 : i = 0 ∨ ∃ u, ts[i - 1]? = some u ∧ sLt u.text t.text = true) : stepQ ts last i = true := by
  unfold stepQ
  rw [ht]
  simp only [Bool.and_eq_true, Bool.or_eq_true, beq_iff_eq]
  refine ⟨⟨h1, ?_⟩, h3.imp id fun ⟨u, h4, h5⟩ => by rw [h4]; exact h5⟩
  cases hu : t.used with
  | false => rfl
  | true => have := h2 hu; simpa using this
theorem rightL_not {ts : List Tok} {last : Int} {i : Nat} {t : Tok} (ht : ts[i]? = some t) (h : ¬ (rightB t last = true ∧ (t.used = true → t.kind ≠ 1) ∧ (i = 0 ∨ ∃ u, ts[i - 1]? = some u ∧ sLt u.text t.text = true))) : rightL ts last = false := by
  have hst : stepQ ts last i = false := Bool.eq_false_iff.2 fun hh => h (stepQ_some ht hh)
  have hi := (List.getElem?_eq_some_iff.1 ht).1
  unfold rightL
  rw [okN_not hst hi, Bool.and_false]
theorem rightL_asc {ts : List Tok} {last : Int} (h : okN (stepQ ts last) ts.length = true) : ts.Pairwise fun c d => sLt c.text d.text = true := by
  refine rise_pw (r := fun c d : Tok => sLt c.text d.text = true) (fun x y z h1 h2 => sLt_trans h1 h2) fun i x y hx hy => ?_
  have hi := (List.getElem?_eq_some_iff.1 hy).1
  obtain ⟨_, _, h3⟩ := stepQ_some hy (okN_get h hi)
  rcases h3 with h3 | ⟨u, h4, h5⟩
  · omega
  · rw [Nat.add_sub_cancel, hx] at h4
    cases h4; exact h5
theorem okQ_take {ts : List Tok} {last : Int} {i : Nat} (h : okN (stepQ ts last) i = true) (hi : i ≤ ts.length) : (ts.take i).Pairwise fun c d => sLt c.text d.text = true := by
  refine rise_pw (r := fun c d : Tok => sLt c.text d.text = true) (fun x y z h1 h2 => sLt_trans h1 h2) fun k x y hx hy => ?_
  have hk := (List.getElem?_eq_some_iff.1 hy).1
  rw [List.length_take] at hk
  rw [List.getElem?_take_of_lt (by omega)] at hx hy
  obtain ⟨_, _, h3⟩ := stepQ_some hy (okN_get h (by omega))
  rcases h3 with h3 | ⟨u, h4, h5⟩
  · omega
  · rw [Nat.add_sub_cancel, hx] at h4
    cases h4; exact h5
theorem VI.ps {g : Nat} {A : List (ByteArray × Tok)} {last : Int} {T : Seg} (h : VI g A last T) : ∃ bm q, PS T (.pointer (some ⟨g, 0, none⟩)) [.map (some bm), .pointer (some ⟨q, 0, none⟩), .int .i64 last] := by
  obtain ⟨Td, _, rfl, vm, M, q, Tm, Tq, rfl, hM, hI, hA, hQ⟩ := h
  obtain ⟨bm, rfl⟩ : ∃ b, vm = .map (some b) := by obtain ⟨b, es, clock, h1, _⟩ := hM; exact ⟨b, h1⟩
  exact ⟨bm, q, PS.of (E := 136) (fr := (0, 0)) (by simp)⟩
theorem vload_spec (v : Value) (ps : List TP) (last : Int) (R : Rds) (h : RS R 9 encT v ps) (hc : ∀ p ∈ ps, TokR R p) (hf : ∀ p ∈ ps, p.2.few) :
    Spec Try.prog 40 [v, .int .i64 last] R [] fun u H' => ∃ T, H' = [T] ∧ ((rightL (toks ps) last = true ∧ ∃ g, u = .tuple [.pointer (some ⟨g, 0, none⟩), .int .i64 0].toArray ∧ VI g (kv (toks ps)) last T) ∨ (rightL (toks ps) last = false ∧ u = .tuple [.pointer none, .int .i64 4].toArray)) := by
  have hle := h.le
  have htl : (toks ps).length = ps.length := by simp
  obtain ⟨pv, kv_, rfl⟩ := h.val
  refine Spec.body Try.func40 rfl Try.results40 Try.ntmps40 rfl ?_
  refine .seq ?_
  refine .region ?_
  refine TriOps.q .assign ?_
  refine TriOps.q .assign ?_
  refine .nil ?_
  refine seqQ_n ?_
  refine .seq ?_
  refine .seq ?_
  refine .region ?_
  refine TriOps.q .move ?_
  refine TriOps.q (.lenR h) ?_
  refine TriOps.q .gtr ?_
  refine TriOps.q .move ?_
  refine TriOps.split (t := 12) rfl (fun g1_3 => ?_) (fun g1_3 => ?_)
  · skip
    have hbad : rightL (toks ps) last = false := by
      have h9 := of_decide_eq_true g1_3
      unfold rightL
      rw [decide_eq_false (by omega), Bool.false_and, Bool.false_and, Bool.false_and]
    refine TriOps.gF g1_3 ?_
    refine TriOps.gF g1_3 ?_
    refine TriOps.q (.pickTh g1_3) ?_
    refine TriOps.q .move ?_
    refine TriOps.gf rfl rfl ?_
    refine TriOps.gf rfl rfl ?_
    refine TriOps.q .pickT ?_
    refine .nil ?_
    refine seqQ_n ?_
    refine .condT ?_
    have hbad : rightL (toks ps) last = false := by
      first
        | assumption
        | (unfold rightL; rw [decide_eq_false (p := last ≤ 1099511627776) (by have h9 := of_decide_eq_true h1; omega), Bool.and_false, Bool.false_and])
    refine .seq ?_
    refine .region ?_
    refine TriOps.q .assign ?_
    refine TriOps.q .assign ?_
    refine .nil ?_
    refine seqQ_n ?_
    refine .ret (seqQ_r (retQ_r _ (.two (.tmp rfl) (.tmp rfl)) (.one [0] _) ?_))
    first
      | exact ⟨_, rfl, .inl ⟨hgood, g, rfl, by simpa [take] using hV⟩⟩
      | exact ⟨_, rfl, .inr ⟨hbad, rfl⟩⟩
  · skip
    refine TriOps.gT g1_3 ?_
    refine TriOps.q .move ?_
    refine TriOps.gT g1_3 ?_
    refine TriOps.q .lss ?_
    refine TriOps.q (.pickFh g1_3) ?_
    refine TriOps.q .move ?_
    refine TriOps.split (t := 16) rfl (fun g1_7 => ?_) (fun g1_7 => ?_)
    · skip
      have hbad : rightL (toks ps) last = false := by
        have h9 := of_decide_eq_true g1_7
        unfold rightL
        rw [decide_eq_false (p := 0 ≤ last) (by omega), Bool.and_false, Bool.false_and, Bool.false_and]
      refine TriOps.gF g1_7 ?_
      refine TriOps.gF g1_7 ?_
      refine TriOps.q (.pickTh g1_7) ?_
      refine .nil ?_
      refine seqQ_n ?_
      refine .condT ?_
      have hbad : rightL (toks ps) last = false := by
        first
          | assumption
          | (unfold rightL; rw [decide_eq_false (p := last ≤ 1099511627776) (by have h9 := of_decide_eq_true h1; omega), Bool.and_false, Bool.false_and])
      refine .seq ?_
      refine .region ?_
      refine TriOps.q .assign ?_
      refine TriOps.q .assign ?_
      refine .nil ?_
      refine seqQ_n ?_
      refine .ret (seqQ_r (retQ_r _ (.two (.tmp rfl) (.tmp rfl)) (.one [0] _) ?_))
      first
        | exact ⟨_, rfl, .inl ⟨hgood, g, rfl, by simpa [take] using hV⟩⟩
        | exact ⟨_, rfl, .inr ⟨hbad, rfl⟩⟩
    · skip
      refine TriOps.gT g1_7 ?_
      refine TriOps.q .move ?_
      refine TriOps.gT g1_7 ?_
      refine TriOps.q .gtr ?_
      refine TriOps.q (.pickFh g1_7) ?_
      refine .nil ?_
      refine seqQ_n ?_
      refine .cond rfl (fun h1 => ?_) (fun h1 => ?_)
      · skip
        have hbad : rightL (toks ps) last = false := by
          first
            | assumption
            | (unfold rightL; rw [decide_eq_false (p := last ≤ 1099511627776) (by have h9 := of_decide_eq_true h1; omega), Bool.and_false, Bool.false_and])
        refine .seq ?_
        refine .region ?_
        refine TriOps.q .assign ?_
        refine TriOps.q .assign ?_
        refine .nil ?_
        refine seqQ_n ?_
        refine .ret (seqQ_r (retQ_r _ (.two (.tmp rfl) (.tmp rfl)) (.one [0] _) ?_))
        first
          | exact ⟨_, rfl, .inl ⟨hgood, g, rfl, by simpa [take] using hV⟩⟩
          | exact ⟨_, rfl, .inr ⟨hbad, rfl⟩⟩
      · skip
        have g1 := of_decide_eq_false g1_3
        have g2 := of_decide_eq_false g1_7
        have g3 := of_decide_eq_false h1
        refine .skip ?_
        refine seqQ_n ?_
        refine .seq ?_
        refine .region ?_
        refine TriOps.callN (vnew_spec _) (fun u T0 hu => ?_)
        obtain ⟨g, rfl, hg⟩ := hu
        obtain ⟨Td, _, rfl, vm, M, q, Tm, Tq, rfl, hM, hI, hA, hQ⟩ := hg
        refine TriOps.q .assign ?_
        refine .nil ?_
        refine seqQ_n ?_
        refine .seq ?_
        refine .region ?_
        refine TriOps.sub (H' := [[(g, .cells [vm, .pointer (some ⟨q, 0, none⟩), .int .i64 0].toArray 136 (0, 0))], Tm, Tq, Td]) (HLe.ofPerm (by simp)) ?_
        refine TriOps.q .move ?_
        refine TriOps.q .move ?_
        refine TriOps.q (.nilCheck rfl) ?_
        refine TriOps.q (.fieldAddr rfl) ?_
        refine TriOps.store1 rfl rfl ?_
        refine .nil ?_
        refine seqQ_n ?_
        refine .seq ?_
        refine .seq ?_
        refine .region ?_
        refine TriOps.q .move ?_
        refine TriOps.q (.lenR h) ?_
        refine TriOps.q .move ?_
        refine .nil ?_
        refine seqQ_n ?_
        refine .block ?_
        refine .loop (X := Nat × Seg) (fun y => y.1 ≤ ps.length ∧ okN (stepQ (toks ps) last) y.1 = true ∧ VI g (kv ((toks ps).take y.1)) last y.2) (fun y => [(0, .slice pv ps.length kv_), (6, .pointer (some ⟨g, 0, none⟩)), (25, .slice pv ps.length kv_), (26, .int .i64 (ps.length : Nat)), (27, .int .i64 (y.1 : Nat))]) (fun y => [y.2]) (fun y => ps.length - y.1) (0, (g, .cells [vm, .pointer (some ⟨q, 0, none⟩), .int .i64 last].toArray 136 (0, 0)) :: (Tm ++ Tq) ++ Td) ⟨by omega, rfl, Td, _, rfl, vm, M, q, Tm, Tq, rfl, hM, hI, hA, hQ⟩ ((((((EnvLe.nil _).cons rfl).cons rfl).cons rfl).cons rfl).cons rfl) (HLe.ofPerm (by simp; exact .refl _)) ?_
        rintro ⟨i, T⟩ ⟨hi, hok, hV⟩
        simp only at hi hok hV ⊢
        obtain ⟨bm, q2, ps2⟩ := hV.ps
        refine .seq ?_
        refine .region ?_
        refine TriOps.q .lss ?_
        refine .nil ?_
        refine seqQ_n ?_
        refine .seq ?_
        refine .cond rfl (fun h2 => ?_) (fun h2 => ?_)
        · skip
          have hlt : i < ps.length := by have := of_decide_eq_true h2; omega
          obtain ⟨⟨wz, tz⟩, hz⟩ : ∃ z, ps[i]? = some z := ⟨_, List.getElem?_eq_getElem hlt⟩
          have cz := hc _ (List.mem_of_getElem? hz)
          have fz := hf _ (List.mem_of_getElem? hz)
          have iz : Ones (encT (wz, tz)) := ⟨cz.ones⟩
          have hzt : (toks ps)[i]? = some tz := by simp [hz]
          have iw : One wz := cz.oneCell
          refine .skip ?_
          refine seqQ_n ?_
          refine .seq ?_
          refine .block ?_
          refine .seq ?_
          refine .region ?_
          refine TriOps.q .move ?_
          refine TriOps.indexR i h hz (fun p30 => ?_)
          refine TriOps.q (.loadA rfl) ?_
          refine TriOps.allocA (fun b8 => ?_)
          refine TriOps.q .assign ?_
          refine TriOps.storeA rfl rfl ?_
          refine .nil ?_
          refine seqQ_n ?_
          refine .seq ?_
          refine .seq ?_
          refine .region_tail 16 mixed (by kernel_rfl) ?_
          conv => arg 6; dsimp only [List.take]
          refine TriOps.q .move ?_
          refine TriOps.q .gtr ?_
          refine TriOps.q .move ?_
          refine TriOps.split (t := 34) rfl (fun g8_2 => ?_) (fun g8_2 => ?_)
          · skip
            have hi0 : 0 < i := by have := of_decide_eq_true g8_2; omega
            obtain ⟨⟨wy, ty⟩, hy⟩ : ∃ z, ps[i - 1]? = some z := ⟨_, List.getElem?_eq_getElem (by omega)⟩
            have cy := hc _ (List.mem_of_getElem? hy)
            have iy : Ones (encT (wy, ty)) := ⟨cy.ones⟩
            have hyt : (toks ps)[i - 1]? = some ty := by simp [hy]
            have py := h.pc hy
            refine TriOps.gT g8_2 ?_
            refine TriOps.q .move ?_
            refine TriOps.gT g8_2 ?_
            refine TriOps.q .move ?_
            refine TriOps.gT g8_2 ?_
            refine TriOps.q (.i64 ((i - 1 : Nat) : Int) .sub ⟨by omega, by omega, by omega⟩) ?_
            refine TriOps.gT g8_2 ?_
            refine TriOps.indexR (i - 1) h hy (fun p38 => ?_)
            refine TriOps.gT g8_2 ?_
            refine TriOps.q (.fieldAddr rfl) ?_
            refine TriOps.gT g8_2 ?_
            refine TriOps.q (.load1 rfl) ?_
            refine TriOps.gT g8_2 ?_
            refine TriOps.q (.fieldAddr rfl) ?_
            refine TriOps.gT g8_2 ?_
            refine TriOps.q (.load1 rfl) ?_
            refine TriOps.gT g8_2 ?_
            refine TriOps.q .geS ?_
            refine TriOps.q (.pickTh g8_2) ?_
            refine TriOps.q .move ?_
            refine TriOps.split (t := 45) rfl (fun g8_13 => ?_) (fun g8_13 => ?_)
            · skip
              have hbad : rightL (toks ps) last = false := rightL_not hzt fun ⟨_, _, h9⟩ => by
                have g9 : sLt ty.text tz.text = false := by simpa using g8_13
                rcases h9 with h9 | ⟨u, h8, h9⟩
                · omega
                · rw [hyt] at h8; cases h8; rw [h9] at g9; cases g9
              refine TriOps.gF g8_13 ?_
              refine TriOps.gF g8_13 ?_
              refine .nil ?_
              refine TriOps.gF g8_13 ?_
              refine TriOps.gF g8_13 ?_
              refine TriOps.q (.pickTh g8_13) ?_
              refine TriOps.q .move ?_
              refine TriOps.gf rfl rfl ?_
              refine TriOps.gf rfl rfl ?_
              refine TriOps.gf rfl rfl ?_
              refine TriOps.gfU rfl ?_
              refine TriOps.gfU rfl ?_
              refine TriOps.gfU rfl ?_
              refine TriOps.gf rfl rfl ?_
              refine TriOps.q .pickT ?_
              refine .nil ?_
              refine seqQ_n ?_
              refine .condT ?_
              have hbad : rightL (toks ps) last = false := by
                first
                  | assumption
                  | exact rightL_not hzt fun ⟨h9, h8, _⟩ => by
                      have h7 := h8 g8_22
                      have h6 : ¬ tz.kind = 2 := by simpa using h3
                      unfold rightB at h9
                      simp [h7, h6] at h9
              refine .seq ?_
              refine .region ?_
              refine TriOps.q .assign ?_
              refine TriOps.q .assign ?_
              refine .nil ?_
              refine seqQ_n ?_
              refine .ret (seqQ_r (blkQ_r (seqQ_r (loopQ_r (blkQ_r (seqQ_r (retQ_r _ (.two (.tmp rfl) (.tmp rfl)) (.one [0] _) ?_)))))))
              first
                | exact ⟨_, rfl, .inl ⟨hgood, g, rfl, by simpa [take] using hV⟩⟩
                | exact ⟨_, rfl, .inr ⟨hbad, rfl⟩⟩
            · skip
              refine TriOps.gT g8_13 ?_
              refine TriOps.q .move ?_
              refine TriOps.gT g8_13 ?_
              refine TriOps.q (.loadA rfl) ?_
              refine .nil ?_
              refine TriOps.gT g8_13 ?_
              refine TriOps.callR (vright_spec g _ _ last wz tz _ iw) (fun u hu => ?_)
              subst hu
              refine TriOps.gT g8_13 ?_
              refine TriOps.q .not ?_
              refine TriOps.q (.pickFh g8_13) ?_
              refine TriOps.q .move ?_
              refine TriOps.split (t := 51) rfl (fun g8_19 => ?_) (fun g8_19 => ?_)
              · skip
                have hbad : rightL (toks ps) last = false := rightL_not hzt fun ⟨h9, _, _⟩ => by rw [h9] at g8_19; cases g8_19
                refine TriOps.gF g8_19 ?_
                refine TriOps.gF g8_19 ?_
                refine TriOps.gF g8_19 ?_
                refine TriOps.gfU rfl ?_
                refine TriOps.gfU rfl ?_
                refine TriOps.gfU rfl ?_
                refine TriOps.gF g8_19 ?_
                refine TriOps.q (.pickTh g8_19) ?_
                refine .nil ?_
                refine seqQ_n ?_
                refine .condT ?_
                have hbad : rightL (toks ps) last = false := by
                  first
                    | assumption
                    | exact rightL_not hzt fun ⟨h9, h8, _⟩ => by
                        have h7 := h8 g8_22
                        have h6 : ¬ tz.kind = 2 := by simpa using h3
                        unfold rightB at h9
                        simp [h7, h6] at h9
                refine .seq ?_
                refine .region ?_
                refine TriOps.q .assign ?_
                refine TriOps.q .assign ?_
                refine .nil ?_
                refine seqQ_n ?_
                refine .ret (seqQ_r (blkQ_r (seqQ_r (loopQ_r (blkQ_r (seqQ_r (retQ_r _ (.two (.tmp rfl) (.tmp rfl)) (.one [0] _) ?_)))))))
                first
                  | exact ⟨_, rfl, .inl ⟨hgood, g, rfl, by simpa [take] using hV⟩⟩
                  | exact ⟨_, rfl, .inr ⟨hbad, rfl⟩⟩
              · skip
                refine TriOps.gT g8_19 ?_
                refine TriOps.q (.fieldAddr rfl) ?_
                refine TriOps.gT g8_19 ?_
                refine TriOps.q (.load1 rfl) ?_
                refine TriOps.gT g8_19 ?_
                refine TriOps.q .move ?_
                refine TriOps.split (t := 54) rfl (fun g8_22 => ?_) (fun g8_22 => ?_)
                · skip
                  refine TriOps.gT g8_22 ?_
                  refine TriOps.q (.fieldAddr rfl) ?_
                  refine TriOps.gT g8_22 ?_
                  refine TriOps.q (.load1 rfl) ?_
                  refine TriOps.gT g8_22 ?_
                  refine TriOps.q .neI ?_
                  refine TriOps.gT g8_19 ?_
                  refine TriOps.q (.pickTh g8_22) ?_
                  refine TriOps.q (.pickFh g8_19) ?_
                  refine .nil ?_
                  refine seqQ_n ?_
                  refine .cond rfl (fun h3 => ?_) (fun h3 => ?_)
                  · skip
                    have hbad : rightL (toks ps) last = false := by
                      first
                        | assumption
                        | exact rightL_not hzt fun ⟨h9, h8, _⟩ => by
                            have h7 := h8 g8_22
                            have h6 : ¬ tz.kind = 2 := by simpa using h3
                            unfold rightB at h9
                            simp [h7, h6] at h9
                    refine .seq ?_
                    refine .region ?_
                    refine TriOps.q .assign ?_
                    refine TriOps.q .assign ?_
                    refine .nil ?_
                    refine seqQ_n ?_
                    refine .ret (seqQ_r (blkQ_r (seqQ_r (loopQ_r (blkQ_r (seqQ_r (retQ_r _ (.two (.tmp rfl) (.tmp rfl)) (.one [0] _) ?_)))))))
                    first
                      | exact ⟨_, rfl, .inl ⟨hgood, g, rfl, by simpa [take] using hV⟩⟩
                      | exact ⟨_, rfl, .inr ⟨hbad, rfl⟩⟩
                  · skip
                    have hst : stepQ (toks ps) last i = true := stepQ_of hzt (by simpa using g8_19) (fun hu hk => by
                      first
                        | (have h9 : tz.used = false := g8_22
                           rw [hu] at h9; cases h9)
                        | (have h9 : tz.kind = 2 := by simpa using h3
                           omega)) (by
                      first
                        | exact .inl (by have := of_decide_eq_false g8_2; omega)
                        | exact .inr ⟨ty, hyt, by simpa using g8_13⟩)
                    have hok2 : okN (stepQ (toks ps) last) (i + 1) = true := by rw [okN_succ, hok, hst]; rfl
                    have htk : (toks ps).take (i + 1) = (toks ps).take i ++ [tz] := by rw [List.take_add_one, hzt]; rfl
                    have hasc := okQ_take hok2 (by omega)
                    refine .skip ?_
                    refine seqQ_n ?_
                    refine .region ?_
                    refine TriOps.q .move ?_
                    refine TriOps.q (.loadA rfl) ?_
                    refine TriOps.callM (vput_spec g _ last T hV wz tz _ cz fz (by simp [kv]; omega)) (fun u T2 hu => ?_)
                    obtain ⟨rfl, hV2⟩ := hu
                    have hset : kset tz.text tz (kv ((toks ps).take i)) = kv ((toks ps).take (i + 1)) := by
                      rw [htk]
                      unfold kset
                      rw [kdel_none]
                      · simp [kv]
                      · intro hm
                        rw [htk, List.pairwise_append] at hasc
                        obtain ⟨p, hp, hpe⟩ := List.mem_map.1 hm
                        obtain ⟨t, ht, rfl⟩ := List.mem_map.1 hp
                        have := hasc.2.2 t ht tz (by simp)
                        simp only at hpe
                        rw [hpe, sLt_irr] at this; cases this
                    rw [hset] at hV2
                    refine .nil ?_
                    refine blkQ_n (seqQ_n ?_)
                    refine .region ?_
                    refine TriOps.q (.i64 ((i + 1 : Nat) : Int) .add ⟨by omega, by omega, by omega⟩) ?_
                    refine TriOps.q .move ?_
                    refine .nil ?_
                    exact loopQ_i (i + 1, T2) ⟨by simp only; omega, hok2, hV2⟩ (by simp only; omega) ((((((EnvLe.nil _).cons rfl).cons rfl).cons rfl).cons rfl).cons rfl) (HLe.pick [1] _)
                · skip
                  refine TriOps.gF g8_22 ?_
                  refine TriOps.gF g8_22 ?_
                  refine TriOps.gF g8_22 ?_
                  refine TriOps.gT g8_19 ?_
                  refine TriOps.q (.pickFh g8_22) ?_
                  refine TriOps.q (.pickFh g8_19) ?_
                  refine .nil ?_
                  refine seqQ_n ?_
                  refine .condF ?_
                  have hst : stepQ (toks ps) last i = true := stepQ_of hzt (by simpa using g8_19) (fun hu hk => by
                    first
                      | (have h9 : tz.used = false := g8_22
                         rw [hu] at h9; cases h9)
                      | (have h9 : tz.kind = 2 := by simpa using h3
                         omega)) (by
                    first
                      | exact .inl (by have := of_decide_eq_false g8_2; omega)
                      | exact .inr ⟨ty, hyt, by simpa using g8_13⟩)
                  have hok2 : okN (stepQ (toks ps) last) (i + 1) = true := by rw [okN_succ, hok, hst]; rfl
                  have htk : (toks ps).take (i + 1) = (toks ps).take i ++ [tz] := by rw [List.take_add_one, hzt]; rfl
                  have hasc := okQ_take hok2 (by omega)
                  refine .skip ?_
                  refine seqQ_n ?_
                  refine .region ?_
                  refine TriOps.q .move ?_
                  refine TriOps.q (.loadA rfl) ?_
                  refine TriOps.callM (vput_spec g _ last T hV wz tz _ cz fz (by simp [kv]; omega)) (fun u T2 hu => ?_)
                  obtain ⟨rfl, hV2⟩ := hu
                  have hset : kset tz.text tz (kv ((toks ps).take i)) = kv ((toks ps).take (i + 1)) := by
                    rw [htk]
                    unfold kset
                    rw [kdel_none]
                    · simp [kv]
                    · intro hm
                      rw [htk, List.pairwise_append] at hasc
                      obtain ⟨p, hp, hpe⟩ := List.mem_map.1 hm
                      obtain ⟨t, ht, rfl⟩ := List.mem_map.1 hp
                      have := hasc.2.2 t ht tz (by simp)
                      simp only at hpe
                      rw [hpe, sLt_irr] at this; cases this
                  rw [hset] at hV2
                  refine .nil ?_
                  refine blkQ_n (seqQ_n ?_)
                  refine .region ?_
                  refine TriOps.q (.i64 ((i + 1 : Nat) : Int) .add ⟨by omega, by omega, by omega⟩) ?_
                  refine TriOps.q .move ?_
                  refine .nil ?_
                  exact loopQ_i (i + 1, T2) ⟨by simp only; omega, hok2, hV2⟩ (by simp only; omega) ((((((EnvLe.nil _).cons rfl).cons rfl).cons rfl).cons rfl).cons rfl) (HLe.pick [1] _)
          · skip
            refine TriOps.gF g8_2 ?_
            refine TriOps.gF g8_2 ?_
            refine TriOps.gF g8_2 ?_
            refine TriOps.gF g8_2 ?_
            refine TriOps.gF g8_2 ?_
            refine TriOps.gF g8_2 ?_
            refine TriOps.gF g8_2 ?_
            refine TriOps.gF g8_2 ?_
            refine TriOps.gF g8_2 ?_
            refine TriOps.q (.pickFh g8_2) ?_
            refine TriOps.q .move ?_
            refine TriOps.gt rfl ?_
            refine TriOps.q .move ?_
            refine TriOps.gt rfl ?_
            refine TriOps.q (.loadA rfl) ?_
            refine .nil ?_
            refine TriOps.gt rfl ?_
            refine TriOps.callR (vright_spec g _ _ last wz tz _ iw) (fun u hu => ?_)
            subst hu
            refine TriOps.gt rfl ?_
            refine TriOps.q .not ?_
            refine TriOps.q .pickF ?_
            refine TriOps.q .move ?_
            refine TriOps.split (t := 51) rfl (fun g8_19 => ?_) (fun g8_19 => ?_)
            · skip
              have hbad : rightL (toks ps) last = false := rightL_not hzt fun ⟨h9, _, _⟩ => by rw [h9] at g8_19; cases g8_19
              refine TriOps.gF g8_19 ?_
              refine TriOps.gF g8_19 ?_
              refine TriOps.gF g8_19 ?_
              refine TriOps.gfU rfl ?_
              refine TriOps.gfU rfl ?_
              refine TriOps.gfU rfl ?_
              refine TriOps.gF g8_19 ?_
              refine TriOps.q (.pickTh g8_19) ?_
              refine .nil ?_
              refine seqQ_n ?_
              refine .condT ?_
              have hbad : rightL (toks ps) last = false := by
                first
                  | assumption
                  | exact rightL_not hzt fun ⟨h9, h8, _⟩ => by
                      have h7 := h8 g8_22
                      have h6 : ¬ tz.kind = 2 := by simpa using h3
                      unfold rightB at h9
                      simp [h7, h6] at h9
              refine .seq ?_
              refine .region ?_
              refine TriOps.q .assign ?_
              refine TriOps.q .assign ?_
              refine .nil ?_
              refine seqQ_n ?_
              refine .ret (seqQ_r (blkQ_r (seqQ_r (loopQ_r (blkQ_r (seqQ_r (retQ_r _ (.two (.tmp rfl) (.tmp rfl)) (.one [0] _) ?_)))))))
              first
                | exact ⟨_, rfl, .inl ⟨hgood, g, rfl, by simpa [take] using hV⟩⟩
                | exact ⟨_, rfl, .inr ⟨hbad, rfl⟩⟩
            · skip
              refine TriOps.gT g8_19 ?_
              refine TriOps.q (.fieldAddr rfl) ?_
              refine TriOps.gT g8_19 ?_
              refine TriOps.q (.load1 rfl) ?_
              refine TriOps.gT g8_19 ?_
              refine TriOps.q .move ?_
              refine TriOps.split (t := 54) rfl (fun g8_22 => ?_) (fun g8_22 => ?_)
              · skip
                refine TriOps.gT g8_22 ?_
                refine TriOps.q (.fieldAddr rfl) ?_
                refine TriOps.gT g8_22 ?_
                refine TriOps.q (.load1 rfl) ?_
                refine TriOps.gT g8_22 ?_
                refine TriOps.q .neI ?_
                refine TriOps.gT g8_19 ?_
                refine TriOps.q (.pickTh g8_22) ?_
                refine TriOps.q (.pickFh g8_19) ?_
                refine .nil ?_
                refine seqQ_n ?_
                refine .cond rfl (fun h3 => ?_) (fun h3 => ?_)
                · skip
                  have hbad : rightL (toks ps) last = false := by
                    first
                      | assumption
                      | exact rightL_not hzt fun ⟨h9, h8, _⟩ => by
                          have h7 := h8 g8_22
                          have h6 : ¬ tz.kind = 2 := by simpa using h3
                          unfold rightB at h9
                          simp [h7, h6] at h9
                  refine .seq ?_
                  refine .region ?_
                  refine TriOps.q .assign ?_
                  refine TriOps.q .assign ?_
                  refine .nil ?_
                  refine seqQ_n ?_
                  refine .ret (seqQ_r (blkQ_r (seqQ_r (loopQ_r (blkQ_r (seqQ_r (retQ_r _ (.two (.tmp rfl) (.tmp rfl)) (.one [0] _) ?_)))))))
                  first
                    | exact ⟨_, rfl, .inl ⟨hgood, g, rfl, by simpa [take] using hV⟩⟩
                    | exact ⟨_, rfl, .inr ⟨hbad, rfl⟩⟩
                · skip
                  have hst : stepQ (toks ps) last i = true := stepQ_of hzt (by simpa using g8_19) (fun hu hk => by
                    first
                      | (have h9 : tz.used = false := g8_22
                         rw [hu] at h9; cases h9)
                      | (have h9 : tz.kind = 2 := by simpa using h3
                         omega)) (by
                    first
                      | exact .inl (by have := of_decide_eq_false g8_2; omega)
                      | exact .inr ⟨ty, hyt, by simpa using g8_13⟩)
                  have hok2 : okN (stepQ (toks ps) last) (i + 1) = true := by rw [okN_succ, hok, hst]; rfl
                  have htk : (toks ps).take (i + 1) = (toks ps).take i ++ [tz] := by rw [List.take_add_one, hzt]; rfl
                  have hasc := okQ_take hok2 (by omega)
                  refine .skip ?_
                  refine seqQ_n ?_
                  refine .region ?_
                  refine TriOps.q .move ?_
                  refine TriOps.q (.loadA rfl) ?_
                  refine TriOps.callM (vput_spec g _ last T hV wz tz _ cz fz (by simp [kv]; omega)) (fun u T2 hu => ?_)
                  obtain ⟨rfl, hV2⟩ := hu
                  have hset : kset tz.text tz (kv ((toks ps).take i)) = kv ((toks ps).take (i + 1)) := by
                    rw [htk]
                    unfold kset
                    rw [kdel_none]
                    · simp [kv]
                    · intro hm
                      rw [htk, List.pairwise_append] at hasc
                      obtain ⟨p, hp, hpe⟩ := List.mem_map.1 hm
                      obtain ⟨t, ht, rfl⟩ := List.mem_map.1 hp
                      have := hasc.2.2 t ht tz (by simp)
                      simp only at hpe
                      rw [hpe, sLt_irr] at this; cases this
                  rw [hset] at hV2
                  refine .nil ?_
                  refine blkQ_n (seqQ_n ?_)
                  refine .region ?_
                  refine TriOps.q (.i64 ((i + 1 : Nat) : Int) .add ⟨by omega, by omega, by omega⟩) ?_
                  refine TriOps.q .move ?_
                  refine .nil ?_
                  exact loopQ_i (i + 1, T2) ⟨by simp only; omega, hok2, hV2⟩ (by simp only; omega) ((((((EnvLe.nil _).cons rfl).cons rfl).cons rfl).cons rfl).cons rfl) (HLe.pick [1] _)
              · skip
                refine TriOps.gF g8_22 ?_
                refine TriOps.gF g8_22 ?_
                refine TriOps.gF g8_22 ?_
                refine TriOps.gT g8_19 ?_
                refine TriOps.q (.pickFh g8_22) ?_
                refine TriOps.q (.pickFh g8_19) ?_
                refine .nil ?_
                refine seqQ_n ?_
                refine .condF ?_
                have hst : stepQ (toks ps) last i = true := stepQ_of hzt (by simpa using g8_19) (fun hu hk => by
                  first
                    | (have h9 : tz.used = false := g8_22
                       rw [hu] at h9; cases h9)
                    | (have h9 : tz.kind = 2 := by simpa using h3
                       omega)) (by
                  first
                    | exact .inl (by have := of_decide_eq_false g8_2; omega)
                    | exact .inr ⟨ty, hyt, by simpa using g8_13⟩)
                have hok2 : okN (stepQ (toks ps) last) (i + 1) = true := by rw [okN_succ, hok, hst]; rfl
                have htk : (toks ps).take (i + 1) = (toks ps).take i ++ [tz] := by rw [List.take_add_one, hzt]; rfl
                have hasc := okQ_take hok2 (by omega)
                refine .skip ?_
                refine seqQ_n ?_
                refine .region ?_
                refine TriOps.q .move ?_
                refine TriOps.q (.loadA rfl) ?_
                refine TriOps.callM (vput_spec g _ last T hV wz tz _ cz fz (by simp [kv]; omega)) (fun u T2 hu => ?_)
                obtain ⟨rfl, hV2⟩ := hu
                have hset : kset tz.text tz (kv ((toks ps).take i)) = kv ((toks ps).take (i + 1)) := by
                  rw [htk]
                  unfold kset
                  rw [kdel_none]
                  · simp [kv]
                  · intro hm
                    rw [htk, List.pairwise_append] at hasc
                    obtain ⟨p, hp, hpe⟩ := List.mem_map.1 hm
                    obtain ⟨t, ht, rfl⟩ := List.mem_map.1 hp
                    have := hasc.2.2 t ht tz (by simp)
                    simp only at hpe
                    rw [hpe, sLt_irr] at this; cases this
                rw [hset] at hV2
                refine .nil ?_
                refine blkQ_n (seqQ_n ?_)
                refine .region ?_
                refine TriOps.q (.i64 ((i + 1 : Nat) : Int) .add ⟨by omega, by omega, by omega⟩) ?_
                refine TriOps.q .move ?_
                refine .nil ?_
                exact loopQ_i (i + 1, T2) ⟨by simp only; omega, hok2, hV2⟩ (by simp only; omega) ((((((EnvLe.nil _).cons rfl).cons rfl).cons rfl).cons rfl).cons rfl) (HLe.pick [1] _)
        · skip
          have hin : i = ps.length := by have := of_decide_eq_false h2; omega
          have hgood : rightL (toks ps) last = true := by
            unfold rightL
            rw [decide_eq_true (show (toks ps).length ≤ 4096 by omega), decide_eq_true (show 0 ≤ last by omega), decide_eq_true (show last ≤ 1099511627776 by omega), htl, ← hin, hok]; rfl
          rw [List.take_of_length_le (by omega)] at hV
          refine .exit (seqQ_x (loopQ_x (blkQ_x ?_)))
          refine seqQ_n ?_
          refine .seq ?_
          refine .region ?_
          refine TriOps.q .move ?_
          refine TriOps.q .assign ?_
          refine TriOps.q .assign ?_
          refine .nil ?_
          refine seqQ_n ?_
          refine .ret (retQ_r _ (.two (.tmp rfl) (.tmp rfl)) (.one [0] _) ?_)
          first
            | exact ⟨_, rfl, .inl ⟨hgood, g, rfl, by simpa [take] using hV⟩⟩
            | exact ⟨_, rfl, .inr ⟨hbad, rfl⟩⟩
end Go.Proofs.Ytlmdgdehjpahiaa
