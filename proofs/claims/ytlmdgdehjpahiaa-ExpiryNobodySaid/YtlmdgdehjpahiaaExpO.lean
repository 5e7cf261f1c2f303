/- A queue that no call made; ExpiryNobody's walk. No condition. -/
import Derived.Test.YtlmdgdehjpahiaaExpM
set_option linter.unusedVariables false
set_option maxRecDepth 4000
namespace Go.Proofs.Ytlmdgdehjpahiaa

def DeadQ (R : Rds) (p : Value) : Prop := p = .pointer none ∨ ∃ q, p = .pointer (some ⟨q, 0, none⟩) ∧ R q (.cells [.slice none 0 0, .map none].toArray 67 (0, 0))
theorem DeadQ.rx {R : Rds} {H : Segs} {p : Value} (h : DeadQ R p) : DeadQ (Rx R H) p := h.imp id fun ⟨q, h1, h2⟩ => ⟨q, h1, .inl h2⟩
theorem dok_nil (R : Rds) : Spec Try.prog 63 [.pointer none] R [] fun v H' => v = .bool false ∧ H' = [] := by
  refine Spec.body Try.func63 rfl Try.results63 Try.ntmps63 rfl ?_
  refine .seq ?_
  refine .region ?_
  refine TriOps.q .assign ?_
  refine .nil ?_
  refine seqQ_n ?_
  refine .seq ?_
  refine .region ?_
  refine TriOps.q .move ?_
  refine TriOps.q (.neNilA rfl rfl) ?_
  refine TriOps.q .move ?_
  refine TriOps.gf rfl rfl ?_
  refine TriOps.gf rfl rfl ?_
  refine TriOps.gf rfl rfl ?_
  refine TriOps.gf rfl rfl ?_
  refine TriOps.gf rfl rfl ?_
  refine TriOps.q .pickF ?_
  refine TriOps.q .assign ?_
  refine .nil ?_
  refine seqQ_n ?_
  refine .ret (retQ_r _ (.one (.tmp rfl)) (.none _) ?_)
  exact ⟨rfl, rfl⟩
theorem dok_zero (q : Nat) (R : Rds) [pc : PC R (.pointer (some ⟨q, 0, none⟩)) [.slice none 0 0, .map none]] : Spec Try.prog 63 [.pointer (some ⟨q, 0, none⟩)] R [] fun v H' => v = .bool false ∧ H' = [] := by
  refine Spec.body Try.func63 rfl Try.results63 Try.ntmps63 rfl ?_
  refine .seq ?_
  refine .region ?_
  refine TriOps.q .assign ?_
  refine .nil ?_
  refine seqQ_n ?_
  refine .seq ?_
  refine .region ?_
  refine TriOps.q .move ?_
  refine TriOps.q (.neNilP rfl rfl) ?_
  refine TriOps.q .move ?_
  refine TriOps.gt rfl ?_
  refine TriOps.q .move ?_
  refine TriOps.gt rfl ?_
  refine TriOps.q (.nilCheck rfl) ?_
  refine TriOps.gt rfl ?_
  refine TriOps.q (.fieldAddr rfl) ?_
  refine TriOps.gt rfl ?_
  refine TriOps.q (.load1 rfl) ?_
  refine TriOps.gt rfl ?_
  refine TriOps.q (.neNilM rfl rfl) ?_
  refine TriOps.q .pickT ?_
  refine TriOps.q .assign ?_
  refine .nil ?_
  refine seqQ_n ?_
  refine .ret (retQ_r _ (.one (.tmp rfl)) (.none _) ?_)
  exact ⟨rfl, rfl⟩
theorem dok_spec (p : Value) (R : Rds) (h : DeadQ R p) : Spec Try.prog 63 [p] R [] fun v H' => v = .bool false ∧ H' = [] := by
  rcases h with rfl | ⟨q, rfl, hq⟩
  · exact dok_nil R
  · have pc := PC.of hq
    exact dok_zero q R
theorem dset_spec (p : Value) (key : ByteArray) (a : Int) (R : Rds) (h : DeadQ R p) : Spec Try.prog 15 [p, .string key, .int .i64 a] R [] fun v H' => v = .tuple #[] ∧ H' = [] := by
  refine Spec.body Try.func15 rfl Try.results15 Try.ntmps15 rfl ?_
  refine .seq ?_
  refine .seq ?_
  refine .region ?_
  refine TriOps.q .move ?_
  refine TriOps.callR (dok_spec p _ h.rx) (fun v hv => ?_)
  subst hv
  refine TriOps.q .not ?_
  refine .nil ?_
  refine seqQ_n ?_
  refine .condT ?_
  refine .ret (seqQ_r (retQ_r _ .none (.none _) ?_))
  exact ⟨rfl, rfl⟩
theorem dat_spec (p : Value) (key : ByteArray) (R : Rds) (h : DeadQ R p) : Spec Try.prog 16 [p, .string key] R [] fun v H' => v = .tuple [.int .i64 0, .bool false].toArray ∧ H' = [] := by
  refine Spec.body Try.func16 rfl Try.results16 Try.ntmps16 rfl ?_
  refine .seq ?_
  refine .region ?_
  refine TriOps.q .assign ?_
  refine TriOps.q .assign ?_
  refine .nil ?_
  refine seqQ_n ?_
  refine .seq ?_
  refine .seq ?_
  refine .region ?_
  refine TriOps.q .move ?_
  refine TriOps.callR (dok_spec p _ h.rx) (fun v hv => ?_)
  subst hv
  refine TriOps.q .not ?_
  refine .nil ?_
  refine seqQ_n ?_
  refine .condT ?_
  refine .seq ?_
  refine .region ?_
  refine TriOps.q .assign ?_
  refine TriOps.q .assign ?_
  refine .nil ?_
  refine seqQ_n ?_
  refine .ret (seqQ_r (retQ_r _ (.two (.tmp rfl) (.tmp rfl)) (.none _) ?_))
  exact ⟨rfl, rfl⟩
theorem ddrop_spec (p : Value) (key : ByteArray) (R : Rds) (h : DeadQ R p) : Spec Try.prog 17 [p, .string key] R [] fun v H' => v = .bool false ∧ H' = [] := by
  refine Spec.body Try.func17 rfl Try.results17 Try.ntmps17 rfl ?_
  refine .seq ?_
  refine .region ?_
  refine TriOps.q .assign ?_
  refine .nil ?_
  refine seqQ_n ?_
  refine .seq ?_
  refine .seq ?_
  refine .region ?_
  refine TriOps.q .move ?_
  refine TriOps.callR (dok_spec p _ h.rx) (fun v hv => ?_)
  subst hv
  refine TriOps.q .not ?_
  refine .nil ?_
  refine seqQ_n ?_
  refine .condT ?_
  refine .seq ?_
  refine .region ?_
  refine TriOps.q .assign ?_
  refine .nil ?_
  refine seqQ_n ?_
  refine .ret (seqQ_r (retQ_r _ (.one (.tmp rfl)) (.none _) ?_))
  exact ⟨rfl, rfl⟩
theorem dlen_spec (p : Value) (R : Rds) (h : DeadQ R p) : Spec Try.prog 36 [p] R [] fun v H' => v = .int .i64 0 ∧ H' = [] := by
  refine Spec.body Try.func36 rfl Try.results36 Try.ntmps36 rfl ?_
  refine .seq ?_
  refine .region ?_
  refine TriOps.q .assign ?_
  refine .nil ?_
  refine seqQ_n ?_
  refine .seq ?_
  refine .seq ?_
  refine .region ?_
  refine TriOps.q .move ?_
  refine TriOps.callR (dok_spec p _ h.rx) (fun v hv => ?_)
  subst hv
  refine TriOps.q .not ?_
  refine .nil ?_
  refine seqQ_n ?_
  refine .condT ?_
  refine .seq ?_
  refine .region ?_
  refine TriOps.q .assign ?_
  refine .nil ?_
  refine seqQ_n ?_
  refine .ret (seqQ_r (retQ_r _ (.one (.tmp rfl)) (.none _) ?_))
  exact ⟨rfl, rfl⟩
theorem dkeys_spec (p : Value) (R : Rds) (h : DeadQ R p) : Spec Try.prog 34 [p] R [] fun v H' => v = .slice none 0 0 ∧ H' = [] := by
  refine Spec.body Try.func34 rfl Try.results34 Try.ntmps34 rfl ?_
  refine .seq ?_
  refine .region ?_
  refine TriOps.q .assign ?_
  refine .nil ?_
  refine seqQ_n ?_
  refine .seq ?_
  refine .seq ?_
  refine .region ?_
  refine TriOps.q .move ?_
  refine TriOps.callR (dok_spec p _ h.rx) (fun v hv => ?_)
  subst hv
  refine TriOps.q .not ?_
  refine .nil ?_
  refine seqQ_n ?_
  refine .condT ?_
  refine .seq ?_
  refine .region ?_
  refine TriOps.q .assign ?_
  refine .nil ?_
  refine seqQ_n ?_
  refine .ret (seqQ_r (retQ_r _ (.one (.tmp rfl)) (.none _) ?_))
  exact ⟨rfl, rfl⟩
theorem dnext_spec (p : Value) (R : Rds) (h : DeadQ R p) : Spec Try.prog 37 [p] R [] fun v H' => v = .tuple [.string ⟨#[]⟩, .int .i64 0, .bool false].toArray ∧ H' = [] := by
  refine Spec.body Try.func37 rfl Try.results37 Try.ntmps37 rfl ?_
  refine .seq ?_
  refine .region ?_
  refine TriOps.q .assign ?_
  refine TriOps.q .assign ?_
  refine TriOps.q .assign ?_
  refine .nil ?_
  refine seqQ_n ?_
  refine .seq ?_
  refine .seq ?_
  refine .region ?_
  refine TriOps.q .move ?_
  refine TriOps.callR (dlen_spec p _ h.rx) (fun v hv => ?_)
  subst hv
  refine TriOps.q .eqI ?_
  refine .nil ?_
  refine seqQ_n ?_
  refine .condT ?_
  refine .seq ?_
  refine .region ?_
  refine TriOps.q .assign ?_
  refine TriOps.q .assign ?_
  refine TriOps.q .assign ?_
  refine .nil ?_
  refine seqQ_n ?_
  refine .ret (seqQ_r (retQ_r _ (.three (.tmp rfl) (.tmp rfl) (.tmp rfl)) (.none _) ?_))
  exact ⟨rfl, rfl⟩
theorem ddue_spec (p : Value) (a : Int) (R : Rds) (h : DeadQ R p) : Spec Try.prog 32 [p, .int .i64 a] R [] fun v H' => v = .slice none 0 0 ∧ H' = [] := by
  refine Spec.body Try.func32 rfl Try.results32 Try.ntmps32 rfl ?_
  refine .seq ?_
  refine .region ?_
  refine TriOps.q .assign ?_
  refine .nil ?_
  refine seqQ_n ?_
  refine .seq ?_
  refine .region ?_
  refine TriOps.q .assign ?_
  refine .nil ?_
  refine seqQ_n ?_
  refine .seq ?_
  refine .block ?_
  refine .loop (X := Unit) (fun _ => True) (fun _ => [(0, p), (1, .int .i64 a), (5, .slice none 0 0)]) (fun _ => []) (fun _ => 0) () trivial ((((EnvLe.nil _).cons rfl).cons rfl).cons rfl) (HLe.refl _) ?_
  intro _ _
  refine .seq ?_
  refine .seq ?_
  refine .region ?_
  refine TriOps.q .move ?_
  refine TriOps.callR (dlen_spec p _ h.rx) (fun v hv => ?_)
  subst hv
  refine TriOps.q .gtr ?_
  refine TriOps.q .move ?_
  refine TriOps.split (t := 10) rfl (fun g2_3 => ?_) (fun g2_3 => ?_)
  · skip
    simp at g2_3
  · skip
    refine TriOps.gF g2_3 ?_
    refine TriOps.gF g2_3 ?_
    refine TriOps.gF g2_3 ?_
    refine TriOps.gF g2_3 ?_
    refine TriOps.gF g2_3 ?_
    refine TriOps.gF g2_3 ?_
    refine TriOps.gF g2_3 ?_
    refine TriOps.gF g2_3 ?_
    refine TriOps.gF g2_3 ?_
    refine TriOps.gF g2_3 ?_
    refine TriOps.gF g2_3 ?_
    refine TriOps.q (.pickFh g2_3) ?_
    refine .nil ?_
    refine seqQ_n ?_
    refine .condF ?_
    refine .exit (seqQ_x (loopQ_x (blkQ_x ?_)))
    refine seqQ_n ?_
    refine .seq ?_
    refine .region ?_
    refine TriOps.q .move ?_
    refine TriOps.q .assign ?_
    refine .nil ?_
    refine seqQ_n ?_
    refine .ret (retQ_r _ (.one (.tmp rfl)) (.none _) ?_)
    exact ⟨rfl, rfl⟩
theorem nobody_spec (key : ByteArray) (a : Int) (R : Rds) : Spec Try.prog 8 [.string key, .int .i64 a] R [] fun v H' => v = .bool true ∧ H' = [] := by
  refine Spec.body Try.func8 rfl Try.results8 Try.ntmps8 rfl ?_
  refine .seq ?_
  refine .region ?_
  refine TriOps.q .assign ?_
  refine .nil ?_
  refine seqQ_n ?_
  refine .seq ?_
  refine .seq ?_
  refine .region ?_
  refine TriOps.q .assign ?_
  refine .nil ?_
  refine seqQ_n ?_
  refine .block ?_
  refine .loop (X := Nat) (fun k => k ≤ 2) (fun k => [(0, .string key), (1, .int .i64 a), (5, .int .i64 (k : Nat))]) (fun _ => []) (fun k => 2 - k) 0 (by omega) ((((EnvLe.nil _).cons rfl).cons rfl).cons rfl) (HLe.refl _) ?_
  intro k hk
  refine .seq ?_
  refine .seq ?_
  refine .region ?_
  refine TriOps.q .move ?_
  refine TriOps.q .lss ?_
  refine .nil ?_
  refine seqQ_n ?_
  refine .cond rfl (fun h1 => ?_) (fun h1 => ?_)
  · skip
    refine .skip ?_
    refine seqQ_n ?_
    refine .seq ?_
    refine .block ?_
    refine .seq ?_
    refine .region ?_
    refine TriOps.q .assign ?_
    refine .nil ?_
    refine seqQ_n ?_
    refine .seq ?_
    refine Tri.cut (X := Value × Seg) (fun y => One y.1 ∧ ∀ R', DeadQ (Rx R' [y.2]) y.1) (fun y => [(0, .string key), (1, .int .i64 a), (5, .int .i64 (k : Nat)), (6, y.1)]) (fun y => [y.2]) ?_ ?_
    · refine .seq ?_
      refine .region ?_
      refine TriOps.q .move ?_
      refine TriOps.q .eqI ?_
      refine .nil ?_
      refine seqQ_n ?_
      refine .cond rfl (fun h2 => ?_) (fun h2 => ?_)
      · skip
        refine .region ?_
        refine TriOps.q .bld ?_
        refine TriOps.boxA rfl (fun b19 => ?_)
        refine TriOps.q .assign ?_
        refine .nil ?_
        first
          | exact joinQ_n (.pointer (some ⟨b19, 0, none⟩), [(b19, .cells [.slice none 0 0, .map none].toArray 67 (0, 0))]) ⟨⟨rfl⟩, fun R' => .inr ⟨b19, rfl, .inr (by simp)⟩⟩ (((((EnvLe.nil _).cons rfl).cons rfl).cons rfl).cons rfl) (HLe.refl _)
          | exact joinQ_n (.pointer none, []) ⟨⟨rfl⟩, fun R' => .inl rfl⟩ (((((EnvLe.nil _).cons rfl).cons rfl).cons rfl).cons rfl) (HLe.ofPerm (by simp))
      · skip
        refine .skip ?_
        first
          | exact joinQ_n (.pointer (some ⟨b19, 0, none⟩), [(b19, .cells [.slice none 0 0, .map none].toArray 67 (0, 0))]) ⟨⟨rfl⟩, fun R' => .inr ⟨b19, rfl, .inr (by simp)⟩⟩ (((((EnvLe.nil _).cons rfl).cons rfl).cons rfl).cons rfl) (HLe.refl _)
          | exact joinQ_n (.pointer none, []) ⟨⟨rfl⟩, fun R' => .inl rfl⟩ (((((EnvLe.nil _).cons rfl).cons rfl).cons rfl).cons rfl) (HLe.ofPerm (by simp))
    · intro y hy
      obtain ⟨p, T⟩ := y
      obtain ⟨i1, hd⟩ := hy
      simp only at i1 hd ⊢
      refine seqQ_n ?_
      refine .seq ?_
      refine .region ?_
      refine TriOps.q .move ?_
      refine TriOps.q .move ?_
      refine TriOps.q .move ?_
      refine TriOps.callR (dset_spec p key a _ (hd _)) (fun v hv => ?_)
      subst hv
      refine .nil ?_
      refine seqQ_n ?_
      refine .seq ?_
      refine .region ?_
      refine TriOps.q .move ?_
      refine TriOps.q .move ?_
      refine TriOps.callR (dat_spec p key _ (hd _)) (fun v hv => ?_)
      subst hv
      refine TriOps.q .move ?_
      refine TriOps.q .extract ?_
      refine TriOps.q .extract ?_
      refine TriOps.q .assign ?_
      refine TriOps.q .assign ?_
      refine .nil ?_
      refine seqQ_n ?_
      refine .seq ?_
      refine .region ?_
      refine TriOps.q .move ?_
      refine TriOps.callR (dnext_spec p _ (hd _)) (fun v hv => ?_)
      subst hv
      refine TriOps.q .move ?_
      refine TriOps.q .extract ?_
      refine TriOps.q .extract ?_
      refine TriOps.q .extract ?_
      refine TriOps.q .assign ?_
      refine TriOps.q .assign ?_
      refine TriOps.q .assign ?_
      refine .nil ?_
      refine seqQ_n ?_
      refine .seq ?_
      refine .region ?_
      refine TriOps.q .move ?_
      refine TriOps.q .move ?_
      refine TriOps.split (t := 37) rfl (fun g10_1 => ?_) (fun g10_1 => ?_)
      · skip
        simp at g10_1
      · skip
        refine TriOps.gT g10_1 ?_
        refine TriOps.q .move ?_
        refine TriOps.q (.pickFh g10_1) ?_
        refine TriOps.q .move ?_
        refine TriOps.split (t := 40) rfl (fun g10_4 => ?_) (fun g10_4 => ?_)
        · skip
          simp at g10_4
        · skip
          refine TriOps.gT g10_4 ?_
          refine TriOps.q .move ?_
          refine TriOps.gT g10_4 ?_
          refine TriOps.q .neS ?_
          refine TriOps.q (.pickFh g10_4) ?_
          refine TriOps.q .move ?_
          refine TriOps.split (t := 44) rfl (fun g10_8 => ?_) (fun g10_8 => ?_)
          · skip
            simp at g10_8
          · skip
            refine TriOps.gT g10_8 ?_
            refine TriOps.q .move ?_
            refine TriOps.gT g10_8 ?_
            refine TriOps.q .neI ?_
            refine TriOps.q (.pickFh g10_8) ?_
            refine TriOps.q .move ?_
            refine TriOps.split (t := 48) rfl (fun g10_12 => ?_) (fun g10_12 => ?_)
            · skip
              simp at g10_12
            · skip
              refine TriOps.gT g10_12 ?_
              refine TriOps.q .move ?_
              refine TriOps.gT g10_12 ?_
              refine TriOps.q .move ?_
              refine TriOps.gT g10_12 ?_
              refine TriOps.callR (ddrop_spec p key _ (hd _)) (fun v hv => ?_)
              subst hv
              refine TriOps.q (.pickFh g10_12) ?_
              refine TriOps.q .move ?_
              refine TriOps.split (t := 53) rfl (fun g10_17 => ?_) (fun g10_17 => ?_)
              · skip
                simp at g10_17
              · skip
                refine TriOps.gT g10_17 ?_
                refine TriOps.q .move ?_
                refine TriOps.gT g10_17 ?_
                refine TriOps.callR (dlen_spec p _ (hd _)) (fun v hv => ?_)
                subst hv
                refine TriOps.gT g10_17 ?_
                refine TriOps.q .neI ?_
                refine TriOps.q (.pickFh g10_17) ?_
                refine TriOps.q .move ?_
                refine TriOps.split (t := 58) rfl (fun g10_22 => ?_) (fun g10_22 => ?_)
                · skip
                  simp at g10_22
                · skip
                  refine TriOps.gT g10_22 ?_
                  refine TriOps.q .move ?_
                  refine TriOps.gT g10_22 ?_
                  refine TriOps.q .move ?_
                  refine TriOps.gT g10_22 ?_
                  refine TriOps.callR (ddue_spec p a _ (hd _)) (fun v hv => ?_)
                  subst hv
                  refine TriOps.gT g10_22 ?_
                  refine TriOps.q (.lenV rfl) ?_
                  refine TriOps.gT g10_22 ?_
                  refine TriOps.q .move ?_
                  refine TriOps.gT g10_22 ?_
                  refine TriOps.callR (dkeys_spec p _ (hd _)) (fun v hv => ?_)
                  subst hv
                  refine TriOps.gT g10_22 ?_
                  refine TriOps.q (.lenV rfl) ?_
                  refine TriOps.gT g10_22 ?_
                  refine TriOps.q .add ?_
                  refine TriOps.gT g10_22 ?_
                  refine TriOps.q .gtr ?_
                  refine TriOps.q (.pickFh g10_22) ?_
                  refine .nil ?_
                  refine seqQ_n ?_
                  refine .cond rfl (fun h3 => ?_) (fun h3 => ?_)
                  · skip
                    exact absurd h3 (by decide)
                  · skip
                    refine .skip ?_
                    refine blkQ_n (seqQ_n ?_)
                    refine .region ?_
                    refine TriOps.q .move ?_
                    refine TriOps.q (.inc (n := k) (by omega)) ?_
                    refine TriOps.q .assign ?_
                    refine .nil ?_
                    exact loopQ_i (k + 1) (by simp at h1; omega) (by simp at h1; omega) ((((EnvLe.nil _).cons rfl).cons rfl).cons rfl) (HLe.none _)
  · skip
    refine .exit (seqQ_x (loopQ_x (blkQ_x ?_)))
    refine seqQ_n ?_
    refine .seq ?_
    refine .region ?_
    refine TriOps.callR (xlives_spec _) (fun v3 hv => ?_)
    subst hv
    refine TriOps.q .assign ?_
    refine .nil ?_
    refine seqQ_n ?_
    refine .ret (retQ_r _ (.one (.tmp rfl)) (.none _) ?_)
    exact ⟨rfl, rfl⟩
end Go.Proofs.Ytlmdgdehjpahiaa
