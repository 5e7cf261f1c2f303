/- Tokens: a vault that no call made; layer 29's law on it. No condition. -/
import Derived.Test.YtkepgbimlolemaaTokM
import Derived.Test.YtkepgbimlolemaaTokG
import Derived.Test.YtkepgbimlolemaaTokT
set_option linter.unusedVariables false
set_option maxRecDepth 4000
namespace Go.Proofs.Ytkepgbimlolemaa
def DeadV (R : Rds) (p : Value) : Prop := p = .pointer none ∨ ∃ q, p = .pointer (some ⟨q, 0, none⟩) ∧ R q (.cells [.map none, .pointer none, .int .i64 0].toArray 65 (0, 0))
theorem DeadV.rx {R : Rds} {H : Segs} {p : Value} (h : DeadV R p) : DeadV (Rx R H) p := h.imp id fun ⟨q, h1, h2⟩ => ⟨q, h1, .inl h2⟩
theorem vdok_nil (R : Rds) : Spec Try.prog 50 [.pointer none] R [] fun v H' => v = .bool false ∧ H' = [] := by
  refine Spec.body Try.func50 rfl Try.results50 Try.ntmps50 rfl ?_
  refine .seq ?_
  refine .region ?_
  refine TriOps.q .assign ?_
  refine .nil ?_
  refine seqQ_n ?_
  refine .seq ?_
  refine .region ?_
  refine TriOps.q .move ?_
  refine TriOps.q (.neNilA rfl rfl) ?_
  refine TriOps.q .move ?_
  refine TriOps.gf rfl rfl ?_
  refine TriOps.gf rfl rfl ?_
  refine TriOps.gf rfl rfl ?_
  refine TriOps.gf rfl rfl ?_
  refine TriOps.gf rfl rfl ?_
  refine TriOps.q .pickF ?_
  refine TriOps.q .assign ?_
  refine .nil ?_
  refine seqQ_n ?_
  refine .ret (retQ_r _ (.one (.tmp rfl)) (.none _) ?_)
  exact ⟨rfl, rfl⟩
theorem vdok_zero (q : Nat) (R : Rds) [pc : PC R (.pointer (some ⟨q, 0, none⟩)) [.map none, .pointer none, .int .i64 0]] : Spec Try.prog 50 [.pointer (some ⟨q, 0, none⟩)] R [] fun v H' => v = .bool false ∧ H' = [] := by
  refine Spec.body Try.func50 rfl Try.results50 Try.ntmps50 rfl ?_
  refine .seq ?_
  refine .region ?_
  refine TriOps.q .assign ?_
  refine .nil ?_
  refine seqQ_n ?_
  refine .seq ?_
  refine .region ?_
  refine TriOps.q .move ?_
  refine TriOps.q (.neNilP rfl rfl) ?_
  refine TriOps.q .move ?_
  refine TriOps.gt rfl ?_
  refine TriOps.q .move ?_
  refine TriOps.gt rfl ?_
  refine TriOps.q (.nilCheck rfl) ?_
  refine TriOps.gt rfl ?_
  refine TriOps.q (.fieldAddr rfl) ?_
  refine TriOps.gt rfl ?_
  refine TriOps.q (.load1 rfl) ?_
  refine TriOps.gt rfl ?_
  refine TriOps.q (.neNilM rfl rfl) ?_
  refine TriOps.q .pickT ?_
  refine TriOps.q .assign ?_
  refine .nil ?_
  refine seqQ_n ?_
  refine .ret (retQ_r _ (.one (.tmp rfl)) (.none _) ?_)
  exact ⟨rfl, rfl⟩
theorem vdok_spec (p : Value) (R : Rds) (h : DeadV R p) : Spec Try.prog 50 [p] R [] fun v H' => v = .bool false ∧ H' = [] := by
  rcases h with rfl | ⟨q, rfl, hq⟩
  · exact vdok_nil R
  · have pc := PC.of hq
    exact vdok_zero q R
theorem vdDrop_spec (p : Value) (client user : ByteArray) (R : Rds) (h : DeadV R p) : Spec Try.prog 17 [p, .string client, .string user] R [] fun v H' => v = .tuple #[] ∧ H' = [] := by
  refine Spec.body Try.func17 rfl Try.results17 Try.ntmps17 rfl ?_
  refine .seq ?_
  refine .region ?_
  refine TriOps.box1 rfl (fun b4 => ?_)
  refine TriOps.box1 rfl (fun b5 => ?_)
  refine .nil ?_
  refine seqQ_n ?_
  refine .seq ?_
  refine .region ?_
  refine TriOps.q .move ?_
  refine TriOps.callR (vdok_spec p _ h.rx) (fun v hv => ?_)
  subst hv
  refine .nil ?_
  refine seqQ_n ?_
  refine .condF ?_
  refine .skip ?_
  refine retQ_n _ .none (.none _) ?_
  exact ⟨rfl, rfl⟩
theorem vdSweep_spec (p : Value) (now : Int) (R : Rds) (h : DeadV R p) : Spec Try.prog 18 [p, .int .i64 now] R [] fun v H' => v = .tuple #[] ∧ H' = [] := by
  refine Spec.body Try.func18 rfl Try.results18 Try.ntmps18 rfl ?_
  refine .seq ?_
  refine .seq ?_
  refine .region ?_
  refine TriOps.q .move ?_
  refine TriOps.callR (vdok_spec p _ h.rx) (fun v hv => ?_)
  subst hv
  refine TriOps.q .not ?_
  refine .nil ?_
  refine seqQ_n ?_
  refine .condT ?_
  refine .ret (seqQ_r (retQ_r _ .none (.none _) ?_))
  exact ⟨rfl, rfl⟩
theorem vdRotate_spec (p : Value) (k client : ByteArray) (now : Int) (R : Rds) (h : DeadV R p) : Spec Try.prog 23 [p, .string k, .string client, .int .i64 now] R [] fun v H' => v = .tuple [.agg (encT tz).toArray, .int .i64 1].toArray ∧ H' = [] := by
  refine Spec.body Try.func23 rfl Try.results23 Try.ntmps23 rfl ?_
  refine .seq ?_
  refine .region ?_
  refine TriOps.allocA (fun b8 => ?_)
  refine TriOps.q .assign ?_
  refine .nil ?_
  refine seqQ_n ?_
  refine .seq ?_
  refine .seq ?_
  refine .region ?_
  refine TriOps.q .move ?_
  refine TriOps.callR (vdok_spec p _ h.rx) (fun v hv => ?_)
  subst hv
  refine TriOps.q .not ?_
  refine .nil ?_
  refine seqQ_n ?_
  refine .condT ?_
  refine .seq ?_
  refine .region ?_
  refine TriOps.q .bld ?_
  refine TriOps.storeA rfl rfl ?_
  refine TriOps.q .assign ?_
  refine .nil ?_
  refine seqQ_n ?_
  refine .ret (seqQ_r (retQ_r _ (.two (.cellA rfl rfl) (.tmp rfl)) (.none _) ?_))
  exact ⟨rfl, rfl⟩
theorem vdFind_spec (p : Value) (k : ByteArray) (now : Int) (R : Rds) (h : DeadV R p) : Spec Try.prog 19 [p, .string k, .int .i64 now] R [] fun v H' => v = .tuple [.agg (encT tz).toArray, .bool false].toArray ∧ H' = [] := by
  refine Spec.body Try.func19 rfl Try.results19 Try.ntmps19 rfl ?_
  refine .seq ?_
  refine .region ?_
  refine TriOps.allocA (fun b6 => ?_)
  refine TriOps.q .assign ?_
  refine .nil ?_
  refine seqQ_n ?_
  refine .seq ?_
  refine .seq ?_
  refine .region ?_
  refine TriOps.q .move ?_
  refine TriOps.callR (vdok_spec p _ h.rx) (fun v hv => ?_)
  subst hv
  refine TriOps.q .not ?_
  refine .nil ?_
  refine seqQ_n ?_
  refine .condT ?_
  refine .seq ?_
  refine .region ?_
  refine TriOps.q .bld ?_
  refine TriOps.storeA rfl rfl ?_
  refine TriOps.q .assign ?_
  refine .nil ?_
  refine seqQ_n ?_
  refine .ret (seqQ_r (retQ_r _ (.two (.cellA rfl rfl) (.tmp rfl)) (.none _) ?_))
  exact ⟨rfl, rfl⟩
theorem vdPut_spec (p : Value) (w : Value) (t : Tok) (hw : One w) (R : Rds) (h : DeadV R p) : Spec Try.prog 12 [p, .agg (encT (w, t)).toArray] R [] fun v H' => v = .int .i64 1 ∧ H' = [] := by
  have io := encT_ones (t := t) hw
  refine Spec.body Try.func12 rfl Try.results12 Try.ntmps12 rfl ?_
  refine .seq ?_
  refine .region ?_
  refine TriOps.boxA rfl (fun b3 => ?_)
  refine TriOps.q .assign ?_
  refine .nil ?_
  refine seqQ_n ?_
  refine .seq ?_
  refine .seq ?_
  refine .region ?_
  refine TriOps.q .move ?_
  refine TriOps.callR (vdok_spec p _ h.rx) (fun v hv => ?_)
  subst hv
  refine TriOps.q .not ?_
  refine .nil ?_
  refine seqQ_n ?_
  refine .condT ?_
  refine .seq ?_
  refine .region ?_
  refine TriOps.q .assign ?_
  refine .nil ?_
  refine seqQ_n ?_
  refine .ret (seqQ_r (retQ_r _ (.one (.tmp rfl)) (.none _) ?_))
  exact ⟨rfl, rfl⟩
theorem vdRevoke_spec (p : Value) (k client : ByteArray) (R : Rds) (h : DeadV R p) : Spec Try.prog 15 [p, .string k, .string client] R [] fun v H' => v = .int .i64 1 ∧ H' = [] := by
  refine Spec.body Try.func15 rfl Try.results15 Try.ntmps15 rfl ?_
  refine .seq ?_
  refine .region ?_
  refine TriOps.box1 rfl (fun b4 => ?_)
  refine TriOps.q .assign ?_
  refine .nil ?_
  refine seqQ_n ?_
  refine .seq ?_
  refine .seq ?_
  refine .region ?_
  refine TriOps.q .move ?_
  refine TriOps.callR (vdok_spec p _ h.rx) (fun v hv => ?_)
  subst hv
  refine TriOps.q .not ?_
  refine .nil ?_
  refine seqQ_n ?_
  refine .condT ?_
  refine .seq ?_
  refine .region ?_
  refine TriOps.q .assign ?_
  refine .nil ?_
  refine seqQ_n ?_
  refine .ret (seqQ_r (retQ_r _ (.one (.tmp rfl)) (.none _) ?_))
  exact ⟨rfl, rfl⟩
theorem vdCut_spec (p : Value) (fam : Int) (R : Rds) (h : DeadV R p) : Spec Try.prog 16 [p, .int .i64 fam] R [] fun v H' => v = .int .i64 0 ∧ H' = [] := by
  refine Spec.body Try.func16 rfl Try.results16 Try.ntmps16 rfl ?_
  refine .seq ?_
  refine .region ?_
  refine TriOps.box1 rfl (fun b3 => ?_)
  refine TriOps.q .assign ?_
  refine .nil ?_
  refine seqQ_n ?_
  refine .seq ?_
  refine .seq ?_
  refine .region ?_
  refine TriOps.q .move ?_
  refine TriOps.callR (vdok_spec p _ h.rx) (fun v hv => ?_)
  subst hv
  refine TriOps.q .not ?_
  refine .nil ?_
  refine seqQ_n ?_
  refine .condT ?_
  refine .seq ?_
  refine .region ?_
  refine TriOps.q .assign ?_
  refine .nil ?_
  refine seqQ_n ?_
  refine .ret (seqQ_r (retQ_r _ (.one (.tmp rfl)) (.none _) ?_))
  exact ⟨rfl, rfl⟩
theorem vdFamily_spec (p : Value) (R : Rds) (h : DeadV R p) : Spec Try.prog 11 [p] R [] fun v H' => v = .int .i64 0 ∧ H' = [] := by
  refine Spec.body Try.func11 rfl Try.results11 Try.ntmps11 rfl ?_
  refine .seq ?_
  refine .region ?_
  refine TriOps.q .assign ?_
  refine .nil ?_
  refine seqQ_n ?_
  refine .seq ?_
  refine .seq ?_
  refine .region ?_
  refine TriOps.q .move ?_
  refine TriOps.callR (vdok_spec p _ h.rx) (fun v hv => ?_)
  subst hv
  refine TriOps.q .not ?_
  refine .nil ?_
  refine seqQ_n ?_
  refine .condT ?_
  refine .seq ?_
  refine .region ?_
  refine TriOps.q .assign ?_
  refine .nil ?_
  refine seqQ_n ?_
  refine .ret (seqQ_r (retQ_r _ (.one (.tmp rfl)) (.none _) ?_))
  exact ⟨rfl, rfl⟩
theorem vdLast_spec (p : Value) (R : Rds) (h : DeadV R p) : Spec Try.prog 33 [p] R [] fun v H' => v = .int .i64 0 ∧ H' = [] := by
  refine Spec.body Try.func33 rfl Try.results33 Try.ntmps33 rfl ?_
  refine .seq ?_
  refine .region ?_
  refine TriOps.q .assign ?_
  refine .nil ?_
  refine seqQ_n ?_
  refine .seq ?_
  refine .seq ?_
  refine .region ?_
  refine TriOps.q .move ?_
  refine TriOps.callR (vdok_spec p _ h.rx) (fun v hv => ?_)
  subst hv
  refine TriOps.q .not ?_
  refine .nil ?_
  refine seqQ_n ?_
  refine .condT ?_
  refine .seq ?_
  refine .region ?_
  refine TriOps.q .assign ?_
  refine .nil ?_
  refine seqQ_n ?_
  refine .ret (seqQ_r (retQ_r _ (.one (.tmp rfl)) (.none _) ?_))
  exact ⟨rfl, rfl⟩
theorem vdList_spec (p : Value) (R : Rds) (h : DeadV R p) : Spec Try.prog 14 [p] R [] fun v H' => v = .slice none 0 0 ∧ H' = [] := by
  refine Spec.body Try.func14 rfl Try.results14 Try.ntmps14 rfl ?_
  refine .seq ?_
  refine .region ?_
  refine TriOps.q .assign ?_
  refine .nil ?_
  refine seqQ_n ?_
  refine .seq ?_
  refine .seq ?_
  refine .region ?_
  refine TriOps.q .move ?_
  refine TriOps.callR (vdok_spec p _ h.rx) (fun v hv => ?_)
  subst hv
  refine TriOps.q .not ?_
  refine .nil ?_
  refine seqQ_n ?_
  refine .condT ?_
  refine .seq ?_
  refine .region ?_
  refine TriOps.q .assign ?_
  refine .nil ?_
  refine seqQ_n ?_
  refine .ret (seqQ_r (retQ_r _ (.one (.tmp rfl)) (.none _) ?_))
  exact ⟨rfl, rfl⟩
theorem tnobody_spec (d : TDo) (R : Rds) (ht : TokR R (d.w, d.t)) : Spec Try.prog 5 [.agg d.enc.toArray] R [] fun v H' => v = .bool true ∧ H' = [] := by
  have iw : One d.w := ht.oneCell
  have i0 : Ones d.enc := ⟨by
    have h1 := iw.h
    intro u hu
    simp only [TDo.enc, List.mem_cons, List.not_mem_nil, or_false] at hu
    rcases hu with rfl | rfl | rfl | rfl | rfl | rfl | rfl | rfl | rfl | rfl | rfl | rfl | rfl | rfl | rfl <;> first | rfl | assumption⟩
  have it := (⟨ht.ones⟩ : Ones (encT (d.w, d.t)))
  have i1 : Ones (encT tz) := ⟨(TokR.zero (fun _ _ => False)).ones⟩
  refine Spec.body Try.func5 rfl Try.results5 Try.ntmps5 rfl ?_
  refine .seq ?_
  refine .region ?_
  refine TriOps.boxA rfl (fun b1 => ?_)
  refine TriOps.q .assign ?_
  refine .nil ?_
  refine seqQ_n ?_
  refine .seq ?_
  refine .seq ?_
  refine .region ?_
  refine TriOps.q .assign ?_
  refine .nil ?_
  refine seqQ_n ?_
  refine .block ?_
  refine .loop (X := Nat) (fun k => k ≤ 2) (fun k => [(1, .pointer (some ⟨b1, 0, none⟩)), (3, .int .i64 (k : Nat))]) (fun _ => [[(b1, .cells d.enc.toArray 28 (0, 0))]]) (fun k => 2 - k) 0 (by omega) (((EnvLe.nil _).cons rfl).cons rfl) (HLe.refl _) ?_
  intro k hk
  refine .seq ?_
  refine .seq ?_
  refine .region ?_
  refine TriOps.q .move ?_
  refine TriOps.q .lss ?_
  refine .nil ?_
  refine seqQ_n ?_
  refine .cond rfl (fun h1 => ?_) (fun h1 => ?_)
  · skip
    refine .skip ?_
    refine seqQ_n ?_
    refine .seq ?_
    refine .block ?_
    refine .seq ?_
    refine .region ?_
    refine TriOps.q .assign ?_
    refine .nil ?_
    refine seqQ_n ?_
    refine .seq ?_
    refine Tri.cut (X := Value × Seg) (fun y => One y.1 ∧ (y.1 = .pointer none ∨ ∃ q, y.1 = .pointer (some ⟨q, 0, none⟩) ∧ (q, .cells [.map none, .pointer none, .int .i64 0].toArray 65 (0, 0)) ∈ y.2)) (fun y => [(1, .pointer (some ⟨b1, 0, none⟩)), (3, .int .i64 (k : Nat)), (4, y.1)]) (fun y => [y.2, [(b1, .cells d.enc.toArray 28 (0, 0))]]) ?_ ?_
    · refine .seq ?_
      refine .region ?_
      refine TriOps.q .move ?_
      refine TriOps.q .eqI ?_
      refine .nil ?_
      refine seqQ_n ?_
      refine .cond rfl (fun h2 => ?_) (fun h2 => ?_)
      · skip
        refine .region ?_
        refine TriOps.q .bld ?_
        refine TriOps.boxA rfl (fun b16 => ?_)
        refine TriOps.q .assign ?_
        refine .nil ?_
        first
          | exact joinQ_n (.pointer (some ⟨b16, 0, none⟩), [(b16, .cells [.map none, .pointer none, .int .i64 0].toArray 65 (0, 0))]) ⟨⟨rfl⟩, .inr ⟨b16, rfl, by simp⟩⟩ ((((EnvLe.nil _).cons rfl).cons rfl).cons rfl) (HLe.refl _)
          | exact joinQ_n (.pointer none, []) ⟨⟨rfl⟩, .inl rfl⟩ ((((EnvLe.nil _).cons rfl).cons rfl).cons rfl) (HLe.ofPerm (by simp))
      · skip
        refine .skip ?_
        first
          | exact joinQ_n (.pointer (some ⟨b16, 0, none⟩), [(b16, .cells [.map none, .pointer none, .int .i64 0].toArray 65 (0, 0))]) ⟨⟨rfl⟩, .inr ⟨b16, rfl, by simp⟩⟩ ((((EnvLe.nil _).cons rfl).cons rfl).cons rfl) (HLe.refl _)
          | exact joinQ_n (.pointer none, []) ⟨⟨rfl⟩, .inl rfl⟩ ((((EnvLe.nil _).cons rfl).cons rfl).cons rfl) (HLe.ofPerm (by simp))
    · intro y hy
      obtain ⟨p, T⟩ := y
      obtain ⟨i2, hp⟩ := hy
      simp only at i2 hp ⊢
      have hd : ∀ (R' : Rds) (H' : Segs), T ∈ H' → DeadV (Rx R' H') p := fun R' H' hT => hp.imp id fun ⟨q, h1, h2⟩ => ⟨q, h1, .inr (List.mem_flatten.2 ⟨T, hT, h2⟩)⟩
      refine seqQ_n ?_
      refine .seq ?_
      refine .region ?_
      refine TriOps.q .move ?_
      refine TriOps.q (.fieldAddr rfl) ?_
      refine TriOps.q (.load1 rfl) ?_
      refine TriOps.q (.fieldAddr rfl) ?_
      refine TriOps.q (.load1 rfl) ?_
      refine TriOps.callR (vdDrop_spec p d.client d.user _ (hd _ _ (by simp))) (fun v hv => ?_)
      refine .nil ?_
      refine seqQ_n ?_
      refine .seq ?_
      refine .region ?_
      refine TriOps.q .move ?_
      refine TriOps.q (.fieldAddr rfl) ?_
      refine TriOps.q (.load1 rfl) ?_
      refine TriOps.callR (vdSweep_spec p d.now _ (hd _ _ (by simp))) (fun v hv => ?_)
      refine .nil ?_
      refine seqQ_n ?_
      refine .seq ?_
      refine .region ?_
      refine TriOps.q .move ?_
      refine TriOps.q (.fieldAddr rfl) ?_
      refine TriOps.q (.load1 rfl) ?_
      refine TriOps.q (.fieldAddr rfl) ?_
      refine TriOps.q (.load1 rfl) ?_
      refine TriOps.q (.fieldAddr rfl) ?_
      refine TriOps.q (.load1 rfl) ?_
      refine TriOps.callR (vdRotate_spec p d.text d.client d.now _ (hd _ _ (by simp))) (fun v hv => ?_)
      subst hv
      refine TriOps.q .move ?_
      refine TriOps.q .extract ?_
      refine TriOps.q .extract ?_
      refine TriOps.allocA (fun b5 => ?_)
      refine TriOps.storeA rfl rfl ?_
      refine TriOps.q .assign ?_
      refine .nil ?_
      refine seqQ_n ?_
      refine .seq ?_
      refine .region ?_
      refine TriOps.q .move ?_
      refine TriOps.q (.fieldAddr rfl) ?_
      refine TriOps.q (.load1 rfl) ?_
      refine TriOps.q (.fieldAddr rfl) ?_
      refine TriOps.q (.load1 rfl) ?_
      refine TriOps.callR (vdFind_spec p d.text d.now _ (hd _ _ (by simp))) (fun v hv => ?_)
      subst hv
      refine TriOps.q .move ?_
      refine TriOps.q .extract ?_
      refine TriOps.q .extract ?_
      refine TriOps.allocA (fun b7 => ?_)
      refine TriOps.storeA rfl rfl ?_
      refine TriOps.q .assign ?_
      refine .nil ?_
      refine seqQ_n ?_
      refine .seq ?_
      refine .region ?_
      refine TriOps.q .move ?_
      refine TriOps.q .neI ?_
      refine TriOps.q .move ?_
      refine TriOps.split (t := 49) rfl (fun g11_2 => ?_) (fun g11_2 => ?_)
      · skip
        simp at g11_2
      · skip
        refine TriOps.gT g11_2 ?_
        refine TriOps.q (.loadA rfl) ?_
        refine TriOps.gT g11_2 ?_
        refine TriOps.callR (tplain_spec _ Tok.zero _ (TokR.zero (fun _ _ => False))) (fun v hv => ?_)
        subst hv
        refine TriOps.gT g11_2 ?_
        refine TriOps.q .bld ?_
        refine TriOps.gT g11_2 ?_
        refine TriOps.callR (sameT_spec _ _ Tok.zero Tok.zero _ (TokR.zero _) (TokR.zero _)) (fun v hv => ?_)
        rw [sameT_self] at hv
        subst hv
        refine TriOps.gT g11_2 ?_
        refine TriOps.q .not ?_
        refine TriOps.q (.pickFh g11_2) ?_
        refine TriOps.q .move ?_
        refine TriOps.split (t := 56) rfl (fun g11_9 => ?_) (fun g11_9 => ?_)
        · skip
          simp at g11_9
        · skip
          refine TriOps.gT g11_9 ?_
          refine TriOps.q .move ?_
          refine TriOps.q (.pickFh g11_9) ?_
          refine TriOps.q .move ?_
          refine TriOps.split (t := 59) rfl (fun g11_12 => ?_) (fun g11_12 => ?_)
          · skip
            simp at g11_12
          · skip
            refine TriOps.gT g11_12 ?_
            refine TriOps.q (.loadA rfl) ?_
            refine TriOps.gT g11_12 ?_
            refine TriOps.callR (tplain_spec _ Tok.zero _ (TokR.zero (fun _ _ => False))) (fun v hv => ?_)
            subst hv
            refine TriOps.gT g11_12 ?_
            refine TriOps.q .bld ?_
            refine TriOps.gT g11_12 ?_
            refine TriOps.callR (sameT_spec _ _ Tok.zero Tok.zero _ (TokR.zero _) (TokR.zero _)) (fun v hv => ?_)
            rw [sameT_self] at hv
            subst hv
            refine TriOps.gT g11_12 ?_
            refine TriOps.q .not ?_
            refine TriOps.q (.pickFh g11_12) ?_
            refine TriOps.q .move ?_
            refine TriOps.split (t := 66) rfl (fun g11_19 => ?_) (fun g11_19 => ?_)
            · skip
              simp at g11_19
            · skip
              refine TriOps.gT g11_19 ?_
              refine TriOps.q .move ?_
              refine TriOps.gT g11_19 ?_
              refine TriOps.q (.fieldAddr rfl) ?_
              refine TriOps.gT g11_19 ?_
              refine TriOps.q (.loadT rfl) ?_
              refine TriOps.gT g11_19 ?_
              refine TriOps.callN (tmine_spec d.w d.t _ (ht.mono fun b o hb => .inl hb)) (fun v T1 hv => ?_)
              obtain ⟨w1, rfl, hc1⟩ := hv
              refine TriOps.gT g11_19 ?_
              refine TriOps.callR (vdPut_spec p w1 d.t.short hc1.oneCell _ (hd _ _ (by simp))) (fun v hv => ?_)
              subst hv
              refine TriOps.gT g11_19 ?_
              refine TriOps.q .neI ?_
              refine TriOps.q (.pickFh g11_19) ?_
              refine TriOps.q .move ?_
              refine TriOps.split (t := 74) rfl (fun g11_27 => ?_) (fun g11_27 => ?_)
              · skip
                simp at g11_27
              · skip
                refine TriOps.gT g11_27 ?_
                refine TriOps.q .move ?_
                refine TriOps.gT g11_27 ?_
                refine TriOps.q (.fieldAddr rfl) ?_
                refine TriOps.gT g11_27 ?_
                refine TriOps.q (.load1 rfl) ?_
                refine TriOps.gT g11_27 ?_
                refine TriOps.q (.fieldAddr rfl) ?_
                refine TriOps.gT g11_27 ?_
                refine TriOps.q (.load1 rfl) ?_
                refine TriOps.gT g11_27 ?_
                refine TriOps.callR (vdRevoke_spec p d.text d.client _ (hd _ _ (by simp))) (fun v hv => ?_)
                subst hv
                refine TriOps.gT g11_27 ?_
                refine TriOps.q .neI ?_
                refine TriOps.q (.pickFh g11_27) ?_
                refine TriOps.q .move ?_
                refine TriOps.split (t := 83) rfl (fun g11_36 => ?_) (fun g11_36 => ?_)
                · skip
                  simp at g11_36
                · skip
                  refine TriOps.gT g11_36 ?_
                  refine TriOps.q .move ?_
                  refine TriOps.gT g11_36 ?_
                  refine TriOps.q (.fieldAddr rfl) ?_
                  refine TriOps.gT g11_36 ?_
                  refine TriOps.q (.load1 rfl) ?_
                  refine TriOps.gT g11_36 ?_
                  refine TriOps.callR (vdCut_spec p d.family _ (hd _ _ (by simp))) (fun v hv => ?_)
                  subst hv
                  refine TriOps.gT g11_36 ?_
                  refine TriOps.q .move ?_
                  refine TriOps.gT g11_36 ?_
                  refine TriOps.callR (vdFamily_spec p _ (hd _ _ (by simp))) (fun v hv => ?_)
                  subst hv
                  refine TriOps.gT g11_36 ?_
                  refine TriOps.q (.i64 0 .add ⟨by omega, by omega, by omega⟩) ?_
                  refine TriOps.gT g11_36 ?_
                  refine TriOps.q .move ?_
                  refine TriOps.gT g11_36 ?_
                  refine TriOps.callR (vdLast_spec p _ (hd _ _ (by simp))) (fun v hv => ?_)
                  subst hv
                  refine TriOps.gT g11_36 ?_
                  refine TriOps.q (.i64 0 .add ⟨by omega, by omega, by omega⟩) ?_
                  refine TriOps.gT g11_36 ?_
                  refine TriOps.q .move ?_
                  refine TriOps.gT g11_36 ?_
                  refine TriOps.callR (vdList_spec p _ (hd _ _ (by simp))) (fun v hv => ?_)
                  subst hv
                  refine TriOps.gT g11_36 ?_
                  refine TriOps.q (.lenV rfl) ?_
                  refine TriOps.gT g11_36 ?_
                  refine TriOps.q (.i64 0 .add ⟨by omega, by omega, by omega⟩) ?_
                  refine TriOps.gT g11_36 ?_
                  refine TriOps.q .neI ?_
                  refine TriOps.q (.pickFh g11_36) ?_
                  refine .nil ?_
                  refine seqQ_n ?_
                  refine .cond rfl (fun h3 => ?_) (fun h3 => ?_)
                  · skip
                    simp at h3
                  · skip
                    refine .skip ?_
                    refine blkQ_n (seqQ_n ?_)
                    refine .region ?_
                    refine TriOps.q .move ?_
                    refine TriOps.q (.inc (n := k) (by omega)) ?_
                    refine TriOps.q .assign ?_
                    refine .nil ?_
                    exact loopQ_i (k + 1) (by simp at h1; omega) (by simp at h1; omega) (((EnvLe.nil _).cons rfl).cons rfl) (HLe.pick [4] _)
  · skip
    refine .exit (seqQ_x (loopQ_x (blkQ_x ?_)))
    refine seqQ_n ?_
    refine .seq ?_
    refine .region ?_
    refine TriOps.callR (tlives_spec _) (fun v3 hv => ?_)
    subst hv
    refine TriOps.q .assign ?_
    refine .nil ?_
    refine seqQ_n ?_
    refine .ret (retQ_r _ (.one (.tmp rfl)) (.none _) ?_)
    exact ⟨rfl, rfl⟩
end Go.Proofs.Ytkepgbimlolemaa
