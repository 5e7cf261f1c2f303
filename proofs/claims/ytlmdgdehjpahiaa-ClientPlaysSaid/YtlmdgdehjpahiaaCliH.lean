/- A registry that no call made; ClientNobody's walk. No condition. -/
import Derived.Test.YtlmdgdehjpahiaaCliE
import Derived.Test.YtlmdgdehjpahiaaSame
set_option linter.unusedVariables false
set_option maxRecDepth 4000
namespace Go.Proofs.Ytlmdgdehjpahiaa

def sameC (c d : Cli) : Bool := decide (c.id = d.id) && decide (c.secret = d.secret) && decide (c.uris = d.uris) && decide (c.scopes = d.scopes)
theorem sameC_spec (r s : CR) (c d : Cli) (R : Rds) (h : CliR R r c) (h' : CliR R s d) : Spec Try.prog 51 [.agg r.cells.toArray, .agg s.cells.toArray] R [] fun v H' => v = .bool (sameC c d) ∧ H' = [] := by
  obtain ⟨rid, rsec, vu, vs⟩ := r
  obtain ⟨e1, e2, hu, hs⟩ := h
  simp only at e1 e2 hu hs
  subst e1; subst e2
  obtain ⟨sid, ssec, wu, ws⟩ := s
  obtain ⟨e1, e2, ku, ks⟩ := h'
  simp only at e1 e2 ku ks
  subst e1; subst e2
  refine Spec.body Try.func51 rfl Try.results51 Try.ntmps51 rfl ?_
  refine .seq ?_
  refine .region ?_
  refine TriOps.boxA rfl (fun b2 => ?_)
  refine TriOps.boxA rfl (fun b3 => ?_)
  refine TriOps.q .assign ?_
  refine .nil ?_
  refine seqQ_n ?_
  refine .seq ?_
  refine .region ?_
  refine TriOps.q (.fieldAddr rfl) ?_
  refine TriOps.q (.load1 rfl) ?_
  refine TriOps.q (.fieldAddr rfl) ?_
  refine TriOps.q (.load1 rfl) ?_
  refine TriOps.q .eqS ?_
  refine TriOps.q .move ?_
  refine TriOps.split (t := 10) rfl (fun g1_5 => ?_) (fun g1_5 => ?_)
  · skip
    refine TriOps.gT g1_5 ?_
    refine TriOps.q (.fieldAddr rfl) ?_
    refine TriOps.gT g1_5 ?_
    refine TriOps.q (.load1 rfl) ?_
    refine TriOps.gT g1_5 ?_
    refine TriOps.q (.fieldAddr rfl) ?_
    refine TriOps.gT g1_5 ?_
    refine TriOps.q (.load1 rfl) ?_
    refine TriOps.gT g1_5 ?_
    refine TriOps.q .eqS ?_
    refine TriOps.q (.pickTh g1_5) ?_
    refine TriOps.q .move ?_
    refine TriOps.split (t := 17) rfl (fun g1_12 => ?_) (fun g1_12 => ?_)
    · skip
      refine TriOps.gT g1_12 ?_
      refine TriOps.q (.fieldAddr rfl) ?_
      refine TriOps.gT g1_12 ?_
      refine TriOps.q (.load1 rfl) ?_
      refine TriOps.gT g1_12 ?_
      refine TriOps.q (.fieldAddr rfl) ?_
      refine TriOps.gT g1_12 ?_
      refine TriOps.q (.load1 rfl) ?_
      refine TriOps.gT g1_12 ?_
      refine TriOps.callR (sameTexts_spec vu wu _ _ _ hu.rx ku.rx) (fun v hv => ?_)
      subst hv
      refine TriOps.q (.pickTh g1_12) ?_
      refine TriOps.q .move ?_
      refine TriOps.split (t := 24) rfl (fun g1_19 => ?_) (fun g1_19 => ?_)
      · skip
        refine TriOps.gT g1_19 ?_
        refine TriOps.q (.fieldAddr rfl) ?_
        refine TriOps.gT g1_19 ?_
        refine TriOps.q (.load1 rfl) ?_
        refine TriOps.gT g1_19 ?_
        refine TriOps.q (.fieldAddr rfl) ?_
        refine TriOps.gT g1_19 ?_
        refine TriOps.q (.load1 rfl) ?_
        refine TriOps.gT g1_19 ?_
        refine TriOps.callR (sameTexts_spec vs ws _ _ _ hs.rx ks.rx) (fun v hv => ?_)
        subst hv
        refine TriOps.q (.pickTh g1_19) ?_
        refine TriOps.q .assign ?_
        refine .nil ?_
        refine seqQ_n ?_
        refine .ret (retQ_r _ (.one (.tmp rfl)) (.none _) ?_)
        exact ⟨by unfold sameC; simp_all, rfl⟩
      · skip
        refine TriOps.gF g1_19 ?_
        refine TriOps.gF g1_19 ?_
        refine TriOps.gF g1_19 ?_
        refine TriOps.gF g1_19 ?_
        refine TriOps.gF g1_19 ?_
        refine TriOps.q (.pickFh g1_19) ?_
        refine TriOps.q .assign ?_
        refine .nil ?_
        refine seqQ_n ?_
        refine .ret (retQ_r _ (.one (.tmp rfl)) (.none _) ?_)
        exact ⟨by unfold sameC; simp_all, rfl⟩
    · skip
      refine TriOps.gF g1_12 ?_
      refine TriOps.gF g1_12 ?_
      refine TriOps.gF g1_12 ?_
      refine TriOps.gF g1_12 ?_
      refine TriOps.gF g1_12 ?_
      refine TriOps.q (.pickFh g1_12) ?_
      refine TriOps.q .move ?_
      refine TriOps.gf rfl rfl ?_
      refine TriOps.gf rfl rfl ?_
      refine TriOps.gf rfl rfl ?_
      refine TriOps.gf rfl rfl ?_
      refine TriOps.gf rfl rfl ?_
      refine TriOps.q .pickF ?_
      refine TriOps.q .assign ?_
      refine .nil ?_
      refine seqQ_n ?_
      refine .ret (retQ_r _ (.one (.tmp rfl)) (.none _) ?_)
      exact ⟨by unfold sameC; simp_all, rfl⟩
  · skip
    refine TriOps.gF g1_5 ?_
    refine TriOps.gF g1_5 ?_
    refine TriOps.gF g1_5 ?_
    refine TriOps.gF g1_5 ?_
    refine TriOps.gF g1_5 ?_
    refine TriOps.q (.pickFh g1_5) ?_
    refine TriOps.q .move ?_
    refine TriOps.gf rfl rfl ?_
    refine TriOps.gf rfl rfl ?_
    refine TriOps.gf rfl rfl ?_
    refine TriOps.gf rfl rfl ?_
    refine TriOps.gf rfl rfl ?_
    refine TriOps.q .pickF ?_
    refine TriOps.q .move ?_
    refine TriOps.gf rfl rfl ?_
    refine TriOps.gf rfl rfl ?_
    refine TriOps.gf rfl rfl ?_
    refine TriOps.gf rfl rfl ?_
    refine TriOps.gf rfl rfl ?_
    refine TriOps.q .pickF ?_
    refine TriOps.q .assign ?_
    refine .nil ?_
    refine seqQ_n ?_
    refine .ret (retQ_r _ (.one (.tmp rfl)) (.none _) ?_)
    exact ⟨by unfold sameC; simp_all, rfl⟩
def DeadC (R : Rds) (p : Value) : Prop := p = .pointer none ∨ ∃ q, p = .pointer (some ⟨q, 0, none⟩) ∧ R q (.cells [.map none].toArray 107 (0, 0))
theorem DeadC.rx {R : Rds} {H : Segs} {p : Value} (h : DeadC R p) : DeadC (Rx R H) p := h.imp id fun ⟨q, h1, h2⟩ => ⟨q, h1, .inl h2⟩
theorem cdok_nil (R : Rds) : Spec Try.prog 79 [.pointer none] R [] fun v H' => v = .bool false ∧ H' = [] := by
  refine Spec.body Try.func79 rfl Try.results79 Try.ntmps79 rfl ?_
  refine .seq ?_
  refine .region ?_
  refine TriOps.q .assign ?_
  refine .nil ?_
  refine seqQ_n ?_
  refine .seq ?_
  refine .region ?_
  refine TriOps.q .move ?_
  refine TriOps.q (.neNilA rfl rfl) ?_
  refine TriOps.q .move ?_
  refine TriOps.gf rfl rfl ?_
  refine TriOps.gf rfl rfl ?_
  refine TriOps.gf rfl rfl ?_
  refine TriOps.gf rfl rfl ?_
  refine TriOps.gf rfl rfl ?_
  refine TriOps.q .pickF ?_
  refine TriOps.q .assign ?_
  refine .nil ?_
  refine seqQ_n ?_
  refine .ret (retQ_r _ (.one (.tmp rfl)) (.none _) ?_)
  exact ⟨rfl, rfl⟩
theorem cdok_zero (q : Nat) (R : Rds) [pc : PC R (.pointer (some ⟨q, 0, none⟩)) [.map none]] : Spec Try.prog 79 [.pointer (some ⟨q, 0, none⟩)] R [] fun v H' => v = .bool false ∧ H' = [] := by
  refine Spec.body Try.func79 rfl Try.results79 Try.ntmps79 rfl ?_
  refine .seq ?_
  refine .region ?_
  refine TriOps.q .assign ?_
  refine .nil ?_
  refine seqQ_n ?_
  refine .seq ?_
  refine .region ?_
  refine TriOps.q .move ?_
  refine TriOps.q (.neNilP rfl rfl) ?_
  refine TriOps.q .move ?_
  refine TriOps.gt rfl ?_
  refine TriOps.q .move ?_
  refine TriOps.gt rfl ?_
  refine TriOps.q (.nilCheck rfl) ?_
  refine TriOps.gt rfl ?_
  refine TriOps.q (.fieldAddr rfl) ?_
  refine TriOps.gt rfl ?_
  refine TriOps.q (.load1 rfl) ?_
  refine TriOps.gt rfl ?_
  refine TriOps.q (.neNilM rfl rfl) ?_
  refine TriOps.q .pickT ?_
  refine TriOps.q .assign ?_
  refine .nil ?_
  refine seqQ_n ?_
  refine .ret (retQ_r _ (.one (.tmp rfl)) (.none _) ?_)
  exact ⟨rfl, rfl⟩
theorem cdok_spec (p : Value) (R : Rds) (h : DeadC R p) : Spec Try.prog 79 [p] R [] fun v H' => v = .bool false ∧ H' = [] := by
  rcases h with rfl | ⟨q, rfl, hq⟩
  · exact cdok_nil R
  · have pc := PC.of hq
    exact cdok_zero q R
theorem cdadd_spec (p : Value) (r : CR) (hr : Ones r.cells) (R : Rds) (h : DeadC R p) : Spec Try.prog 24 [p, .agg r.cells.toArray] R [] fun v H' => v = .int .i64 1 ∧ H' = [] := by
  refine Spec.body Try.func24 rfl Try.results24 Try.ntmps24 rfl ?_
  refine .seq ?_
  refine .region ?_
  refine TriOps.boxA rfl (fun b3 => ?_)
  refine TriOps.q .assign ?_
  refine .nil ?_
  refine seqQ_n ?_
  refine .seq ?_
  refine .seq ?_
  refine .region ?_
  refine TriOps.q .move ?_
  refine TriOps.callR (cdok_spec p _ h.rx) (fun v hv => ?_)
  subst hv
  refine TriOps.q .not ?_
  refine .nil ?_
  refine seqQ_n ?_
  refine .condT ?_
  refine .seq ?_
  refine .region ?_
  refine TriOps.q .assign ?_
  refine .nil ?_
  refine seqQ_n ?_
  refine .ret (seqQ_r (retQ_r _ (.one (.tmp rfl)) (.none _) ?_))
  exact ⟨rfl, rfl⟩
theorem cdremove_spec (p : Value) (id : ByteArray) (R : Rds) (h : DeadC R p) : Spec Try.prog 26 [p, .string id] R [] fun v H' => v = .int .i64 1 ∧ H' = [] := by
  refine Spec.body Try.func26 rfl Try.results26 Try.ntmps26 rfl ?_
  refine .seq ?_
  refine .region ?_
  refine TriOps.q .assign ?_
  refine .nil ?_
  refine seqQ_n ?_
  refine .seq ?_
  refine .seq ?_
  refine .region ?_
  refine TriOps.q .move ?_
  refine TriOps.callR (cdok_spec p _ h.rx) (fun v hv => ?_)
  subst hv
  refine TriOps.q .not ?_
  refine .nil ?_
  refine seqQ_n ?_
  refine .condT ?_
  refine .seq ?_
  refine .region ?_
  refine TriOps.q .assign ?_
  refine .nil ?_
  refine seqQ_n ?_
  refine .ret (seqQ_r (retQ_r _ (.one (.tmp rfl)) (.none _) ?_))
  exact ⟨rfl, rfl⟩
theorem cdlist_spec (p : Value) (R : Rds) (h : DeadC R p) : Spec Try.prog 46 [p] R [] fun v H' => v = .slice none 0 0 ∧ H' = [] := by
  refine Spec.body Try.func46 rfl Try.results46 Try.ntmps46 rfl ?_
  refine .seq ?_
  refine .region ?_
  refine TriOps.q .assign ?_
  refine .nil ?_
  refine seqQ_n ?_
  refine .seq ?_
  refine .seq ?_
  refine .region ?_
  refine TriOps.q .move ?_
  refine TriOps.callR (cdok_spec p _ h.rx) (fun v hv => ?_)
  subst hv
  refine TriOps.q .not ?_
  refine .nil ?_
  refine seqQ_n ?_
  refine .condT ?_
  refine .seq ?_
  refine .region ?_
  refine TriOps.q .assign ?_
  refine .nil ?_
  refine seqQ_n ?_
  refine .ret (seqQ_r (retQ_r _ (.one (.tmp rfl)) (.none _) ?_))
  exact ⟨rfl, rfl⟩
theorem cdget_spec (p : Value) (id : ByteArray) (R : Rds) (h : DeadC R p) : Spec Try.prog 49 [p, .string id] R [] fun v H' => v = .tuple [.agg CR.zero.cells.toArray, .bool false].toArray ∧ H' = [] := by
  refine Spec.body Try.func49 rfl Try.results49 Try.ntmps49 rfl ?_
  refine .seq ?_
  refine .region ?_
  refine TriOps.allocA (fun b4 => ?_)
  refine TriOps.q .assign ?_
  refine .nil ?_
  refine seqQ_n ?_
  refine .seq ?_
  refine .seq ?_
  refine .region ?_
  refine TriOps.q .move ?_
  refine TriOps.callR (cdok_spec p _ h.rx) (fun v hv => ?_)
  subst hv
  refine TriOps.q .not ?_
  refine .nil ?_
  refine seqQ_n ?_
  refine .condT ?_
  refine .seq ?_
  refine .region ?_
  refine TriOps.q .bld ?_
  refine TriOps.storeA rfl rfl ?_
  refine TriOps.q .assign ?_
  refine .nil ?_
  refine seqQ_n ?_
  refine .ret (seqQ_r (retQ_r _ (.two (.cellA rfl rfl) (.tmp rfl)) (.none _) ?_))
  exact ⟨rfl, rfl⟩
theorem cdauth_spec (p : Value) (id s : ByteArray) (R : Rds) (h : DeadC R p) : Spec Try.prog 25 [p, .string id, .string s] R [] fun v H' => v = .int .i64 17 ∧ H' = [] := by
  have i1 : Ones CR.zero.cells := ⟨(CliR.zero (fun _ _ => False)).ones⟩
  refine Spec.body Try.func25 rfl Try.results25 Try.ntmps25 rfl ?_
  refine .seq ?_
  refine .region ?_
  refine TriOps.q .assign ?_
  refine .nil ?_
  refine seqQ_n ?_
  refine .seq ?_
  refine .region ?_
  refine TriOps.q .move ?_
  refine TriOps.q .move ?_
  refine TriOps.callR (cdget_spec p id _ h.rx) (fun v hv => ?_)
  subst hv
  refine TriOps.q .move ?_
  refine TriOps.q .extract ?_
  refine TriOps.q .extract ?_
  refine TriOps.allocA (fun b7 => ?_)
  refine TriOps.storeA rfl rfl ?_
  refine TriOps.q .assign ?_
  refine .nil ?_
  refine seqQ_n ?_
  refine .seq ?_
  refine .seq ?_
  refine .region ?_
  refine TriOps.q .move ?_
  refine TriOps.q .not ?_
  refine TriOps.q .move ?_
  refine TriOps.split (t := 17) rfl (fun g2_2 => ?_) (fun g2_2 => ?_)
  · skip
    refine TriOps.gF g2_2 ?_
    refine TriOps.gF g2_2 ?_
    refine TriOps.gF g2_2 ?_
    refine TriOps.gF g2_2 ?_
    refine TriOps.q (.pickTh g2_2) ?_
    refine .nil ?_
    refine seqQ_n ?_
    refine .condT ?_
    refine .seq ?_
    refine .region ?_
    refine TriOps.q .assign ?_
    refine .nil ?_
    refine seqQ_n ?_
    refine .ret (seqQ_r (retQ_r _ (.one (.tmp rfl)) (.none _) ?_))
    exact ⟨rfl, rfl⟩
  · skip
    simp at g2_2
theorem cdredirect_spec (p : Value) (id s : ByteArray) (R : Rds) (h : DeadC R p) : Spec Try.prog 53 [p, .string id, .string s] R [] fun v H' => v = .bool false ∧ H' = [] := by
  have i1 : Ones CR.zero.cells := ⟨(CliR.zero (fun _ _ => False)).ones⟩
  refine Spec.body Try.func53 rfl Try.results53 Try.ntmps53 rfl ?_
  refine .seq ?_
  refine .region ?_
  refine TriOps.q .assign ?_
  refine .nil ?_
  refine seqQ_n ?_
  refine .seq ?_
  refine .region ?_
  refine TriOps.q .move ?_
  refine TriOps.q .move ?_
  refine TriOps.callR (cdget_spec p id _ h.rx) (fun v hv => ?_)
  subst hv
  refine TriOps.q .move ?_
  refine TriOps.q .extract ?_
  refine TriOps.q .extract ?_
  refine TriOps.allocA (fun b7 => ?_)
  refine TriOps.storeA rfl rfl ?_
  refine TriOps.q .assign ?_
  refine .nil ?_
  refine seqQ_n ?_
  refine .seq ?_
  refine .region ?_
  refine TriOps.q .move ?_
  refine TriOps.q .move ?_
  refine TriOps.split (t := 16) rfl (fun g2_1 => ?_) (fun g2_1 => ?_)
  · skip
    simp at g2_1
  · skip
    refine TriOps.gF g2_1 ?_
    refine TriOps.gF g2_1 ?_
    refine TriOps.gF g2_1 ?_
    refine TriOps.gF g2_1 ?_
    refine TriOps.q (.pickFh g2_1) ?_
    refine TriOps.q .assign ?_
    refine .nil ?_
    refine seqQ_n ?_
    refine .ret (retQ_r _ (.one (.tmp rfl)) (.none _) ?_)
    exact ⟨rfl, rfl⟩
theorem cdasks_spec (p : Value) (id : ByteArray) (w : Value) (hw : One w) (R : Rds) (h : DeadC R p) : Spec Try.prog 55 [p, .string id, w] R [] fun v H' => v = .bool false ∧ H' = [] := by
  have i1 : Ones CR.zero.cells := ⟨(CliR.zero (fun _ _ => False)).ones⟩
  refine Spec.body Try.func55 rfl Try.results55 Try.ntmps55 rfl ?_
  refine .seq ?_
  refine .region ?_
  refine TriOps.q .assign ?_
  refine .nil ?_
  refine seqQ_n ?_
  refine .seq ?_
  refine .region ?_
  refine TriOps.q .move ?_
  refine TriOps.q .move ?_
  refine TriOps.callR (cdget_spec p id _ h.rx) (fun v hv => ?_)
  subst hv
  refine TriOps.q .move ?_
  refine TriOps.q .extract ?_
  refine TriOps.q .extract ?_
  refine TriOps.allocA (fun b7 => ?_)
  refine TriOps.storeA rfl rfl ?_
  refine TriOps.q .assign ?_
  refine .nil ?_
  refine seqQ_n ?_
  refine .seq ?_
  refine .region ?_
  refine TriOps.q .move ?_
  refine TriOps.q .move ?_
  refine TriOps.split (t := 16) rfl (fun g2_1 => ?_) (fun g2_1 => ?_)
  · skip
    simp at g2_1
  · skip
    refine TriOps.gF g2_1 ?_
    refine TriOps.gF g2_1 ?_
    refine TriOps.gF g2_1 ?_
    refine TriOps.q (.pickFh g2_1) ?_
    refine TriOps.q .move ?_
    refine TriOps.gf rfl rfl ?_
    refine TriOps.gf rfl rfl ?_
    refine TriOps.q .pickF ?_
    refine TriOps.q .move ?_
    refine TriOps.gf rfl rfl ?_
    refine TriOps.gf rfl rfl ?_
    refine TriOps.gf rfl rfl ?_
    refine TriOps.q .pickF ?_
    refine TriOps.q .assign ?_
    refine .nil ?_
    refine seqQ_n ?_
    refine .ret (retQ_r _ (.one (.tmp rfl)) (.none _) ?_)
    exact ⟨rfl, rfl⟩
theorem cnobody_spec (id : ByteArray) (R : Rds) : Spec Try.prog 12 [.string id] R [] fun v H' => v = .bool true ∧ H' = [] := by
  have i1 : Ones CR.zero.cells := ⟨(CliR.zero (fun _ _ => False)).ones⟩
  refine Spec.body Try.func12 rfl Try.results12 Try.ntmps12 rfl ?_
  refine .seq ?_
  refine .region ?_
  refine TriOps.q .assign ?_
  refine .nil ?_
  refine seqQ_n ?_
  refine .seq ?_
  refine .seq ?_
  refine .region ?_
  refine TriOps.q .assign ?_
  refine .nil ?_
  refine seqQ_n ?_
  refine .block ?_
  refine .loop (X := Nat) (fun k => k ≤ 2) (fun k => [(0, .string id), (3, .int .i64 (k : Nat))]) (fun _ => []) (fun k => 2 - k) 0 (by omega) (((EnvLe.nil _).cons rfl).cons rfl) (HLe.refl _) ?_
  intro k hk
  refine .seq ?_
  refine .seq ?_
  refine .region ?_
  refine TriOps.q .move ?_
  refine TriOps.q .lss ?_
  refine .nil ?_
  refine seqQ_n ?_
  refine .cond rfl (fun h1 => ?_) (fun h1 => ?_)
  · skip
    refine .skip ?_
    refine seqQ_n ?_
    refine .seq ?_
    refine .block ?_
    refine .seq ?_
    refine .region ?_
    refine TriOps.q .assign ?_
    refine .nil ?_
    refine seqQ_n ?_
    refine .seq ?_
    refine Tri.cut (X := Value × Seg) (fun y => One y.1 ∧ ∀ R', DeadC (Rx R' [y.2]) y.1) (fun y => [(0, .string id), (3, .int .i64 (k : Nat)), (4, y.1)]) (fun y => [y.2]) ?_ ?_
    · refine .seq ?_
      refine .region ?_
      refine TriOps.q .move ?_
      refine TriOps.q .eqI ?_
      refine .nil ?_
      refine seqQ_n ?_
      refine .cond rfl (fun h2 => ?_) (fun h2 => ?_)
      · skip
        refine .region ?_
        refine TriOps.q .bld ?_
        refine TriOps.boxA rfl (fun b14 => ?_)
        refine TriOps.q .assign ?_
        refine .nil ?_
        first
          | exact joinQ_n (.pointer (some ⟨b14, 0, none⟩), [(b14, .cells [.map none].toArray 107 (0, 0))]) ⟨⟨rfl⟩, fun R' => .inr ⟨b14, rfl, .inr (by simp)⟩⟩ ((((EnvLe.nil _).cons rfl).cons rfl).cons rfl) (HLe.refl _)
          | exact joinQ_n (.pointer none, []) ⟨⟨rfl⟩, fun R' => .inl rfl⟩ ((((EnvLe.nil _).cons rfl).cons rfl).cons rfl) (HLe.ofPerm (by simp))
      · skip
        refine .skip ?_
        first
          | exact joinQ_n (.pointer (some ⟨b14, 0, none⟩), [(b14, .cells [.map none].toArray 107 (0, 0))]) ⟨⟨rfl⟩, fun R' => .inr ⟨b14, rfl, .inr (by simp)⟩⟩ ((((EnvLe.nil _).cons rfl).cons rfl).cons rfl) (HLe.refl _)
          | exact joinQ_n (.pointer none, []) ⟨⟨rfl⟩, fun R' => .inl rfl⟩ ((((EnvLe.nil _).cons rfl).cons rfl).cons rfl) (HLe.ofPerm (by simp))
    · intro y hy
      obtain ⟨p, T⟩ := y
      obtain ⟨i2, hd⟩ := hy
      simp only at i2 hd ⊢
      have hd' : ∀ R' H', DeadC (Rx R' (H' ++ [T])) p := fun R' H' => by
        rcases hd R' with h | ⟨q, h1, h2⟩
        · exact .inl h
        · refine .inr ⟨q, h1, ?_⟩
          rcases h2 with h2 | h2
          · exact .inl h2
          · exact .inr (by simp at h2 ⊢; exact .inr h2)
      refine seqQ_n ?_
      refine .seq ?_
      refine .region ?_
      refine TriOps.q .move ?_
      refine TriOps.q .move ?_
      refine TriOps.callR (cdget_spec p id _ (hd _)) (fun v hv => ?_)
      subst hv
      refine TriOps.q .move ?_
      refine TriOps.q .extract ?_
      refine TriOps.q .extract ?_
      refine TriOps.allocA (fun b5 => ?_)
      refine TriOps.storeA rfl rfl ?_
      refine TriOps.q .assign ?_
      refine .nil ?_
      refine seqQ_n ?_
      refine .seq ?_
      refine .region ?_
      refine TriOps.q .move ?_
      refine TriOps.callN (one_spec _) (fun v T1 hv => ?_)
      obtain ⟨r, rfl, hc⟩ := hv
      refine TriOps.callR (cdadd_spec p r ⟨hc.ones⟩ _ (hd' _ [T1, _])) (fun v hv => ?_)
      subst hv
      refine TriOps.q .neI ?_
      refine TriOps.q .move ?_
      refine TriOps.split (t := 25) rfl (fun g8_4 => ?_) (fun g8_4 => ?_)
      · skip
        simp at g8_4
      · skip
        refine TriOps.gT g8_4 ?_
        refine TriOps.q .move ?_
        refine TriOps.gT g8_4 ?_
        refine TriOps.q .move ?_
        refine TriOps.gT g8_4 ?_
        refine TriOps.callR (cdremove_spec p id _ (hd' _ [T1, _])) (fun v hv => ?_)
        subst hv
        refine TriOps.gT g8_4 ?_
        refine TriOps.q .neI ?_
        refine TriOps.q (.pickFh g8_4) ?_
        refine TriOps.q .move ?_
        refine TriOps.split (t := 31) rfl (fun g8_10 => ?_) (fun g8_10 => ?_)
        · skip
          simp at g8_10
        · skip
          refine TriOps.gT g8_10 ?_
          refine TriOps.q .move ?_
          refine TriOps.q (.pickFh g8_10) ?_
          refine TriOps.q .move ?_
          refine TriOps.split (t := 34) rfl (fun g8_13 => ?_) (fun g8_13 => ?_)
          · skip
            simp at g8_13
          · skip
            refine TriOps.gT g8_13 ?_
            refine TriOps.q (.loadA rfl) ?_
            refine TriOps.gT g8_13 ?_
            refine TriOps.q .bld ?_
            refine TriOps.gT g8_13 ?_
            refine TriOps.callR (sameC_spec CR.zero CR.zero Cli.zero Cli.zero _ (CliR.zero _) (CliR.zero _)) (fun v hv => ?_)
            subst hv
            refine TriOps.gT g8_13 ?_
            refine TriOps.q .not ?_
            refine TriOps.q (.pickFh g8_13) ?_
            refine TriOps.q .move ?_
            refine TriOps.split (t := 40) rfl (fun g8_19 => ?_) (fun g8_19 => ?_)
            · skip
              exact absurd g8_19 (by decide)
            · skip
              refine TriOps.gT g8_19 ?_
              refine TriOps.q .move ?_
              refine TriOps.gT g8_19 ?_
              refine TriOps.callR (cdlist_spec p _ (hd' _ [T1, _])) (fun v hv => ?_)
              subst hv
              refine TriOps.gT g8_19 ?_
              refine TriOps.q (.lenV rfl) ?_
              refine TriOps.gT g8_19 ?_
              refine TriOps.q .gtr ?_
              refine TriOps.q (.pickFh g8_19) ?_
              refine TriOps.q .move ?_
              refine TriOps.split (t := 46) rfl (fun g8_25 => ?_) (fun g8_25 => ?_)
              · skip
                simp at g8_25
              · skip
                refine TriOps.gT g8_25 ?_
                refine TriOps.q .move ?_
                refine TriOps.gT g8_25 ?_
                refine TriOps.q .move ?_
                refine TriOps.gT g8_25 ?_
                refine TriOps.callR (cdauth_spec p id _ _ (hd' _ [T1, _])) (fun v hv => ?_)
                subst hv
                refine TriOps.gT g8_25 ?_
                refine TriOps.q .neI ?_
                refine TriOps.q (.pickFh g8_25) ?_
                refine TriOps.q .move ?_
                refine TriOps.split (t := 52) rfl (fun g8_31 => ?_) (fun g8_31 => ?_)
                · skip
                  simp at g8_31
                · skip
                  refine TriOps.gT g8_31 ?_
                  refine TriOps.q .move ?_
                  refine TriOps.gT g8_31 ?_
                  refine TriOps.q .move ?_
                  refine TriOps.gT g8_31 ?_
                  refine TriOps.callR (cdredirect_spec p id _ _ (hd' _ [T1, _])) (fun v hv => ?_)
                  subst hv
                  refine TriOps.q (.pickFh g8_31) ?_
                  refine TriOps.q .move ?_
                  refine TriOps.split (t := 57) rfl (fun g8_36 => ?_) (fun g8_36 => ?_)
                  · skip
                    simp at g8_36
                  · skip
                    refine TriOps.gT g8_36 ?_
                    refine TriOps.q .move ?_
                    refine TriOps.gT g8_36 ?_
                    refine TriOps.q .move ?_
                    refine TriOps.gT g8_36 ?_
                    refine TriOps.callR (cdasks_spec p id _ ⟨rfl⟩ _ (hd' _ [T1, _])) (fun v hv => ?_)
                    subst hv
                    refine TriOps.q (.pickFh g8_36) ?_
                    refine .nil ?_
                    refine seqQ_n ?_
                    refine .cond rfl (fun h3 => ?_) (fun h3 => ?_)
                    · skip
                      simp at h3
                    · skip
                      refine .skip ?_
                      refine blkQ_n (seqQ_n ?_)
                      refine .region ?_
                      refine TriOps.q .move ?_
                      refine TriOps.q (.inc (n := k) (by omega)) ?_
                      refine TriOps.q .assign ?_
                      refine .nil ?_
                      exact loopQ_i (k + 1) (by simp at h1; omega) (by simp at h1; omega) (((EnvLe.nil _).cons rfl).cons rfl) (HLe.none _)
  · skip
    refine .exit (seqQ_x (loopQ_x (blkQ_x ?_)))
    refine seqQ_n ?_
    refine .seq ?_
    refine .region ?_
    refine TriOps.callR (clives_spec _) (fun v3 hv => ?_)
    subst hv
    refine TriOps.q .assign ?_
    refine .nil ?_
    refine seqQ_n ?_
    refine .ret (retQ_r _ (.one (.tmp rfl)) (.none _) ?_)
    exact ⟨rfl, rfl⟩
end Go.Proofs.Ytlmdgdehjpahiaa
