/- Clients: what a client may: Redirect, Asks. No condition. -/
import Derived.Test.YtlmdgdehjpahiaaCliK
set_option linter.unusedVariables false
set_option maxRecDepth 4000
namespace Go.Proofs.Ytlmdgdehjpahiaa

theorem call1C_spec (f : FuncId) (caps : List Value) [e : Ent Try.prog f] (q : ByteArray → Bool) (s : ByteArray) (b : Nat) (R : Rds) (hb : PC R (.pointer (some ⟨b, 0, none⟩)) [.func (.func f) #[] caps.toArray]) (hf : ∀ R', (∀ b o, R b o → R' b o) → Spec Try.prog f (.string s :: caps) R' [] fun u H' => u = .bool (q s) ∧ H' = []) :
    Spec Try.prog 110 [.string s, .pointer (some ⟨b, 0, none⟩)] R [] fun u H' => u = .bool (!q s) ∧ H' = [] := by
  refine Spec.body Try.func110 rfl Try.results110 Try.ntmps110 rfl ?_
  refine .seq ?_
  refine .region ?_
  refine TriOps.q .assign ?_
  refine .nil ?_
  refine seqQ_n ?_
  refine .seq ?_
  refine .region ?_
  refine TriOps.q (.load1 rfl) ?_
  refine TriOps.q .move ?_
  refine TriOps.callRV (first := []) (captured := caps) (vs := [.string s]) (hf _ fun b o hb => .inl hb) (fun u hu => ?_)
  subst hu
  refine TriOps.q .not ?_
  refine TriOps.q .assign ?_
  refine .nil ?_
  refine seqQ_n ?_
  refine .ret (retQ_r _ (.one (.tmp rfl)) (.none _) ?_)
  exact ⟨rfl, rfl⟩
theorem callC_spec (f : FuncId) (caps : List Value) [e : Ent Try.prog f] (hcap : One (.func (.func f) #[] caps.toArray)) (q : ByteArray → Bool) (v : Value) (l : List ByteArray) (R : Rds) (h : RS R 1 encS v l) (hf : ∀ s ∈ l, ∀ R', (∀ b o, R b o → R' b o) → Spec Try.prog f (.string s :: caps) R' [] fun u H' => u = .bool (q s) ∧ H' = []) :
    Spec Try.prog 71 [v, .func (.func f) #[] caps.toArray] R [] fun u H' => u = .bool (l.all q) ∧ H' = [] := by
  refine Spec.body Try.func71 rfl Try.results71 Try.ntmps71 rfl ?_
  refine .seq ?_
  refine .region ?_
  refine TriOps.box1 rfl (fun b3 => ?_)
  refine TriOps.q .assign ?_
  refine .nil ?_
  refine seqQ_n ?_
  refine .seq ?_
  refine .region ?_
  refine TriOps.q .move ?_
  refine TriOps.q .makeFunc ?_
  refine TriOps.callR (scontainsF_spec 110 [.pointer (some ⟨b3, 0, none⟩)] (fun s => !q s) v l _ h.rx fun s hs R' hR => call1C_spec f caps q s b3 R' (PC.of (E := 30) (fr := (0, 0)) (hR _ _ (.inr (by simp)))) (fun R2 h2 => hf s hs R2 fun b o hb => h2 b o (hR b o (.inl hb)))) (fun u hu => ?_)
  subst hu
  refine TriOps.q .not ?_
  refine TriOps.q .assign ?_
  refine .nil ?_
  refine seqQ_n ?_
  refine .ret (retQ_r _ (.one (.tmp rfl)) (.none _) ?_)
  exact ⟨by congr 1; rw [List.all_eq_not_any_not], rfl⟩
theorem asks1_spec (r : CR) (c : Cli) (b : Nat) (s : ByteArray) (R : Rds) (hc : CliR R r c) (hb : PC R (.pointer (some ⟨b, 0, none⟩)) r.cells) :
    Spec Try.prog 96 [.string s, .pointer (some ⟨b, 0, none⟩)] R [] fun u H' => u = .bool (decide (s ∈ c.scopes)) ∧ H' = [] := by
  obtain ⟨rid, rsec, vu, vs⟩ := r
  have hs := hc.s
  have io : Ones (CR.cells ⟨rid, rsec, vu, vs⟩) := ⟨hc.ones⟩
  have i1 := hc.u.oneCell
  have i2 := hs.oneCell
  refine Spec.body Try.func96 rfl Try.results96 Try.ntmps96 rfl ?_
  refine .seq ?_
  refine .region ?_
  refine TriOps.q .assign ?_
  refine .nil ?_
  refine seqQ_n ?_
  refine .seq ?_
  refine .region ?_
  refine TriOps.q (.fieldAddr rfl) ?_
  refine TriOps.q (.load1 rfl) ?_
  refine TriOps.q .move ?_
  refine TriOps.callR (scontains_spec vs c.scopes s _ hs.rx) (fun u hu => ?_)
  subst hu
  refine TriOps.q .assign ?_
  refine .nil ?_
  refine seqQ_n ?_
  refine .ret (retQ_r _ (.one (.tmp rfl)) (.none _) ?_)
  exact ⟨rfl, rfl⟩
def credi (id uri : ByteArray) (A : List Cli) : Bool := decide (uri ∈ ((cget id A).getD Cli.zero).uris)
def casks (id : ByteArray) (l : List ByteArray) (A : List Cli) : Bool := (cget id A).isSome && (decide (0 < l.length) && (decide l.Nodup && l.all fun s => decide (s ∈ ((cget id A).getD Cli.zero).scopes)))
theorem credirect_spec (g : Nat) (A : List Cli) (T : Seg) (h : RI g A T) (id uri : ByteArray) (R : Rds) (hr : ∀ p ∈ T, R p.1 p.2) :
    Spec Try.prog 53 [.pointer (some ⟨g, 0, none⟩), .string id, .string uri] R [] fun v H' => v = .bool (credi id uri A) ∧ H' = [] := by
  refine Spec.body Try.func53 rfl Try.results53 Try.ntmps53 rfl ?_
  refine .seq ?_
  refine .region ?_
  refine TriOps.q .assign ?_
  refine .nil ?_
  refine seqQ_n ?_
  refine .seq ?_
  refine .region ?_
  refine TriOps.q .move ?_
  refine TriOps.q .move ?_
  refine TriOps.callN (cget_spec g A T h id _ fun p hp => .inl (hr p hp)) (fun v T1 hv => ?_)
  obtain ⟨r1, rfl, hc1⟩ := hv
  have i1 : Ones r1.cells := ⟨hc1.ones⟩
  obtain ⟨rid, rsec, vu, vs⟩ := r1
  have hu := hc1.u
  have i2 := hu.oneCell
  have i3 := hc1.s.oneCell
  refine TriOps.q .move ?_
  refine TriOps.q .extract ?_
  refine TriOps.q .extract ?_
  refine TriOps.allocA (fun b7 => ?_)
  refine TriOps.storeA rfl rfl ?_
  refine TriOps.q .assign ?_
  refine .nil ?_
  refine seqQ_n ?_
  refine .seq ?_
  refine .region ?_
  refine TriOps.q .move ?_
  refine TriOps.q .move ?_
  refine TriOps.split (t := 16) rfl (fun g2_1 => ?_) (fun g2_1 => ?_)
  · skip
    refine TriOps.gT g2_1 ?_
    refine TriOps.q (.fieldAddr rfl) ?_
    refine TriOps.gT g2_1 ?_
    refine TriOps.q (.load1 rfl) ?_
    refine TriOps.gT g2_1 ?_
    refine TriOps.q .move ?_
    refine TriOps.gT g2_1 ?_
    refine TriOps.callR (scontains_spec vu _ uri _ (hu.mono fun b o hb => .inr (by have hb' : (b, o) ∈ T1 := hb; simp [hb']))) (fun u hu => ?_)
    subst hu
    refine TriOps.q (.pickTh g2_1) ?_
    refine TriOps.q .assign ?_
    refine .nil ?_
    refine seqQ_n ?_
    refine .ret (retQ_r _ (.one (.tmp rfl)) (.none _) ?_)
    exact ⟨rfl, rfl⟩
  · skip
    refine TriOps.gF g2_1 ?_
    refine TriOps.gF g2_1 ?_
    refine TriOps.gF g2_1 ?_
    refine TriOps.gF g2_1 ?_
    refine TriOps.q (.pickFh g2_1) ?_
    refine TriOps.q .assign ?_
    refine .nil ?_
    refine seqQ_n ?_
    refine .ret (retQ_r _ (.one (.tmp rfl)) (.none _) ?_)
    refine ⟨?_, rfl⟩
    have hn : cget id A = none := by simpa using g2_1
    simp [credi, hn, Cli.zero]
theorem casks_spec (g : Nat) (A : List Cli) (T : Seg) (h : RI g A T) (id : ByteArray) (w : Value) (l : List ByteArray) (R : Rds) (hr : ∀ p ∈ T, R p.1 p.2) (hw : RS R 1 encS w l) :
    Spec Try.prog 55 [.pointer (some ⟨g, 0, none⟩), .string id, w] R [] fun v H' => v = .bool (casks id l A) ∧ H' = [] := by
  have i0 := hw.oneCell
  refine Spec.body Try.func55 rfl Try.results55 Try.ntmps55 rfl ?_
  refine .seq ?_
  refine .region ?_
  refine TriOps.q .assign ?_
  refine .nil ?_
  refine seqQ_n ?_
  refine .seq ?_
  refine .region ?_
  refine TriOps.q .move ?_
  refine TriOps.q .move ?_
  refine TriOps.callN (cget_spec g A T h id _ fun p hp => .inl (hr p hp)) (fun v T1 hv => ?_)
  obtain ⟨r1, rfl, hc1⟩ := hv
  have i1 : Ones r1.cells := ⟨hc1.ones⟩
  have hc2 := hc1
  obtain ⟨rid, rsec, vu, vs⟩ := r1
  have i2 := hc1.u.oneCell
  have i3 := hc1.s.oneCell
  refine TriOps.q .move ?_
  refine TriOps.q .extract ?_
  refine TriOps.q .extract ?_
  refine TriOps.allocA (fun b7 => ?_)
  refine TriOps.storeA rfl rfl ?_
  refine TriOps.q .assign ?_
  refine .nil ?_
  refine seqQ_n ?_
  refine .seq ?_
  refine .region ?_
  refine TriOps.q .move ?_
  refine TriOps.q .move ?_
  refine TriOps.split (t := 16) rfl (fun g2_1 => ?_) (fun g2_1 => ?_)
  · skip
    refine TriOps.gT g2_1 ?_
    refine TriOps.q .move ?_
    refine TriOps.gT g2_1 ?_
    refine TriOps.q (.lenR hw) ?_
    refine TriOps.gT g2_1 ?_
    refine TriOps.q .gtr ?_
    refine TriOps.q (.pickTh g2_1) ?_
    refine TriOps.q .move ?_
    refine TriOps.split (t := 21) rfl (fun g2_6 => ?_) (fun g2_6 => ?_)
    · skip
      refine TriOps.gT g2_6 ?_
      refine TriOps.q .move ?_
      refine TriOps.gT g2_6 ?_
      refine TriOps.callR (distinct_spec w l _ hw.rx) (fun u hu => ?_)
      subst hu
      refine TriOps.q (.pickTh g2_6) ?_
      refine TriOps.q .move ?_
      refine TriOps.split (t := 25) rfl (fun g2_10 => ?_) (fun g2_10 => ?_)
      · skip
        refine TriOps.gT g2_10 ?_
        refine TriOps.q .move ?_
        refine TriOps.gT g2_10 ?_
        refine TriOps.q .makeFunc ?_
        refine TriOps.gT g2_10 ?_
        refine TriOps.callR (callC_spec 96 [.pointer (some ⟨b7, 0, none⟩)] inferInstance (fun s => decide (s ∈ ((cget id A).getD Cli.zero).scopes)) w l _ hw.rx fun s hs R' hR => asks1_spec _ _ b7 s R' (hc2.mono fun b o hb => hR b o (.inr (by have hb' : (b, o) ∈ T1 := hb; simp [hb']))) (PC.of (E := 35) (fr := (0, 0)) (hR _ _ (.inr (by simp [setL, CR.cells]))))) (fun u hu => ?_)
        subst hu
        refine TriOps.q (.pickTh g2_10) ?_
        refine TriOps.q .assign ?_
        refine .nil ?_
        refine seqQ_n ?_
        refine .ret (retQ_r _ (.one (.tmp rfl)) (.none _) ?_)
        refine ⟨?_, rfl⟩
        unfold casks
        have : decide (0 < l.length) = true := by
          have h0 := of_decide_eq_true g2_6
          exact decide_eq_true (by omega)
        rw [g2_1, this, g2_10]; rfl
      · skip
        have hval : casks id l A = false := by unfold casks; rw [g2_10, Bool.false_and, Bool.and_false, Bool.and_false]
        refine TriOps.gF g2_10 ?_
        refine TriOps.gF g2_10 ?_
        refine TriOps.gF g2_10 ?_
        refine TriOps.q (.pickFh g2_10) ?_
        refine TriOps.q .assign ?_
        refine .nil ?_
        refine seqQ_n ?_
        refine .ret (retQ_r _ (.one (.tmp rfl)) (.none _) ?_)
        exact ⟨by rw [hval], rfl⟩
    · skip
      have hval : casks id l A = false := by
        unfold casks
        have : decide (0 < l.length) = false := by
          have h0 := of_decide_eq_false g2_6
          exact decide_eq_false (by omega)
        rw [this, Bool.false_and, Bool.and_false]
      refine TriOps.gF g2_6 ?_
      refine TriOps.gF g2_6 ?_
      refine TriOps.q (.pickFh g2_6) ?_
      refine TriOps.q .move ?_
      refine TriOps.gf rfl rfl ?_
      refine TriOps.gf rfl rfl ?_
      refine TriOps.gf rfl rfl ?_
      refine TriOps.q .pickF ?_
      refine TriOps.q .assign ?_
      refine .nil ?_
      refine seqQ_n ?_
      refine .ret (retQ_r _ (.one (.tmp rfl)) (.none _) ?_)
      exact ⟨by rw [hval], rfl⟩
  · skip
    have hval : casks id l A = false := by unfold casks; rw [g2_1]; rfl
    refine TriOps.gF g2_1 ?_
    refine TriOps.gF g2_1 ?_
    refine TriOps.gF g2_1 ?_
    refine TriOps.q (.pickFh g2_1) ?_
    refine TriOps.q .move ?_
    refine TriOps.gf rfl rfl ?_
    refine TriOps.gf rfl rfl ?_
    refine TriOps.q .pickF ?_
    refine TriOps.q .move ?_
    refine TriOps.gf rfl rfl ?_
    refine TriOps.gf rfl rfl ?_
    refine TriOps.gf rfl rfl ?_
    refine TriOps.q .pickF ?_
    refine TriOps.q .assign ?_
    refine .nil ?_
    refine seqQ_n ?_
    refine .ret (retQ_r _ (.one (.tmp rfl)) (.none _) ?_)
    exact ⟨by rw [hval], rfl⟩
end Go.Proofs.Ytlmdgdehjpahiaa
