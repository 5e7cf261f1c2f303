/- Clients: what the law cuts short; a registry that lives; ClientChecks, ClientSecrets. No condition. -/
import Derived.Test.YtlmdgdehjpahiaaCliD
set_option linter.unusedVariables false
set_option maxRecDepth 4000
namespace Go.Proofs.Ytlmdgdehjpahiaa

def Cli.short (c : Cli) : Cli := ⟨Go.Proofs.Ytlmdgdehjpahiaa.short c.id 40, Go.Proofs.Ytlmdgdehjpahiaa.short c.secret 70, texts c.uris 10 210, texts c.scopes 18 40⟩
theorem Cli.short_fits (c : Cli) : c.short.fits := by
  have h1 := short_size (s := c.id) (n := 40)
  have h2 := short_size (s := c.secret) (n := 70)
  refine ⟨by unfold Cli.short; simp only; omega, by unfold Cli.short; simp only; omega, fun s hs => ?_, fun s hs => ?_⟩
  · have := texts_size s hs; omega
  · have := texts_size s hs; omega
theorem Cli.short_few (c : Cli) : c.short.few := by
  unfold Cli.few Cli.short texts
  simp; omega
theorem cshort_spec (r : CR) (c : Cli) (R : Rds) (h : CliR R r c) : Spec Try.prog 19 [.agg r.cells.toArray] R [] fun v H' => ∃ T, H' = [T] ∧ ∃ r', v = .agg r'.cells.toArray ∧ CliR (sg T) r' c.short := by
  have io : Ones r.cells := ⟨h.ones⟩
  obtain ⟨rid, rsec, vu, vs⟩ := r
  obtain ⟨e1, e2, hu, hs⟩ := h
  simp only at e1 e2 hu hs
  subst e1; subst e2
  have i1 := hu.oneCell
  have i2 := hs.oneCell
  refine Spec.body Try.func19 rfl Try.results19 Try.ntmps19 rfl ?_
  refine .seq ?_
  refine .region ?_
  refine TriOps.boxA rfl (fun b1 => ?_)
  refine TriOps.allocA (fun b2 => ?_)
  refine .nil ?_
  refine seqQ_n ?_
  refine .seq ?_
  refine .region_all [13] mixed ?_
  refine RA.takeO 0 rfl (.fieldAddr rfl) (by kernel_rfl) ?_
  refine RA.takeO 1 rfl (.load1 rfl) (by kernel_rfl) ?_
  refine RA.takeO 3 rfl (.fieldAddr rfl) (by kernel_rfl) ?_
  refine RA.takeO 4 rfl (.load1 rfl) (by kernel_rfl) ?_
  refine RA.takeO 6 rfl (.fieldAddr rfl) (by kernel_rfl) ?_
  refine RA.takeO 7 rfl (.load1 rfl) (by kernel_rfl) ?_
  refine RA.takeO 9 rfl (.fieldAddr rfl) (by kernel_rfl) ?_
  refine RA.takeO 10 rfl (.load1 rfl) (by kernel_rfl) ?_
  refine RA.step 2 rfl (by kernel_rfl) rfl ?_
  refine TriOps.callR (short_spec c.id 40 _) (fun u hu => ?_)
  subst hu
  refine .nil (Next.sub ?_)
  refine RA.step 5 rfl (by kernel_rfl) rfl ?_
  refine TriOps.callR (short_spec c.secret 70 _) (fun u hu => ?_)
  subst hu
  refine .nil (Next.sub ?_)
  refine RA.step 8 rfl (by kernel_rfl) rfl ?_
  refine TriOps.callN (texts_spec vu c.uris 10 210 (by omega) _ hu.rx) (fun v1 T1 hO1 => ?_)
  obtain ⟨p1, k1, rfl, _⟩ := hO1.shape
  refine .nil (Next.sub ?_)
  refine RA.step 11 rfl (by kernel_rfl) rfl ?_
  refine TriOps.callN (texts_spec vs c.scopes 18 40 (by omega) _ hs.rx) (fun v2 T2 hO2 => ?_)
  obtain ⟨p2, k2, rfl, _⟩ := hO2.shape
  refine .nil (Next.sub ?_)
  refine RA.takeO 12 rfl .bld (by kernel_rfl) ?_
  refine RA.step 13 rfl (by kernel_rfl) rfl ?_
  refine TriOps.storeA rfl rfl ?_
  refine .nil (Next.mod rfl ?_)
  refine RA.nil (by kernel_rfl) ?_
  refine seqQ_n ?_
  refine .ret (retQ_r _ (.one (.cellA rfl rfl)) (.one [0, 0] _) ?_)
  exact ⟨T2 ++ T1, by simp [take, dropAt], ⟨short c.id 40, short c.secret 70, _, _⟩, rfl, rfl, rfl, hO1.sg.right, hO2.sg.left⟩
def cone : Cli := ⟨⟨#[97, 112, 112]⟩, ⟨#[49, 50, 51, 52, 53, 54, 55, 56]⟩, [⟨#[104, 116, 116, 112, 115, 58, 47, 47, 97, 47, 98]⟩], [⟨#[114, 101, 97, 100]⟩]⟩
theorem cone_check : cone.check = 0 := by decide
theorem one_spec (R : Rds) : Spec Try.prog 57 [] R [] fun v H' => ∃ T, H' = [T] ∧ ∃ r, v = .agg r.cells.toArray ∧ CliR (sg T) r cone := by
  refine Spec.body Try.func57 rfl Try.results57 Try.ntmps57 rfl ?_
  refine .seq ?_
  refine .region ?_
  refine TriOps.allocA (fun b0 => ?_)
  refine .nil ?_
  refine seqQ_n ?_
  refine .seq ?_
  refine .region ?_
  refine TriOps.buildSlice11 (fun b1 => ?_)
  refine TriOps.buildSlice11 (fun b2 => ?_)
  refine TriOps.q .bld ?_
  refine TriOps.storeA rfl rfl ?_
  refine .nil ?_
  refine seqQ_n ?_
  refine .ret (retQ_r _ (.one (.cellA rfl rfl)) (.one [0, 0] _) ?_)
  exact ⟨_, rfl, ⟨cone.id, cone.secret, .slice (some ⟨b1, 0, none⟩) 1 1, .slice (some ⟨b2, 0, none⟩) 1 1⟩, rfl, rfl, rfl, RS.litB (E := 9) (fr := (0, 0)) (cs := [.string ⟨#[104, 116, 116, 112, 115, 58, 47, 47, 97, 47, 98]⟩]) (by simp [sg, take, dropAt]) rfl (by simp [encS, cone]) (by simp [encS, cone, oneCell]),
    RS.litB (E := 9) (fr := (0, 0)) (cs := [.string ⟨#[114, 101, 97, 100]⟩]) (by simp [sg, take, dropAt]) rfl (by simp [encS, cone]) (by simp [encS, cone, oneCell])⟩
theorem clives_spec (R : Rds) : Spec Try.prog 22 [] R [] fun v H' => v = .bool true ∧ H' = [] := by
  have hfit : cone.fits := ⟨by decide, by decide, by simp [cone]; decide, by simp [cone]; decide⟩
  have hadd : cadd [] cone = (0, [cone]) := by unfold cadd; rw [cone_check]; simp [cget]
  refine Spec.body Try.func22 rfl Try.results22 Try.ntmps22 rfl ?_
  refine .seq ?_
  refine .region ?_
  refine TriOps.q .assign ?_
  refine .nil ?_
  refine seqQ_n ?_
  refine .seq ?_
  refine .region ?_
  refine TriOps.callN (cnew_spec _) (fun v T hv => ?_)
  obtain ⟨g, rfl, hR⟩ := hv
  refine TriOps.q .assign ?_
  refine .nil ?_
  refine seqQ_n ?_
  refine .seq ?_
  refine .region ?_
  refine TriOps.q .move ?_
  refine TriOps.q (.neNilA rfl rfl) ?_
  refine TriOps.q .move ?_
  refine TriOps.gt rfl ?_
  refine TriOps.q .move ?_
  refine TriOps.gt rfl ?_
  refine TriOps.callN (one_spec _) (fun v T1 hv => ?_)
  obtain ⟨r, rfl, hc⟩ := hv
  refine TriOps.gt rfl ?_
  refine TriOps.call [1] (cadd_spec g [] T hR r cone _ (hc.mono fun b o hb => .inr (by simpa [rest, dropAt, sg] using hb)) hfit (by simp [Cli.few, cone])) (fun v H' hv => ?_)
  rw [hadd] at hv
  obtain ⟨T2, rfl, rfl, hR2⟩ := hv
  conv => arg 8; simp only [rest, dropAt, List.cons_append, List.nil_append]
  refine TriOps.gt rfl ?_
  refine TriOps.q .eqI ?_
  refine TriOps.q .pickT ?_
  refine TriOps.q .move ?_
  refine TriOps.split (t := 11) rfl (fun g2_8 => ?_) (fun g2_8 => ?_)
  · skip
    refine TriOps.gT g2_8 ?_
    refine TriOps.q .move ?_
    refine TriOps.gT g2_8 ?_
    refine TriOps.callR (cauth_spec g [cone] T2 hR2 _ _ _ fun p hp => .inr (by simp [hp])) (fun v hv => ?_)
    subst hv
    refine TriOps.gT g2_8 ?_
    refine TriOps.q .eqI ?_
    refine TriOps.q (.pickTh g2_8) ?_
    refine TriOps.q .move ?_
    refine TriOps.split (t := 16) rfl (fun g2_13 => ?_) (fun g2_13 => ?_)
    · skip
      refine TriOps.gT g2_13 ?_
      refine TriOps.q .move ?_
      refine TriOps.gT g2_13 ?_
      refine TriOps.callR (cauth_spec g [cone] T2 hR2 _ _ _ fun p hp => .inr (by simp [hp])) (fun v hv => ?_)
      subst hv
      refine TriOps.gT g2_13 ?_
      refine TriOps.q .eqI ?_
      refine TriOps.q (.pickTh g2_13) ?_
      refine TriOps.q .assign ?_
      refine .nil ?_
      refine seqQ_n ?_
      refine .ret (retQ_r _ (.one (.tmp rfl)) (.none _) ?_)
      refine ⟨?_, rfl⟩
      refine congrArg Value.bool ?_
      decide
    · skip
      refine TriOps.gF g2_13 ?_
      refine TriOps.gF g2_13 ?_
      refine TriOps.gF g2_13 ?_
      refine TriOps.q (.pickFh g2_13) ?_
      refine TriOps.q .assign ?_
      refine .nil ?_
      refine seqQ_n ?_
      refine .ret (retQ_r _ (.one (.tmp rfl)) (.none _) ?_)
      exfalso; revert g2_13; decide
  · skip
    refine TriOps.gF g2_8 ?_
    refine TriOps.gF g2_8 ?_
    refine TriOps.gF g2_8 ?_
    refine TriOps.q (.pickFh g2_8) ?_
    refine TriOps.q .move ?_
    refine TriOps.gf rfl rfl ?_
    refine TriOps.gf rfl rfl ?_
    refine TriOps.gf rfl rfl ?_
    refine TriOps.q .pickF ?_
    refine TriOps.q .assign ?_
    refine .nil ?_
    refine seqQ_n ?_
    refine .ret (retQ_r _ (.one (.tmp rfl)) (.none _) ?_)
    exfalso; revert g2_8; decide
end Go.Proofs.Ytlmdgdehjpahiaa
