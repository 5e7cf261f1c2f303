/- A store that no call made; lives; layer 12's law on such stores. No condition. -/
import Derived.Test.YtkepgbimlolemaaStoK
set_option linter.unusedVariables false
set_option linter.unusedSimpArgs false
set_option maxRecDepth 4000
namespace Go.Proofs.Ytkepgbimlolemaa
def DeadS (R : Rds) (p : Value) : Prop := p = .pointer none ∨ ∃ q, p = .pointer (some ⟨q, 0, none⟩) ∧ R q (.cells [.bool false, .int .u64 0, .int .u64 0, .int .i64 0, .map none, .map none].toArray 98 (0, 0))
theorem DeadS.rx {R : Rds} {H : Segs} {p : Value} (h : DeadS R p) : DeadS (Rx R H) p := h.imp id fun ⟨q, h1, h2⟩ => ⟨q, h1, .inl h2⟩
theorem DeadS.mono {R R' : Rds} {p : Value} (h : DeadS R p) (hR : ∀ b o, R b o → R' b o) : DeadS R' p := h.imp id fun ⟨q, h1, h2⟩ => ⟨q, h1, hR _ _ h2⟩
theorem DeadS.one {R : Rds} {p : Value} (h : DeadS R p) : One p := ⟨by rcases h with rfl | ⟨q, rfl, _⟩ <;> rfl⟩
theorem sdok_nil (R : Rds) : Spec Try.prog 66 [.pointer none] R [] fun v H' => v = .bool false ∧ H' = [] := by
  refine Spec.body Try.func66 rfl Try.results66 Try.ntmps66 rfl ?_
  refine .seq ?_
  refine .region ?_
  refine TriOps.q .assign ?_
  refine .nil ?_
  refine seqQ_n ?_
  refine .seq ?_
  refine .region ?_
  refine TriOps.q .move ?_
  refine TriOps.q (.neNilA rfl rfl) ?_
  refine TriOps.q .move ?_
  refine TriOps.gf rfl rfl ?_
  refine TriOps.gf rfl rfl ?_
  refine TriOps.gf rfl rfl ?_
  refine TriOps.gf rfl rfl ?_
  refine TriOps.q .pickF ?_
  refine TriOps.q .assign ?_
  refine .nil ?_
  refine seqQ_n ?_
  refine .ret (retQ_r _ (.one (.tmp rfl)) (.none _) ?_)
  exact ⟨rfl, rfl⟩
theorem sdok_zero (q : Nat) (R : Rds) [pc : PC R (.pointer (some ⟨q, 0, none⟩)) [.bool false, .int .u64 0, .int .u64 0, .int .i64 0, .map none, .map none]] : Spec Try.prog 66 [.pointer (some ⟨q, 0, none⟩)] R [] fun v H' => v = .bool false ∧ H' = [] := by
  refine Spec.body Try.func66 rfl Try.results66 Try.ntmps66 rfl ?_
  refine .seq ?_
  refine .region ?_
  refine TriOps.q .assign ?_
  refine .nil ?_
  refine seqQ_n ?_
  refine .seq ?_
  refine .region ?_
  refine TriOps.q .move ?_
  refine TriOps.q (.neNilP rfl rfl) ?_
  refine TriOps.q .move ?_
  refine TriOps.gt rfl ?_
  refine TriOps.q .move ?_
  refine TriOps.gt rfl ?_
  refine TriOps.q (.nilCheck rfl) ?_
  refine TriOps.gt rfl ?_
  refine TriOps.q (.fieldAddr rfl) ?_
  refine TriOps.gt rfl ?_
  refine TriOps.q (.load1 rfl) ?_
  refine TriOps.q .pickT ?_
  refine TriOps.q .assign ?_
  refine .nil ?_
  refine seqQ_n ?_
  refine .ret (retQ_r _ (.one (.tmp rfl)) (.none _) ?_)
  exact ⟨rfl, rfl⟩
theorem sdok_spec (p : Value) (R : Rds) (h : DeadS R p) : Spec Try.prog 66 [p] R [] fun v H' => v = .bool false ∧ H' = [] := by
  rcases h with rfl | ⟨q, rfl, hq⟩
  · exact sdok_nil R
  · have pc := PC.of hq
    exact sdok_zero q R
theorem sdHead_spec (p : Value) (R : Rds) (h : DeadS R p) : Spec Try.prog 36 [p] R [] fun v H' => v = .int .u64 0 ∧ H' = [] := by
  refine Spec.body Try.func36 rfl Try.results36 Try.ntmps36 rfl ?_
  refine .seq ?_
  refine .region ?_
  refine TriOps.q .assign ?_
  refine .nil ?_
  refine seqQ_n ?_
  refine .seq ?_
  refine .seq ?_
  refine .region ?_
  refine TriOps.q .move ?_
  refine TriOps.callR (sdok_spec p _ h.rx) (fun v hv => ?_)
  subst hv
  refine TriOps.q .not ?_
  refine .nil ?_
  refine seqQ_n ?_
  refine .condT ?_
  refine .seq ?_
  refine .region ?_
  refine TriOps.q .assign ?_
  refine .nil ?_
  refine seqQ_n ?_
  refine .ret (seqQ_r (retQ_r _ (.one (.tmp rfl)) (.none _) ?_))
  exact ⟨rfl, rfl⟩
theorem sdHorizon_spec (p : Value) (R : Rds) (h : DeadS R p) : Spec Try.prog 42 [p] R [] fun v H' => v = .int .u64 0 ∧ H' = [] := by
  refine Spec.body Try.func42 rfl Try.results42 Try.ntmps42 rfl ?_
  refine .seq ?_
  refine .region ?_
  refine TriOps.q .assign ?_
  refine .nil ?_
  refine seqQ_n ?_
  refine .seq ?_
  refine .seq ?_
  refine .region ?_
  refine TriOps.q .move ?_
  refine TriOps.callR (sdok_spec p _ h.rx) (fun v hv => ?_)
  subst hv
  refine TriOps.q .not ?_
  refine .nil ?_
  refine seqQ_n ?_
  refine .condT ?_
  refine .seq ?_
  refine .region ?_
  refine TriOps.q .assign ?_
  refine .nil ?_
  refine seqQ_n ?_
  refine .ret (seqQ_r (retQ_r _ (.one (.tmp rfl)) (.none _) ?_))
  exact ⟨rfl, rfl⟩
theorem sdCan_spec (p : Value) (r : Int) (R : Rds) (h : DeadS R p) : Spec Try.prog 67 [p, .int .u64 r] R [] fun v H' => v = .bool false ∧ H' = [] := by
  refine Spec.body Try.func67 rfl Try.results67 Try.ntmps67 rfl ?_
  refine .seq ?_
  refine .region ?_
  refine TriOps.q .assign ?_
  refine .nil ?_
  refine seqQ_n ?_
  refine .seq ?_
  refine .region ?_
  refine TriOps.q .move ?_
  refine TriOps.callR (sdok_spec p _ h.rx) (fun v hv => ?_)
  subst hv
  refine TriOps.q .move ?_
  refine TriOps.gf rfl rfl ?_
  refine TriOps.gf rfl rfl ?_
  refine TriOps.gf rfl rfl ?_
  refine TriOps.gf rfl rfl ?_
  refine TriOps.gf rfl rfl ?_
  refine TriOps.gf rfl rfl ?_
  refine TriOps.q .pickF ?_
  refine TriOps.q .move ?_
  refine TriOps.gf rfl rfl ?_
  refine TriOps.gf rfl rfl ?_
  refine TriOps.gf rfl rfl ?_
  refine TriOps.gf rfl rfl ?_
  refine TriOps.gf rfl rfl ?_
  refine TriOps.gf rfl rfl ?_
  refine TriOps.q .pickF ?_
  refine TriOps.q .assign ?_
  refine .nil ?_
  refine seqQ_n ?_
  refine .ret (retQ_r _ (.one (.tmp rfl)) (.none _) ?_)
  exact ⟨rfl, rfl⟩
theorem sdRows_spec (p : Value) (R : Rds) (h : DeadS R p) : Spec Try.prog 44 [p] R [] fun v H' => v = .slice none 0 0 ∧ H' = [] := by
  refine Spec.body Try.func44 rfl Try.results44 Try.ntmps44 rfl ?_
  refine .seq ?_
  refine .region ?_
  refine TriOps.q .assign ?_
  refine .nil ?_
  refine seqQ_n ?_
  refine .seq ?_
  refine .seq ?_
  refine .region ?_
  refine TriOps.q .move ?_
  refine TriOps.callR (sdok_spec p _ h.rx) (fun v hv => ?_)
  subst hv
  refine TriOps.q .not ?_
  refine .nil ?_
  refine seqQ_n ?_
  refine .condT ?_
  refine .seq ?_
  refine .region ?_
  refine TriOps.q .assign ?_
  refine .nil ?_
  refine seqQ_n ?_
  refine .ret (seqQ_r (retQ_r _ (.one (.tmp rfl)) (.none _) ?_))
  exact ⟨rfl, rfl⟩
theorem sdCollect_spec (p : Value) (r : Int) (R : Rds) (h : DeadS R p) : Spec Try.prog 43 [p, .int .u64 r] R [] fun v H' => v = .int .i64 1 ∧ H' = [] := by
  refine Spec.body Try.func43 rfl Try.results43 Try.ntmps43 rfl ?_
  refine .seq ?_
  refine .region ?_
  refine TriOps.q .assign ?_
  refine .nil ?_
  refine seqQ_n ?_
  refine .seq ?_
  refine .block ?_
  refine .seq ?_
  refine .region ?_
  refine TriOps.q .move ?_
  refine TriOps.callR (sdok_spec p _ h.rx) (fun v hv => ?_)
  subst hv
  refine TriOps.q .not ?_
  refine TriOps.q .assign ?_
  refine .nil ?_
  refine seqQ_n ?_
  refine .condT ?_
  refine .seq ?_
  refine .region ?_
  refine TriOps.q .assign ?_
  refine .nil ?_
  refine seqQ_n ?_
  refine .ret (blkQ_r (seqQ_r (retQ_r _ (.one (.tmp rfl)) (.none _) ?_)))
  exact ⟨rfl, rfl⟩
theorem sdRead_spec (p : Value) (f : Tpl) (r : Int) (R : Rds) (h : DeadS R p) : Spec Try.prog 37 [p, .agg f.enc.toArray, .int .u64 r] R [] fun v H' => v = .tuple [.slice none 0 0, .int .i64 1].toArray ∧ H' = [] := by
  refine Spec.body Try.func37 rfl Try.results37 Try.ntmps37 rfl ?_
  refine .seq ?_
  refine .region ?_
  refine TriOps.boxA rfl (fun b4 => ?_)
  refine TriOps.q .assign ?_
  refine TriOps.q .assign ?_
  refine .nil ?_
  refine seqQ_n ?_
  refine .seq ?_
  refine .block ?_
  refine .seq ?_
  refine .region ?_
  refine TriOps.q .move ?_
  refine TriOps.callR (sdok_spec p _ h.rx) (fun v hv => ?_)
  subst hv
  refine TriOps.q .not ?_
  refine TriOps.q .assign ?_
  refine .nil ?_
  refine seqQ_n ?_
  refine .condT ?_
  refine .seq ?_
  refine .region ?_
  refine TriOps.q .assign ?_
  refine TriOps.q .assign ?_
  refine .nil ?_
  refine seqQ_n ?_
  refine .ret (blkQ_r (seqQ_r (retQ_r _ (.two (.tmp rfl) (.tmp rfl)) (.none _) ?_)))
  exact ⟨rfl, rfl⟩
theorem sdWrite_spec (p vm vn vc : Value) [One vm] [One vn] [One vc] (R : Rds) (h : DeadS R p) : Spec Try.prog 38 [p, vm, vn, vc] R [] fun v H' => v = .tuple [.int .u64 0, .int .i64 1].toArray ∧ H' = [] := by
  refine Spec.body Try.func38 rfl Try.results38 Try.ntmps38 rfl ?_
  refine .seq ?_
  refine .region ?_
  refine TriOps.q .assign ?_
  refine TriOps.q .assign ?_
  refine .nil ?_
  refine seqQ_n ?_
  refine .seq ?_
  refine .seq ?_
  refine .region ?_
  refine TriOps.q .move ?_
  refine TriOps.callR (sdok_spec p _ h.rx) (fun v hv => ?_)
  subst hv
  refine TriOps.q .not ?_
  refine .nil ?_
  refine seqQ_n ?_
  refine .condT ?_
  refine .seq ?_
  refine .region ?_
  refine TriOps.q .assign ?_
  refine TriOps.q .assign ?_
  refine .nil ?_
  refine seqQ_n ?_
  refine .ret (seqQ_r (retQ_r _ (.two (.tmp rfl) (.tmp rfl)) (.none _) ?_))
  exact ⟨rfl, rfl⟩
theorem sdHas_spec (p : Value) (t : Tpl) (r : Int) (R : Rds) (h : DeadS R p) : Spec Try.prog 45 [p, .agg t.enc.toArray, .int .u64 r] R [] fun v H' => v = .bool false ∧ H' = [] := by
  refine Spec.body Try.func45 rfl Try.results45 Try.ntmps45 rfl ?_
  refine .seq ?_
  refine .region ?_
  refine TriOps.boxA rfl (fun b4 => ?_)
  refine TriOps.box1 rfl (fun b5 => ?_)
  refine TriOps.q .assign ?_
  refine .nil ?_
  refine seqQ_n ?_
  refine .seq ?_
  refine .region_all [] mixed ?_
  refine RA.takeO 0 rfl .move (by kernel_rfl) ?_
  refine RA.takeO 1 rfl (.load1 rfl) (by kernel_rfl) ?_
  refine RA.step 2 rfl (by kernel_rfl) rfl ?_
  refine TriOps.callR (sdCan_spec p r _ h.rx) (fun v hv => ?_)
  subst hv
  refine .nil (Next.sub ?_)
  refine RA.takeO 3 rfl .move (by kernel_rfl) ?_
  refine RA.takeF 4 rfl rfl rfl (by kernel_rfl) ?_
  refine RA.takeF 5 rfl rfl rfl (by kernel_rfl) ?_
  refine RA.takeF 6 rfl rfl rfl (by kernel_rfl) ?_
  refine RA.takeF 7 rfl rfl rfl (by kernel_rfl) ?_
  refine RA.takeF 8 rfl rfl rfl (by kernel_rfl) ?_
  refine RA.takeF 11 rfl rfl rfl (by kernel_rfl) ?_
  refine RA.step 9 rfl (by kernel_rfl) rfl ?_
  refine TriOps.gf rfl rfl ?_
  refine .nil (Next.sub ?_)
  refine RA.takeF 10 rfl rfl rfl (by kernel_rfl) ?_
  refine RA.step 12 rfl (by kernel_rfl) rfl ?_
  refine TriOps.gf rfl rfl ?_
  refine .nil (Next.sub ?_)
  refine RA.takeO 13 rfl .pickF (by kernel_rfl) ?_
  refine RA.takeO 14 rfl .assign (by kernel_rfl) ?_
  refine RA.nil (by kernel_rfl) ?_
  refine seqQ_n ?_
  refine .ret (retQ_r _ (.one (.tmp rfl)) (.none _) ?_)
  exact ⟨rfl, rfl⟩
theorem sdSubjects_spec (p : Value) (a b c : ByteArray) (r : Int) (R : Rds) (h : DeadS R p) : Spec Try.prog 46 [p, .agg [.string a, .string b].toArray, .string c, .int .u64 r] R [] fun v H' => v = .slice none 0 0 ∧ H' = [] := by
  refine Spec.body Try.func46 rfl Try.results46 Try.ntmps46 rfl ?_
  refine .seq ?_
  refine .region ?_
  refine TriOps.boxA rfl (fun b5 => ?_)
  refine TriOps.q .assign ?_
  refine .nil ?_
  refine seqQ_n ?_
  refine .seq ?_
  refine .seq ?_
  refine .region ?_
  refine TriOps.q .move ?_
  refine TriOps.q .move ?_
  refine TriOps.callR (sdCan_spec p r _ h.rx) (fun v hv => ?_)
  subst hv
  refine TriOps.q .not ?_
  refine .nil ?_
  refine seqQ_n ?_
  refine .condT ?_
  refine .seq ?_
  refine .region ?_
  refine TriOps.q .assign ?_
  refine .nil ?_
  refine seqQ_n ?_
  refine .ret (seqQ_r (retQ_r _ (.one (.tmp rfl)) (.none _) ?_))
  exact ⟨rfl, rfl⟩
theorem sdSets_spec (p : Value) (s : Sub) (r : Int) (R : Rds) (h : DeadS R p) : Spec Try.prog 47 [p, .agg s.enc.toArray, .int .u64 r] R [] fun v H' => v = .slice none 0 0 ∧ H' = [] := by
  refine Spec.body Try.func47 rfl Try.results47 Try.ntmps47 rfl ?_
  refine .seq ?_
  refine .region ?_
  refine TriOps.boxA rfl (fun b4 => ?_)
  refine TriOps.q .assign ?_
  refine .nil ?_
  refine seqQ_n ?_
  refine .seq ?_
  refine .seq ?_
  refine .region ?_
  refine TriOps.q .move ?_
  refine TriOps.q .move ?_
  refine TriOps.callR (sdCan_spec p r _ h.rx) (fun v hv => ?_)
  subst hv
  refine TriOps.q .not ?_
  refine .nil ?_
  refine seqQ_n ?_
  refine .condT ?_
  refine .seq ?_
  refine .region ?_
  refine TriOps.q .assign ?_
  refine .nil ?_
  refine seqQ_n ?_
  refine .ret (seqQ_r (retQ_r _ (.one (.tmp rfl)) (.none _) ?_))
  exact ⟨rfl, rfl⟩
theorem SOK.new : SOK ⟨[], 0, 0⟩ := ⟨by simp, by simp, by simp, by simp, by simp, by simp⟩
theorem bob_ok : isTpl (⟨⟨#[100, 111, 99]⟩, ⟨#[97]⟩, ⟨#[118, 105, 101, 119, 101, 114]⟩, ⟨#[98, 111, 98]⟩, ⟨#[]⟩, ⟨#[]⟩, ⟨#[]⟩⟩ : Tpl) = true := by decide
theorem bob_code : scode ⟨[], 0, 0⟩ [] [] [⟨true, (⟨⟨#[100, 111, 99]⟩, ⟨#[97]⟩, ⟨#[118, 105, 101, 119, 101, 114]⟩, ⟨#[98, 111, 98]⟩, ⟨#[]⟩, ⟨#[]⟩, ⟨#[]⟩⟩ : Tpl)⟩] = 0 := by
  unfold scode
  have h1 : scheck [] [] [⟨true, (⟨⟨#[100, 111, 99]⟩, ⟨#[97]⟩, ⟨#[118, 105, 101, 119, 101, 114]⟩, ⟨#[98, 111, 98]⟩, ⟨#[]⟩, ⟨#[]⟩, ⟨#[]⟩⟩ : Tpl)⟩] = 0 := by
    rw [scheck_end (by simp) (by simp) (by simp) (by simp [bob_ok]) false (by simp)]; rfl
  rw [if_neg (by simp [h1])]
  unfold sfits sthere sputs
  simp
theorem bob_there : shas (swrite ⟨[], 0, 0⟩ [] [] [⟨true, (⟨⟨#[100, 111, 99]⟩, ⟨#[97]⟩, ⟨#[118, 105, 101, 119, 101, 114]⟩, ⟨#[98, 111, 98]⟩, ⟨#[]⟩, ⟨#[]⟩, ⟨#[]⟩⟩ : Tpl)⟩]) (⟨⟨#[100, 111, 99]⟩, ⟨#[97]⟩, ⟨#[118, 105, 101, 119, 101, 114]⟩, ⟨#[98, 111, 98]⟩, ⟨#[]⟩, ⟨#[]⟩, ⟨#[]⟩⟩ : Tpl) 1 = true ∧ shas (swrite ⟨[], 0, 0⟩ [] [] [⟨true, (⟨⟨#[100, 111, 99]⟩, ⟨#[97]⟩, ⟨#[118, 105, 101, 119, 101, 114]⟩, ⟨#[98, 111, 98]⟩, ⟨#[]⟩, ⟨#[]⟩, ⟨#[]⟩⟩ : Tpl)⟩]) (⟨⟨#[100, 111, 99]⟩, ⟨#[97]⟩, ⟨#[118, 105, 101, 119, 101, 114]⟩, ⟨#[98, 111, 98]⟩, ⟨#[]⟩, ⟨#[]⟩, ⟨#[]⟩⟩ : Tpl) 0 = false := by
  rw [swrite_rows SOK.new bob_code]
  unfold shas scan news
  simp [SRow.there]
theorem lives12_spec (R : Rds) : Spec Try.prog 40 [] R [] fun v H' => v = .bool true ∧ H' = [] := by
  refine Spec.body Try.func40 rfl Try.results40 Try.ntmps40 rfl ?_
  refine .seq ?_
  refine .region ?_
  refine TriOps.q .assign ?_
  refine .nil ?_
  refine seqQ_n ?_
  refine .seq ?_
  refine .region ?_
  refine TriOps.q .bld ?_
  refine TriOps.q .bld ?_
  refine TriOps.q .bld ?_
  refine TriOps.allocA (fun b1 => ?_)
  refine TriOps.storeA rfl rfl ?_
  refine .nil ?_
  refine seqQ_n ?_
  refine .seq ?_
  refine .region ?_
  refine TriOps.sub (H' := [[(b1, .cells (Tpl.enc (⟨⟨#[100, 111, 99]⟩, ⟨#[97]⟩, ⟨#[118, 105, 101, 119, 101, 114]⟩, ⟨#[98, 111, 98]⟩, ⟨#[]⟩, ⟨#[]⟩, ⟨#[]⟩⟩ : Tpl)).toArray 88 (0, 0))]]) (HLe.refl _) ?_
  refine TriOps.callN (snew_spec _) (fun u T0 hu => ?_)
  obtain ⟨g, rfl, hg⟩ := hu
  refine TriOps.q .assign ?_
  refine .nil ?_
  refine seqQ_n ?_
  refine .seq ?_
  refine .region ?_
  refine TriOps.q .move ?_
  refine TriOps.q (.loadA rfl) ?_
  refine TriOps.q .bld ?_
  refine TriOps.buildSlice1A (fun b13 => ?_)
  refine TriOps.callW (write_spec g ⟨[], 0, 0⟩ T0 hg SOK.new (.slice none 0 0) (.slice none 0 0) _ [] [] [⟨true, (⟨⟨#[100, 111, 99]⟩, ⟨#[97]⟩, ⟨#[118, 105, 101, 119, 101, 114]⟩, ⟨#[98, 111, 98]⟩, ⟨#[]⟩, ⟨#[]⟩, ⟨#[]⟩⟩ : Tpl)⟩] _ ((OS.nil (E := 0) (sz := 7) (enc := Tpl.enc)).rs fun p hp => by cases hp) ((OS.nil (E := 0) (sz := 7) (enc := Tpl.enc)).rs fun p hp => by cases hp) (RS.lits (enc := Chg.enc) (xs := [⟨true, (⟨⟨#[100, 111, 99]⟩, ⟨#[97]⟩, ⟨#[118, 105, 101, 119, 101, 114]⟩, ⟨#[98, 111, 98]⟩, ⟨#[]⟩, ⟨#[]⟩, ⟨#[]⟩⟩ : Tpl)⟩]) rfl (by simp [Chg.enc, Tpl.enc]) (by simp [Chg.enc, Tpl.enc, oneCell])) (by simp) (by simp) (by simp [Tpl.fits]; decide)) (fun u T1 hu => ?_)
  obtain ⟨rfl, hI⟩ := hu
  rw [bob_code, if_pos rfl]
  obtain ⟨ps, vf, vr, Mf, Mr, hV⟩ := hI.view (R := sg T1) fun p hp => hp
  refine TriOps.q .move ?_
  refine TriOps.q .extract ?_
  refine TriOps.q .extract ?_
  refine TriOps.q .assign ?_
  refine TriOps.q .assign ?_
  refine .nil ?_
  refine seqQ_n ?_
  refine .seq ?_
  refine .region ?_
  refine TriOps.q .move ?_
  refine TriOps.q .eqI ?_
  refine TriOps.q .move ?_
  refine TriOps.split (t := 19) rfl (fun g4_2 => ?_) (fun g4_2 => ?_)
  · skip
    refine TriOps.gT g4_2 ?_
    refine TriOps.q .move ?_
    refine TriOps.gT g4_2 ?_
    refine TriOps.q .eqI ?_
    refine TriOps.q (.pickTh g4_2) ?_
    refine TriOps.q .move ?_
    refine TriOps.split (t := 23) rfl (fun g4_6 => ?_) (fun g4_6 => ?_)
    · skip
      refine TriOps.gT g4_6 ?_
      refine TriOps.q .move ?_
      refine TriOps.gT g4_6 ?_
      refine TriOps.q (.loadA rfl) ?_
      refine TriOps.gT g4_6 ?_
      refine TriOps.callR (has_spec (hV.mono fun b o hb => .inr (by have hb' : (b, o) ∈ T1 := hb; simp [hb'])) (⟨⟨#[100, 111, 99]⟩, ⟨#[97]⟩, ⟨#[118, 105, 101, 119, 101, 114]⟩, ⟨#[98, 111, 98]⟩, ⟨#[]⟩, ⟨#[]⟩, ⟨#[]⟩⟩ : Tpl) 1) (fun v hv => ?_)
      subst hv
      rw [bob_there.1]
      refine TriOps.q (.pickTh g4_6) ?_
      refine TriOps.q .move ?_
      refine TriOps.gt rfl ?_
      refine TriOps.q .move ?_
      refine TriOps.gt rfl ?_
      refine TriOps.q (.loadA rfl) ?_
      refine TriOps.gt rfl ?_
      refine TriOps.callR (has_spec (hV.mono fun b o hb => .inr (by have hb' : (b, o) ∈ T1 := hb; simp [hb'])) (⟨⟨#[100, 111, 99]⟩, ⟨#[97]⟩, ⟨#[118, 105, 101, 119, 101, 114]⟩, ⟨#[98, 111, 98]⟩, ⟨#[]⟩, ⟨#[]⟩, ⟨#[]⟩⟩ : Tpl) 0) (fun v hv => ?_)
      subst hv
      rw [bob_there.2]
      refine TriOps.gt rfl ?_
      refine TriOps.q .not ?_
      refine TriOps.q .pickT ?_
      refine TriOps.q .assign ?_
      refine .nil ?_
      refine seqQ_n ?_
      refine .ret (retQ_r _ (.one (.tmp rfl)) (.none _) ?_)
      exact ⟨rfl, rfl⟩
    · skip
      cases g4_6
  · skip
    cases g4_2
end Go.Proofs.Ytkepgbimlolemaa
