/- What the law 'GrantOnce' uses of this prover's engine, facts and walks. No condition. -/
import Derived.Test.YtpmhgpjcladbkaaDoorKGrantOnceH
import Derived.Test.YtpmhgpjcladbkaaDoorKGrantOnceJ
import Derived.Test.YtpmhgpjcladbkaaDoorKGrantOnceL
set_option linter.unusedVariables false
set_option maxRecDepth 4000
namespace Go.Proofs.YtpmhgpjcladbkaaDoor
def Cod.short (t : Cod) : Cod := ⟨Go.Proofs.YtpmhgpjcladbkaaDoor.short t.text 40, Go.Proofs.YtpmhgpjcladbkaaDoor.short t.client 40, Go.Proofs.YtpmhgpjcladbkaaDoor.short t.user 40, Go.Proofs.YtpmhgpjcladbkaaDoor.short t.uri 60, texts t.scopes 5 20, Go.Proofs.YtpmhgpjcladbkaaDoor.short t.chall 60, t.expires, t.family, t.used⟩
theorem Cod.short_few (t : Cod) : t.short.few := by
  unfold Cod.few Cod.short texts
  simp; omega
theorem gshort_spec (w : Value) (t : Cod) (R : Rds) (h : CodR R (w, t)) : Spec Tryd.prog 11 [.agg (encG (w, t)).toArray] R [] fun v H' => ∃ T, H' = [T] ∧ ∃ w', v = .agg (encG (w', t.short)).toArray ∧ CodR (sg0 T) (w', t.short) := by
  have i1 : Ones (encG (w, t)) := ⟨h.ones⟩
  have hs : RS R 1 encS w t.scopes := h
  have j1 := hs.oneCell
  obtain ⟨a1, a2, a3, a4, a5, a6, a7, a8, a9⟩ := t
  simp only at hs
  refine Spec.body Tryd.func11 rfl Tryd.results11 Tryd.ntmps11 rfl ?_
  refine .seq (.region ?_)
  refine TriOps.boxA rfl (fun b1 => ?_)
  refine TriOps.allocA (fun b2 => ?_)
  refine .nil (seqQ_n ?_)
  refine .seq ?_
  refine .region_all [16, 18, 20, 22, 24] mixed ?_
  refine .takeO 0 rfl (.fieldAddr rfl) (by kernel_rfl) ?_
  refine .takeO 1 rfl (.load1 rfl) (by kernel_rfl) ?_
  refine .takeO 3 rfl (.fieldAddr rfl) (by kernel_rfl) ?_
  refine .takeO 4 rfl (.load1 rfl) (by kernel_rfl) ?_
  refine .takeO 6 rfl (.fieldAddr rfl) (by kernel_rfl) ?_
  refine .takeO 7 rfl (.load1 rfl) (by kernel_rfl) ?_
  refine .takeO 9 rfl (.fieldAddr rfl) (by kernel_rfl) ?_
  refine .takeO 10 rfl (.load1 rfl) (by kernel_rfl) ?_
  refine .takeO 12 rfl (.fieldAddr rfl) (by kernel_rfl) ?_
  refine .takeO 13 rfl (.load1 rfl) (by kernel_rfl) ?_
  refine RA.step 2 rfl (by kernel_rfl) rfl ?_
  refine TriOps.callR (short_spec a1 40 _) (fun u hu => ?_)
  subst hu
  refine .nil (Next.sub ?_)
  refine .takeO 15 rfl (.fieldAddr rfl) (by kernel_rfl) ?_
  refine RA.step 5 rfl (by kernel_rfl) rfl ?_
  refine TriOps.callR (short_spec a2 40 _) (fun u hu => ?_)
  subst hu
  refine .nil (Next.sub ?_)
  refine RA.step 8 rfl (by kernel_rfl) rfl ?_
  refine TriOps.callR (short_spec a3 40 _) (fun u hu => ?_)
  subst hu
  refine .nil (Next.sub ?_)
  refine RA.step 11 rfl (by kernel_rfl) rfl ?_
  refine TriOps.callR (short_spec a4 60 _) (fun u hu => ?_)
  subst hu
  refine .nil (Next.sub ?_)
  refine RA.step 14 rfl (by kernel_rfl) rfl ?_
  refine TriOps.callR (short_spec a6 60 _) (fun u hu => ?_)
  subst hu
  refine .nil (Next.sub ?_)
  refine RA.step 16 rfl (by kernel_rfl) rfl ?_
  refine TriOps.store1 rfl rfl ?_
  refine .nil (Next.mod rfl ?_)
  refine .take 17 rfl (.fieldAddrA rfl) (by kernel_rfl) ?_
  refine RA.step 18 rfl (by kernel_rfl) rfl ?_
  refine TriOps.store1 rfl rfl ?_
  refine .nil (Next.mod rfl ?_)
  refine .take 19 rfl (.fieldAddrA rfl) (by kernel_rfl) ?_
  refine RA.step 20 rfl (by kernel_rfl) rfl ?_
  refine TriOps.store1 rfl rfl ?_
  refine .nil (Next.mod rfl ?_)
  refine .take 21 rfl (.fieldAddrA rfl) (by kernel_rfl) ?_
  refine RA.step 22 rfl (by kernel_rfl) rfl ?_
  refine TriOps.store1 rfl rfl ?_
  refine .nil (Next.mod rfl ?_)
  refine .take 23 rfl (.fieldAddrA rfl) (by kernel_rfl) ?_
  refine RA.step 24 rfl (by kernel_rfl) rfl ?_
  refine TriOps.store1 rfl rfl ?_
  refine .nil (Next.mod rfl ?_)
  refine RA.nil (by kernel_rfl) ?_
  refine seqQ_n ?_
  refine .seq (.region ?_)
  refine .q (.fieldAddr rfl) ?_
  refine .q (.load1 rfl) ?_
  refine TriOps.callN (texts_spec w a5 5 20 (by omega) _ hs.rx) (fun v1 T1 hO1 => ?_)
  have j2 := hO1.oneCell
  refine .q (.fieldAddr rfl) ?_
  refine TriOps.store1 rfl rfl ?_
  refine .nil (seqQ_n ?_)
  refine .seq (.region ?_)
  refine .q (.loadA rfl) ?_
  refine TriOps.storeA rfl rfl ?_
  refine .nil (seqQ_n ?_)
  refine .ret (retQ_r _ (.one (.cellA rfl rfl)) (.one [0] _) ?_)
  · exact ⟨T1, by simp [take], v1, rfl, hO1.sg0⟩
theorem gmine_spec (w : Value) (t : Cod) (R : Rds) (h : CodR R (w, t)) : Spec Tryd.prog 5 [.agg (encG (w, t)).toArray] R [] fun v H' => ∃ T, H' = [T] ∧ ∃ w', v = .agg (encG (w', t.short)).toArray ∧ CodR (sg0 T) (w', t.short) := by
  have i1 : Ones (encG (w, t)) := ⟨h.ones⟩
  refine Spec.body Tryd.func5 rfl Tryd.results5 Tryd.ntmps5 rfl ?_
  refine .seq (.region ?_)
  refine TriOps.boxA rfl (fun b1 => ?_)
  refine TriOps.allocA (fun b2 => ?_)
  refine .nil (seqQ_n ?_)
  refine .seq (.region ?_)
  refine .q (.loadA rfl) ?_
  refine TriOps.callN (gshort_spec w t _ (h.mono fun b o hb => .inl hb)) (fun v T1 hv => ?_)
  obtain ⟨w1, rfl, hc1⟩ := hv
  have hv1 : RS (sg0 T1) 1 encS w1 t.short.scopes := hc1
  obtain ⟨p1, k1, rfl⟩ := hv1.val
  have i2 := (⟨hc1.ones⟩ : Ones (encG (_, t.short)))
  refine TriOps.storeA rfl rfl ?_
  refine .nil (seqQ_n ?_)
  refine .seq (.region ?_)
  refine .q (.fieldAddr rfl) ?_
  refine .q (.load1 rfl) ?_
  refine .q (.fieldAddr rfl) ?_
  refine .q (.load1 rfl) ?_
  refine .q (.fieldAddr rfl) ?_
  refine .q (.load1 rfl) ?_
  refine .q (.fieldAddr rfl) ?_
  refine .q (.load1 rfl) ?_
  refine .q (.fieldAddr rfl) ?_
  refine .q (.load1 rfl) ?_
  refine .q (.fieldAddr rfl) ?_
  refine .q (.load1 rfl) ?_
  refine .q (.fieldAddr rfl) ?_
  refine .q (.load1 rfl) ?_
  refine .q (.fieldAddr rfl) ?_
  refine .q (.load1 rfl) ?_
  refine .q (.fieldAddr rfl) ?_
  refine .q (.load1 rfl) ?_
  refine .q .bld ?_
  refine TriOps.storeA rfl rfl ?_
  refine .nil (seqQ_n ?_)
  refine .ret (retQ_r _ (.one (.cellA rfl rfl)) (.one [0] _) ?_)
  · exact ⟨T1, by simp [take], _, rfl, hc1⟩
def gword : ByteArray := ⟨#[100, 66, 106, 102, 116, 74, 101, 90, 52, 67, 86, 80, 45, 109, 66, 57, 50, 75, 50, 55, 117, 104, 98, 85, 74, 85, 49, 112, 49, 114, 95, 119, 87, 49, 103, 70, 87, 70, 79, 69, 106, 88, 107]⟩
theorem gword_ver : isVer gword = true := by decide +kernel
def glive : Cod := ⟨⟨#[116]⟩, ⟨#[]⟩, ⟨#[]⟩, ⟨#[]⟩, [], chal gword, 9, 0, false⟩
theorem glive_issue : gissue [] glive = (0, [(⟨#[116]⟩, glive)]) := rfl
theorem glive_redeem : gredeem [(⟨#[116]⟩, glive)] ⟨#[116]⟩ ⟨#[]⟩ ⟨#[]⟩ gword 8 = (glive.mark, 0, kset ⟨#[116]⟩ glive.mark [(⟨#[116]⟩, glive)]) := by
  unfold gredeem
  rw [show mget (⟨#[116]⟩ : ByteArray) [(⟨#[116]⟩, glive)] = some glive by simp [mget]]
  simp only
  rw [if_neg (by simp [glive]), if_neg (by simp [glive]), if_neg]
  simp [glive, pmatch, gword_ver]
theorem glives_spec (R : Rds) (hg : PC R (.pointer (some ⟨1, 0, none⟩)) (wv ks)) : Spec Tryd.prog 12 [] R [] fun v H' => v = .bool true ∧ H' = [] := by
  refine Spec.body Tryd.func12 rfl Tryd.results12 Tryd.ntmps12 rfl ?_
  refine .seq (.region ?_)
  refine .q .assign ?_
  refine .nil (seqQ_n ?_)
  refine .seq (.region ?_)
  refine TriOps.callN (gnew_spec _) (fun u T0 hu => ?_)
  obtain ⟨g, rfl, hb⟩ := hu
  refine .q .assign ?_
  refine .nil (seqQ_n ?_)
  refine .seq ?_
  refine .seq (.region ?_)
  refine .q .move ?_
  refine .q (.eqNilA rfl rfl) ?_
  refine .q .move ?_
  refine TriOps.gt rfl ?_
  refine .q .move ?_
  refine TriOps.gt rfl ?_
  refine TriOps.callR (rchallenge_spec gword (by decide) _) (fun v hv => ?_)
  subst hv
  refine TriOps.gt rfl ?_
  refine .q .bld ?_
  refine TriOps.gt rfl ?_
  refine TriOps.callM (gissue_spec g [] [] T0 hb (.slice none 0 0) glive _ RS.nil' (by simp [Cod.few, glive])) (fun v T1 hv => ?_)
  obtain ⟨rfl, hb1⟩ := hv
  rw [glive_issue] at hb1 ⊢
  refine TriOps.gt rfl ?_
  refine .q .neI ?_
  refine .q .pickF ?_
  refine .nil (seqQ_n ?_)
  refine .cond rfl (fun h1 => ?_) (fun h1 => ?_)
  · simp at h1
  refine .skip ?_
  refine seqQ_n ?_
  refine .seq (.region ?_)
  refine .q .move ?_
  refine TriOps.call [0] (gredeem_spec g [] _ T1 hb1 ⟨#[116]⟩ ⟨#[]⟩ ⟨#[]⟩ gword 8 (by decide) _ hg.rx) (fun v H' hv => ?_)
  obtain ⟨T2, Tn, rfl, w2, rfl, hc2, hb2⟩ := hv
  rw [glive_redeem] at hc2 hb2 ⊢
  have i2 := (⟨hc2.ones⟩ : Ones (encG (w2, _)))
  refine .q .move ?_
  refine .q .extract ?_
  refine .q .extract ?_
  refine TriOps.allocA (fun b2 => ?_)
  refine TriOps.storeA rfl rfl ?_
  refine .q .assign ?_
  refine .nil (seqQ_n ?_)
  refine .seq (.region ?_)
  refine .q .move ?_
  refine .q .eqI ?_
  refine .q .move ?_
  refine TriOps.split (t := 21) rfl (fun g5_2 => ?_) (fun g5_2 => ?_)
  refine TriOps.gT g5_2 ?_
  refine .q (.fieldAddr rfl) ?_
  refine TriOps.gT g5_2 ?_
  refine .q (.load1 rfl) ?_
  refine .q (.pickTh g5_2) ?_
  refine .q .assign ?_
  refine .nil (seqQ_n ?_)
  refine .ret (retQ_r _ (.one (.tmp rfl)) (.none _) ?_)
  · skip
    first
      | exact ⟨rfl, rfl⟩
      | (exfalso; revert g5_2; decide)
  refine TriOps.gF g5_2 ?_
  refine TriOps.gF g5_2 ?_
  refine .q (.pickFh g5_2) ?_
  refine .q .assign ?_
  refine .nil (seqQ_n ?_)
  refine .ret (retQ_r _ (.one (.tmp rfl)) (.none _) ?_)
  · skip
    first
      | exact ⟨rfl, rfl⟩
      | (exfalso; revert g5_2; decide)
/-- A call of the law. -/
structure GDo where
  kind : Int
  user : ByteArray
  client : ByteArray
  vs : Value
  scopes : List ByteArray
  code : GP
  text : ByteArray
  uri : ByteArray
  ver : ByteArray
  now : Int
def GDo.enc (d : GDo) : List Value := [.int .i64 d.kind, .string d.user, .string d.client, d.vs, .string d.code.2.text, .string d.code.2.client, .string d.code.2.user, .string d.code.2.uri, d.code.1, .string d.code.2.chall, .int .i64 d.code.2.expires, .int .i64 d.code.2.family, .bool d.code.2.used, .string d.text, .string d.uri, .string d.ver, .int .i64 d.now]
def GDo.is (d : GDo) (R : Rds) : Prop := RS R 1 encS d.vs d.scopes ∧ CodR R d.code ∧ d.ver.size ≤ 9223372036854775807
theorem GDo.ones {d : GDo} {R : Rds} (h : d.is R) : ∀ u ∈ d.enc, oneCell u = true := by
  have h1 := h.1.oneCell.h
  have h2 := h.2.1.oneCell.h
  intro u hu
  simp only [GDo.enc, List.mem_cons, List.not_mem_nil, or_false] at hu
  rcases hu with rfl | rfl | rfl | rfl | rfl | rfl | rfl | rfl | rfl | rfl | rfl | rfl | rfl | rfl | rfl | rfl | rfl <;> first | rfl | assumption
theorem gcod_of {H : Type} {enc : TypeId × Value → H} {W : World} {f : Nat} {cs : List Value} {x : DataW H × List MemPlace} (h : DataW.trod enc Tryd.prog W 0 (fun _ => true) true f 24 cs = some x) : ∃ p : GP, cs = encG p ∧ CodR (Rw W) p := by
  obtain ⟨hl, hp⟩ := parts_of Tryd.underlying24 h
  have hc : Tryd.prog.cellsOf 24 = 9 := by kernel_rfl
  rw [hc] at hl
  have c2 : Tryd.prog.cellsOf 2 = 1 := by kernel_rfl
  have c3 : Tryd.prog.cellsOf 3 = 1 := by kernel_rfl
  have c4 : Tryd.prog.cellsOf 4 = 1 := by kernel_rfl
  have c9 : Tryd.prog.cellsOf 9 = 1 := by kernel_rfl
  have c22 : Tryd.prog.cellsOf 22 = 1 := by kernel_rfl
  match cs, hl with
  | [a0, a1, a2, a3, a4, a5, a6, a7, a8], _ =>
    obtain ⟨n0, y0, h0⟩ : ∃ n y, DataW.trod enc Tryd.prog W 0 (fun _ => true) true n 9 (([a0, a1, a2, a3, a4, a5, a6, a7, a8].drop 0).take (Tryd.prog.cellsOf 9)) = some y := hp 0 _ rfl
    obtain ⟨n1, y1, h1⟩ : ∃ n y, DataW.trod enc Tryd.prog W 0 (fun _ => true) true n 9 (([a0, a1, a2, a3, a4, a5, a6, a7, a8].drop 1).take (Tryd.prog.cellsOf 9)) = some y := hp 1 _ rfl
    obtain ⟨n2, y2, h2⟩ : ∃ n y, DataW.trod enc Tryd.prog W 0 (fun _ => true) true n 9 (([a0, a1, a2, a3, a4, a5, a6, a7, a8].drop 2).take (Tryd.prog.cellsOf 9)) = some y := hp 2 _ rfl
    obtain ⟨n3, y3, h3⟩ : ∃ n y, DataW.trod enc Tryd.prog W 0 (fun _ => true) true n 9 (([a0, a1, a2, a3, a4, a5, a6, a7, a8].drop 3).take (Tryd.prog.cellsOf 9)) = some y := hp 3 _ rfl
    obtain ⟨n4, y4, h4⟩ : ∃ n y, DataW.trod enc Tryd.prog W 0 (fun _ => true) true n 22 (([a0, a1, a2, a3, a4, a5, a6, a7, a8].drop 4).take (Tryd.prog.cellsOf 22)) = some y := hp 4 _ rfl
    obtain ⟨n5, y5, h5⟩ : ∃ n y, DataW.trod enc Tryd.prog W 0 (fun _ => true) true n 9 (([a0, a1, a2, a3, a4, a5, a6, a7, a8].drop 5).take (Tryd.prog.cellsOf 9)) = some y := hp 5 _ rfl
    obtain ⟨n6, y6, h6⟩ : ∃ n y, DataW.trod enc Tryd.prog W 0 (fun _ => true) true n 2 (([a0, a1, a2, a3, a4, a5, a6, a7, a8].drop 6).take (Tryd.prog.cellsOf 2)) = some y := hp 6 _ rfl
    obtain ⟨n7, y7, h7⟩ : ∃ n y, DataW.trod enc Tryd.prog W 0 (fun _ => true) true n 3 (([a0, a1, a2, a3, a4, a5, a6, a7, a8].drop 7).take (Tryd.prog.cellsOf 3)) = some y := hp 7 _ rfl
    obtain ⟨n8, y8, h8⟩ : ∃ n y, DataW.trod enc Tryd.prog W 0 (fun _ => true) true n 4 (([a0, a1, a2, a3, a4, a5, a6, a7, a8].drop 8).take (Tryd.prog.cellsOf 4)) = some y := hp 8 _ rfl
    simp only [c2, c3, c4, c9, c22, List.drop_zero, List.drop_succ_cons, List.take_succ_cons, List.take_zero] at h0 h1 h2 h3 h4 h5 h6 h7 h8
    obtain ⟨s0, e0⟩ := str_of h0
    obtain ⟨s1, e1⟩ := str_of h1
    obtain ⟨s2, e2⟩ := str_of h2
    obtain ⟨s3, e3⟩ := str_of h3
    obtain ⟨v4, l4, e4, r4⟩ := strs_of h4
    obtain ⟨s5, e5⟩ := str_of h5
    obtain ⟨z6, e6⟩ := int_of (k := .i64) h6
    obtain ⟨z7, e7⟩ := int_of (k := .i64) h7
    obtain ⟨b8, e8⟩ := bool_of h8
    cases e0; cases e1; cases e2; cases e3; cases e4; cases e5; cases e6; cases e7; cases e8
    exact ⟨(_, ⟨s0, s1, s2, s3, l4, s5, z6, z7, b8⟩), rfl, r4⟩
theorem gdo_of {H : Type} {enc : TypeId × Value → H} {W : World} {f : Nat} {cs : List Value} {x : DataW H × List MemPlace} (h : DataW.trod enc Tryd.prog W 0 (fun _ => true) true f 33 cs = some x) : ∃ d : GDo, cs = d.enc ∧ d.is (Rw W) := by
  obtain ⟨hl, hp⟩ := parts_of Tryd.underlying33 h
  have hc : Tryd.prog.cellsOf 33 = 17 := by kernel_rfl
  rw [hc] at hl
  have c2 : Tryd.prog.cellsOf 2 = 1 := by kernel_rfl
  have c3 : Tryd.prog.cellsOf 3 = 1 := by kernel_rfl
  have c9 : Tryd.prog.cellsOf 9 = 1 := by kernel_rfl
  have c22 : Tryd.prog.cellsOf 22 = 1 := by kernel_rfl
  have c24 : Tryd.prog.cellsOf 24 = 9 := by kernel_rfl
  match cs, hl with
  | [a0, a1, a2, a3, a4, a5, a6, a7, a8, a9, a10, a11, a12, a13, a14, a15, a16], _ =>
    obtain ⟨n0, y0, h0⟩ : ∃ n y, DataW.trod enc Tryd.prog W 0 (fun _ => true) true n 3 (([a0, a1, a2, a3, a4, a5, a6, a7, a8, a9, a10, a11, a12, a13, a14, a15, a16].drop 0).take (Tryd.prog.cellsOf 3)) = some y := hp 0 _ rfl
    obtain ⟨n1, y1, h1⟩ : ∃ n y, DataW.trod enc Tryd.prog W 0 (fun _ => true) true n 9 (([a0, a1, a2, a3, a4, a5, a6, a7, a8, a9, a10, a11, a12, a13, a14, a15, a16].drop 1).take (Tryd.prog.cellsOf 9)) = some y := hp 1 _ rfl
    obtain ⟨n2, y2, h2⟩ : ∃ n y, DataW.trod enc Tryd.prog W 0 (fun _ => true) true n 9 (([a0, a1, a2, a3, a4, a5, a6, a7, a8, a9, a10, a11, a12, a13, a14, a15, a16].drop 2).take (Tryd.prog.cellsOf 9)) = some y := hp 2 _ rfl
    obtain ⟨n3, y3, h3⟩ : ∃ n y, DataW.trod enc Tryd.prog W 0 (fun _ => true) true n 22 (([a0, a1, a2, a3, a4, a5, a6, a7, a8, a9, a10, a11, a12, a13, a14, a15, a16].drop 3).take (Tryd.prog.cellsOf 22)) = some y := hp 3 _ rfl
    obtain ⟨n4, y4, h4⟩ : ∃ n y, DataW.trod enc Tryd.prog W 0 (fun _ => true) true n 24 (([a0, a1, a2, a3, a4, a5, a6, a7, a8, a9, a10, a11, a12, a13, a14, a15, a16].drop 4).take (Tryd.prog.cellsOf 24)) = some y := hp 4 _ rfl
    obtain ⟨n5, y5, h5⟩ : ∃ n y, DataW.trod enc Tryd.prog W 0 (fun _ => true) true n 9 (([a0, a1, a2, a3, a4, a5, a6, a7, a8, a9, a10, a11, a12, a13, a14, a15, a16].drop 13).take (Tryd.prog.cellsOf 9)) = some y := hp 5 _ rfl
    obtain ⟨n6, y6, h6⟩ : ∃ n y, DataW.trod enc Tryd.prog W 0 (fun _ => true) true n 9 (([a0, a1, a2, a3, a4, a5, a6, a7, a8, a9, a10, a11, a12, a13, a14, a15, a16].drop 14).take (Tryd.prog.cellsOf 9)) = some y := hp 6 _ rfl
    obtain ⟨n7, y7, h7⟩ : ∃ n y, DataW.trod enc Tryd.prog W 0 (fun _ => true) true n 9 (([a0, a1, a2, a3, a4, a5, a6, a7, a8, a9, a10, a11, a12, a13, a14, a15, a16].drop 15).take (Tryd.prog.cellsOf 9)) = some y := hp 7 _ rfl
    obtain ⟨n8, y8, h8⟩ : ∃ n y, DataW.trod enc Tryd.prog W 0 (fun _ => true) true n 2 (([a0, a1, a2, a3, a4, a5, a6, a7, a8, a9, a10, a11, a12, a13, a14, a15, a16].drop 16).take (Tryd.prog.cellsOf 2)) = some y := hp 8 _ rfl
    simp only [c2, c3, c9, c22, c24, List.drop_zero, List.drop_succ_cons, List.take_succ_cons, List.take_zero] at h0 h1 h2 h3 h4 h5 h6 h7 h8
    obtain ⟨z0, e0⟩ := int_of (k := .i64) h0
    obtain ⟨s1, e1⟩ := str_of h1
    obtain ⟨s2, e2⟩ := str_of h2
    obtain ⟨v3, l3, e3, r3⟩ := strs_of h3
    obtain ⟨p4, e4, r4⟩ := gcod_of h4
    obtain ⟨s5, e5⟩ := str_of h5
    obtain ⟨s6, e6⟩ := str_of h6
    obtain ⟨s7, e7, q7⟩ := str_fit h7
    obtain ⟨z8, e8⟩ := int_of (k := .i64) h8
    cases e0; cases e1; cases e2; cases e3; cases e5; cases e6; cases e7; cases e8
    obtain ⟨w4, t4⟩ := p4
    simp only [encG, List.cons.injEq, and_true] at e4
    obtain ⟨rfl, rfl, rfl, rfl, rfl, rfl, rfl, rfl, rfl⟩ := e4
    exact ⟨⟨z0, s1, s2, _, l3, (_, t4), s5, s6, s7, z8⟩, rfl, r3, r4, q7⟩
end Go.Proofs.YtpmhgpjcladbkaaDoor
set_option linter.unusedVariables false
set_option maxRecDepth 4000
namespace Go.Proofs.YtpmhgpjcladbkaaDoor
def cst (n : Nat) (c : Cod) : Cod := if n = 0 then c else c.mark
def rbG (d : GDo) (c : Cod) : Bool := decide (d.client = c.client) && (decide (d.uri = c.uri) && (isVer d.ver && (decide (chal d.ver = c.chall) && decide (d.now < c.expires))))
theorem gonce_step (k : ByteArray) (c : Cod) (d : GDo) (n : Nat) (hn : n ≤ 1) (hc : c.used = false) :
    ((gredeem [(k, cst n c)] k d.client d.uri d.ver d.now).2.1 = 0 → n = 0 ∧ rbG d c = true ∧ (gredeem [(k, cst n c)] k d.client d.uri d.ver d.now).1 = c.mark ∧ (gredeem [(k, cst n c)] k d.client d.uri d.ver d.now).2.2 = [(k, cst 1 c)]) ∧
    ((gredeem [(k, cst n c)] k d.client d.uri d.ver d.now).2.1 ≠ 0 → (gredeem [(k, cst n c)] k d.client d.uri d.ver d.now).2.2 = [(k, cst n c)] ∧ (rbG d c = true → n = 1) ∧ ((gredeem [(k, cst n c)] k d.client d.uri d.ver d.now).2.1 = 10 → n = 1)) := by
  have hg : mget k [(k, cst n c)] = some (cst n c) := by simp [mget]
  have f1 : (cst n c).client = c.client := by unfold cst; split <;> rfl
  have f2 : (cst n c).uri = c.uri := by unfold cst; split <;> rfl
  have f3 : (cst n c).chall = c.chall := by unfold cst; split <;> rfl
  have f4 : (cst n c).expires = c.expires := by unfold cst; split <;> rfl
  have f5 : (cst n c).used = !decide (n = 0) := by
    unfold cst
    split
    · rename_i h; simp [hc, h]
    · rename_i h; simp [Cod.mark, h]
  by_cases h1 : c.client = d.client
  · by_cases h2 : n = 0
    · by_cases h3 : c.expires ≤ d.now ∨ c.uri ≠ d.uri ∨ pmatch d.ver c.chall = false
      · have e : gredeem [(k, cst n c)] k d.client d.uri d.ver d.now = (Cod.zero, 18, [(k, cst n c)]) := by
          unfold gredeem; rw [hg]; simp only; rw [if_neg (by rw [f1]; simp [h1]), if_neg (by rw [f5]; simp [h2]), if_pos (by rw [f4, f2, f3]; exact h3)]
        rw [e]
        refine ⟨fun h => by simp at h, fun _ => ⟨rfl, fun hr => ?_, fun h => by simp at h⟩⟩
        exfalso
        unfold rbG at hr
        simp only [Bool.and_eq_true, decide_eq_true_eq] at hr
        obtain ⟨r1, r2, r3, r4, r5⟩ := hr
        rcases h3 with h3 | h3 | h3
        · omega
        · exact h3 r2.symm
        · simp [pmatch, r3, r4] at h3
      · have e : gredeem [(k, cst n c)] k d.client d.uri d.ver d.now = ((cst n c).mark, 0, kset k (cst n c).mark [(k, cst n c)]) := by
          unfold gredeem; rw [hg]; simp only; rw [if_neg (by rw [f1]; simp [h1]), if_neg (by rw [f5]; simp [h2]), if_neg (by rw [f4, f2, f3]; exact h3)]
        rw [e]
        refine ⟨fun _ => ⟨h2, ?_, ?_, ?_⟩, fun h => absurd rfl h⟩
        · unfold rbG
          simp only [not_or, Int.not_le, ne_eq, Classical.not_not, Bool.not_eq_false] at h3
          obtain ⟨r1, r2, r3⟩ := h3
          unfold pmatch at r3
          simp only [Bool.and_eq_true, decide_eq_true_eq] at r3
          simp [h1, r2, r3.1, r3.2, r1]
        · simp [cst, h2]
        · simp [cst, h2, kset, kdel, Cod.mark]
    · have e : gredeem [(k, cst n c)] k d.client d.uri d.ver d.now = (cst n c, 10, [(k, cst n c)]) := by
        unfold gredeem; rw [hg]; simp only; rw [if_neg (by rw [f1]; simp [h1]), if_pos (by rw [f5]; simp [h2])]
      rw [e]
      exact ⟨fun h => by simp at h, fun _ => ⟨rfl, fun _ => by omega, fun _ => by omega⟩⟩
  · have e : gredeem [(k, cst n c)] k d.client d.uri d.ver d.now = (Cod.zero, 18, [(k, cst n c)]) := by
      unfold gredeem; rw [hg]; simp only; rw [if_pos (by rw [f1]; exact h1)]
    rw [e]
    refine ⟨fun h => by simp at h, fun _ => ⟨rfl, fun hr => ?_, fun h => by simp at h⟩⟩
    unfold rbG at hr
    simp only [Bool.and_eq_true, decide_eq_true_eq] at hr
    exact absurd hr.1.symm h1
theorem gonce_spec (w : Value) (t : Cod) (vl : Value) (ds : List GDo) (R : Rds) (ht : CodR R (w, t)) (hD : RS R 17 GDo.enc vl ds) (hd : ∀ d ∈ ds, d.is R) (hg : PC R (.pointer (some ⟨1, 0, none⟩)) (wv ks)) :
    Spec Tryd.prog 3 [.agg (encG (w, t)).toArray, vl] R [] fun u H' => u = .bool true ∧ H' = [] := by
  have hDl := hD.le
  obtain ⟨pd_, kd_, rfl⟩ := hD.val
  have it : Ones (encG (w, t)) := ⟨ht.ones⟩
  have his : gissue [] t.short = (0, [(t.short.text, t.short.fresh)]) := rfl
  refine Spec.body Tryd.func3 rfl Tryd.results3 Tryd.ntmps3 rfl ?_
  refine .seq (.region ?_)
  refine TriOps.boxA rfl (fun b2 => ?_)
  refine .q .assign ?_
  refine .nil (seqQ_n ?_)
  refine .seq (.region ?_)
  refine TriOps.callN (gnew_spec _) (fun u T0 hu => ?_)
  obtain ⟨g, rfl, hb⟩ := hu
  refine .q .assign ?_
  refine .nil (seqQ_n ?_)
  refine .seq (.region ?_)
  refine .q (.loadA rfl) ?_
  refine TriOps.callN (gmine_spec w t _ ht.rx) (fun u T1 hu => ?_)
  obtain ⟨w1, rfl, hc1⟩ := hu
  have i1 : Ones (encG (w1, t.short)) := ⟨hc1.ones⟩
  refine TriOps.allocA (fun b6 => ?_)
  refine TriOps.storeA rfl rfl ?_
  refine .nil (seqQ_n ?_)
  refine .seq ?_
  refine .seq (.region ?_)
  refine .q .move ?_
  refine .q (.eqNilA rfl rfl) ?_
  refine .q .move ?_
  refine TriOps.gt rfl ?_
  refine .q .move ?_
  refine TriOps.gt rfl ?_
  refine .q (.loadA rfl) ?_
  refine TriOps.gt rfl ?_
  refine TriOps.callW (gissue_spec g [] [] T0 hb w1 t.short _ (hc1.mono fun b o hb' => .inr (by have hb2 : (b, o) ∈ T1 := hb'.1; simp [hb2])) t.short_few) (fun u T2 hu => ?_)
  obtain ⟨rfl, hb2⟩ := hu
  rw [his] at hb2 ⊢
  refine TriOps.gt rfl ?_
  refine .q .neI ?_
  refine .q .pickF ?_
  refine .nil (seqQ_n ?_)
  refine .cond rfl (fun h1 => ?_) (fun h1 => ?_)
  · simp at h1
  obtain ⟨c, hc⟩ : ∃ c, c = t.short.fresh := ⟨_, rfl⟩
  have hcu : c.used = false := by rw [hc]; rfl
  rw [← hc] at hb2
  have hb3 : GI g [] [(t.short.text, cst 0 c)] T2 := hb2
  have e1 : t.short.client = c.client := by rw [hc]; rfl
  have e2 : t.short.uri = c.uri := by rw [hc]; rfl
  have e3 : t.short.chall = c.chall := by rw [hc]; rfl
  have e4 : t.short.expires = c.expires := by rw [hc]; rfl
  have e5 : t.short.user = c.user := by rw [hc]; rfl
  have e6 : t.short.family = c.family := by rw [hc]; rfl
  have e7 : t.short.scopes = c.scopes := by rw [hc]; rfl
  clear hb hb2
  refine .skip ?_
  refine seqQ_n ?_
  refine .seq (.region ?_)
  refine .q .assign ?_
  refine .nil (seqQ_n ?_)
  refine .seq ?_
  refine .seq (.region ?_)
  refine .q .assign ?_
  refine .nil (seqQ_n ?_)
  refine .block ?_
  refine .loop (X := Nat × Nat × Seg) (fun y => y.1 ≤ ds.length ∧ y.2.1 ≤ 1 ∧ GI g [] [(t.short.text, cst y.2.1 c)] y.2.2) (fun y => [(1, .slice pd_ ds.length kd_), (2, .pointer (some ⟨b2, 0, none⟩)), (5, .pointer (some ⟨g, 0, none⟩)), (6, .pointer (some ⟨b6, 0, none⟩)), (7, .int .i64 (y.2.1 : Nat)), (8, .int .i64 (y.1 : Nat))]) (fun y => [y.2.2, [(b6, .cells (encG (w1, t.short)).toArray 28 (0, 0))], [(b2, .cells (encG (w, t)).toArray 24 (0, 0))]]) (fun y => ds.length - y.1) (0, 0, T2) ⟨Nat.zero_le _, Nat.zero_le _, hb3⟩ (((((((EnvLe.nil _).cons rfl).cons rfl).cons rfl).cons rfl).cons rfl).cons rfl) (HLe.pick [2, 0, 1] _) ?_
  clear hb3 T2
  rintro ⟨i, n, T⟩ ⟨hi, hn, hG⟩
  simp only at hi hn hG ⊢
  refine .seq ?_
  refine .seq (.region ?_)
  refine .q .move ?_
  refine .q .move ?_
  refine .q (.lenR hD) ?_
  refine .q .lss ?_
  refine .q .move ?_
  refine TriOps.split (t := 28) rfl (fun g7_4 => ?_) (fun g7_4 => ?_)
  refine TriOps.gT g7_4 ?_
  refine .q .move ?_
  refine TriOps.gT g7_4 ?_
  refine .q .lss ?_
  refine .q (.pickTh g7_4) ?_
  refine .nil (seqQ_n ?_)
  refine .cond rfl (fun h2 => ?_) (fun h2 => ?_)
  have hlt : i < ds.length := by
    have := of_decide_eq_true g7_4
    omega
  obtain ⟨d, hz⟩ : ∃ d, ds[i]? = some d := ⟨_, List.getElem?_eq_getElem hlt⟩
  have hdi := hd d (List.mem_of_getElem? hz)
  have id9 : Ones d.enc := ⟨GDo.ones hdi⟩
  obtain ⟨hs1, hs2⟩ := gonce_step t.short.text c d n hn hcu
  refine .skip ?_
  refine seqQ_n ?_
  refine .seq ?_
  refine .block ?_
  refine .seq (.region ?_)
  refine .q .move ?_
  refine .q .move ?_
  refine TriOps.indexR i hD hz (fun p36 => ?_)
  refine .q (.loadA rfl) ?_
  refine TriOps.allocA (fun b9 => ?_)
  refine TriOps.storeA rfl rfl ?_
  refine .nil (seqQ_n ?_)
  refine .seq (.region ?_)
  refine .q .move ?_
  refine .q (.fieldAddr rfl) ?_
  refine .q (.load1 rfl) ?_
  refine .q (.fieldAddr rfl) ?_
  refine .q (.load1 rfl) ?_
  refine .q (.fieldAddr rfl) ?_
  refine .q (.load1 rfl) ?_
  refine .q (.fieldAddr rfl) ?_
  refine .q (.load1 rfl) ?_
  refine .q (.fieldAddr rfl) ?_
  refine .q (.load1 rfl) ?_
  first
    | refine TriOps.call [1] (gredeem_spec g [] _ T hG t.short.text d.client d.uri d.ver d.now hdi.2.2 _ hg.rx) (fun u H' hu => ?_)
    | refine TriOps.call [0] (gredeem_spec g [] _ T hG t.short.text d.client d.uri d.ver d.now hdi.2.2 _ hg.rx) (fun u H' hu => ?_)
  obtain ⟨T3, Tn, rfl, w3, rfl, hc3, hG3⟩ := hu
  show TriOps _ _ _ _ _ _ _ [_, _, _, _, _] _
  have i3 := (⟨hc3.ones⟩ : Ones (encG (w3, _)))
  generalize hr1 : (gredeem [(t.short.text, cst n c)] t.short.text d.client d.uri d.ver d.now).1 = r1 at hc3 hG3 hs1 hs2 i3 ⊢
  generalize hr2 : (gredeem [(t.short.text, cst n c)] t.short.text d.client d.uri d.ver d.now).2.1 = ew at hc3 hG3 hs1 hs2 i3 ⊢
  generalize hr3 : (gredeem [(t.short.text, cst n c)] t.short.text d.client d.uri d.ver d.now).2.2 = A2 at hc3 hG3 hs1 hs2 i3 ⊢
  refine .q .move ?_
  refine .q .extract ?_
  refine .q .extract ?_
  refine TriOps.allocA (fun b10 => ?_)
  refine TriOps.storeA rfl rfl ?_
  refine .q .assign ?_
  refine .nil (seqQ_n ?_)
  refine .seq ?_
  refine Tri.cut (X := Unit) (fun _ => True) (fun _ => [(1, .slice pd_ ds.length kd_), (2, .pointer (some ⟨b2, 0, none⟩)), (5, .pointer (some ⟨g, 0, none⟩)), (6, .pointer (some ⟨b6, 0, none⟩)), (7, .int .i64 (n : Nat)), (8, .int .i64 (i : Nat)), (10, .pointer (some ⟨b10, 0, none⟩)), (11, .int .i64 ew), (12, .bool (rbG d c))]) (fun _ => [[(b10, .cells (encG (w3, r1)).toArray 28 (0, 0))], T3, Tn, [(b6, .cells (encG (w1, t.short)).toArray 28 (0, 0))], [(b2, .cells (encG (w, t)).toArray 24 (0, 0))]]) ?_ ?_
  refine .region_all [] mixed ?_
  refine .takeO 0 rfl (.fieldAddr rfl) (by kernel_rfl) ?_
  refine .takeO 1 rfl (.load1 rfl) (by kernel_rfl) ?_
  refine .takeO 2 rfl (.fieldAddr rfl) (by kernel_rfl) ?_
  refine .takeO 3 rfl (.load1 rfl) (by kernel_rfl) ?_
  refine .takeO 4 rfl .eqS (by kernel_rfl) ?_
  refine .takeO 5 rfl .move (by kernel_rfl) ?_
  refine RA.split (t := 58) rfl (fun g11_5 => ?_) (fun g11_5 => ?_)
  refine .takeGhO 6 rfl rfl g11_5 (.fieldAddr rfl) (by kernel_rfl) ?_
  refine .takeGhO 7 rfl rfl g11_5 (.load1 rfl) (by kernel_rfl) ?_
  refine .takeGhO 8 rfl rfl g11_5 (.fieldAddr rfl) (by kernel_rfl) ?_
  refine .takeGhO 9 rfl rfl g11_5 (.load1 rfl) (by kernel_rfl) ?_
  refine .takeGhO 10 rfl rfl g11_5 .eqS (by kernel_rfl) ?_
  refine .takeO 11 rfl (.pickTh g11_5) (by kernel_rfl) ?_
  refine .takeO 12 rfl .move (by kernel_rfl) ?_
  refine RA.split (t := 65) rfl (fun g11_12 => ?_) (fun g11_12 => ?_)
  refine .takeGhO 13 rfl rfl g11_12 (.fieldAddr rfl) (by kernel_rfl) ?_
  refine .takeGhO 14 rfl rfl g11_12 (.load1 rfl) (by kernel_rfl) ?_
  refine RA.step 15 rfl (by kernel_rfl) rfl ?_
  refine TriOps.gT g11_12 ?_
  refine TriOps.callR (rverifier_spec d.ver hdi.2.2 _) (fun u hu => ?_)
  subst hu
  refine .nil (Next.sub ?_)
  refine .takeO 16 rfl (.pickTh g11_12) (by kernel_rfl) ?_
  refine .takeO 17 rfl .move (by kernel_rfl) ?_
  refine RA.split (t := 70) rfl (fun g11_17 => ?_) (fun g11_17 => ?_)
  refine .takeGhO 18 rfl rfl g11_17 (.fieldAddr rfl) (by kernel_rfl) ?_
  refine .takeGhO 19 rfl rfl g11_17 (.load1 rfl) (by kernel_rfl) ?_
  refine .takeGhO 21 rfl rfl g11_17 (.fieldAddr rfl) (by kernel_rfl) ?_
  refine .takeGhO 22 rfl rfl g11_17 (.load1 rfl) (by kernel_rfl) ?_
  refine RA.step 20 rfl (by kernel_rfl) rfl ?_
  refine TriOps.gT g11_17 ?_
  have hsz : d.ver.size ≤ 128 := by
    have h9 : isVer d.ver = true := g11_17
    unfold isVer at h9
    simp at h9
    omega
  refine TriOps.callR (rchallenge_spec d.ver (by omega) _) (fun u hu => ?_)
  subst hu
  refine .nil (Next.sub ?_)
  refine .takeGhO 23 rfl rfl g11_17 .eqS (by kernel_rfl) ?_
  refine .takeO 24 rfl (.pickTh g11_17) (by kernel_rfl) ?_
  refine .takeO 25 rfl .move (by kernel_rfl) ?_
  refine RA.split (t := 78) rfl (fun g11_25 => ?_) (fun g11_25 => ?_)
  refine .takeGhO 26 rfl rfl g11_25 (.fieldAddr rfl) (by kernel_rfl) ?_
  refine .takeGhO 27 rfl rfl g11_25 (.load1 rfl) (by kernel_rfl) ?_
  refine .takeGhO 28 rfl rfl g11_25 (.fieldAddr rfl) (by kernel_rfl) ?_
  refine .takeGhO 29 rfl rfl g11_25 (.load1 rfl) (by kernel_rfl) ?_
  refine .takeGhO 30 rfl rfl g11_25 .lss (by kernel_rfl) ?_
  refine .takeO 31 rfl (.pickTh g11_25) (by kernel_rfl) ?_
  refine .takeO 32 rfl .assign (by kernel_rfl) ?_
  refine RA.nil (by kernel_rfl) ?_
  · refine joinQ_n () trivial (EnvLe.cons (EnvLe.cons (EnvLe.cons (EnvLe.cons (EnvLe.cons (EnvLe.cons (EnvLe.cons (EnvLe.cons (EnvLe.cons (EnvLe.nil _) ?_) rfl) rfl) rfl) rfl) rfl) rfl) rfl) rfl) (HLe.pick [0, 0, 0, 1, 1] _)
    refine congrArg (fun b => some (Value.bool b)) (?_ : _ = rbG d c)
    unfold rbG
    simp_all
  refine .takeFh 26 rfl rfl g11_25 rfl (by kernel_rfl) ?_
  refine .takeFh 27 rfl rfl g11_25 rfl (by kernel_rfl) ?_
  refine .takeFh 28 rfl rfl g11_25 rfl (by kernel_rfl) ?_
  refine .takeFh 29 rfl rfl g11_25 rfl (by kernel_rfl) ?_
  refine .takeFh 30 rfl rfl g11_25 rfl (by kernel_rfl) ?_
  refine .takeO 31 rfl (.pickFh g11_25) (by kernel_rfl) ?_
  refine .takeO 32 rfl .assign (by kernel_rfl) ?_
  refine RA.nil (by kernel_rfl) ?_
  · refine joinQ_n () trivial (EnvLe.cons (EnvLe.cons (EnvLe.cons (EnvLe.cons (EnvLe.cons (EnvLe.cons (EnvLe.cons (EnvLe.cons (EnvLe.cons (EnvLe.nil _) ?_) rfl) rfl) rfl) rfl) rfl) rfl) rfl) rfl) (HLe.pick [0, 0, 0, 1, 1] _)
    refine congrArg (fun b => some (Value.bool b)) (?_ : _ = rbG d c)
    unfold rbG
    simp_all
  refine .takeFh 18 rfl rfl g11_17 rfl (by kernel_rfl) ?_
  refine .takeFh 19 rfl rfl g11_17 rfl (by kernel_rfl) ?_
  refine .takeFh 21 rfl rfl g11_17 rfl (by kernel_rfl) ?_
  refine .takeFh 22 rfl rfl g11_17 rfl (by kernel_rfl) ?_
  refine RA.step 20 rfl (by kernel_rfl) rfl ?_
  refine TriOps.gF g11_17 ?_
  refine .nil (Next.sub ?_)
  refine .takeFh 23 rfl rfl g11_17 rfl (by kernel_rfl) ?_
  refine .takeO 24 rfl (.pickFh g11_17) (by kernel_rfl) ?_
  refine .takeO 25 rfl .move (by kernel_rfl) ?_
  refine .takeF 26 rfl rfl rfl (by kernel_rfl) ?_
  refine .takeF 27 rfl rfl rfl (by kernel_rfl) ?_
  refine .takeF 28 rfl rfl rfl (by kernel_rfl) ?_
  refine .takeF 29 rfl rfl rfl (by kernel_rfl) ?_
  refine .takeF 30 rfl rfl rfl (by kernel_rfl) ?_
  refine .takeO 31 rfl .pickF (by kernel_rfl) ?_
  refine .takeO 32 rfl .assign (by kernel_rfl) ?_
  refine RA.nil (by kernel_rfl) ?_
  · refine joinQ_n () trivial (EnvLe.cons (EnvLe.cons (EnvLe.cons (EnvLe.cons (EnvLe.cons (EnvLe.cons (EnvLe.cons (EnvLe.cons (EnvLe.cons (EnvLe.nil _) ?_) rfl) rfl) rfl) rfl) rfl) rfl) rfl) rfl) (HLe.pick [0, 0, 0, 1, 1] _)
    refine congrArg (fun b => some (Value.bool b)) (?_ : _ = rbG d c)
    unfold rbG
    simp_all
  refine .takeFh 13 rfl rfl g11_12 rfl (by kernel_rfl) ?_
  refine .takeFh 14 rfl rfl g11_12 rfl (by kernel_rfl) ?_
  refine RA.step 15 rfl (by kernel_rfl) rfl ?_
  refine TriOps.gF g11_12 ?_
  refine .nil (Next.sub ?_)
  refine .takeO 16 rfl (.pickFh g11_12) (by kernel_rfl) ?_
  refine .takeO 17 rfl .move (by kernel_rfl) ?_
  refine .takeF 18 rfl rfl rfl (by kernel_rfl) ?_
  refine .takeF 19 rfl rfl rfl (by kernel_rfl) ?_
  refine .takeF 21 rfl rfl rfl (by kernel_rfl) ?_
  refine .takeF 22 rfl rfl rfl (by kernel_rfl) ?_
  refine RA.step 20 rfl (by kernel_rfl) rfl ?_
  refine TriOps.gf rfl rfl ?_
  refine .nil (Next.sub ?_)
  refine .takeF 23 rfl rfl rfl (by kernel_rfl) ?_
  refine .takeO 24 rfl .pickF (by kernel_rfl) ?_
  refine .takeO 25 rfl .move (by kernel_rfl) ?_
  refine .takeF 26 rfl rfl rfl (by kernel_rfl) ?_
  refine .takeF 27 rfl rfl rfl (by kernel_rfl) ?_
  refine .takeF 28 rfl rfl rfl (by kernel_rfl) ?_
  refine .takeF 29 rfl rfl rfl (by kernel_rfl) ?_
  refine .takeF 30 rfl rfl rfl (by kernel_rfl) ?_
  refine .takeO 31 rfl .pickF (by kernel_rfl) ?_
  refine .takeO 32 rfl .assign (by kernel_rfl) ?_
  refine RA.nil (by kernel_rfl) ?_
  · refine joinQ_n () trivial (EnvLe.cons (EnvLe.cons (EnvLe.cons (EnvLe.cons (EnvLe.cons (EnvLe.cons (EnvLe.cons (EnvLe.cons (EnvLe.cons (EnvLe.nil _) ?_) rfl) rfl) rfl) rfl) rfl) rfl) rfl) rfl) (HLe.pick [0, 0, 0, 1, 1] _)
    refine congrArg (fun b => some (Value.bool b)) (?_ : _ = rbG d c)
    unfold rbG
    simp_all
  refine .takeFh 6 rfl rfl g11_5 rfl (by kernel_rfl) ?_
  refine .takeFh 7 rfl rfl g11_5 rfl (by kernel_rfl) ?_
  refine .takeFh 8 rfl rfl g11_5 rfl (by kernel_rfl) ?_
  refine .takeFh 9 rfl rfl g11_5 rfl (by kernel_rfl) ?_
  refine .takeFh 10 rfl rfl g11_5 rfl (by kernel_rfl) ?_
  refine .takeO 11 rfl (.pickFh g11_5) (by kernel_rfl) ?_
  refine .takeO 12 rfl .move (by kernel_rfl) ?_
  refine .takeF 13 rfl rfl rfl (by kernel_rfl) ?_
  refine .takeF 14 rfl rfl rfl (by kernel_rfl) ?_
  refine RA.step 15 rfl (by kernel_rfl) rfl ?_
  refine TriOps.gf rfl rfl ?_
  refine .nil (Next.sub ?_)
  refine .takeO 16 rfl .pickF (by kernel_rfl) ?_
  refine .takeO 17 rfl .move (by kernel_rfl) ?_
  refine .takeF 18 rfl rfl rfl (by kernel_rfl) ?_
  refine .takeF 19 rfl rfl rfl (by kernel_rfl) ?_
  refine .takeF 21 rfl rfl rfl (by kernel_rfl) ?_
  refine .takeF 22 rfl rfl rfl (by kernel_rfl) ?_
  refine RA.step 20 rfl (by kernel_rfl) rfl ?_
  refine TriOps.gf rfl rfl ?_
  refine .nil (Next.sub ?_)
  refine .takeF 23 rfl rfl rfl (by kernel_rfl) ?_
  refine .takeO 24 rfl .pickF (by kernel_rfl) ?_
  refine .takeO 25 rfl .move (by kernel_rfl) ?_
  refine .takeF 26 rfl rfl rfl (by kernel_rfl) ?_
  refine .takeF 27 rfl rfl rfl (by kernel_rfl) ?_
  refine .takeF 28 rfl rfl rfl (by kernel_rfl) ?_
  refine .takeF 29 rfl rfl rfl (by kernel_rfl) ?_
  refine .takeF 30 rfl rfl rfl (by kernel_rfl) ?_
  refine .takeO 31 rfl .pickF (by kernel_rfl) ?_
  refine .takeO 32 rfl .assign (by kernel_rfl) ?_
  refine RA.nil (by kernel_rfl) ?_
  · refine joinQ_n () trivial (EnvLe.cons (EnvLe.cons (EnvLe.cons (EnvLe.cons (EnvLe.cons (EnvLe.cons (EnvLe.cons (EnvLe.cons (EnvLe.cons (EnvLe.nil _) ?_) rfl) rfl) rfl) rfl) rfl) rfl) rfl) rfl) (HLe.pick [0, 0, 0, 1, 1] _)
    refine congrArg (fun b => some (Value.bool b)) (?_ : _ = rbG d c)
    unfold rbG
    simp_all
  intro y hy
  refine seqQ_n ?_
  refine .seq ?_
  refine .seq (.region ?_)
  refine .q .move ?_
  refine .q .eqI ?_
  refine .nil (seqQ_n ?_)
  refine Tri.cut (X := Nat × Seg × Value × Nat) (fun y => ((y.1 = 1 ∧ ew = 0) ∨ (y.1 = n ∧ ew ≠ 0 ∧ (rbG d c = true → n = 1) ∧ (ew = 10 → n = 1))) ∧ GI g [] [(t.short.text, cst y.1 c)] y.2.1) (fun y => [(1, .slice pd_ ds.length kd_), (2, .pointer (some ⟨b2, 0, none⟩)), (5, .pointer (some ⟨g, 0, none⟩)), (6, .pointer (some ⟨b6, 0, none⟩)), (7, .int .i64 (y.1 : Nat)), (8, .int .i64 (i : Nat)), (11, .int .i64 ew), (12, .bool (rbG d c))]) (fun y => [y.2.1, [(b6, .cells (encG (w1, t.short)).toArray 28 (0, 0))], [(b2, .cells (encG (w, t)).toArray 24 (0, 0))]]) ?_ ?_
  refine .cond rfl (fun h3 => ?_) (fun h3 => ?_)
  have he0 : ew = 0 := by simpa using h3
  obtain ⟨q1, q2, q3, q4⟩ := hs1 he0
  subst q1
  subst q3
  rw [q4] at hG3
  rw [q2]
  refine .seq (.region ?_)
  refine .q .move ?_
  refine .q (.i64 ((0 + 1 : Nat) : Int) .add ⟨by omega, by omega, by omega⟩) ?_
  refine .q .assign ?_
  refine .nil (seqQ_n ?_)
  refine .seq ?_
  refine .region_all [] mixed ?_
  refine .takeO 0 rfl .move (by kernel_rfl) ?_
  refine .takeO 1 rfl .not (by kernel_rfl) ?_
  refine .takeO 2 rfl .move (by kernel_rfl) ?_
  refine RA.split (t := 91) rfl (fun g14_2 => ?_) (fun g14_2 => ?_)
  · simp at g14_2
  refine .takeGhO 3 rfl rfl g14_2 (.fieldAddr rfl) (by kernel_rfl) ?_
  refine .takeGhO 4 rfl rfl g14_2 (.load1 rfl) (by kernel_rfl) ?_
  refine .takeGhO 5 rfl rfl g14_2 (.fieldAddr rfl) (by kernel_rfl) ?_
  refine .takeGhO 6 rfl rfl g14_2 (.load1 rfl) (by kernel_rfl) ?_
  refine .takeGhO 7 rfl rfl g14_2 .neS (by kernel_rfl) ?_
  refine .takeO 8 rfl (.pickFh g14_2) (by kernel_rfl) ?_
  refine .takeO 9 rfl .move (by kernel_rfl) ?_
  refine RA.split (t := 98) rfl (fun g14_9 => ?_) (fun g14_9 => ?_)
  · simp [Cod.mark, e5] at g14_9
  refine .takeGhO 10 rfl rfl g14_9 (.fieldAddr rfl) (by kernel_rfl) ?_
  refine .takeGhO 11 rfl rfl g14_9 (.load1 rfl) (by kernel_rfl) ?_
  refine .takeGhO 12 rfl rfl g14_9 (.fieldAddr rfl) (by kernel_rfl) ?_
  refine .takeGhO 13 rfl rfl g14_9 (.load1 rfl) (by kernel_rfl) ?_
  refine .takeGhO 14 rfl rfl g14_9 .neI (by kernel_rfl) ?_
  refine .takeO 15 rfl (.pickFh g14_9) (by kernel_rfl) ?_
  refine .takeO 16 rfl .move (by kernel_rfl) ?_
  refine RA.split (t := 105) rfl (fun g14_16 => ?_) (fun g14_16 => ?_)
  · simp [Cod.mark, e6] at g14_16
  refine .takeGhO 17 rfl rfl g14_16 (.fieldAddr rfl) (by kernel_rfl) ?_
  refine .takeGhO 18 rfl rfl g14_16 (.load1 rfl) (by kernel_rfl) ?_
  refine .takeGhO 19 rfl rfl g14_16 (.loadA rfl) (by kernel_rfl) ?_
  refine RA.step 20 rfl (by kernel_rfl) rfl ?_
  refine TriOps.gT g14_16 ?_
  refine TriOps.callN (gshort_spec w t _ ht.rx) (fun u T9 hu => ?_)
  obtain ⟨w9, rfl, hc9⟩ := hu
  have i9 : Ones (encG (w9, t.short)) := ⟨hc9.ones⟩
  refine .nil (Next.sub ?_)
  refine .takeGhO 21 rfl rfl g14_16 (.field1 Tryd.underlying24 rfl rfl fA22 rfl) (by kernel_rfl) ?_
  refine RA.step 22 rfl (by kernel_rfl) rfl ?_
  refine TriOps.gT g14_16 ?_
  refine TriOps.callR (sameTexts_spec w3 w9 c.mark.scopes t.short.scopes _ (RS.mono (h := hc3) fun b o hb => .inr (by have hb2 : (b, o) ∈ Tn := hb.1; simp [hb2])) (RS.mono (h := hc9) fun b o hb => .inr (by have hb2 : (b, o) ∈ T9 := hb.1; simp [hb2]))) (fun u hu => ?_)
  subst hu
  rw [decide_eq_true (show c.mark.scopes = t.short.scopes by rw [e7]; rfl)]
  refine .nil (Next.sub ?_)
  refine .takeGhO 23 rfl rfl g14_16 .not (by kernel_rfl) ?_
  refine .takeO 24 rfl (.pickFh g14_16) (by kernel_rfl) ?_
  refine RA.nil (by kernel_rfl) ?_
  refine seqQ_n ?_
  refine .cond rfl (fun h4 => ?_) (fun h4 => ?_)
  · simp at h4
  · refine .skip ?_
    exact joinQ_n (1, T3, .nilIface, 0) ⟨.inl ⟨rfl, he0⟩, hG3⟩ (by rw [he0]; exact ((((((((EnvLe.nil _).cons rfl).cons rfl).cons rfl).cons rfl).cons rfl).cons rfl).cons rfl).cons rfl) (HLe.pick [2, 3, 3] _)
  refine .skip ?_
  · have he0 : ew ≠ 0 := by simpa using h3
    obtain ⟨q1, q2, q3⟩ := hs2 he0
    rw [q1] at hG3
    exact joinQ_n (n, T3, .nilIface, 0) ⟨.inr ⟨rfl, he0, q2, q3⟩, hG3⟩ (((((((((EnvLe.nil _).cons rfl).cons rfl).cons rfl).cons rfl).cons rfl).cons rfl).cons rfl).cons rfl) (HLe.pick [1, 2, 2] _)
  intro x hx
  obtain ⟨m, T4, _, _⟩ := x
  obtain ⟨hm, hG4⟩ := hx
  simp only at hm hG4 ⊢
  have hm1 : m ≤ 1 := by rcases hm with ⟨h9, _⟩ | ⟨h9, _⟩ <;> omega
  have hmr : rbG d c = true → m = 1 := fun h9 => by rcases hm with ⟨h8, _⟩ | ⟨h8, _, h7, _⟩; · exact h8
                                                    · rw [h8]; exact h7 h9
  have hm10 : ew = 10 → m = 1 := fun h9 => by rcases hm with ⟨h8, _⟩ | ⟨h8, _, _, h7⟩; · exact h8
                                              · rw [h8]; exact h7 h9
  generalize rbG d c = rb at hmr ⊢
  refine seqQ_n ?_
  refine .seq (.region ?_)
  refine .q .move ?_
  refine .q .move ?_
  refine TriOps.split (t := 115) rfl (fun g16_1 => ?_) (fun g16_1 => ?_)
  refine TriOps.gT g16_1 ?_
  refine .q .move ?_
  refine TriOps.gT g16_1 ?_
  refine .q .eqI ?_
  refine .q (.pickTh g16_1) ?_
  refine .q .move ?_
  refine TriOps.split (t := 119) rfl (fun g16_5 => ?_) (fun g16_5 => ?_)
  refine TriOps.gF g16_5 ?_
  refine TriOps.gF g16_5 ?_
  refine TriOps.gF g16_5 ?_
  refine TriOps.gfU rfl ?_
  refine TriOps.gfU rfl ?_
  refine TriOps.gF g16_5 ?_
  refine .q (.pickTh g16_5) ?_
  refine .q .move ?_
  refine TriOps.gf rfl rfl ?_
  refine TriOps.gf rfl rfl ?_
  refine .q .pickT ?_
  refine .nil (seqQ_n ?_)
  refine .condT ?_
  · exfalso
    first
      | (have h9 := hmr (by assumption); subst h9; exact absurd g16_5 (by decide))
      | (have h9 := hm10 (by simpa using g16_8); subst h9; exact absurd g16_13 (by decide))
      | (have h9 : (1 : Int) < (m : Int) := of_decide_eq_true h5; omega)
  refine TriOps.gT g16_5 ?_
  refine .q .move ?_
  refine TriOps.gT g16_5 ?_
  refine .q .eqI ?_
  refine TriOps.gT g16_5 ?_
  refine .q .move ?_
  refine TriOps.split (t := 122) rfl (fun g16_8 => ?_) (fun g16_8 => ?_)
  refine TriOps.gT g16_8 ?_
  refine .q .move ?_
  refine TriOps.gT g16_8 ?_
  refine .q .eqI ?_
  refine TriOps.gT g16_5 ?_
  refine .q (.pickTh g16_8) ?_
  refine .q (.pickFh g16_5) ?_
  refine .q .move ?_
  refine TriOps.split (t := 127) rfl (fun g16_13 => ?_) (fun g16_13 => ?_)
  refine TriOps.gF g16_13 ?_
  refine TriOps.gF g16_13 ?_
  refine .q (.pickTh g16_13) ?_
  refine .nil (seqQ_n ?_)
  refine .condT ?_
  · exfalso
    first
      | (have h9 := hmr (by assumption); subst h9; exact absurd g16_5 (by decide))
      | (have h9 := hm10 (by simpa using g16_8); subst h9; exact absurd g16_13 (by decide))
      | (have h9 : (1 : Int) < (m : Int) := of_decide_eq_true h5; omega)
  refine TriOps.gT g16_13 ?_
  refine .q .move ?_
  refine TriOps.gT g16_13 ?_
  refine .q .gtr ?_
  refine .q (.pickFh g16_13) ?_
  refine .nil (seqQ_n ?_)
  refine .cond rfl (fun h5 => ?_) (fun h5 => ?_)
  · exfalso
    first
      | (have h9 := hmr (by assumption); subst h9; exact absurd g16_5 (by decide))
      | (have h9 := hm10 (by simpa using g16_8); subst h9; exact absurd g16_13 (by decide))
      | (have h9 : (1 : Int) < (m : Int) := of_decide_eq_true h5; omega)
  refine .skip ?_
  refine blkQ_n (seqQ_n ?_)
  refine .region ?_
  refine .q .move ?_
  refine .q (.i64 ((i + 1 : Nat) : Int) .add ⟨by omega, by omega, by omega⟩) ?_
  refine .q .assign ?_
  refine .nil ?_
  · exact loopQ_i (i + 1, m, T4) ⟨hlt, hm1, hG4⟩ (by simp only; omega) (((((((EnvLe.nil _).cons rfl).cons rfl).cons rfl).cons rfl).cons rfl).cons rfl) (HLe.refl _)
  refine TriOps.gF g16_8 ?_
  refine TriOps.gF g16_8 ?_
  refine TriOps.gT g16_5 ?_
  refine .q (.pickFh g16_8) ?_
  refine .q (.pickFh g16_5) ?_
  refine .q .move ?_
  refine TriOps.gt rfl ?_
  refine .q .move ?_
  refine TriOps.gt rfl ?_
  refine .q .gtr ?_
  refine .q .pickF ?_
  refine .nil (seqQ_n ?_)
  refine .cond rfl (fun h5 => ?_) (fun h5 => ?_)
  · exfalso
    first
      | (have h9 := hmr (by assumption); subst h9; exact absurd g16_5 (by decide))
      | (have h9 := hm10 (by simpa using g16_8); subst h9; exact absurd g16_13 (by decide))
      | (have h9 : (1 : Int) < (m : Int) := of_decide_eq_true h5; omega)
  refine .skip ?_
  refine blkQ_n (seqQ_n ?_)
  refine .region ?_
  refine .q .move ?_
  refine .q (.i64 ((i + 1 : Nat) : Int) .add ⟨by omega, by omega, by omega⟩) ?_
  refine .q .assign ?_
  refine .nil ?_
  · exact loopQ_i (i + 1, m, T4) ⟨hlt, hm1, hG4⟩ (by simp only; omega) (((((((EnvLe.nil _).cons rfl).cons rfl).cons rfl).cons rfl).cons rfl).cons rfl) (HLe.refl _)
  refine TriOps.gF g16_1 ?_
  refine TriOps.gF g16_1 ?_
  refine .q (.pickFh g16_1) ?_
  refine .q .move ?_
  refine TriOps.gt rfl ?_
  refine .q .move ?_
  refine TriOps.gt rfl ?_
  refine .q .eqI ?_
  refine TriOps.gt rfl ?_
  refine .q .move ?_
  refine TriOps.split (t := 122) rfl (fun g16_8 => ?_) (fun g16_8 => ?_)
  refine TriOps.gT g16_8 ?_
  refine .q .move ?_
  refine TriOps.gT g16_8 ?_
  refine .q .eqI ?_
  refine TriOps.gt rfl ?_
  refine .q (.pickTh g16_8) ?_
  refine .q .pickF ?_
  refine .q .move ?_
  refine TriOps.split (t := 127) rfl (fun g16_13 => ?_) (fun g16_13 => ?_)
  refine TriOps.gF g16_13 ?_
  refine TriOps.gF g16_13 ?_
  refine .q (.pickTh g16_13) ?_
  refine .nil (seqQ_n ?_)
  refine .condT ?_
  · exfalso
    first
      | (have h9 := hmr (by assumption); subst h9; exact absurd g16_5 (by decide))
      | (have h9 := hm10 (by simpa using g16_8); subst h9; exact absurd g16_13 (by decide))
      | (have h9 : (1 : Int) < (m : Int) := of_decide_eq_true h5; omega)
  refine TriOps.gT g16_13 ?_
  refine .q .move ?_
  refine TriOps.gT g16_13 ?_
  refine .q .gtr ?_
  refine .q (.pickFh g16_13) ?_
  refine .nil (seqQ_n ?_)
  refine .cond rfl (fun h5 => ?_) (fun h5 => ?_)
  · exfalso
    first
      | (have h9 := hmr (by assumption); subst h9; exact absurd g16_5 (by decide))
      | (have h9 := hm10 (by simpa using g16_8); subst h9; exact absurd g16_13 (by decide))
      | (have h9 : (1 : Int) < (m : Int) := of_decide_eq_true h5; omega)
  refine .skip ?_
  refine blkQ_n (seqQ_n ?_)
  refine .region ?_
  refine .q .move ?_
  refine .q (.i64 ((i + 1 : Nat) : Int) .add ⟨by omega, by omega, by omega⟩) ?_
  refine .q .assign ?_
  refine .nil ?_
  · exact loopQ_i (i + 1, m, T4) ⟨hlt, hm1, hG4⟩ (by simp only; omega) (((((((EnvLe.nil _).cons rfl).cons rfl).cons rfl).cons rfl).cons rfl).cons rfl) (HLe.refl _)
  refine TriOps.gF g16_8 ?_
  refine TriOps.gF g16_8 ?_
  refine TriOps.gt rfl ?_
  refine .q (.pickFh g16_8) ?_
  refine .q .pickF ?_
  refine .q .move ?_
  refine TriOps.gt rfl ?_
  refine .q .move ?_
  refine TriOps.gt rfl ?_
  refine .q .gtr ?_
  refine .q .pickF ?_
  refine .nil (seqQ_n ?_)
  refine .cond rfl (fun h5 => ?_) (fun h5 => ?_)
  · exfalso
    first
      | (have h9 := hmr (by assumption); subst h9; exact absurd g16_5 (by decide))
      | (have h9 := hm10 (by simpa using g16_8); subst h9; exact absurd g16_13 (by decide))
      | (have h9 : (1 : Int) < (m : Int) := of_decide_eq_true h5; omega)
  refine .skip ?_
  refine blkQ_n (seqQ_n ?_)
  refine .region ?_
  refine .q .move ?_
  refine .q (.i64 ((i + 1 : Nat) : Int) .add ⟨by omega, by omega, by omega⟩) ?_
  refine .q .assign ?_
  refine .nil ?_
  · exact loopQ_i (i + 1, m, T4) ⟨hlt, hm1, hG4⟩ (by simp only; omega) (((((((EnvLe.nil _).cons rfl).cons rfl).cons rfl).cons rfl).cons rfl).cons rfl) (HLe.refl _)
  refine .exit (seqQ_x (loopQ_x (blkQ_x ?_)))
  refine seqQ_n ?_
  refine .seq (.region ?_)
  refine TriOps.callR (glives_spec _ hg.rx) (fun u hu => ?_)
  subst hu
  refine .q .assign ?_
  refine .nil (seqQ_n ?_)
  refine .ret (retQ_r _ (.one (.tmp rfl)) (.none _) ?_)
  · exact ⟨rfl, rfl⟩
  refine TriOps.gF g7_4 ?_
  refine TriOps.gF g7_4 ?_
  refine .q (.pickFh g7_4) ?_
  refine .nil (seqQ_n ?_)
  refine .condF ?_
  refine .exit (seqQ_x (loopQ_x (blkQ_x ?_)))
  refine seqQ_n ?_
  refine .seq (.region ?_)
  refine TriOps.callR (glives_spec _ hg.rx) (fun u hu => ?_)
  subst hu
  refine .q .assign ?_
  refine .nil (seqQ_n ?_)
  refine .ret (retQ_r _ (.one (.tmp rfl)) (.none _) ?_)
  · exact ⟨rfl, rfl⟩
end Go.Proofs.YtpmhgpjcladbkaaDoor
