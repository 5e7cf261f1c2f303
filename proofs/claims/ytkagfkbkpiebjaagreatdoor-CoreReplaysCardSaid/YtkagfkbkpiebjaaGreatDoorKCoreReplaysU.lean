/- What the law 'CoreReplays' uses of this prover's engine, facts and walks. No condition. -/
import Derived.Test.YtkagfkbkpiebjaaGreatDoorKCoreReplaysP
import Derived.Test.YtkagfkbkpiebjaaGreatDoorKCoreReplaysT
set_option linter.unusedVariables false
set_option maxRecDepth 4000
namespace Go.Proofs.YtkagfkbkpiebjaaGreatDoor
def ocl : Cli := ⟨⟨#[97]⟩, ⟨#[]⟩, [⟨#[104, 116, 116, 112, 115, 58, 47, 47, 99]⟩], [⟨#[114, 101, 97, 100]⟩]⟩
theorem ocl_add : cadd [] ocl = (0, [ocl]) := by
 have e : ocl.check = 0 := by decide +kernel
 unfold cadd; rw [e]; simp [cget]
theorem ocl_con : oconE [ocl] ⟨#[98, 111, 98]⟩ ⟨#[97]⟩ [⟨#[114, 101, 97, 100]⟩] = 0 := by decide +kernel
theorem olives_spec (R : Rds) : Spec Tryz.prog 20 [] R [] fun v H' => v = .bool true ∧ H' = [] := by
 have hfit : ocl.fits := ⟨by decide, by decide, by simp [ocl]; decide, by simp [ocl]; decide⟩
 refine Spec.body Tryz.func20 rfl Tryz.results20 Tryz.ntmps20 rfl ?_
 refine .sr<|.ag rfl<|.z ?_
 refine .callN (onew_spec _) (fun v T hv => ?_)
 obtain ⟨q, rfl, hC⟩ := hv
 refine .ag rfl<|.zs<|.sr<|.mo rfl<|.q (.eqNilA rfl rfl) ?_
 refine .mo rfl<|.gt rfl ?_
 refine .mo rfl<|.gt rfl ?_
 refine .buildSlice11 (fun b7 => ?_)
 refine .gt rfl ?_
 refine .buildSlice11 (fun b8 => ?_)
 refine .gt rfl ?_
 refine .q .bld ?_
 refine .gt rfl ?_
 refine .callW (oadd_spec q [] [] [] [] 0 0 T hC ⟨⟨#[97]⟩, ⟨#[]⟩, .slice (some ⟨b7, 0, none⟩) 1 1, .slice (some ⟨b8, 0, none⟩) 1 1⟩ ocl _ ⟨rfl, rfl, RS.litB (E := 9) (fr := (0, 0)) (cs := [.string ⟨#[104, 116, 116, 112, 115, 58, 47, 47, 99]⟩]) (.inr (by simp)) rfl (by simp [encS, ocl]) (by simp [encS, ocl, oneCell]), RS.litB (E := 9) (fr := (0, 0)) (cs := [.string ⟨#[114, 101, 97, 100]⟩]) (.inr (by simp)) rfl (by simp [encS, ocl]) (by simp [encS, ocl, oneCell])⟩ hfit (by simp [Cli.few, ocl])) (fun v T2 hv => ?_)
 rw [ocl_add] at hv
 obtain ⟨rfl, hC2⟩ := hv
 refine .gt rfl ?_
 refine .q .neI<|.q .pickF<|.zn<|.condF<|.kn<|.sr<|.mo rfl ?_
 refine .buildSlice11 (fun b14 => ?_)
 refine .callW (oconsent_spec q [ocl] [] [] [] 0 0 T2 hC2 ⟨#[98, 111, 98]⟩ ⟨#[97]⟩ (by decide) (.slice (some ⟨b14, 0, none⟩) 1 1) [⟨#[114, 101, 97, 100]⟩] _ (RS.litB (E := 9) (fr := (0, 0)) (cs := [.string ⟨#[114, 101, 97, 100]⟩]) (.inr (by simp)) rfl (by simp [encS]) (by simp [encS, oneCell])) (by simp) (by simp)) (fun v T3 hv => ?_)
 obtain ⟨rfl, C', _, hv2, hC3⟩ := hv
 rw [ocl_con] at hv2 ⊢
 obtain ⟨l, hl1, hl2, hl3, hl4⟩ := hv2 rfl
 have hle : l = [⟨#[114, 101, 97, 100]⟩] := rise_ext hl1 (by simp [Rise]) (fun s => by rw [hl2]; simp [mget])
 subst hle
 rw [if_neg (by simp)] at hl4
 subst hl4
 obtain ⟨gc, gb, gv, Tc, Tb, Tv, hT3, hR3, hG3, hV3⟩ := id hC3
 have ps3 : PS T3 (.pointer (some ⟨q, 0, none⟩)) [.pointer (some ⟨gc, 0, none⟩), .pointer (some ⟨gb, 0, none⟩), .pointer (some ⟨gv, 0, none⟩), .int .i64 0] := PS.of (E := 63) (fr := (0, 0)) (by rw [hT3]; simp)
 refine .q .eqI<|.mo rfl ?_
 refine .split (t := 17) rfl (fun g4_4 => ?_) (fun g4_4 => ?_)
 refine .gT g4_4<|.mo rfl<|.gT g4_4 ?_
 refine .callR (obook_spec q gc gb _ _ _) (fun v hv => ?_)
 subst hv
 refine .gT g4_4 ?_
 refine .callN (gscopes_spec gb _ [] Tb hG3 ⟨#[98, 111, 98]⟩ ⟨#[97]⟩ _ (fun p hp => .inr (by simp [hT3, hp])) (by simp [kset, kdel])) (fun v T4 hO => ?_)
 have e4 : (mget ((⟨#[98, 111, 98]⟩, ⟨#[97]⟩) : Who) (kset (((⟨#[98, 111, 98]⟩, ⟨#[97]⟩) : Who)) [(⟨#[114, 101, 97, 100]⟩ : ByteArray)] [])).getD [] = [⟨#[114, 101, 97, 100]⟩] := by simp [kset, kdel, mget]
 rw [e4] at hO
 refine .gT g4_4<|.q (.lenO hO) ?_
 refine .gT g4_4<|.q .eqI<|.q (.pickTh g4_4) ?_
 refine .mo rfl ?_
 refine .split (t := 24) rfl (fun g4_11 => ?_) (fun g4_11 => ?_)
 refine .gT g4_11<|.mo rfl<|.gT g4_11 ?_
 refine .callM (otick_spec q [ocl] _ [] [] 0 0 T3 hC3 (by decide) (by decide) 5 _) (fun v T5 hv => ?_)
 obtain ⟨rfl, _, hv2⟩ := hv
 have e5 : otickE 5 0 = 0 := by decide
 rw [e5] at hv2 ⊢
 obtain ⟨_, hC5⟩ := hv2 rfl
 obtain ⟨gc5, gb5, gv5, Tc5, Tb5, Tv5, hT5, _⟩ := id hC5
 have ps5 : PS T5 (.pointer (some ⟨q, 0, none⟩)) [.pointer (some ⟨gc5, 0, none⟩), .pointer (some ⟨gb5, 0, none⟩), .pointer (some ⟨gv5, 0, none⟩), .int .i64 (0 + 5)] := PS.of (E := 63) (fr := (0, 0)) (by rw [hT5]; simp)
 refine .gT g4_11<|.q .eqI<|.q (.pickTh g4_11) ?_
 refine .mo rfl ?_
 refine .split (t := 29) rfl (fun g4_16 => ?_) (fun g4_16 => ?_)
 refine .gT g4_16<|.mo rfl<|.gT g4_16 ?_
 refine .callR (onow_spec q gc5 _ _ _ _) (fun v hv => ?_)
 subst hv
 refine .gT g4_16<|.q .eqI<|.q (.pickTh g4_16) ?_
 refine .ag rfl<|.zn ?_
 refine .ret (retQ_r _ (.one (.tmp rfl)) (.none _) ?_)
 ·exact ⟨rfl, rfl⟩
 refine .gF g4_16<|.gF g4_16<|.gF g4_16<|.q (.pickFh g4_16) ?_
 refine .ag rfl<|.zn ?_
 refine .ret (retQ_r _ (.one (.tmp rfl)) (.none _) ?_)
 ·(exfalso; revert g4_16; decide)
 refine .gF g4_11<|.gF g4_11<|.gF g4_11<|.q (.pickFh g4_11) ?_
 refine .mo rfl<|.gf rfl rfl<|.gf rfl rfl<|.gf rfl rfl<|.q .pickF<|.ag rfl<|.zn ?_
 refine .ret (retQ_r _ (.one (.tmp rfl)) (.none _) ?_)
 ·(exfalso; revert g4_11; decide)
 refine .gF g4_4<|.gF g4_4<|.gF g4_4<|.gF g4_4<|.gF g4_4<|.q (.pickFh g4_4) ?_
 refine .mo rfl<|.gf rfl rfl<|.gf rfl rfl<|.gf rfl rfl<|.q .pickF<|.mo rfl<|.gf rfl rfl<|.gf rfl rfl<|.gf rfl rfl<|.q .pickF<|.ag rfl<|.zn ?_
 refine .ret (retQ_r _ (.one (.tmp rfl)) (.none _) ?_)
 ·(exfalso; revert g4_4; decide)
theorem bytes_of {H : Type} {enc : TypeId × Value → H} {W : World} {f : Nat} {cs : List Value} {x : DataW H × List MemPlace} (h : DataW.trod enc Tryz.prog W 0 (fun _ => true) true f 31 cs = some x) : ∃ v l, cs = [v] ∧ RS (Rw W) 1 encU v l := by
 obtain ⟨v, l, h1, h2, _⟩ := RS.ofCells (D := fun _ => True) (sz := 1) (en := encU) Tryz.underlying31 (by kernel_rfl) (by omega) h fun n cs x hx => by
  obtain ⟨z, rfl, h0, h1⟩ := int_fit (t := 5) (k := .u8) hx
  have h0' : 0 ≤ z := h0
  have h1' : z ≤ 255 := h1
  refine ⟨rfl, by simp [oneCell], z.toNat.toUInt8, ?_, trivial⟩
  have e : (z.toNat.toUInt8).toNat = z.toNat := by
   rw [Nat.toUInt8, UInt8.toNat_ofNat']
   exact Nat.mod_eq_of_lt (by omega)
  unfold encU
  rw [e, Int.toNat_of_nonneg h0']
 exact ⟨v, l, h1, h2⟩
theorem ocall_of {H : Type} {enc : TypeId × Value → H} {W : World} {f : Nat} {cs : List Value} {x : DataW H × List MemPlace} (h : DataW.trod enc Tryz.prog W 0 (fun _ => true) true f 34 cs = some x) : ∃ (w : OV) (c : OC), cs = encO w c ∧ OR (Rw W) w c := by
 obtain ⟨hl, hp⟩ := parts_of Tryz.underlying34 h
 have hc : Tryz.prog.cellsOf 34 = 16 := by kernel_rfl
 rw [hc] at hl
 have c2 : Tryz.prog.cellsOf 2 = 1 := by kernel_rfl
 have c3 : Tryz.prog.cellsOf 3 = 1 := by kernel_rfl
 have c9 : Tryz.prog.cellsOf 9 = 1 := by kernel_rfl
 have c28 : Tryz.prog.cellsOf 28 = 1 := by kernel_rfl
 have c30 : Tryz.prog.cellsOf 30 = 4 := by kernel_rfl
 have c31 : Tryz.prog.cellsOf 31 = 1 := by kernel_rfl
 have c32 : Tryz.prog.cellsOf 32 = 1 := by kernel_rfl
 match cs, hl with
 | [a0, a1, a2, a3, a4, a5, a6, a7, a8, a9, a10, a11, a12, a13, a14, a15], _ =>
  obtain ⟨n0, y0, h0⟩ : ∃ n y, DataW.trod enc Tryz.prog W 0 (fun _ => true) true n 3 (([a0, a1, a2, a3, a4, a5, a6, a7, a8, a9, a10, a11, a12, a13, a14, a15].drop 0).take (Tryz.prog.cellsOf 3)) = some y := hp 0 _ rfl
  obtain ⟨n1, y1, h1⟩ : ∃ n y, DataW.trod enc Tryz.prog W 0 (fun _ => true) true n 2 (([a0, a1, a2, a3, a4, a5, a6, a7, a8, a9, a10, a11, a12, a13, a14, a15].drop 1).take (Tryz.prog.cellsOf 2)) = some y := hp 1 _ rfl
  obtain ⟨n2, y2, h2⟩ : ∃ n y, DataW.trod enc Tryz.prog W 0 (fun _ => true) true n 30 (([a0, a1, a2, a3, a4, a5, a6, a7, a8, a9, a10, a11, a12, a13, a14, a15].drop 2).take (Tryz.prog.cellsOf 30)) = some y := hp 2 _ rfl
  obtain ⟨n3, y3, h3⟩ : ∃ n y, DataW.trod enc Tryz.prog W 0 (fun _ => true) true n 9 (([a0, a1, a2, a3, a4, a5, a6, a7, a8, a9, a10, a11, a12, a13, a14, a15].drop 6).take (Tryz.prog.cellsOf 9)) = some y := hp 3 _ rfl
  obtain ⟨n4, y4, h4⟩ : ∃ n y, DataW.trod enc Tryz.prog W 0 (fun _ => true) true n 9 (([a0, a1, a2, a3, a4, a5, a6, a7, a8, a9, a10, a11, a12, a13, a14, a15].drop 7).take (Tryz.prog.cellsOf 9)) = some y := hp 4 _ rfl
  obtain ⟨n5, y5, h5⟩ : ∃ n y, DataW.trod enc Tryz.prog W 0 (fun _ => true) true n 9 (([a0, a1, a2, a3, a4, a5, a6, a7, a8, a9, a10, a11, a12, a13, a14, a15].drop 8).take (Tryz.prog.cellsOf 9)) = some y := hp 5 _ rfl
  obtain ⟨n6, y6, h6⟩ : ∃ n y, DataW.trod enc Tryz.prog W 0 (fun _ => true) true n 9 (([a0, a1, a2, a3, a4, a5, a6, a7, a8, a9, a10, a11, a12, a13, a14, a15].drop 9).take (Tryz.prog.cellsOf 9)) = some y := hp 6 _ rfl
  obtain ⟨n7, y7, h7⟩ : ∃ n y, DataW.trod enc Tryz.prog W 0 (fun _ => true) true n 28 (([a0, a1, a2, a3, a4, a5, a6, a7, a8, a9, a10, a11, a12, a13, a14, a15].drop 10).take (Tryz.prog.cellsOf 28)) = some y := hp 7 _ rfl
  obtain ⟨n8, y8, h8⟩ : ∃ n y, DataW.trod enc Tryz.prog W 0 (fun _ => true) true n 9 (([a0, a1, a2, a3, a4, a5, a6, a7, a8, a9, a10, a11, a12, a13, a14, a15].drop 11).take (Tryz.prog.cellsOf 9)) = some y := hp 8 _ rfl
  obtain ⟨n9, y9, h9⟩ : ∃ n y, DataW.trod enc Tryz.prog W 0 (fun _ => true) true n 9 (([a0, a1, a2, a3, a4, a5, a6, a7, a8, a9, a10, a11, a12, a13, a14, a15].drop 12).take (Tryz.prog.cellsOf 9)) = some y := hp 9 _ rfl
  obtain ⟨n10, y10, h10⟩ : ∃ n y, DataW.trod enc Tryz.prog W 0 (fun _ => true) true n 31 (([a0, a1, a2, a3, a4, a5, a6, a7, a8, a9, a10, a11, a12, a13, a14, a15].drop 13).take (Tryz.prog.cellsOf 31)) = some y := hp 10 _ rfl
  obtain ⟨n11, y11, h11⟩ : ∃ n y, DataW.trod enc Tryz.prog W 0 (fun _ => true) true n 31 (([a0, a1, a2, a3, a4, a5, a6, a7, a8, a9, a10, a11, a12, a13, a14, a15].drop 14).take (Tryz.prog.cellsOf 31)) = some y := hp 11 _ rfl
  obtain ⟨n12, y12, h12⟩ : ∃ n y, DataW.trod enc Tryz.prog W 0 (fun _ => true) true n 32 (([a0, a1, a2, a3, a4, a5, a6, a7, a8, a9, a10, a11, a12, a13, a14, a15].drop 15).take (Tryz.prog.cellsOf 32)) = some y := hp 12 _ rfl
  simp only [c2, c3, c9, c28, c30, c31, c32, List.drop_zero, List.drop_succ_cons, List.take_succ_cons, List.take_zero] at h0 h1 h2 h3 h4 h5 h6 h7 h8 h9 h10 h11 h12
  obtain ⟨z0, e0⟩ := int_of (k := .i64) h0
  obtain ⟨z1, e1⟩ := int_of (k := .i64) h1
  obtain ⟨r2, c2, e2, h2'⟩ := cli_of h2
  obtain ⟨s3, e3⟩ := str_of h3
  obtain ⟨s4, e4⟩ := str_of h4
  obtain ⟨s5, e5⟩ := str_of h5
  obtain ⟨s6, e6⟩ := str_of h6
  obtain ⟨v7, l7, e7, h7'⟩ := strs_of h7
  obtain ⟨s8, e8⟩ := str_of h8
  obtain ⟨s9, e9⟩ := str_of h9
  obtain ⟨v10, l10, e10, h10'⟩ := bytes_of h10
  obtain ⟨v11, l11, e11, h11'⟩ := bytes_of h11
  obtain ⟨z12, e12⟩ := int_of (k := .u64) h12
  cases e0; cases e1; cases e2; cases e3; cases e4; cases e5; cases e6; cases e7; cases e8; cases e9; cases e10; cases e11; cases e12
  exact ⟨⟨r2, _, _, _⟩, ⟨z0, z1, c2, s3, s4, s5, s6, l7, s8, s9, l10, l11, z12⟩, rfl, h2', h7', h10', h11'⟩
end Go.Proofs.YtkagfkbkpiebjaaGreatDoor
