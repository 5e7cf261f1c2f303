/- What the law 'MemoNobody' uses. No condition. -/
import Derived.Carry
import Derived.ChangeShapes
import Derived.Test.YtenilfmlfldogaaGreatKMemoNobodyF
import Derived.Test.YtenilfmlfldogaaGreatKMemoNobodyP
namespace Go.Proofs.YtenilfmlfldogaaGreat
open Tryz (prog)
set_option linter.unusedVariables false
set_option linter.unusedSimpArgs false
set_option maxRecDepth 4000
structure AskM where
 k : Obr
 us : ByteArray
 rev : Int
 b : Int
 w : Bool
 call : SCall
 fg : Bool
 c : CfM
 add : Bool
def AskM.enc (a : AskM) : List Value := [.string a.k.os, .string a.k.oi, .string a.k.rel, .string a.us, .int .u64 a.rev, .int .i64 a.b, .bool a.w] ++ (a.call.enc ++ ([.bool a.fg] ++ (a.c.enc ++ [.bool a.add])))
structure AskM.is (R : Rds) (a : AskM) : Prop where
 u : a.us.size <= 9223372036854775807
 r0 : 0 <= a.rev
 r1 : a.rev <= 18446744073709551615
 b1 : a.b <= 9223372036854775807
 cl : a.call.is R
 c : a.c.is R
theorem AskM.is.ones {R : Rds} {a : AskM} (h : a.is R) : Ones a.enc := ⟨λ u hu => by
 unfold AskM.enc at hu
 rcases List.mem_append.1 hu with hu | hu
 ·simp only [List.mem_cons, List.not_mem_nil, or_false] at hu
  rcases hu with rfl | rfl | rfl | rfl | rfl | rfl | rfl <;> rfl
 ·rcases List.mem_append.1 hu with hu | hu
  ·exact h.cl.ones.h u hu
  ·rcases List.mem_append.1 hu with hu | hu
   ·rw [List.mem_singleton] at hu; subst hu; rfl
   ·rcases List.mem_append.1 hu with hu | hu
    ·exact h.c.ones u hu
    ·rw [List.mem_singleton] at hu; subst hu; rfl⟩
theorem ask_of {H : Type} {enc : TypeId × Value -> H} {W : World} {f : Nat} {cs : List Value} {x : DataW H × List MemPlace} (h : DataW.trod enc prog W 0 (λ _ => true) true f 64 cs = some x) : ∃ a : AskM, cs = a.enc /\ a.is (Rw W) := by
 obtain ⟨hl, hp⟩ := parts_of Tryz.underlying64 h
 have hc : Tryz.prog.cellsOf 64 = 23 := by kernel_rfl
 rw [hc] at hl
 have c3 : Tryz.prog.cellsOf 3 = 1 := by kernel_rfl
 have c4 : Tryz.prog.cellsOf 4 = 1 := by kernel_rfl
 have c9 : Tryz.prog.cellsOf 9 = 1 := by kernel_rfl
 have c25 : Tryz.prog.cellsOf 25 = 2 := by kernel_rfl
 have c30 : Tryz.prog.cellsOf 30 = 2 := by kernel_rfl
 have c31 : Tryz.prog.cellsOf 31 = 1 := by kernel_rfl
 have c62 : Tryz.prog.cellsOf 62 = 12 := by kernel_rfl
 match cs, hl with
 | [a0, a1, a2, a3, a4, a5, a6, a7, a8, a9, a10, a11, a12, a13, a14, a15, a16, a17, a18, a19, a20, a21, a22], _ =>
  obtain ⟨n0, y0, h0⟩ : ∃ n y, DataW.trod enc prog W 0 (λ _ => true) true n 30 (([a0, a1, a2, a3, a4, a5, a6, a7, a8, a9, a10, a11, a12, a13, a14, a15, a16, a17, a18, a19, a20, a21, a22].drop 0).take (Tryz.prog.cellsOf 30)) = some y := hp 0 _ rfl
  obtain ⟨n1, y1, h1⟩ : ∃ n y, DataW.trod enc prog W 0 (λ _ => true) true n 9 (([a0, a1, a2, a3, a4, a5, a6, a7, a8, a9, a10, a11, a12, a13, a14, a15, a16, a17, a18, a19, a20, a21, a22].drop 2).take (Tryz.prog.cellsOf 9)) = some y := hp 1 _ rfl
  obtain ⟨n2, y2, h2⟩ : ∃ n y, DataW.trod enc prog W 0 (λ _ => true) true n 9 (([a0, a1, a2, a3, a4, a5, a6, a7, a8, a9, a10, a11, a12, a13, a14, a15, a16, a17, a18, a19, a20, a21, a22].drop 3).take (Tryz.prog.cellsOf 9)) = some y := hp 2 _ rfl
  obtain ⟨n3, y3, h3⟩ : ∃ n y, DataW.trod enc prog W 0 (λ _ => true) true n 31 (([a0, a1, a2, a3, a4, a5, a6, a7, a8, a9, a10, a11, a12, a13, a14, a15, a16, a17, a18, a19, a20, a21, a22].drop 4).take (Tryz.prog.cellsOf 31)) = some y := hp 3 _ rfl
  obtain ⟨n4, y4, h4⟩ : ∃ n y, DataW.trod enc prog W 0 (λ _ => true) true n 3 (([a0, a1, a2, a3, a4, a5, a6, a7, a8, a9, a10, a11, a12, a13, a14, a15, a16, a17, a18, a19, a20, a21, a22].drop 5).take (Tryz.prog.cellsOf 3)) = some y := hp 4 _ rfl
  obtain ⟨n5, y5, h5⟩ : ∃ n y, DataW.trod enc prog W 0 (λ _ => true) true n 4 (([a0, a1, a2, a3, a4, a5, a6, a7, a8, a9, a10, a11, a12, a13, a14, a15, a16, a17, a18, a19, a20, a21, a22].drop 6).take (Tryz.prog.cellsOf 4)) = some y := hp 5 _ rfl
  obtain ⟨n6, y6, h6⟩ : ∃ n y, DataW.trod enc prog W 0 (λ _ => true) true n 62 (([a0, a1, a2, a3, a4, a5, a6, a7, a8, a9, a10, a11, a12, a13, a14, a15, a16, a17, a18, a19, a20, a21, a22].drop 7).take (Tryz.prog.cellsOf 62)) = some y := hp 6 _ rfl
  obtain ⟨n7, y7, h7⟩ : ∃ n y, DataW.trod enc prog W 0 (λ _ => true) true n 4 (([a0, a1, a2, a3, a4, a5, a6, a7, a8, a9, a10, a11, a12, a13, a14, a15, a16, a17, a18, a19, a20, a21, a22].drop 19).take (Tryz.prog.cellsOf 4)) = some y := hp 7 _ rfl
  obtain ⟨n8, y8, h8⟩ : ∃ n y, DataW.trod enc prog W 0 (λ _ => true) true n 25 (([a0, a1, a2, a3, a4, a5, a6, a7, a8, a9, a10, a11, a12, a13, a14, a15, a16, a17, a18, a19, a20, a21, a22].drop 20).take (Tryz.prog.cellsOf 25)) = some y := hp 8 _ rfl
  obtain ⟨n9, y9, h9⟩ : ∃ n y, DataW.trod enc prog W 0 (λ _ => true) true n 4 (([a0, a1, a2, a3, a4, a5, a6, a7, a8, a9, a10, a11, a12, a13, a14, a15, a16, a17, a18, a19, a20, a21, a22].drop 22).take (Tryz.prog.cellsOf 4)) = some y := hp 9 _ rfl
  simp only [c3, c4, c9, c25, c30, c31, c62, List.drop_zero, List.drop_succ_cons, List.take_succ_cons, List.take_zero] at h0 h1 h2 h3 h4 h5 h6 h7 h8 h9
  obtain ⟨s0, s1, e0, l0, l1⟩ := ref_of h0
  obtain ⟨s2, e1, l2⟩ := str_fit h1
  obtain ⟨s3, e2, l3⟩ := str_fit h2
  obtain ⟨z3, e3, m3, M3⟩ := u64_of h3
  obtain ⟨z4, e4, m4, M4⟩ := int_fit (k := .i64) h4
  obtain ⟨b5, e5⟩ := bool_of h5
  obtain ⟨cl, e6, hcl⟩ := scall_of h6
  obtain ⟨b7, e7⟩ := bool_of h7
  obtain ⟨cf, e8, hcf⟩ := cf_of h8
  obtain ⟨b9, e9⟩ := bool_of h9
  cases e0; cases e1; cases e2; cases e3; cases e4; cases e5; cases e7; cases e9
  refine ⟨⟨⟨s0, s1, s2⟩, s3, z3, z4, b5, cl, b7, cf, b9⟩, ?_, l3, m3, M3, M4, hcl, hcf⟩
  unfold AskM.enc
  rw [<- e6, <- e8]
  rfl
section
variable {R R' : Rds} {cp : Cf} {c : CfM} {hb g x : Nat} {S : Sto} {num : List Nat} {L : List SRow}
theorem mcheckD_spec (p : Value) (hd : DeadM R p) (h : WS R cp c hb g x S num L) (rev : Int) (hr : 0 <= rev) (k : Obr) (us : ByteArray) (hus : us.size <= 9223372036854775807) (b : Int) (hb63 : b <= 9223372036854775807) {N : Nat} (hN : AtEnd cp num (subW S L rev) k N) {K : Nat} {s : QS} (hK : QRun (opened cp num (subW S L rev) k N).1 us K s) (hs : qnone s.2) :
  Spec prog 31 [p, pT hb, pT g, .int .u64 rev, .agg [.string k.os, .string k.oi].toArray, .string k.rel, .string us, .int .i64 b] R [] λ u H' => u = .tuple [.bool (chkV us (disc cp num (subW S L rev) k b (scan S rev) N) b K s.1).1, .int .i64 (chkV us (disc cp num (subW S L rev) k b (scan S rev) N) b K s.1).2].toArray /\ H' = [] := by
 have hck := socheck_spec (R' := R) h rev hr k us hus b hb63 hN hK hs
 obtain ⟨vl, e, hV, he1, he2, he3⟩ := h.h
 have hat := hV.at_ rev ⟨by omega, by simp⟩
 have i0 := hd.one
 generalize chkV us (disc cp num (subW S L rev) k b (scan S rev) N) b K s.1 = out at *
 refine Spec.body Tryz.func31 rfl Tryz.results31 Tryz.ntmps31 rfl<|.sr ?_
 refine .boxA rfl (λ b12 => ?_)
 refine .ag rfl<|.ag rfl<|.z<|.mo rfl<|.mo rfl<|.callN (hat.weaken rxl) (λ u Tc hu => ?_)
 obtain ⟨c', rfl, hc', _⟩ := hu
 have ice : Ones c'.enc := ⟨hc'.ones⟩
 have ic1 : One c'.vs := RS.oneCell hc'.ss
 have ic2 : One c'.vc := RS.oneCell hc'.sc
 refine .mo rfl<|.q .extract<|.q .extract ?_
 refine .allocA (λ b18 => ?_)
 refine .storeA rfl rfl<|.ag rfl<|.z<|.mo rfl<|.mo rfl<|.q (.loadA rfl)<|.mo rfl<|.mo rfl<|.q .bld ?_
 refine .allocA (λ b20 => ?_)
 refine .storeA rfl rfl<|.z<|.mo rfl<|.q (.loadA rfl)<|.callR (mdget_spec p ⟨rev, atV [e] 0 rev, k.os, k.oi, k.rel, us⟩ _ hd.rx) (λ u hu => ?_)
 subst hu
 refine .mo rfl<|.q .extract<|.q .extract<|.ag rfl<|.ag rfl<|.zs<|.sr<|.mo rfl<|.mo rfl<|.split (t := 45) rfl (λ g4_1 => ?_) (λ g4_1 => ?_)
 ·cases g4_1
 refine .gF g4_1<|.gF g4_1<|.q (.pickFh g4_1)<|.mo rfl<|.gX<|.gX<|.q .pickF<|.zn<|.condF<|.kn<|.sr<|.mo rfl<|.mo rfl<|.mo rfl<|.q (.loadA rfl)<|.mo rfl<|.mo rfl<|.mo rfl<|.callR (hck.weaken rxl) (λ u hu => ?_)
 subst hu
 refine .mo rfl<|.q .extract<|.q .extract<|.ag rfl<|.ag rfl<|.zs<|.sr<|.mo rfl<|.q .eqI<|.zn<|.cond rfl (λ h3 => ?_) λ h3 => ?_
 refine .region<|.mo rfl<|.q (.loadA rfl)<|.mo rfl<|.callR (mdput_spec p ⟨rev, atV [e] 0 rev, k.os, k.oi, k.rel, us⟩ _ _ hd.rx) (λ u hu => ?_)
 subst hu
 refine .z<|.mo rfl<|.mo rfl<|.ag rfl<|.az rfl<|.ret (retQ_r _ (.two (.tmp rfl) (.tmp rfl)) (HLe.none _) ?_)
 ·exact ⟨rfl, rfl⟩
 refine .kn<|.sr<|.mo rfl<|.mo rfl<|.ag rfl<|.az rfl<|.ret (retQ_r _ (.two (.tmp rfl) (.tmp rfl)) (HLe.none _) ?_)
 ·exact ⟨rfl, rfl⟩
theorem mcheckE_spec (ph pst : Value) [i1 : One ph] [i2 : One pst] (m : Nat) (M : Mem.PM) (T : Seg) (hM : Mem.PM.is m M T) (hr : ∀ p ∈ T, R p.1 p.2) (hk : M.kept = []) (rev : Int) (k : Obr) (us : ByteArray) (b : Int)
  (hat : ∀ R', (∀ b o, R b o -> R' b o) -> Spec prog 44 [ph, .int .u64 rev] R' [] λ u H' => ∃ T, H' = [T] /\ ∃ v1 v2 n, One v1 /\ One v2 /\ u = .tuple [.agg [v1, v2].toArray, .int .i64 n].toArray)
  (hck : ∀ R', (∀ b o, R b o -> R' b o) -> Spec prog 32 [ph, pst, .int .u64 rev, .agg [.string k.os, .string k.oi].toArray, .string k.rel, .string us, .int .i64 b] R' [] λ u H' => u = .tuple [.bool false, .int .i64 1].toArray /\ H' = []) :
  Spec prog 31 [pT m, ph, pst, .int .u64 rev, .agg [.string k.os, .string k.oi].toArray, .string k.rel, .string us, .int .i64 b] R [] λ u H' => u = .tuple [.bool false, .int .i64 1].toArray /\ H' = [] := by
 refine Spec.body Tryz.func31 rfl Tryz.results31 Tryz.ntmps31 rfl<|.sr ?_
 refine .boxA rfl (λ b12 => ?_)
 refine .ag rfl<|.ag rfl<|.z<|.mo rfl<|.mo rfl<|.callN (hat _ λ b o hb => .inl hb) (λ u Tc hu => ?_)
 obtain ⟨v1, v2, n, iv1, iv2, rfl⟩ := hu
 refine .mo rfl<|.q .extract<|.q .extract ?_
 refine .allocA (λ b18 => ?_)
 refine .storeA rfl rfl<|.ag rfl<|.z<|.mo rfl<|.mo rfl<|.q (.loadA rfl)<|.mo rfl<|.mo rfl<|.q .bld ?_
 refine .allocA (λ b20 => ?_)
 refine .storeA rfl rfl<|.z<|.mo rfl<|.q (.loadA rfl)<|.callR (Mem.get_spec m M T hM ⟨rev, n, k.os, k.oi, k.rel, us⟩ _ λ p hp => .inl (hr p hp)) (λ u hu => ?_)
 rw [hk] at hu
 subst hu
 refine .mo rfl<|.q .extract<|.q .extract<|.ag rfl<|.ag rfl<|.zs<|.sr<|.mo rfl<|.mo rfl<|.split (t := 45) rfl (λ g4_1 => ?_) (λ g4_1 => ?_)
 ·cases g4_1
 refine .gF g4_1<|.gF g4_1<|.q (.pickFh g4_1)<|.mo rfl<|.gX<|.gX<|.q .pickF<|.zn<|.condF<|.kn<|.sr<|.mo rfl<|.mo rfl<|.mo rfl<|.q (.loadA rfl)<|.mo rfl<|.mo rfl<|.mo rfl<|.callR (hck _ λ b o hb => .inl hb) (λ u hu => ?_)
 subst hu
 refine .mo rfl<|.q .extract<|.q .extract<|.ag rfl<|.ag rfl<|.zs<|.sr<|.mo rfl<|.q .eqI<|.zn<|.cond rfl (λ h3 => ?_) λ h3 => ?_
 ·simp at h3
 refine .kn<|.sr<|.mo rfl<|.mo rfl<|.ag rfl<|.az rfl<|.ret (retQ_r _ (.two (.tmp rfl) (.tmp rfl)) (HLe.none _) ?_)
 ·exact ⟨rfl, rfl⟩
end
def bobT : ByteArray := ⟨#[98, 111, 98]⟩
theorem memoNobody_spec (w : WoM) (a : AskM) (R : Rds) (h : w.is R) (ha : a.is R) :
  Spec prog 4 [.agg w.enc.toArray, .agg a.enc.toArray] R [] λ v H' => v = .bool true /\ H' = [] := by
 have hmade := made_flat w R h
 have i1 : One w.c.vs := RS.oneCell h.c.ss
 have i2 : One w.c.vc := RS.oneCell h.c.sc
 have i3 := h.rs.oneCell
 have iw : Ones w.enc := ⟨λ u hu => by
  simp only [WoM.enc, List.mem_cons, List.not_mem_nil, or_false] at hu
  rcases hu with rfl | rfl | rfl
  ·exact i1.h
  ·exact i2.h
  ·exact i3.h⟩
 have ia := ha.ones
 have hbob : isID bobT = true := by decide +kernel
 refine Spec.body Tryz.func4 rfl Tryz.results4 Tryz.ntmps4 rfl ?_
 refine .sr ?_
 refine .boxA rfl (λ b2 => ?_)
 refine .boxA rfl (λ b3 => ?_)
 refine .ag rfl<|.z<|.q (.loadA rfl) ?_
 refine .callN (hmade.weaken rxl) (λ u Tw hu => ?_)
 obtain ⟨c, p1, p2, p3, ok, rfl, ip1, ip2, ip3, hc, hcp, hok, hW⟩ := hu
 have ic1 : One c.vs := RS.oneCell hc.ss
 have ic2 : One c.vc := RS.oneCell hc.sc
 have ice : Ones c.enc := ⟨hc.ones⟩
 refine .mo rfl<|.q .extract<|.q .extract<|.q .extract<|.q .extract<|.q .extract ?_
 refine .allocA (λ b7 => ?_)
 refine .ag rfl<|.ag rfl<|.storeA rfl rfl<|.ag rfl<|.ag rfl<|.zs<|.sr<|.mo rfl<|.q .not<|.zn ?_
 refine .cond rfl (λ h1 => ?_) λ h1 => ?_
 have hof : ok = false := by simpa using h1
 have hne : ((cfFew w.c.plain).numbers isWord isRef).1 ≠ 0 := by rw [hof] at hok; exact odf hok.symm
 refine .sr<|.q (.loadA rfl) ?_
 refine .callN (rnumbers_spec c _ (hc.mono λ b o hb => hb.elim .inl λ hb => .inr (by simp [hb]))) (λ u Tn hu => ?_)
 obtain ⟨wn, lln, rfl, hNN, _⟩ := hu
 rw [hcp]
 have in1 : One wn := hNN.rs.oneCell
 refine .mo rfl<|.q .extract<|.q .extract<|.ag rfl<|.ag rfl<|.z<|.mo rfl<|.q .neI<|.mo rfl ?_
 refine .split (t := 43) rfl (λ g4_2 => ?_) (λ g4_2 => ?_)
 refine .gT g4_2 ?_
 refine .callR (Mem.lives_spec _) (λ u hu => ?_)
 subst hu
 refine .q (.pickTh g4_2) ?_
 refine .az rfl ?_
 refine .ret (seqQ_r (retQ_r _ (.one (.tmp rfl)) (HLe.none _) ?_))
 ·exact ⟨rfl, rfl⟩
 ·simp [hne] at g4_2
 have hot : ok = true := by simpa using h1
 subst hot
 obtain ⟨hb, g, x, S, num, L, rfl, rfl, rfl, hWS⟩ := hW rfl
 obtain ⟨N, hN⟩ := hWS.fin a.rev a.k
 obtain ⟨K, s, hK, hs⟩ := QRun.ends (hWS.m.ps hN a.us)
 obtain ⟨out, hout⟩ : ∃ out, out = chkV a.us (disc (cfFew w.c.plain) num (subW S L a.rev) a.k a.b (scan S a.rev) N) a.b K s.1 := ⟨_, rfl⟩
 have hck := λ (R' : Rds) hR' => socheck_spec (R' := R') (hWS.mono (R' := R') hR') a.rev ha.r0 a.k a.us ha.u a.b ha.b1 hN hK hs
 have hmc := λ (R' : Rds) p (hd : DeadM R' p) hR' => mcheckD_spec p hd (hWS.mono (R' := R') hR') a.rev ha.r0 a.k a.us ha.u a.b ha.b1 hN hK hs
 rw [<- hout] at hck hmc
 refine .kn<|.seq<|.sr<|.az rfl<|.block ?_
 refine .loopS [(3, _), (5, _), (6, _)] (X := Nat) (λ i => i <= 2) (λ i E => (12, iN i) :: E) (λ _ G => G) (λ i => 2 - i) 0 (by omega) kE.c.c.c.c rH ?_
 rintro i hi
 refine .seq<|.sr<|.mo rfl<|.q .lss<|.zn ?_
 refine .cond rfl (λ h2 => ?_) λ h2 => ?_
 have hlt : i < 2 := lt_i h2
 refine .kn<|.seq<|.block<|.sr<|.ag rfl<|.zs<|.sr<|.mo rfl<|.q .eqI<|.zn ?_
 refine Tri.cutS [(3, _), (5, _), (6, _), (12, _)] kE.c.c.c.c (X := Value × Seg) (λ y => DeadM (sg y.2) y.1) (λ y E => (13, y.1) :: E) (λ y => [y.2, bl b7 c.enc 25, Tw, bl b3 a.enc 64, bl b2 w.enc 28]) ?_ ?_
 refine .cond rfl (λ h3 => ?_) λ h3 => ?_
 refine .region ?_
 refine .q .bld ?_
 refine .boxA rfl (λ b53 => ?_)
 refine .ag rfl<|.nil ?_
 ·exact joinQ_n (pT b53, bl b53 [.bool false, .int .i64 0, .map none, sZ, .int .i64 0] 72) (.inr ⟨b53, rfl, List.mem_singleton.2 rfl⟩) kE.c.c.c.c.c rH
 refine .skip ?_
 ·exact joinQ_n (.pointer none, []) (.inl rfl) kE.c.c.c.c.c HLe.new0
 intro x hx
 obtain ⟨p, Tp⟩ := x
 have hD : DeadM (sg Tp) p := hx
 simp only
 have ip := hD.one
 have hDx : ∀ (R : Rds) (H : Segs), DeadM (Rx R (Tp :: H)) p := λ R H => hD.mono λ b o hb => .inr (by have hb' : (b, o) ∈ Tp := hb; simp [hb'])
 refine seqQ_n<|.sr<|.mo rfl ?_
 refine .q .bld ?_
 refine .callR (mdput_spec p ⟨0, 0, ⟨#[]⟩, ⟨#[]⟩, ⟨#[]⟩, ⟨#[]⟩⟩ true _ (hDx _ _)) (λ u hu => ?_)
 subst hu
 refine .z<|.mo rfl ?_
 refine .callR (mdforget_spec p 3 _ (hDx _ _)) (λ u hu => ?_)
 subst hu
 refine .z<|.mo rfl ?_
 refine .q .bld ?_
 refine .callR (mdget_spec p ⟨0, 0, ⟨#[]⟩, ⟨#[]⟩, ⟨#[]⟩, ⟨#[]⟩⟩ _ (hDx _ _)) (λ u hu => ?_)
 subst hu
 refine .mo rfl<|.q .extract<|.q .extract<|.ag rfl<|.ag rfl<|.z<|.mo rfl<|.mo rfl<|.mo rfl<|.fa rfl<|.lo rfl<|.fa rfl<|.q (.loadT rfl) ?_
 refine .fa rfl<|.lo rfl<|.fa rfl<|.lo rfl<|.fa rfl<|.lo rfl ?_
 refine .callR (hmc _ p (hDx _ _) λ b o hb => hb.elim .inl λ hb => .inr (by simp [hb])) (λ u hu => ?_)
 subst hu
 refine .mo rfl<|.q .extract<|.q .extract<|.ag rfl<|.ag rfl<|.z<|.mo rfl<|.mo rfl<|.fa rfl<|.lo rfl<|.fa rfl<|.q (.loadT rfl) ?_
 refine .fa rfl<|.lo rfl<|.fa rfl<|.lo rfl<|.fa rfl<|.lo rfl ?_
 refine .callR (hck _ λ b o hb => hb.elim .inl λ hb => .inr (by simp [hb])) (λ u hu => ?_)
 subst hu
 refine .mo rfl<|.q .extract<|.q .extract<|.ag rfl<|.ag rfl<|.z<|.mo rfl<|.mo rfl ?_
 refine .split (t := 99) rfl (λ g16_1 => ?_) (λ g16_1 => ?_)
 ·cases g16_1
 refine .gT g16_1<|.mo rfl<|.q (.pickFh g16_1) ?_
 refine .mo rfl ?_
 refine .split (t := 102) rfl (λ g16_4 => ?_) (λ g16_4 => ?_)
 ·cases g16_4
 refine .gT g16_4<|.mo rfl<|.gT g16_4 ?_
 refine .callR (mdlen_spec p _ (hDx _ _)) (λ u hu => ?_)
 subst hu
 refine .gT g16_4<|.mo rfl<|.gT g16_4 ?_
 refine .callR (mdhits_spec p _ (hDx _ _)) (λ u hu => ?_)
 subst hu
 refine .gT g16_4 ?_
 refine .q (.i64 (0 : Int) .add ⟨rfl, by omega, by omega⟩) ?_
 refine .gT g16_4<|.q .neI<|.q (.pickFh g16_4) ?_
 refine .mo rfl ?_
 refine .split (t := 110) rfl (λ g16_12 => ?_) (λ g16_12 => ?_)
 ·simp at g16_12
 refine .gT g16_12<|.mo rfl<|.gT g16_12<|.mo rfl<|.gT g16_12<|.q .neB<|.q (.pickFh g16_12) ?_
 refine .mo rfl ?_
 refine .split (t := 115) rfl (λ g16_17 => ?_) (λ g16_17 => ?_)
 ·simp at g16_17
 refine .gT g16_17<|.mo rfl<|.gT g16_17<|.mo rfl<|.gT g16_17<|.q .neI<|.q (.pickFh g16_17) ?_
 refine .zn ?_
 refine .cond rfl (λ h4 => ?_) λ h4 => ?_
 ·simp at h4
 refine .skip<|blkQ_n<|seqQ_n<|.region<|.mo rfl ?_
 refine .ia (i + 1) .add ?_
 refine .ag rfl<|.nil ?_
 ·exact loopQ_i (i + 1) (by omega) (by omega) kE.c.c.c.c (pkH [1, 1, 1, 1])
 refine .exit<|seqQ_x<|loopQ_x<|blkQ_x<|seqQ_n<|.sr ?_
 refine .call [] (Mem.new_ok 5 _ (by omega)) (λ u H' hu => ?_)
 obtain ⟨m, Tm, rfl, rfl, hM⟩ := hu
 conv => arg 8; simp only [rest, dropAt, List.cons_append, List.nil_append]
 refine .mo rfl<|.q .extract<|.q .extract<|.ag rfl<|.ag rfl<|.z<|.mo rfl<|.mo rfl<|.fa rfl<|.q (.loadT rfl) ?_
 refine .fa rfl<|.lo rfl ?_
 refine .callR (mcheckE_spec (.pointer none) (pT g) m _ Tm hM (λ p hp => .inr (by simp [hp])) rfl 0 a.k bobT 5 (λ R' hR => Spec.flat ((hdat_spec (.pointer none) 0 R' (.inl rfl)).mono λ u H' hu => ?_)) (λ R' hR => dcheck_spec (.pointer none) (pT g) false (if scan S 0 then 0 else 12) 0 a.k bobT (by decide) hbob 5 R' (λ R'' hR'' => hdmade_spec _ _ (.inl rfl)) (λ R'' hR'' => ?_) (.inl rfl))) (λ u hu => ?_)
 ·obtain ⟨rfl, rfl⟩ := hu
  exact ⟨_, [], rfl, .refl _, [], rfl, _, _, _, ⟨rfl⟩, ⟨rfl⟩, rfl⟩
 ·obtain ⟨ps, vf, vr, Mf, Mr, hS⟩ := hWS.s
  have hl := hWS.len
  refine (read_spec (hS.mono (R' := R'') λ b o hb => hR'' b o (hR b o (hb.elim .inl λ hb => .inr (by simp [hb])))) (by omega) _ 0).mono λ u H' hu => ?_
  obtain ⟨T, rfl, w, ys, rfl, hO, _⟩ := hu
  exact ⟨T, rfl, w, hO.oneCell, rfl⟩
 subst hu
 refine .mo rfl<|.q .extract<|.q .extract<|.ag rfl<|.ag rfl<|.zs ?_
 refine Tri.cutS [(23, _)] kE.c (X := Nat × Nat × Seg) (λ y => HI y.2.1 [] 0 y.2.2) (λ _ E => (24, .bool false) :: (25, .int .i64 1) :: E) (λ y => [[]]) ?_ ?_
 refine .region_all [] mixed ?_
 refine .tO 0 rfl .move ?_
 refine .tO 2 rfl .bld ?_
 refine .tO 4 rfl (.fieldAddr rfl) ?_
 refine .tO 5 rfl (.loadT rfl) ?_
 refine .tO 6 rfl (.fieldAddr rfl)<|.tO 7 rfl (.load1 rfl) ?_
 refine RA.step2 1 3 rfl rfl (by kernel_rfl) rfl ?_ ?_
 refine .callN (hnew_spec _) (λ u Th hu => ?_)
 obtain ⟨hb2, rfl, hH⟩ := hu
 refine .nil (Next.sub ?_)
 refine .sT 3 rfl ?_
 refine .boxA rfl (λ b138 => ?_)
 refine .nil (Next.sub ?_)
 refine .sT 8 rfl ?_
 obtain ⟨vl2, hV2⟩ := hH.view (R := sg Th) λ p hp => hp
 have hV2x : ∀ (R' : Rds), (∀ b o, (b, o) ∈ Th -> R' b o) -> HV R' hb2 vl2 [] 0 := λ R' hR => hV2.mono λ b o hb => hR b o hb
 refine .callR (mcheckE_spec (pT hb2) (pT b138) m _ Tm hM (λ p hp => .inr (by simp [hp])) rfl 0 a.k bobT 5 (λ R' hR => ((hV2x R' λ b o hb => hR b o (.inr (by simp [hb]))).at_ 0 ⟨by omega, by simp⟩).mono λ u H' hu => ?_) (λ R' hR => dcheck_spec (pT hb2) (pT b138) true 1 0 a.k bobT (by decide) hbob 5 R' (λ R'' hR'' => (hV2x R'' λ b o hb => hR'' b o (hR b o (.inr (by simp [hb])))).made) (λ R'' hR'' => Spec.flat ((sdRead_spec _ _ 0 R'' (.inr ⟨b138, rfl, hR'' _ _ (hR _ _ (.inr (by simp)))⟩)).mono λ u H' hu => ?_)) (.inr rfl))) (λ u hu => ?_)
 ·obtain ⟨T, rfl, c', rfl, hc', _⟩ := hu
  exact ⟨T, rfl, c'.vs, c'.vc, _, RS.oneCell hc'.ss, RS.oneCell hc'.sc, rfl⟩
 ·obtain ⟨rfl, rfl⟩ := hu
  exact ⟨_, [], rfl, .refl _, [], rfl, _, ⟨rfl⟩, rfl⟩
 subst hu
 refine .nil (Next.sub ?_)
 refine .tO 9 rfl .move<|.tO 10 rfl .extract<|.tO 11 rfl .extract<|.tO 12 rfl .assign<|.tO 13 rfl .assign ?_
 refine RA.nil (by kernel_rfl) ?_
 ·exact joinQ_n (0, hb2, Th) hH kE.c.c.c (HLe.none _ |>.trans HLe.new0)
 refine .boxA rfl (λ b138 => ?_)
 refine .nil (Next.sub ?_)
 refine .sT 1 rfl ?_
 refine .callN (hnew_spec _) (λ u Th hu => ?_)
 obtain ⟨hb2, rfl, hH⟩ := hu
 refine .nil (Next.sub ?_)
 refine .sT 8 rfl ?_
 obtain ⟨vl2, hV2⟩ := hH.view (R := sg Th) λ p hp => hp
 have hV2x : ∀ (R' : Rds), (∀ b o, (b, o) ∈ Th -> R' b o) -> HV R' hb2 vl2 [] 0 := λ R' hR => hV2.mono λ b o hb => hR b o hb
 refine .callR (mcheckE_spec (pT hb2) (pT b138) m _ Tm hM (λ p hp => .inr (by simp [hp])) rfl 0 a.k bobT 5 (λ R' hR => ((hV2x R' λ b o hb => hR b o (.inr (by simp [hb]))).at_ 0 ⟨by omega, by simp⟩).mono λ u H' hu => ?_) (λ R' hR => dcheck_spec (pT hb2) (pT b138) true 1 0 a.k bobT (by decide) hbob 5 R' (λ R'' hR'' => (hV2x R'' λ b o hb => hR'' b o (hR b o (.inr (by simp [hb])))).made) (λ R'' hR'' => Spec.flat ((sdRead_spec _ _ 0 R'' (.inr ⟨b138, rfl, hR'' _ _ (hR _ _ (.inr (by simp)))⟩)).mono λ u H' hu => ?_)) (.inr rfl))) (λ u hu => ?_)
 ·obtain ⟨T, rfl, c', rfl, hc', _⟩ := hu
  exact ⟨T, rfl, c'.vs, c'.vc, _, RS.oneCell hc'.ss, RS.oneCell hc'.sc, rfl⟩
 ·obtain ⟨rfl, rfl⟩ := hu
  exact ⟨_, [], rfl, .refl _, [], rfl, _, ⟨rfl⟩, rfl⟩
 subst hu
 refine .nil (Next.sub ?_)
 refine .tO 9 rfl .move<|.tO 10 rfl .extract<|.tO 11 rfl .extract<|.tO 12 rfl .assign<|.tO 13 rfl .assign ?_
 refine RA.nil (by kernel_rfl) ?_
 ·exact joinQ_n (0, hb2, Th) hH kE.c.c.c (HLe.none _ |>.trans HLe.new0)
 intro y hy
 refine seqQ_n<|.sr<|.mo rfl<|.q .eqI<|.mo rfl ?_
 refine .split (t := 148) rfl (λ g21_2 => ?_) (λ g21_2 => ?_)
 refine .gT g21_2<|.mo rfl<|.gT g21_2<|.q .eqI<|.q (.pickTh g21_2) ?_
 refine .mo rfl ?_
 refine .split (t := 152) rfl (λ g21_6 => ?_) (λ g21_6 => ?_)
 refine .gT g21_6 ?_
 refine .callR (Mem.lives_spec _) (λ u hu => ?_)
 subst hu
 refine .q (.pickTh g21_6) ?_
 refine .az rfl ?_
 refine .ret (retQ_r _ (.one (.tmp rfl)) (HLe.none _) ?_)
 ·exact ⟨rfl, rfl⟩
 ·simp at g21_6
 ·simp at g21_2
end Go.Proofs.YtenilfmlfldogaaGreat
