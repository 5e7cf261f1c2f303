/- What the law 'ReachB' uses. No condition. -/
import Derived.Test.YtenilfmlfldogaaGreatKReachBA
import Derived.Test.YtenilfmlfldogaaGreatKReachBB
import Derived.Test.YtenilfmlfldogaaGreatKReachBD
import Derived.Test.YtenilfmlfldogaaGreatKReachBE
import Derived.Test.YtenilfmlfldogaaGreatKReachBH
import Derived.Test.YtenilfmlfldogaaGreatKReachBI
import Derived.Test.YtenilfmlfldogaaGreatKReachBJ
import Derived.Test.YtenilfmlfldogaaGreatKReachBL
import Derived.Test.YtenilfmlfldogaaGreatKReachBN
namespace Go.Proofs.YtenilfmlfldogaaGreat
open Tryz (prog)
set_option linter.unusedVariables false
set_option linter.unusedSimpArgs false
set_option maxRecDepth 4000
def tkind (t : Tpl) : ByteArray := if t.us = ⟨#[]⟩ then ⟨#[49]⟩ else ⟨#[48]⟩
def tflds (t : Tpl) : List ByteArray := [t.os, t.oi, t.rel, tkind t, t.us, t.ss, t.si, t.sr]
theorem scmp_kind (a b : Tpl) : scmp (tkind a) (tkind b) = icmp (srank a.us) (srank b.us) := by
 unfold tkind srank
 split <;> split <;> decide
theorem tplcmp_flds (a b : Tpl) : tplcmp a b = orI (List.zipWith scmp (tflds a) (tflds b)) := by
 unfold tplcmp tflds
 simp only [List.zipWith_cons_cons, List.zipWith_nil_left]
 rw [scmp_kind]
theorem orI_first : ∀ {X Y : List ByteArray} {i : Nat} {x y : ByteArray}, X.take i = Y.take i -> X[i]? = some x -> Y[i]? = some y -> x ≠ y -> orI (List.zipWith scmp X Y) = scmp x y
 | x0 :: X, y0 :: Y, 0, x, y, _, hx, hy, hn => by
  simp only [List.getElem?_cons_zero, Option.some.injEq] at hx hy
  subst hx hy
  rw [List.zipWith_cons_cons, orI_cons, if_neg λ e => hn (scmp_eq.1 e)]
 | x0 :: X, y0 :: Y, i + 1, x, y, ht, hx, hy, hn => by
  simp only [List.take_succ_cons, List.cons.injEq] at ht
  simp only [List.getElem?_cons_succ] at hx hy
  rw [List.zipWith_cons_cons, orI_cons, if_pos (scmp_eq.2 ht.1)]
  exact orI_first ht.2 hx hy hn
 | [], _, i, x, y, _, hx, _, _ => by simp at hx
 | _ :: _, [], i, x, y, _, _, hy, _ => by simp at hy
theorem tlt_first {a b : Tpl} {i : Nat} {x y : ByteArray} (ht : (tflds a).take i = (tflds b).take i) (hx : (tflds a)[i]? = some x) (hy : (tflds b)[i]? = some y) (hn : x ≠ y) : tlt a b = sLt x y := by
 unfold tlt
 rw [tplcmp_flds, orI_first ht hx hy hn, Bool.eq_iff_iff, decide_eq_true_eq, sLt_iff]
theorem tflds_inj {a b : Tpl} (h : tflds a = tflds b) : a = b := by
 obtain ⟨a1, a2, a3, a4, a5, a6, a7⟩ := a
 obtain ⟨b1, b2, b3, b4, b5, b6, b7⟩ := b
 simp only [tflds, List.cons.injEq] at h
 obtain ⟨h1, h2, h3, h4, h5, h6, h7, h8, _⟩ := h
 simp only [Tpl.mk.injEq]
 exact ⟨h1, h2, h3, h5, h6, h7, h8⟩
theorem fields_spec (t : Tpl) (R : Rds) : Spec prog 268 [.agg t.enc.toArray] R [] λ u H' => ∃ T, H' = [T] /\ OS 9 1 encS u (tflds t) T := by
 refine Spec.segs (H' := []) (by simp)<|Spec.body Tryz.func268 rfl Tryz.results268 Tryz.ntmps268 rfl<|.sr ?_
 refine .boxA rfl (λ b1 => ?_)
 refine .ag rfl<|.z<|.ag rfl<|.zs<|.sr<|.fa rfl<|.fa rfl<|.lo rfl<|.q .neS<|.zn ?_
 refine Tri.cut (X := ByteArray) (λ k => k = tkind t) (λ k => [(1, pT b1), (3, .string k)]) (λ k => [bl b1 t.enc 151]) ?_ ?_
 refine .cond rfl (λ h1 => ?_) λ h1 => ?_
 refine .region<|.ag rfl<|.nil ?_
 ·exact joinQ_n ⟨#[48]⟩ (by unfold tkind; rw [if_neg (by simpa using h1)]) kE.c.c rH
 refine .skip ?_
 ·exact joinQ_n ⟨#[49]⟩ (by unfold tkind; rw [if_pos (by simpa using h1)]) kE.c.c rH
 intro x hx
 subst hx
 refine seqQ_n<|.sr<|.fa rfl<|.fa rfl<|.lo rfl<|.fa rfl<|.fa rfl<|.lo rfl<|.fa rfl<|.lo rfl<|.mo rfl<|.fa rfl<|.fa rfl<|.lo rfl<|.fa rfl<|.fa rfl<|.fa rfl<|.lo rfl<|.fa rfl<|.fa rfl<|.fa rfl<|.lo rfl<|.fa rfl<|.fa rfl<|.lo rfl ?_
 refine .buildSliceN1 [_, _, _, _, _, _, _, _] (λ b31 => ?_)
 refine .az rfl<|.ret (retQ_r _ (.one (.tmp rfl)) (.one [0] _) ?_)
 ·refine ⟨_, by simp [take]; rfl, ?_⟩
  exact OS.lits (E := 9) (xs := tflds t) (enc := encS) rfl (by simp [tflds, encS]) (by simp [tflds, encS, oneCell])
theorem rless_spec (a b : Tpl) (R : Rds) : Spec prog 234 [.agg a.enc.toArray, .agg b.enc.toArray] R [] λ v H' => v = .bool (tlt a b) /\ H' = [] := by
 refine Spec.body Tryz.func234 rfl Tryz.results234 Tryz.ntmps234 rfl<|.sr ?_
 refine .boxA rfl (λ b2 => ?_)
 refine .boxA rfl (λ b3 => ?_)
 refine .ag rfl<|.zs<|.region_all [] mixed<|.tO 0 rfl (.loadA rfl)<|.tO 2 rfl (.loadA rfl)<|.sT 1 rfl<|.callN (fields_spec a _) (λ u T1 hO1 => ?_)
 have i1 := hO1.oneCell
 refine .nil<|Next.sub<|.sT 3 rfl<|.callN (fields_spec b _) (λ w T2 hO2 => ?_)
 have i2 := hO2.oneCell
 refine .nil<|Next.sub<|.tO 4 rfl .assign<|.tO 5 rfl .assign<|RA.nil (by kernel_rfl)<|seqQ_n<|.seq<|.sr<|.az rfl<|.block<|.loop (X := Nat) (λ i => i <= 8 /\ (tflds a).take i = (tflds b).take i) (λ i => [(5, u), (6, w), (7, iN i)]) (λ _ => [T1, T2]) (λ i => 8 - i) 0 ⟨by omega, by simp⟩ kE.c.c.c (pkH [1, 0]) ?_
 rintro i ⟨hi, hs⟩
 refine .seq<|.sr<|.mo rfl<|.mo rfl<|.q (.lenO hO1)<|.q .lss<|.zn<|.cond rfl (λ h1 => ?_) λ h1 => ?_
 have hlt : i < 8 := by have := odt h1; simp only [tflds, List.length_cons, List.length_nil] at this; omega
 obtain ⟨z, hz⟩ : ∃ z, (tflds a)[i]? = some z := ⟨_, gge (by simpa [tflds] using hlt)⟩
 obtain ⟨y, hy⟩ : ∃ y, (tflds b)[i]? = some y := ⟨_, gge (by simpa [tflds] using hlt)⟩
 refine .kn<|.seq<|.block<|.seq<|.region_still mixed (by kernel_rfl)<|.mo rfl<|.mo rfl ?_
 refine .indexO i hO1 hz (λ p20 => ?_)
 refine .lo rfl<|.mo rfl<|.mo rfl ?_
 refine .indexO i hO2 hy (λ p24 => ?_)
 refine .lo rfl<|.q .neS<|.zn<|.cond rfl (λ h2 => ?_) λ h2 => ?_
 refine .seq<|.region_still mixed (by kernel_rfl)<|.mo rfl<|.mo rfl ?_
 refine .indexO i hO1 hz (λ p29 => ?_)
 refine .lo rfl<|.mo rfl<|.mo rfl ?_
 refine .indexO i hO2 hy (λ p33 => ?_)
 refine .lo rfl<|.q .ltS<|.az rfl<|.ret (blkQ_r (seqQ_r (loopQ_r (blkQ_r (seqQ_r (rq1 rfl ?_))))))
 ·have hne : z ≠ y := by simpa using h2
  exact ⟨by rw [tlt_first hs hz hy hne], rfl⟩
 refine .skip<|blkQ_n<|seqQ_n<|.region<|.mo rfl<|.ia (i + 1) .add<|.ag rfl<|.nil ?_
 ·exact loopQ_i (i + 1) ⟨hlt, by
   have e : z = y := by simpa using h2
   rw [List.take_add_one, List.take_add_one, hs, hz, hy, e]⟩ (by omega) kE.c.c.c rH
 refine .exit<|seqQ_x<|loopQ_x<|blkQ_x<|seqQ_n<|.sr<|.az rfl<|.ret (rq1 rfl ?_)
 ·have he : i = 8 := by have := odf h1; simp only [tflds, List.length_cons, List.length_nil] at this; omega
  subst he
  have : a = b := tflds_inj (by simpa [tflds] using hs)
  exact ⟨by rw [this, tlt_irr], rfl⟩
structure DV (R : Rds) (b : Nat) (S : Sto) (vL : Value) (L : List SRow) : Prop where
 pc : PC R (pT b) [vL, .int .u64 S.head, .int .u64 S.hor]
 rs : RS R 9 SRow.enc vL L
theorem DV.mono {R R' : Rds} {b : Nat} {S : Sto} {vL : Value} {L : List SRow} (h : DV R b S vL L) (hR : ∀ b o, R b o -> R' b o) : DV R' b S vL L := ⟨h.pc.mono hR, h.rs.mono hR⟩
section
variable {R : Rds} {b : Nat} {S : Sto} {vL : Value} {L : List SRow}
theorem DV.can (h : DV R b S vL L) (r : Int) : Spec prog 70 [pT b, .int .u64 r] R [] λ v H' => v = .bool (scan S r) /\ H' = [] := by
 have pc := h.pc
 have ivl := h.rs.oneCell
 refine Spec.body Tryz.func70 rfl Tryz.results70 Tryz.ntmps70 rfl<|.sr<|.ag rfl<|.z<|.mo rfl<|.nc rfl<|.fa rfl<|.lo rfl<|.mo rfl<|.q .leq<|.mo rfl<|.split (t := 11) rfl (λ g1_6 => ?_) (λ g1_6 => ?_)
 refine .gT g1_6<|.mo rfl<|.gT g1_6<|.mo rfl<|.gT g1_6<|.nc rfl<|.gT g1_6<|.fa rfl<|.gT g1_6<|.lo rfl<|.gT g1_6<|.q .leq<|.q (.pickTh g1_6)<|.az rfl<|.ret (rq1 rfl ?_)
 ·refine ⟨congrArg _ ?_, rfl⟩
  unfold scan
  simp_all
  try omega
 refine .gF g1_6<|.gF g1_6<|.gF g1_6<|.gF g1_6<|.gF g1_6<|.gF g1_6<|.q (.pickFh g1_6)<|.az rfl<|.ret (rq1 rfl ?_)
 ·refine ⟨congrArg _ ?_, rfl⟩
  unfold scan
  simp_all
  try omega
end
theorem risRef_spec (s i : ByteArray) (hs : s.size <= 9223372036854775807) (hi : i.size <= 9223372036854775807) (R : Rds) : Spec prog 134 [.agg [.string s, .string i].toArray] R [] λ v H' => v = .bool (isRef s i) /\ H' = [] := by
 refine Spec.body Tryz.func134 rfl Tryz.results134 Tryz.ntmps134 rfl<|.sr ?_
 refine .boxA rfl (λ b1 => ?_)
 refine .ag rfl<|.z<|.fa rfl<|.lo rfl<|.callR (rword_spec s hs _) (λ v hv => ?_)
 subst hv
 refine .mo rfl<|.split (t := 6) rfl (λ g1_3 => ?_) (λ g1_3 => ?_)
 refine .gT g1_3<|.fa rfl<|.gT g1_3<|.lo rfl<|.gT g1_3<|.callR (rid_spec i hi _) (λ v hv => ?_)
 subst hv
 refine .q (.pickTh g1_3)<|.az rfl<|.ret (rq1 rfl ?_)
 ·exact ⟨by unfold isRef; simp_all, rfl⟩
 refine .gF g1_3<|.gF g1_3<|.gF g1_3<|.q (.pickFh g1_3)<|.az rfl<|.ret (rq1 rfl ?_)
 ·exact ⟨by unfold isRef; simp_all, rfl⟩
theorem risSub_spec (s : Sub) (h1_ : s.us.size <= 9223372036854775807) (h2_ : s.ss.size <= 9223372036854775807) (h3_ : s.si.size <= 9223372036854775807) (h4_ : s.sr.size <= 9223372036854775807) (R : Rds) : Spec prog 233 [.agg s.enc.toArray] R [] λ v H' => v = .bool (isSub s) /\ H' = [] := by
 obtain ⟨us, ss, si, sr⟩ := s
 simp only at h1_ h2_ h3_ h4_
 refine Spec.body Tryz.func233 rfl Tryz.results233 Tryz.ntmps233 rfl<|.sr ?_
 refine .boxA rfl (λ b1 => ?_)
 refine .ag rfl<|.zs<|.sr<|.fa rfl<|.lo rfl<|.q .eqS<|.zn<|.cond rfl (λ h1 => ?_) λ h1 => ?_
 refine .sr<|.fa rfl<|.q (.loadT rfl)<|.callR (risRef_spec ss si h2_ h3_ _) (λ v hv => ?_)
 subst hv
 refine .mo rfl<|.split (t := 9) rfl (λ g2_3 => ?_) (λ g2_3 => ?_)
 refine .gT g2_3<|.fa rfl<|.gT g2_3<|.lo rfl<|.gT g2_3<|.callR (rword_spec sr h4_ _) (λ v hv => ?_)
 subst hv
 refine .q (.pickTh g2_3)<|.az rfl<|.ret (seqQ_r (rq1 rfl ?_))
 ·refine ⟨congrArg _ ?_, rfl⟩
  unfold isSub
  by_cases hu : us = ⟨#[]⟩
  ·simp only [hu, if_true]
   simp_all
  ·simp only [hu, if_false]
   simp_all
 refine .gF g2_3<|.gF g2_3<|.gF g2_3<|.q (.pickFh g2_3)<|.az rfl<|.ret (seqQ_r (rq1 rfl ?_))
 ·refine ⟨congrArg _ ?_, rfl⟩
  unfold isSub
  by_cases hu : us = ⟨#[]⟩
  ·simp only [hu, if_true]
   simp_all
  ·simp only [hu, if_false]
   simp_all
 refine .kn<|.sr<|.fa rfl<|.lo rfl<|.callR (rid_spec us h1_ _) (λ v hv => ?_)
 subst hv
 refine .mo rfl<|.split (t := 17) rfl (λ g3_3 => ?_) (λ g3_3 => ?_)
 refine .gT g3_3<|.fa rfl<|.gT g3_3<|.fa rfl<|.gT g3_3<|.lo rfl<|.gT g3_3<|.q .eqS<|.q (.pickTh g3_3)<|.mo rfl<|.split (t := 23) rfl (λ g3_9 => ?_) (λ g3_9 => ?_)
 refine .gT g3_9<|.fa rfl<|.gT g3_9<|.fa rfl<|.gT g3_9<|.lo rfl<|.gT g3_9<|.q .eqS<|.q (.pickTh g3_9)<|.mo rfl<|.split (t := 29) rfl (λ g3_15 => ?_) (λ g3_15 => ?_)
 refine .gT g3_15<|.fa rfl<|.gT g3_15<|.lo rfl<|.gT g3_15<|.q .eqS<|.q (.pickTh g3_15)<|.az rfl<|.ret (rq1 rfl ?_)
 ·refine ⟨congrArg _ ?_, rfl⟩
  unfold isSub
  by_cases hu : us = ⟨#[]⟩
  ·simp only [hu, if_true]
   simp_all
  ·simp only [hu, if_false]
   simp_all
 refine .gF g3_15<|.gF g3_15<|.gF g3_15<|.q (.pickFh g3_15)<|.az rfl<|.ret (rq1 rfl ?_)
 ·refine ⟨congrArg _ ?_, rfl⟩
  unfold isSub
  by_cases hu : us = ⟨#[]⟩
  ·simp only [hu, if_true]
   simp_all
  ·simp only [hu, if_false]
   simp_all
 refine .gF g3_9<|.gF g3_9<|.gF g3_9<|.gF g3_9<|.q (.pickFh g3_9)<|.mo rfl<|.gX<|.gX<|.gX<|.q .pickF<|.az rfl<|.ret (rq1 rfl ?_)
 ·refine ⟨congrArg _ ?_, rfl⟩
  unfold isSub
  by_cases hu : us = ⟨#[]⟩
  ·simp only [hu, if_true]
   simp_all
  ·simp only [hu, if_false]
   simp_all
 refine .gF g3_3<|.gF g3_3<|.gF g3_3<|.gF g3_3<|.q (.pickFh g3_3)<|.mo rfl<|.gX<|.gX<|.gX<|.gX<|.q .pickF<|.mo rfl<|.gX<|.gX<|.gX<|.q .pickF<|.az rfl<|.ret (rq1 rfl ?_)
 ·refine ⟨congrArg _ ?_, rfl⟩
  unfold isSub
  by_cases hu : us = ⟨#[]⟩
  ·simp only [hu, if_true]
   simp_all
  ·simp only [hu, if_false]
   simp_all
theorem risTpl_spec (t : Tpl) (ht : t.fits) (R : Rds) : Spec prog 182 [.agg t.enc.toArray] R [] λ v H' => v = .bool (isTpl t) /\ H' = [] := by
 obtain ⟨a1, a2, a3, a4, a5, a6, a7⟩ := ht
 refine Spec.body Tryz.func182 rfl Tryz.results182 Tryz.ntmps182 rfl<|.sr ?_
 refine .boxA rfl (λ b1 => ?_)
 refine .ag rfl<|.z<|.fa rfl<|.q (.loadT rfl)<|.callR (risRef_spec t.os t.oi a1 a2 _) (λ v hv => ?_)
 subst hv
 refine .mo rfl<|.split (t := 6) rfl (λ g1_3 => ?_) (λ g1_3 => ?_)
 refine .gT g1_3<|.fa rfl<|.gT g1_3<|.lo rfl<|.gT g1_3<|.callR (rword_spec t.rel a3 _) (λ v hv => ?_)
 subst hv
 refine .q (.pickTh g1_3)<|.mo rfl<|.split (t := 11) rfl (λ g1_8 => ?_) (λ g1_8 => ?_)
 refine .gT g1_8<|.fa rfl<|.gT g1_8<|.q (.loadT rfl)<|.gT g1_8<|.callR (risSub_spec t.sub a4 a5 a6 a7 _) (λ v hv => ?_)
 subst hv
 refine .q (.pickTh g1_8)<|.az rfl<|.ret (rq1 rfl ?_)
 ·exact ⟨by unfold isTpl; simp_all, rfl⟩
 refine .gF g1_8<|.gF g1_8<|.gF g1_8<|.q (.pickFh g1_8)<|.az rfl<|.ret (rq1 rfl ?_)
 ·exact ⟨by unfold isTpl; simp_all, rfl⟩
 refine .gF g1_3<|.gF g1_3<|.gF g1_3<|.q (.pickFh g1_3)<|.mo rfl<|.gX<|.gX<|.gX<|.q .pickF<|.az rfl<|.ret (rq1 rfl ?_)
 ·exact ⟨by unfold isTpl; simp_all, rfl⟩
theorem SV.subs {R : Rds} {g : Nat} {S : Sto} {ps : List RB} {vf vr : Value} {Mf : List (Obr × (Value × Seg))} {Mr : List (Sub × (Value × Seg))} (h : SV R g S ps vf vr Mf Mr) (hl : S.rows.length <= 4096) (k : Obr) (r : Int) {L : List SRow} (hL : RL S L) :
  Spec prog 202 [pT g, .agg [.string k.os, .string k.oi].toArray, .string k.rel, .int .u64 r] R [] λ u H' => ∃ T, H' = [T] /\ OS 149 4 Sub.enc u (if scan S r then (L.filter λ x => x.there r && decide (x.t.obr = k)).map (·.t.sub) else []) T := by
 have pc := h.pc
 have iof := h.of
 have ior := h.or
 have hpl : ps.length <= 4096 := by rw [<- h.eq, List.length_map] at hl; exact hl
 obtain ⟨pf, cf, hlk, hrs⟩ := h.lf k
 have hF : RS R 1 encRB (.slice pf (ids (λ x => x.t.obr) k ps).length cf) (frows (λ x => x.t.obr) k ps) := RS.of_map (enc := encPt) (f := λ p : RB => p.1) hrs
 have hFl : (frows (λ x => x.t.obr) k ps).length <= 4096 := Nat.le_trans (List.length_filter_le _ _) hpl
 refine Spec.segs (H' := [[]]) (by simp)<|Spec.body Tryz.func202 rfl Tryz.results202 Tryz.ntmps202 rfl<|.sr ?_
 refine .boxA rfl (λ b5 => ?_)
 refine .ag rfl<|.zs<|.sr<|.mo rfl<|.mo rfl<|.callR ((h.mono λ b o hb => .inl hb).can r) (λ v hv => ?_)
 subst hv
 refine .q .not<|.zn<|.cond rfl (λ h1 => ?_) λ h1 => ?_
 have hsc : scan S r = false := by simpa using h1
 refine .sr<|.az rfl<|.ret (seqQ_r (retQ_r _ (.one (.tmp rfl)) ((pkH [1])) ?_))
 ·exact ⟨_, by simp [take]; rfl, by rw [hsc]; exact OS.nil⟩
 have hsc : scan S r = true := by simpa using h1
 refine .kn<|.sr<|.ag rfl<|.zs<|.seq<|.region_all [] mixed<|.tO 0 rfl .move<|.tO 1 rfl (.nilCheck rfl)<|.tO 2 rfl (.fieldAddr rfl)<|.tO 3 rfl (.load1 rfl)<|.tO 4 rfl (.loadA rfl)<|.tO 5 rfl .move<|.tO 6 rfl .bld<|.tO 7 rfl (.lookupE (h.mono λ b o hb => .inl hb).mf rfl rfl (key := k) hlk)<|.tO 8 rfl .move<|.tO 11 rfl .move<|.sT 9 rfl<|.callN (at_spec _ (frows (λ x => x.t.obr) k ps) r _ hF.rx (λ p hp => (h.pr p (List.mem_filter.1 hp).1).mono λ b o hb => .inl hb) (by omega)) (λ u T1 hu => ?_)
 obtain ⟨ys, hY, hyp, hyo⟩ := hu
 have iu := hY.oneCell
 have hyl : ys.length <= 4096 := by
  rw [hyp.length_eq, List.length_map]
  exact Nat.le_trans (List.length_filter_le _ _) hFl
 have hyL : ys = (L.filter λ x => x.there r && decide (x.t.obr = k)).map (·.t) := hL.at_ (by
  refine hyp.trans (.of_eq ?_)
  rw [<- h.eq, List.filter_map, List.map_map]
  unfold frows
  rw [List.filter_filter]; rfl) hyo
 refine .nil<|Next.sub<|.tO 10 rfl (.lenO hY)<|RA.nil (by kernel_rfl)<|seqQ_n<|.block<|.loop (X := Nat × Value × Seg) (λ y => y.1 <= ys.length /\ OS 149 4 Sub.enc y.2.1 ((ys.take y.1).map Tpl.sub) y.2.2) (λ y => [(9, y.2.1), (25, u), (26, iN ys.length), (27, iN y.1)]) (λ y => [T1, y.2.2]) (λ y => ys.length - y.1) (0, sZ, []) ⟨Nat.zero_le _, OS.nil⟩ kE.c.c.c.c (pkH [0, 1]) ?_
 rintro ⟨i, vo, To⟩ ⟨hi, hO⟩
 simp only at hi hO ⊢
 have io := hO.oneCell
 refine .sr<|.q .lss<|.zs<|.cond rfl (λ h2 => ?_) λ h2 => ?_
 have hlt : i < ys.length := lt_i h2
 obtain ⟨x, hx⟩ := exg hlt
 have htk : ys.take (i + 1) = ys.take i ++ [x] := by rw [List.take_add_one, hx]; rfl
 refine .kn<|.seq<|.block<|.sr ?_
 refine .indexO i hY hx (λ p29 => ?_)
 refine .q (.loadA rfl) ?_
 refine .allocA (λ b11 => ?_)
 refine .storeA rfl rfl<|.zn<|.region<|.mo rfl<|.fa rfl<|.q (.loadT rfl) ?_
 refine .buildSlice1A (λ b34 => ?_)
 refine .append hO (RS.lits (xs := [x.sub]) rfl (by simp [Sub.enc]) (by simp [Sub.enc, oneCell])) (by simp only [List.length_singleton, List.length_map, List.length_take]; omega) (λ v5 T5 hO5 => ?_)
 refine .ag rfl<|.nil<|blkQ_n<|seqQ_n<|.region<|.ia (i + 1) .add<|.mo rfl<|.nil ?_
 ·exact loopQ_i (i + 1, v5, T5) ⟨hlt, by simp only; rw [htk, List.map_append]; exact hO5⟩ (by simp only; omega) kE.c.c.c.c (pkH [2, 2])
 refine .exit<|seqQ_x<|loopQ_x<|blkQ_x<|seqQ_n<|.sr<|.mo rfl<|.az rfl<|.ret (retQ_r _ (.one (.tmp rfl)) ((pkH [1])) ?_)
 ·have hie : i = ys.length := by have := odf h2; omega
  subst hie
  rw [List.take_length, hyL, List.map_map] at hO
  exact ⟨To, by simp [take, dropAt], by rw [hsc]; exact hO⟩
def mSp (s : SpM) : Bool := decide (16 < s.rels.length) || s.rels.any λ r => muchR isWord r.r
theorem much_eq (c : CfM) : c.plain.much isWord = (decide (16 < c.spaces.length) || decide (16 < c.scopes.length) || c.spaces.any mSp) := by
 unfold Cf.much CfM.plain
 simp only [List.length_map, List.any_map]
 congr 1
 congr 1
 funext s
 simp [mSp, SpM.plain, List.any_map, Function.comp_def]
def rTy (r : RlM) : Bool := r.r.types.all (kindOK isWord)
def rRl (r : RlM) : Bool := isWord r.r.name && deepD isWord r.r.nodes != 0 && rTy r
def rSp (s : SpM) : Bool := isWord s.name && s.rels.all rRl
theorem right_eq (c : CfM) : c.plain.right isWord isRef = (c.spaces.all rSp && c.scopes.all (scOK isWord isRef) && !c.plain.much isWord) := by
 unfold Cf.right
 congr 1
 congr 1
 unfold CfM.plain
 simp only [List.all_map]
 congr 1
 funext s
 simp only [rSp, relOK, SpM.plain, List.all_map, Function.comp_def]
 rfl
theorem rmuch_spec (c : CfM) (R : Rds) (h : c.is R) : Spec prog 135 [.agg c.enc.toArray] R [] λ u H' => u = .bool (c.plain.much isWord) /\ H' = [] := by
 rw [much_eq]
 obtain ⟨vs, vc, sps, scs⟩ := c
 have hss := h.ss
 have hsc := h.sc
 have i1 := hss.oneCell
 have i2 := hsc.oneCell
 simp only at hss hsc i1 i2 ⊢
 have hle := hss.le
 refine Spec.body Tryz.func135 rfl Tryz.results135 Tryz.ntmps135 rfl<|.sr ?_
 refine .boxA rfl (λ b1 => ?_)
 refine .ag rfl<|.zs<|.seq ?_
 refine Tri.cutS [(1, _)] kE.c (X := Unit) (λ _ => True) (λ _ E => (15, .bool (decide (16 < sps.length) || decide (16 < scs.length))) :: E) (λ _ => [bl b1 [vs, vc] 25]) ?_ ?_
 refine .region<|.fa rfl<|.lo rfl<|.q (.lenR hss)<|.q .gtr<|.mo rfl<|.split (t := 10) rfl (λ g1_4 => ?_) (λ g1_4 => ?_)
 refine .gF g1_4<|.gF g1_4<|.gF g1_4<|.gF g1_4<|.q (.pickTh g1_4)<|.nil ?_
 ·exact joinQ_n () trivial (kE.c.consB rfl (by grind)) rH
 refine .gT g1_4<|.fa rfl<|.gT g1_4<|.lo rfl<|.gT g1_4<|.q (.lenR hsc)<|.gT g1_4<|.q .gtr<|.q (.pickFh g1_4)<|.nil ?_
 ·exact joinQ_n () trivial (kE.c.consB rfl (by grind)) rH
 intro y hy
 refine seqQ_n<|.cond rfl (λ h1 => ?_) λ h1 => ?_
 refine .sr<|.az rfl<|.ret (seqQ_r (rq1 rfl ?_))
 ·exact ⟨by rw [h1]; rfl, rfl⟩
 refine .kn<|.seq<|.sr<|.az rfl<|.block<|.loopS [(1, _)] (X := Nat) (λ i => i <= sps.length /\ (sps.take i).any mSp = false) (λ i E => (3, iN i) :: E) (λ _ G => G) (λ i => sps.length - i) 0 ⟨Nat.zero_le _, rfl⟩ kE.c.c rH ?_
 rintro i ⟨hi, hq⟩
 refine .seq<|.sr<|.mo rfl<|.fa rfl<|.lo rfl<|.q (.lenR hss)<|.q .lss<|.zn<|.cond rfl (λ h2 => ?_) λ h2 => ?_
 have hlt : i < sps.length := lt_i h2
 obtain ⟨s, hs⟩ := exg hlt
 have hsi := h.all s (mog hs)
 have hrs := hsi.rs
 have irs := hrs.oneCell
 have hler := hrs.le
 refine .kn<|.seq<|.block<|.seq<|.sr<|.fa rfl<|.lo rfl<|.mo rfl ?_
 refine .indexR i hss hs (λ p26 => ?_)
 refine .fa rfl<|.lo rfl<|.q (.lenR hrs)<|.q .gtr<|.zn<|.cond rfl (λ h3 => ?_) λ h3 => ?_
 refine .sr<|.az rfl<|.ret (seqQ_r (blkQ_r (seqQ_r (loopQ_r (blkQ_r (seqQ_r (rq1 rfl ?_)))))))
 ·refine ⟨?_, rfl⟩
  rw [any_hit hs (f := mSp) (by unfold mSp; have := odt h3; rw [decide_eq_true (by omega)]; rfl), Bool.or_true]
 refine .kn<|.sr<|.az rfl<|.block<|.loopS [(1, _), (3, _)] (X := Nat) (λ k => k <= s.rels.length /\ ((s.rels.take k).any λ r => muchR isWord r.r) = false) (λ k E => (4, iN k) :: E) (λ _ G => G) (λ k => s.rels.length - k) 0 ⟨Nat.zero_le _, rfl⟩ kE.c.c.c rH ?_
 rintro k ⟨hk, hqk⟩
 refine .seq<|.sr<|.mo rfl<|.fa rfl<|.lo rfl<|.mo rfl ?_
 refine .indexR i hss hs (λ p35 => ?_)
 refine .fa rfl<|.lo rfl<|.q (.lenR hrs)<|.q .lss<|.zn<|.cond rfl (λ h4 => ?_) λ h4 => ?_
 have hkt : k < s.rels.length := lt_i h4
 obtain ⟨⟨vt, vn, r⟩, hr⟩ := exg hkt
 have hri := hsi.all _ (mog hr)
 have hrt : RS R 2 Ty.enc vt r.types := hri.t
 have hrd : RS R 5 Nd.enc vn r.nodes := hri.d
 have irt := hrt.oneCell
 have ird := hrd.oneCell
 have hone : Ones (RlM.enc ⟨vt, vn, r⟩) := ⟨hri.ones⟩
 refine .kn<|.seq<|.block<|.sr<|.fa rfl<|.lo rfl<|.mo rfl ?_
 refine .indexR i hss hs (λ p45 => ?_)
 refine .fa rfl<|.lo rfl<|.mo rfl ?_
 refine .indexR k hrs hr (λ p49 => ?_)
 refine .q (.loadA rfl) ?_
 refine .allocA (λ b5 => ?_)
 refine .storeA rfl rfl<|.zs ?_
 refine Tri.cutS [(1, _), (3, _), (4, _)] kE.c.c.c (X := Unit) (λ _ => True) (λ _ E => (66, .bool (muchR isWord r)) :: E) (λ _ => [bl b1 [vs, vc] 25]) ?_ ?_
 refine .region<|.fa rfl<|.lo rfl<|.q (.lenR hrt)<|.q .gtr<|.mo rfl<|.split (t := 55) rfl (λ g12_4 => ?_) (λ g12_4 => ?_)
 refine .gF g12_4<|.gF g12_4<|.gF g12_4<|.gF g12_4<|.q (.pickTh g12_4)<|.mo rfl<|.gX<|.gX<|.gX<|.gX<|.q .pickT<|.nil ?_
 ·exact joinQ_n () trivial (kE.c.c.c.consB rfl (by grind [muchR])) (pkH [1])
 refine .gT g12_4<|.fa rfl<|.gT g12_4<|.lo rfl<|.gT g12_4<|.q (.lenR hrd)<|.gT g12_4<|.q .gtr<|.q (.pickFh g12_4)<|.mo rfl<|.split (t := 61) rfl (λ g12_10 => ?_) (λ g12_10 => ?_)
 refine .gF g12_10<|.gF g12_10<|.gF g12_10<|.gF g12_10<|.q (.pickTh g12_10)<|.nil ?_
 ·exact joinQ_n () trivial (kE.c.c.c.consB rfl (by grind [muchR])) (pkH [1])
 refine .gT g12_10<|.fa rfl<|.gT g12_10<|.lo rfl<|.gT g12_10<|.callR ((rdeep_spec vn r.nodes R hrd hri.fd).weaken rxl) (λ u hu => ?_)
 subst hu
 refine .gT g12_10<|.q .gtr<|.q (.pickFh g12_10)<|.nil ?_
 ·exact joinQ_n () trivial (kE.c.c.c.consB rfl (by grind [muchR])) (pkH [1])
 intro y hy
 refine seqQ_n<|.cond rfl (λ h5 => ?_) λ h5 => ?_
 refine .sr<|.az rfl<|.ret (blkQ_r (seqQ_r (loopQ_r (blkQ_r (blkQ_r (seqQ_r (loopQ_r (blkQ_r (seqQ_r (rq1 rfl ?_))))))))))
 ·refine ⟨?_, rfl⟩
  rw [any_hit hs (f := mSp) (by unfold mSp; rw [any_hit hr h5, Bool.or_true]), Bool.or_true]
 refine .skip<|blkQ_n<|seqQ_n<|.region<|.mo rfl<|.ia (k + 1) .add<|.ag rfl<|.nil ?_
 ·exact loopQ_i (k + 1) ⟨hkt, any_next hr hqk h5⟩ (by omega) kE.c.c.c rH
 have hm : mSp s = false := by
  have h5 : (s.rels.any λ r => muchR isWord r.r) = false := by rw [<- take_end (l := s.rels) (i := k) (by have := odf h4; omega)]; exact hqk
  have h3' := odf h3
  unfold mSp
  rw [h5, Bool.or_false]
  exact decide_eq_false (by omega)
 refine .exit<|seqQ_x<|loopQ_x<|blkQ_x<|blkQ_n<|seqQ_n<|.region<|.mo rfl<|.ia (i + 1) .add<|.ag rfl<|.nil ?_
 ·exact loopQ_i (i + 1) ⟨hlt, any_next hs hq hm⟩ (by omega) kE.c.c rH
 have hend : sps.any mSp = false := by rw [<- take_end (l := sps) (i := i) (by have := odf h2; omega)]; exact hq
 refine .exit<|seqQ_x<|loopQ_x<|blkQ_x<|seqQ_n<|.sr<|.az rfl<|.ret (rq1 rfl ?_)
 ·refine ⟨?_, rfl⟩
  have h1' : (decide (16 < sps.length) || decide (16 < scs.length)) = false := h1
  rw [h1', hend]
  rfl
theorem rright16_spec (c : CfM) (R : Rds) (h : c.is R) : Spec prog 82 [.agg c.enc.toArray] R [] λ u H' => u = .bool (c.plain.right isWord isRef) /\ H' = [] := by
 rw [right_eq]
 obtain ⟨vs, vc, sps, scs⟩ := c
 have hss := h.ss
 have hsc := h.sc
 have i1 := hss.oneCell
 have i2 := hsc.oneCell
 simp only at hss hsc i1 i2 ⊢
 have hle := hss.le
 have hlc := hsc.le
 refine Spec.body Tryz.func82 rfl Tryz.results82 Tryz.ntmps82 rfl<|.sr ?_
 refine .boxA rfl (λ b1 => ?_)
 refine .ag rfl<|.zs<|.sr<|.az rfl<|.block<|.loopS [(1, _)] (X := Nat) (λ i => i <= sps.length /\ (sps.take i).all rSp = true) (λ i E => (3, iN i) :: E) (λ _ G => G) (λ i => sps.length - i) 0 ⟨Nat.zero_le _, rfl⟩ kE.c.c rH ?_
 rintro i ⟨hi, hq⟩
 refine .seq<|.sr<|.mo rfl<|.fa rfl<|.lo rfl<|.q (.lenR hss)<|.q .lss<|.zn<|.cond rfl (λ h1 => ?_) λ h1 => ?_
 have hlt : i < sps.length := lt_i h1
 obtain ⟨⟨sn, sv, rls⟩, hs⟩ := exg hlt
 have hsi := h.all _ (mog hs)
 have hrs : RS R 3 RlM.enc sv rls := hsi.rs
 have irs := hrs.oneCell
 have hler := hrs.le
 have isp : Ones (SpM.enc ⟨sn, sv, rls⟩) := ⟨hsi.ones⟩
 refine .kn<|.seq<|.block<|.sr<|.fa rfl<|.lo rfl<|.mo rfl ?_
 refine .indexR i hss hs (λ p21 => ?_)
 refine .q (.loadA rfl) ?_
 refine .allocA (λ b4 => ?_)
 refine .storeA rfl rfl<|.zs<|.sr<|.fa rfl<|.lo rfl<|.callR (rword_spec sn hsi.n _) (λ u hu => ?_)
 subst hu
 refine .q .not<|.zn<|.cond rfl (λ h2 => ?_) λ h2 => ?_
 refine .sr<|.az rfl<|.ret (seqQ_r (blkQ_r (seqQ_r (loopQ_r (blkQ_r (seqQ_r (rq1 rfl ?_)))))))
 ·refine ⟨?_, rfl⟩
  rw [all_miss hs (f := rSp) (by unfold rSp; simp only; rw [show isWord sn = false by simpa using h2]; rfl)]
  rfl
 refine .kn<|.sr<|.az rfl<|.block<|.loopS [(1, _), (3, _), (4, _)] (X := Nat) (λ k => k <= rls.length /\ (rls.take k).all rRl = true) (λ k E => (5, iN k) :: E) (λ _ G => G) (λ k => rls.length - k) 0 ⟨Nat.zero_le _, rfl⟩ kE.c.c.c.c rH ?_
 rintro k ⟨hk, hqk⟩
 refine .seq<|.sr<|.mo rfl<|.fa rfl<|.lo rfl<|.q (.lenR hrs)<|.q .lss<|.zn<|.cond rfl (λ h3 => ?_) λ h3 => ?_
 have hkt : k < rls.length := lt_i h3
 obtain ⟨⟨vt, vn, r⟩, hr⟩ := exg hkt
 have hri := hsi.all _ (mog hr)
 have hrt : RS R 2 Ty.enc vt r.types := hri.t
 have hrd : RS R 5 Nd.enc vn r.nodes := hri.d
 have irt := hrt.oneCell
 have ird := hrd.oneCell
 have hlet := hrt.le
 have hone : Ones (RlM.enc ⟨vt, vn, r⟩) := ⟨hri.ones⟩
 refine .kn<|.seq<|.block<|.sr<|.fa rfl<|.lo rfl<|.mo rfl ?_
 refine .indexR k hrs hr (λ p37 => ?_)
 refine .q (.loadA rfl) ?_
 refine .allocA (λ b6 => ?_)
 refine .storeA rfl rfl<|.zs<|.seq ?_
 refine Tri.cutS [(1, _), (3, _), (4, _), (5, _), (6, _)] kE.c.c.c.c.c (X := Unit) (λ _ => True) (λ _ E => (48, .bool (!(isWord r.name && deepD isWord r.nodes != 0))) :: E) (λ _ => [bl b6 (RlM.enc ⟨vt, vn, r⟩) 207, bl b4 (SpM.enc ⟨sn, sv, rls⟩) 187, bl b1 [vs, vc] 25]) ?_ ?_
 refine .region<|.fa rfl<|.lo rfl<|.callR (rword_spec r.name hri.n _) (λ u hu => ?_)
 subst hu
 refine .q .not<|.mo rfl<|.split (t := 43) rfl (λ g11_4 => ?_) (λ g11_4 => ?_)
 refine .gF g11_4<|.gF g11_4<|.gF g11_4<|.gF g11_4<|.q (.pickTh g11_4)<|.nil ?_
 ·exact joinQ_n () trivial (kE.c.c.c.c.c.consB rfl (by grind)) rH
 refine .gT g11_4<|.fa rfl<|.gT g11_4<|.lo rfl<|.gT g11_4<|.callR ((rdeep_spec vn r.nodes R hrd hri.fd).weaken rxl) (λ u hu => ?_)
 subst hu
 refine .gT g11_4<|.q .eqI<|.q (.pickFh g11_4)<|.nil ?_
 ·exact joinQ_n () trivial (kE.c.c.c.c.c.consB rfl (by grind)) rH
 intro y hy
 refine seqQ_n<|.cond rfl (λ h4 => ?_) λ h4 => ?_
 refine .sr<|.az rfl<|.ret (seqQ_r (blkQ_r (seqQ_r (loopQ_r (blkQ_r (blkQ_r (seqQ_r (loopQ_r (blkQ_r (seqQ_r (rq1 rfl ?_)))))))))))
 ·refine ⟨?_, rfl⟩
  rw [all_miss hs (f := rSp) (by unfold rSp; simp only; rw [all_miss hr (f := rRl) (by unfold rRl; rw [show (isWord r.name && deepD isWord r.nodes != 0) = false by grind]; rfl), Bool.and_false])]
  rfl
 refine .kn<|.sr<|.az rfl<|.block<|.loopS [(1, _), (3, _), (4, _), (5, _), (6, _)] (X := Nat) (λ m => m <= r.types.length /\ (r.types.take m).all (kindOK isWord) = true) (λ m E => (7, iN m) :: E) (λ _ G => G) (λ m => r.types.length - m) 0 ⟨Nat.zero_le _, rfl⟩ kE.c.c.c.c.c.c rH ?_
 rintro m ⟨hm, hqm⟩
 refine .seq<|.sr<|.mo rfl<|.fa rfl<|.lo rfl<|.q (.lenR hrt)<|.q .lss<|.zn<|.cond rfl (λ h5 => ?_) λ h5 => ?_
 have hmt : m < r.types.length := lt_i h5
 obtain ⟨t, ht⟩ := exg hmt
 have htf := hri.ft t (mog ht)
 refine .kn<|.seq<|.block<|.sr<|.fa rfl<|.lo rfl<|.mo rfl ?_
 refine .indexR m hrt ht (λ p59 => ?_)
 refine .q (.loadA rfl) ?_
 refine .allocA (λ b8 => ?_)
 refine .storeA rfl rfl<|.zs ?_
 refine Tri.cutS [(1, _), (3, _), (4, _), (5, _), (6, _), (7, _)] kE.c.c.c.c.c.c (X := Unit) (λ _ => True) (λ _ E => (79, .bool (!kindOK isWord t)) :: E) (λ _ => [bl b6 (RlM.enc ⟨vt, vn, r⟩) 207, bl b4 (SpM.enc ⟨sn, sv, rls⟩) 187, bl b1 [vs, vc] 25]) ?_ ?_
 refine .region<|.fa rfl<|.lo rfl<|.q .eqS<|.mo rfl<|.split (t := 64) rfl (λ g17_3 => ?_) (λ g17_3 => ?_)
 refine .gT g17_3<|.fa rfl<|.gT g17_3<|.lo rfl<|.gT g17_3<|.q .eqS<|.q (.pickTh g17_3)<|.mo rfl<|.split (t := 69) rfl (λ g17_8 => ?_) (λ g17_8 => ?_)
 refine .gF g17_8<|.gF g17_8<|.gF g17_8<|.gF g17_8<|.gfU rfl<|.gfU rfl<|.gfU rfl<|.gF g17_8<|.q (.pickTh g17_8)<|.q .not<|.nil ?_
 ·exact joinQ_n () trivial (kE.c.c.c.c.c.c.consB rfl (by grind [kindOK])) (pkH [1, 1, 1])
 refine .gT g17_8<|.fa rfl<|.gT g17_8<|.lo rfl<|.gT g17_8<|.callR (rword_spec t.space htf.1 _) (λ u hu => ?_)
 subst hu
 refine .gT g17_8<|.mo rfl<|.split (t := 73) rfl (λ g17_12 => ?_) (λ g17_12 => ?_)
 refine .gT g17_12<|.fa rfl<|.gT g17_12<|.lo rfl<|.gT g17_12<|.callR (rword_spec t.rel htf.2 _) (λ u hu => ?_)
 subst hu
 refine .gT g17_8<|.q (.pickTh g17_12)<|.q (.pickFh g17_8)<|.q .not<|.nil ?_
 ·exact joinQ_n () trivial (kE.c.c.c.c.c.c.consB rfl (by grind [kindOK])) (pkH [1, 1, 1])
 refine .gF g17_12<|.gF g17_12<|.gF g17_12<|.gT g17_8<|.q (.pickFh g17_12)<|.q (.pickFh g17_8)<|.q .not<|.nil ?_
 ·exact joinQ_n () trivial (kE.c.c.c.c.c.c.consB rfl (by grind [kindOK])) (pkH [1, 1, 1])
 refine .gF g17_3<|.gF g17_3<|.gF g17_3<|.q (.pickFh g17_3)<|.mo rfl<|.gt rfl<|.fa rfl<|.gt rfl<|.lo rfl<|.gt rfl<|.callR (rword_spec t.space htf.1 _) (λ u hu => ?_)
 subst hu
 refine .gt rfl<|.mo rfl<|.split (t := 73) rfl (λ g17_12 => ?_) (λ g17_12 => ?_)
 refine .gT g17_12<|.fa rfl<|.gT g17_12<|.lo rfl<|.gT g17_12<|.callR (rword_spec t.rel htf.2 _) (λ u hu => ?_)
 subst hu
 refine .gt rfl<|.q (.pickTh g17_12)<|.q .pickF<|.q .not<|.nil ?_
 ·exact joinQ_n () trivial (kE.c.c.c.c.c.c.consB rfl (by grind [kindOK])) (pkH [1, 1, 1])
 refine .gF g17_12<|.gF g17_12<|.gF g17_12<|.gt rfl<|.q (.pickFh g17_12)<|.q .pickF<|.q .not<|.nil ?_
 ·exact joinQ_n () trivial (kE.c.c.c.c.c.c.consB rfl (by grind [kindOK])) (pkH [1, 1, 1])
 intro y hy
 refine seqQ_n<|.cond rfl (λ h6 => ?_) λ h6 => ?_
 refine .sr<|.az rfl<|.ret (blkQ_r (seqQ_r (loopQ_r (blkQ_r (blkQ_r (seqQ_r (loopQ_r (blkQ_r (blkQ_r (seqQ_r (loopQ_r (blkQ_r (seqQ_r (rq1 rfl ?_))))))))))))))
 ·refine ⟨?_, rfl⟩
  rw [all_miss hs (f := rSp) (by unfold rSp; simp only; rw [all_miss hr (f := rRl) (by unfold rRl rTy; rw [all_miss ht (by simpa using h6), Bool.and_false]), Bool.and_false])]
  rfl
 refine .skip<|blkQ_n<|seqQ_n<|.region<|.mo rfl<|.ia (m + 1) .add<|.ag rfl<|.nil ?_
 ·exact loopQ_i (m + 1) ⟨hmt, all_next ht hqm (by simpa using h6)⟩ (by omega) kE.c.c.c.c.c.c rH
 have hmr : rRl ⟨vt, vn, r⟩ = true := by
  have h6 : r.types.all (kindOK isWord) = true := by rw [<- take_end (l := r.types) (i := m) (by have := odf h5; omega)]; exact hqm
  have h4' : (!(isWord r.name && deepD isWord r.nodes != 0)) = false := h4
  unfold rRl rTy
  simp only [h6, Bool.and_true]
  simpa using h4'
 refine .exit<|seqQ_x<|loopQ_x<|blkQ_x<|blkQ_n<|seqQ_n<|.region<|.mo rfl<|.ia (k + 1) .add<|.ag rfl<|.nil ?_
 ·exact loopQ_i (k + 1) ⟨hkt, all_next hr hqk hmr⟩ (by omega) kE.c.c.c.c (pkH [1, 1])
 have hm : rSp ⟨sn, sv, rls⟩ = true := by
  have h5 : rls.all rRl = true := by rw [<- take_end (l := rls) (i := k) (by have := odf h3; omega)]; exact hqk
  unfold rSp
  simp only [h5, Bool.and_true]
  simpa using h2
 refine .exit<|seqQ_x<|loopQ_x<|blkQ_x<|blkQ_n<|seqQ_n<|.region<|.mo rfl<|.ia (i + 1) .add<|.ag rfl<|.nil ?_
 ·exact loopQ_i (i + 1) ⟨hlt, all_next hs hq hm⟩ (by omega) kE.c.c (pkH [1])
 have hend : sps.all rSp = true := by rw [<- take_end (l := sps) (i := i) (by have := odf h1; omega)]; exact hq
 refine .exit<|seqQ_x<|loopQ_x<|blkQ_x<|seqQ_n<|.seq<|.sr<|.az rfl<|.block<|.loopS [(1, _)] (X := Nat) (λ j => j <= scs.length /\ (scs.take j).all (scOK isWord isRef) = true) (λ j E => (9, iN j) :: E) (λ _ G => G) (λ j => scs.length - j) 0 ⟨Nat.zero_le _, rfl⟩ kE.c.c rH ?_
 rintro j ⟨hj, hqj⟩
 refine .seq<|.sr<|.mo rfl<|.fa rfl<|.lo rfl<|.q (.lenR hsc)<|.q .lss<|.zn<|.cond rfl (λ h7 => ?_) λ h7 => ?_
 have hjt : j < scs.length := lt_i h7
 obtain ⟨s, hs⟩ := exg hjt
 have hsf := h.fc s (mog hs)
 obtain ⟨f1, f2, f3, f4⟩ := hsf
 refine .kn<|.seq<|.block<|.sr<|.fa rfl<|.lo rfl<|.mo rfl ?_
 refine .indexR j hsc hs (λ p90 => ?_)
 refine .q (.loadA rfl) ?_
 refine .allocA (λ b10 => ?_)
 refine .storeA rfl rfl<|.zs ?_
 refine Tri.cutS [(1, _), (9, _)] kE.c.c (X := Unit) (λ _ => True) (λ _ E => (107, .bool (!scOK isWord isRef s)) :: E) (λ _ => [bl b1 [vs, vc] 25]) ?_ ?_
 refine .region<|.fa rfl<|.lo rfl<|.callR (rword_spec s.name f1 _) (λ u hu => ?_)
 subst hu
 refine .q .not<|.mo rfl<|.split (t := 96) rfl (λ g23_4 => ?_) (λ g23_4 => ?_)
 refine .gF g23_4<|.gF g23_4<|.gF g23_4<|.gF g23_4<|.q (.pickTh g23_4)<|.mo rfl<|.gX<|.gX<|.gX<|.gX<|.q .pickT<|.nil ?_
 ·exact joinQ_n () trivial (kE.c.c.consB rfl (by grind [scOK])) (pkH [1])
 refine .gT g23_4<|.fa rfl<|.gT g23_4<|.q (.loadT rfl)<|.gT g23_4<|.callR (risRef_spec s.ospace s.oid f2 f3 _) (λ u hu => ?_)
 subst hu
 refine .gT g23_4<|.q .not<|.q (.pickFh g23_4)<|.mo rfl<|.split (t := 102) rfl (λ g23_10 => ?_) (λ g23_10 => ?_)
 refine .gF g23_10<|.gF g23_10<|.gF g23_10<|.gF g23_10<|.q (.pickTh g23_10)<|.nil ?_
 ·exact joinQ_n () trivial (kE.c.c.consB rfl (by grind [scOK])) (pkH [1])
 refine .gT g23_10<|.fa rfl<|.gT g23_10<|.lo rfl<|.gT g23_10<|.callR (rword_spec s.rel f4 _) (λ u hu => ?_)
 subst hu
 refine .gT g23_10<|.q .not<|.q (.pickFh g23_10)<|.nil ?_
 ·exact joinQ_n () trivial (kE.c.c.consB rfl (by grind [scOK])) (pkH [1])
 intro y hy
 refine seqQ_n<|.cond rfl (λ h8 => ?_) λ h8 => ?_
 refine .sr<|.az rfl<|.ret (blkQ_r (seqQ_r (loopQ_r (blkQ_r (seqQ_r (rq1 rfl ?_))))))
 ·refine ⟨?_, rfl⟩
  rw [all_miss hs (by simpa using h8), Bool.and_false]
  rfl
 refine .skip<|blkQ_n<|seqQ_n<|.region<|.mo rfl<|.ia (j + 1) .add<|.ag rfl<|.nil ?_
 ·exact loopQ_i (j + 1) ⟨hjt, all_next hs hqj (by simpa using h8)⟩ (by omega) kE.c.c rH
 refine .exit<|seqQ_x<|loopQ_x<|blkQ_x<|seqQ_n<|.sr<|.q (.loadA rfl)<|.callR ((rmuch_spec ⟨vs, vc, sps, scs⟩ R h).weaken rxl) (λ u hu => ?_)
 subst hu
 refine .q .not<|.az rfl<|.ret (rq1 rfl ?_)
 ·refine ⟨?_, rfl⟩
  have h9 : scs.all (scOK isWord isRef) = true := by rw [<- take_end (l := scs) (i := j) (by have := odf h7; omega)]; exact hqj
  rw [hend, h9]
  rfl
abbrev Nm := ByteArray × RlM
def encN (x : Nm) : List Value := .string x.1 :: x.2.enc
def Nm.p (x : Nm) : ByteArray × Rl := (x.1, x.2.r)
def CfM.nms (c : CfM) : List Nm := c.spaces.flatMap λ s => s.rels.map λ r => (s.name, r)
theorem nms_all (c : CfM) : c.nms.map Nm.p = c.plain.all := by
 unfold CfM.nms Cf.all CfM.plain
 simp [List.map_flatMap, List.flatMap_map, SpM.plain, Nm.p, Function.comp_def]
def CfM.few (c : CfM) : Prop := c.spaces.length <= 16 /\ ∀ s ∈ c.spaces, s.rels.length <= 16
theorem flat_len {α β : Type} {f : α -> List β} {n : Nat} : ∀ {l : List α}, (∀ x ∈ l, (f x).length <= n) -> (l.flatMap f).length <= l.length * n
 | [], _ => by simp
 | x :: l, h => by
  have h1 := h x List.mem_cons_self
  have h2 := flat_len λ y hy => h y (List.mem_cons_of_mem _ hy)
  rw [List.flatMap_cons, List.length_append, List.length_cons, Nat.succ_mul]
  omega
theorem CfM.few.nms {c : CfM} (h : c.few) : c.nms.length <= 256 := by
 have := flat_len (f := λ s : SpM => s.rels.map λ r => (s.name, r)) (n := 16) (l := c.spaces) λ s hs => by rw [List.length_map]; exact h.2 s hs
 have h1 := h.1
 unfold CfM.nms
 omega
structure NmsOK (R : Rds) (v : Value) (L : List Nm) : Prop where
 rs : RS R 4 encN v L
 all : ∀ x ∈ L, x.2.is R
theorem nm_ones {R : Rds} {x : Nm} (h : x.2.is R) : ∀ u ∈ encN x, oneCell u = true := by
 intro u hu
 rcases List.mem_cons.1 hu with rfl | hu
 ·rfl
 ·exact h.ones u hu
theorem nms_is {c : CfM} {R : Rds} (h : c.is R) : ∀ x ∈ c.nms, x.2.is R := by
 intro x hx
 obtain ⟨s, hs, hx⟩ := List.mem_flatMap.1 hx
 obtain ⟨r, hr, rfl⟩ := List.mem_map.1 hx
 exact (h.all s hs).all r hr
theorem rall_spec (c : CfM) (R : Rds) (h : c.is R) (hf : c.few) : Spec prog 85 [.agg c.enc.toArray] R [] λ u H' => ∃ T, H' = [T] /\ OS 256 4 encN u c.nms T := by
 have hN := hf.nms
 obtain ⟨vs, vc, sps, scs⟩ := c
 have hss := h.ss
 have i1 := hss.oneCell
 have i2 := h.sc.oneCell
 simp only at hss i1 i2 ⊢
 have hle := hss.le
 have hpre : ∀ i s k, sps[i]? = some s -> ((sps.take i).flatMap (λ s => s.rels.map λ r => ((s.name, r) : Nm)) ++ (s.rels.take k).map λ r => ((s.name, r) : Nm)).length <= 512 := λ i s k hs => by
  rw [List.length_append, List.length_map]
  have h1 := flat_len (f := λ s : SpM => s.rels.map λ r => ((s.name, r) : Nm)) (n := 16) (l := sps.take i) λ s hs => by rw [List.length_map]; exact hf.2 s (List.mem_of_mem_take hs)
  have h2 : (sps.take i).length <= 16 := by rw [List.length_take]; have := hf.1; simp only at this; omega
  have h3 := hf.2 s (mog hs)
  have h4 : (s.rels.take k).length <= 16 := by rw [List.length_take]; omega
  omega
 refine Spec.body Tryz.func85 rfl Tryz.results85 Tryz.ntmps85 rfl<|.sr ?_
 refine .boxA rfl (λ b1 => ?_)
 refine .ag rfl<|.z<|.ag rfl<|.zs<|.sr<|.az rfl<|.block<|.loopS [(1, _)] (X := Nat × Value × Seg) (λ y => y.1 <= sps.length /\ OS 256 4 encN y.2.1 ((sps.take y.1).flatMap λ s => s.rels.map λ r => ((s.name, r) : Nm)) y.2.2) (λ y E => (4, iN y.1) :: (3, y.2.1) :: E) (λ y G => y.2.2 :: G) (λ y => sps.length - y.1) (0, sZ, []) ⟨Nat.zero_le _, OS.nil⟩ kE.c.c.c HLe.new0 ?_
 rintro ⟨i, vo, To⟩ ⟨hi, hO⟩
 simp only at hi hO ⊢
 have io := hO.oneCell
 refine .seq<|.sr<|.mo rfl<|.fa rfl<|.lo rfl<|.q (.lenR hss)<|.q .lss<|.zn<|.cond rfl (λ h1 => ?_) λ h1 => ?_
 have hlt : i < sps.length := lt_i h1
 obtain ⟨s, hs⟩ := exg hlt
 have hsi := h.all _ (mog hs)
 have hrs := hsi.rs
 have irs := hrs.oneCell
 have hler := hrs.le
 refine .kn<|.seq<|.block<|.sr<|.az rfl<|.block<|.loopS [(1, _), (4, _)] (X := Nat × Value × Seg) (λ y => y.1 <= s.rels.length /\ OS 256 4 encN y.2.1 (((sps.take i).flatMap λ s => s.rels.map λ r => ((s.name, r) : Nm)) ++ (s.rels.take y.1).map λ r => ((s.name, r) : Nm)) y.2.2) (λ y E => (5, iN y.1) :: (3, y.2.1) :: E) (λ y G => y.2.2 :: G) (λ y => s.rels.length - y.1) (0, vo, To) ⟨Nat.zero_le _, by simpa using hO⟩ kE.c.c.c.c rH ?_
 rintro ⟨k, v2, T2⟩ ⟨hk, hO2⟩
 simp only at hk hO2 ⊢
 have i3 := hO2.oneCell
 refine .seq<|.sr<|.mo rfl<|.fa rfl<|.lo rfl<|.mo rfl ?_
 refine .indexR i hss hs (λ p17 => ?_)
 refine .fa rfl<|.lo rfl<|.q (.lenR hrs)<|.q .lss<|.zn<|.cond rfl (λ h2 => ?_) λ h2 => ?_
 have hkt : k < s.rels.length := lt_i h2
 obtain ⟨⟨vt, vn, r⟩, hr⟩ := exg hkt
 have hri := hsi.all _ (mog hr)
 have irt : One vt := RS.oneCell hri.t
 have ird : One vn := RS.oneCell hri.d
 have p1 := hss.pc hs
 have p2 := hrs.pc hr
 refine .kn<|.seq<|.block<|.region_all [18] mixed<|.tO 0 rfl .move<|.tO 1 rfl (.fieldAddr rfl)<|.tO 2 rfl (.load1 rfl)<|.tO 3 rfl .move<|.tO 4 rfl (.indexR i hss hs rfl rfl rfl)<|.tO 5 rfl (.fieldAddr rfl)<|.tO 6 rfl (.load1 rfl)<|.tO 7 rfl (.fieldAddr rfl)<|.tO 8 rfl (.load1 rfl)<|.tO 9 rfl .move<|.tO 10 rfl (.indexR i hss hs rfl rfl rfl)<|.tO 11 rfl (.fieldAddr rfl)<|.tO 12 rfl (.load1 rfl)<|.tO 13 rfl .move<|.tO 14 rfl (.indexR k hrs hr rfl rfl rfl)<|.tO 15 rfl (.loadA rfl)<|.tO 16 rfl .bld<|.sT 17 rfl ?_
 refine .buildSlice1A (λ b41 => ?_)
 refine .nil<|Next.sub<|.sT 18 rfl<|.append hO2 (RS.lits (xs := [((s.name, ⟨vt, vn, r⟩) : Nm)]) rfl (by simp [encN, RlM.enc]) (by intro x hx; rw [List.mem_singleton] at hx; subst hx; exact nm_ones hri)) (by have := hpre i s k hs; simp only [List.length_singleton]; omega) (λ v5 T5 hO5 => ?_)
 have i5 := hO5.oneCell
 refine .nil<|Next.mod rfl<|.tK 19 rfl .assign<|RA.nil (by kernel_rfl)<|blkQ_n<|seqQ_n<|.region<|.mo rfl<|.ia (k + 1) .add<|.ag rfl<|.nil ?_
 ·exact loopQ_i (k + 1, v5, T5) ⟨hkt, by simp only; rw [take_next hr, List.map_append, <- List.append_assoc]; exact hO5⟩ (by simp only; omega) kE.c.c.c.c (pkH [1, 1])
 have hkl : s.rels.length <= k := by have := odf h2; omega
 rw [take_end hkl] at hO2
 refine .exit<|seqQ_x<|loopQ_x<|blkQ_x<|blkQ_n<|seqQ_n<|.region<|.mo rfl<|.ia (i + 1) .add<|.ag rfl<|.nil ?_
 ·exact loopQ_i (i + 1, v2, T2) ⟨hlt, by simp only; rw [take_next hs, List.flatMap_append]; simpa using hO2⟩ (by simp only; omega) kE.c.c.c rH
 refine .exit<|seqQ_x<|loopQ_x<|blkQ_x<|seqQ_n<|.sr<|.mo rfl<|.az rfl<|.ret (retQ_r _ (.one (.tmp rfl)) (.one [0] _) ?_)
 ·refine ⟨To, by simp [take], ?_⟩
  rw [take_end (ge_i h1)] at hO
  exact hO
def fI (o : Option Nat) : Int := match o with | none => -1 | some i => i
theorem rfind18_spec (v : Value) (L : List Nm) (R : Rds) (h : NmsOK R v L) (sp rel : ByteArray) :
  Spec prog 136 [v, .string sp, .string rel] R [] λ u H' => u = .int .i64 (fI (rfind (L.map Nm.p) ⟨sp, rel⟩)) /\ H' = [] := by
 have hrs := h.rs
 have hle := hrs.le
 have iv := hrs.oneCell
 refine Spec.body Tryz.func136 rfl Tryz.results136 Tryz.ntmps136 rfl<|.sr<|.ag rfl<|.zs<|.sr<|.az rfl<|.block<|.loopS [(0, _), (1, _), (2, _)] (X := Nat) (λ i => i <= L.length /\ ∀ j x, j < i -> L[j]? = some x -> rkey x.p ≠ ⟨sp, rel⟩) (λ i E => (7, iN i) :: E) (λ _ G => G) (λ i => L.length - i) 0 ⟨Nat.zero_le _, λ j x hj => absurd hj (by omega)⟩ kE.c.c.c.c rH ?_
 rintro i ⟨hi, hq⟩
 refine .seq<|.sr<|.mo rfl<|.mo rfl<|.q (.lenR hrs)<|.q .lss<|.zn<|.cond rfl (λ h1 => ?_) λ h1 => ?_
 have hlt : i < L.length := lt_i h1
 obtain ⟨⟨sn, vt, vn, r⟩, hs⟩ := exg hlt
 have hxi := h.all _ (mog hs)
 have irt : One vt := RS.oneCell hxi.t
 have ird : One vn := RS.oneCell hxi.d
 refine .kn<|.seq<|.block<|.seq ?_
 refine Tri.cutS [(0, _), (1, _), (2, _), (7, _)] kE.c.c.c.c (X := Unit) (λ _ => True) (λ _ E => (30, .bool (decide (sn = sp) && decide (r.name = rel))) :: E) (λ _ => []) ?_ ?_
 refine .region<|.mo rfl<|.mo rfl ?_
 refine .indexR i hrs hs (λ p16 => ?_)
 refine .fa rfl<|.lo rfl<|.mo rfl<|.q .eqS<|.mo rfl<|.split (t := 21) rfl (λ g4_7 => ?_) (λ g4_7 => ?_)
 refine .gT g4_7<|.mo rfl<|.gT g4_7<|.mo rfl<|.gT g4_7 ?_
 refine .indexR i hrs hs (λ p24 => ?_)
 refine .gT g4_7<|.fa rfl<|.gT g4_7<|.fa rfl<|.gT g4_7<|.lo rfl<|.gT g4_7<|.mo rfl<|.gT g4_7<|.q .eqS<|.q (.pickTh g4_7)<|.nil ?_
 ·exact joinQ_n () trivial (kE.c.c.c.c.consB rfl (by grind)) rH
 refine .gF g4_7<|.gF g4_7<|.gF g4_7<|.gF g4_7<|.gF g4_7<|.gF g4_7<|.gF g4_7<|.gF g4_7<|.q (.pickFh g4_7)<|.nil ?_
 ·exact joinQ_n () trivial (kE.c.c.c.c.consB rfl (by grind)) rH
 intro y hy
 refine seqQ_n<|.cond rfl (λ h2 => ?_) λ h2 => ?_
 refine .sr<|.mo rfl<|.az rfl<|.ret (blkQ_r (seqQ_r (loopQ_r (blkQ_r (seqQ_r (rq1 rfl ?_))))))
 ·refine ⟨?_, rfl⟩
  have h2' : sn = sp /\ r.name = rel := by simpa using h2
  have : rfind (L.map Nm.p) ⟨sp, rel⟩ = some i := by
   unfold rfind
   rw [List.findIdx?_eq_some_iff_getElem]
   refine ⟨by rw [List.length_map]; exact hlt, ?_, λ j hj => ?_⟩
   ·have e := (List.getElem?_eq_some_iff.1 hs).2
    rw [List.getElem_map, e]
    exact decide_eq_true (by show (⟨sn, r.name⟩ : Ty) = _; rw [h2'.1, h2'.2])
   ·rw [List.getElem_map]
    have := hq j _ hj (gge (by omega))
    simpa using this
  rw [this]
  rfl
 refine .skip<|blkQ_n<|seqQ_n<|.region<|.mo rfl<|.ia (i + 1) .add<|.ag rfl<|.nil ?_
 ·exact loopQ_i (i + 1) ⟨hlt, λ j x hj hx => by
   rcases Nat.lt_or_ge j i with hh | hh
   ·exact hq j x hh hx
   ·obtain rfl : j = i := by omega
    rw [hs] at hx
    cases hx
    intro hk
    injection hk with k1 k2
    have k1' : sn = sp := k1
    have k2' : r.name = rel := k2
    subst k1'; subst k2'
    simp at h2⟩ (by omega) kE.c.c.c.c rH
 refine .exit<|seqQ_x<|loopQ_x<|blkQ_x<|seqQ_n<|.sr<|.az rfl<|.ret (rq1 rfl ?_)
 ·refine ⟨?_, rfl⟩
  have : rfind (L.map Nm.p) ⟨sp, rel⟩ = none := by
   unfold rfind
   rw [List.findIdx?_eq_none_iff]
   intro x hx
   obtain ⟨y, hy, rfl⟩ := List.mem_map.1 hx
   obtain ⟨j, hj, e⟩ := List.mem_iff_getElem.1 hy
   have := hq j y (by have := odf h1; omega) (by rw [gge hj, e])
   simpa using this
  rw [this]
  rfl
theorem nodup_next {α : Type} {l : List α} {i : Nat} {x : α} (hx : l[i]? = some x) (h : (l.take i).Nodup) (hn : ∀ k y, k < i -> l[k]? = some y -> y ≠ x) : (l.take (i + 1)).Nodup := by
 rw [take_next hx, List.nodup_append]
 refine ⟨h, by simp, λ a ha b hb => ?_⟩
 rw [List.mem_singleton] at hb
 subst hb
 obtain ⟨k, hk, e⟩ := List.mem_iff_getElem.1 ha
 rw [List.length_take] at hk
 exact hn k a (by omega) (by rw [List.getElem_take] at e; rw [gge (by omega), e])
theorem not_nodup {α : Type} {l : List α} {i k : Nat} {x y : α} (hk : k < i) (hx : l[i]? = some x) (hy : l[k]? = some y) (e : x = y) : ¬ l.Nodup := by
 intro h
 obtain ⟨h1, h2⟩ := List.getElem?_eq_some_iff.1 hx
 obtain ⟨h3, h4⟩ := List.getElem?_eq_some_iff.1 hy
 have := (List.nodup_iff_pairwise_ne.1 h)
 rw [List.pairwise_iff_getElem] at this
 exact this k i h3 h1 hk (by rw [h4, h2, e])
theorem rfind_first {L : List (ByteArray × Rl)} {i : Nat} {x : ByteArray × Rl} (hx : L[i]? = some x) : ∃ j, rfind L (rkey x) = some j /\ j <= i /\ ∃ y, L[j]? = some y /\ rkey y = rkey x := by
 cases h : rfind L (rkey x) with
 | none =>
  unfold rfind at h
  rw [List.findIdx?_eq_none_iff] at h
  have := h x (mog hx)
  simp at this
 | some j =>
  unfold rfind at h
  rw [List.findIdx?_eq_some_iff_getElem] at h
  obtain ⟨h1, h2, h3⟩ := h
  refine ⟨j, rfl, ?_, _, gge h1, odt h2⟩
  rcases Nat.lt_or_ge i j with h4 | h4
  ·have := h3 i h4
   rw [(List.getElem?_eq_some_iff.1 hx).2] at this
   simp at this
  ·exact h4
theorem rtwice_spec (c : CfM) (R : Rds) (h : c.is R) (hf : c.few) : Spec prog 83 [.agg c.enc.toArray] R [] λ u H' => u = .bool (!decide c.plain.uniq) /\ H' = [] := by
 have hal := nms_all c
 have hni := nms_is h
 have hall := rall_spec c R h hf
 have hu : c.plain.uniq ↔ (c.spaces.map (·.name)).Nodup /\ ((c.nms.map Nm.p).map rkey).Nodup /\ (c.scopes.map (·.name)).Nodup := by
  unfold Cf.uniq
  rw [<- hal]
  simp only [CfM.plain, List.map_map]
  exact Iff.rfl
 generalize hL : c.nms = L at *
 obtain ⟨vs, vc, sps, scs⟩ := c
 have hss := h.ss
 have hsc := h.sc
 have i1 := hss.oneCell
 have i2 := hsc.oneCell
 simp only at hss hsc i1 i2 hu ⊢
 have hle := hss.le
 have hlc := hsc.le
 refine Spec.body Tryz.func83 rfl Tryz.results83 Tryz.ntmps83 rfl<|.sr ?_
 refine .boxA rfl (λ b1 => ?_)
 refine .ag rfl<|.zs<|.sr<|.az rfl<|.block<|.loopS [(1, _)] (X := Nat) (λ i => i <= sps.length /\ ((sps.map (·.name)).take i).Nodup) (λ i E => (3, iN i) :: E) (λ _ G => G) (λ i => sps.length - i) 0 ⟨Nat.zero_le _, by simp⟩ kE.c.c rH ?_
 rintro i ⟨hi, hq⟩
 refine .seq<|.sr<|.mo rfl<|.fa rfl<|.lo rfl<|.q (.lenR hss)<|.q .lss<|.zn<|.cond rfl (λ h1 => ?_) λ h1 => ?_
 have hlt : i < sps.length := lt_i h1
 obtain ⟨s, hs⟩ := exg hlt
 have hs' : (sps.map (·.name))[i]? = some s.name := by rw [List.getElem?_map, hs]; rfl
 refine .kn<|.seq<|.block<|.sr<|.az rfl<|.block<|.loopS [(1, _), (3, _)] (X := Nat) (λ k => k <= i /\ ∀ j y, j < k -> (sps.map (·.name))[j]? = some y -> y ≠ s.name) (λ k E => (4, iN k) :: E) (λ _ G => G) (λ k => i - k) 0 ⟨Nat.zero_le _, λ j y hj => absurd hj (by omega)⟩ kE.c.c.c rH ?_
 rintro k ⟨hk, hqk⟩
 refine .seq<|.sr<|.mo rfl<|.mo rfl<|.q .lss<|.zn<|.cond rfl (λ h2 => ?_) λ h2 => ?_
 have hkt : k < i := lt_i h2
 obtain ⟨t, ht⟩ : ∃ t, sps[k]? = some t := ⟨_, gge (by omega)⟩
 have ht' : (sps.map (·.name))[k]? = some t.name := by rw [List.getElem?_map, ht]; rfl
 refine .kn<|.seq<|.block<|.seq<|.region_still mixed (by kernel_rfl)<|.fa rfl<|.lo rfl<|.mo rfl ?_
 refine .indexR i hss hs (λ p24 => ?_)
 refine .fa rfl<|.lo rfl<|.fa rfl<|.lo rfl<|.mo rfl ?_
 refine .indexR k hss ht (λ p30 => ?_)
 refine .fa rfl<|.lo rfl<|.q .eqS<|.zn<|.cond rfl (λ h3 => ?_) λ h3 => ?_
 refine .sr<|.az rfl<|.ret (blkQ_r (seqQ_r (loopQ_r (blkQ_r (blkQ_r (seqQ_r (loopQ_r (blkQ_r (seqQ_r (rq1 rfl ?_))))))))))
 ·refine ⟨?_, rfl⟩
  rw [decide_eq_false λ hh => not_nodup hkt hs' ht' (by simpa using h3) (hu.1 hh).1]
  rfl
 refine .skip<|blkQ_n<|seqQ_n<|.region<|.mo rfl<|.ia (k + 1) .add<|.ag rfl<|.nil ?_
 ·exact loopQ_i (k + 1) ⟨hkt, λ j y hj hy => by
   rcases Nat.lt_or_ge j k with hh | hh
   ·exact hqk j y hh hy
   ·obtain rfl : j = k := by omega
    rw [ht'] at hy
    cases hy
    intro e
    rw [e] at h3
    simp at h3⟩ (by omega) kE.c.c.c rH
 have hki : k = i := by have := odf h2; omega
 rw [hki] at hqk
 refine .exit<|seqQ_x<|loopQ_x<|blkQ_x<|blkQ_n<|seqQ_n<|.region<|.mo rfl<|.ia (i + 1) .add<|.ag rfl<|.nil ?_
 ·exact loopQ_i (i + 1) ⟨hlt, nodup_next hs' hq hqk⟩ (by omega) kE.c.c rH
 have hend : (sps.map (·.name)).Nodup := by rw [take_end (by rw [List.length_map]; have := odf h1; omega)] at hq; exact hq
 refine .exit<|seqQ_x<|loopQ_x<|blkQ_x<|seqQ_n<|.sr<|.q (.loadA rfl)<|.callN (hall.weaken rxl) (λ u T5 hu5 => ?_)
 have i5 := hu5.oneCell
 have hlu := hu5.le
 refine .ag rfl<|.zs<|.sr<|.az rfl<|.block<|.loopS [(1, _), (5, _)] (X := Nat) (λ i => i <= L.length /\ (((L.map Nm.p).map rkey).take i).Nodup) (λ i E => (6, iN i) :: E) (λ _ G => G) (λ i => L.length - i) 0 ⟨Nat.zero_le _, by simp⟩ kE.c.c.c rH ?_
 rintro i2 ⟨hi2, hq2⟩
 refine .seq<|.sr<|.mo rfl<|.mo rfl<|.q (.lenO hu5)<|.q .lss<|.zn<|.cond rfl (λ h4 => ?_) λ h4 => ?_
 have hlt2 : i2 < L.length := lt_i h4
 obtain ⟨⟨sn, vt, vn, r⟩, hs2⟩ := exg hlt2
 have hx2 := hni _ (mog hs2)
 have irt : One vt := RS.oneCell hx2.t
 have ird : One vn := RS.oneCell hx2.d
 have hs2' : (L.map Nm.p)[i2]? = some (sn, r) := by rw [List.getElem?_map, hs2]; rfl
 have hs2k : ((L.map Nm.p).map rkey)[i2]? = some ⟨sn, r.name⟩ := by rw [List.getElem?_map, hs2']; rfl
 obtain ⟨jf, hjf, hjle, yf, hyf, hyk⟩ := rfind_first hs2'
 have hjf' : rfind (L.map Nm.p) ⟨sn, r.name⟩ = some jf := hjf
 have pq : PS T5 (baseP u (i2 * 4)) (encN (sn, ⟨vt, vn, r⟩)) := ⟨hu5.pc hs2⟩
 refine .kn<|.seq<|.block<|.seq<|.region_all [12] mixed<|.tO 0 rfl .move<|.tO 1 rfl .move<|.tO 2 rfl .move ?_
 refine RA.indexO 3 rfl i2 hu5 hs2 rfl rfl rfl (by kernel_rfl) (λ p45 => ?_)
 refine .tO 4 rfl (.fieldAddr rfl)<|.tO 5 rfl (.load1 rfl)<|.tO 6 rfl .move<|.tO 7 rfl .move ?_
 refine RA.indexO 8 rfl i2 hu5 hs2 rfl rfl rfl (by kernel_rfl) (λ p50 => ?_)
 refine .tO 9 rfl (.fieldAddr rfl)<|.tO 10 rfl (.fieldAddr rfl)<|.tO 11 rfl (.load1 rfl)<|.tK 13 rfl .move<|.sT 12 rfl<|.callR (rfind18_spec u L _ ⟨hu5.rx, λ x hx => (hni x hx).mono λ b o hb => .inl hb⟩ sn r.name) (λ v hv => ?_)
 subst hv
 rw [hjf']
 refine .nil<|Next.mod rfl<|.tK 14 rfl .neI<|RA.nil (by kernel_rfl)<|seqQ_n<|.cond rfl (λ h5 => ?_) λ h5 => ?_
 refine .sr<|.az rfl<|.ret (blkQ_r (seqQ_r (loopQ_r (blkQ_r (seqQ_r (rq1 rfl ?_))))))
 ·refine ⟨?_, rfl⟩
  have hne : jf ≠ i2 := by
   intro e
   subst e
   simp [fI] at h5
  have hyf' : ((L.map Nm.p).map rkey)[jf]? = some ⟨sn, r.name⟩ := by rw [List.getElem?_map, hyf]; exact congrArg some hyk
  rw [decide_eq_false λ hh => not_nodup (show jf < i2 by omega) hs2k hyf' rfl (hu.1 hh).2.1]
  rfl
 have hjeq : jf = i2 := by
  have h6 : (fI (some jf) == (i2 : Int)) = true := by simpa using h5
  have h7 : fI (some jf) = (i2 : Int) := by simpa using h6
  have h8 : (jf : Int) = (i2 : Int) := h7
  omega
 refine .skip<|blkQ_n<|seqQ_n<|.region<|.mo rfl<|.ia (i2 + 1) .add<|.ag rfl<|.nil ?_
 ·exact loopQ_i (i2 + 1) ⟨hlt2, nodup_next hs2k hq2 λ k y hk hy => by
   intro e
   subst e
   rw [List.getElem?_map] at hy
   cases hz : (L.map Nm.p)[k]? with
   | none => rw [hz] at hy; cases hy
   | some z =>
    rw [hz] at hy
    have hkz : rkey z = ⟨sn, r.name⟩ := by simpa using hy
    obtain ⟨j2, h6, h7, _⟩ := rfind_first hz
    rw [hkz, hjf', hjeq] at h6
    cases h6
    omega⟩ (by omega) kE.c.c.c rH
 have hend2 : ((L.map Nm.p).map rkey).Nodup := by rw [take_end (by simp only [List.length_map]; have := odf h4; omega)] at hq2; exact hq2
 refine .exit<|seqQ_x<|loopQ_x<|blkQ_x<|seqQ_n<|.seq<|.sr<|.az rfl<|.block<|.loopS [(1, _)] (X := Nat) (λ i => i <= scs.length /\ ((scs.map (·.name)).take i).Nodup) (λ i E => (7, iN i) :: E) (λ _ G => G) (λ i => scs.length - i) 0 ⟨Nat.zero_le _, by simp⟩ kE.c.c rH ?_
 rintro i ⟨hi, hq⟩
 refine .seq<|.sr<|.mo rfl<|.fa rfl<|.lo rfl<|.q (.lenR hsc)<|.q .lss<|.zn<|.cond rfl (λ h6 => ?_) λ h6 => ?_
 have hlt : i < scs.length := lt_i h6
 obtain ⟨s, hs⟩ := exg hlt
 have hs' : (scs.map (·.name))[i]? = some s.name := by rw [List.getElem?_map, hs]; rfl
 refine .kn<|.seq<|.block<|.sr<|.az rfl<|.block<|.loopS [(1, _), (7, _)] (X := Nat) (λ k => k <= i /\ ∀ j y, j < k -> (scs.map (·.name))[j]? = some y -> y ≠ s.name) (λ k E => (8, iN k) :: E) (λ _ G => G) (λ k => i - k) 0 ⟨Nat.zero_le _, λ j y hj => absurd hj (by omega)⟩ kE.c.c.c rH ?_
 rintro k ⟨hk, hqk⟩
 refine .seq<|.sr<|.mo rfl<|.mo rfl<|.q .lss<|.zn<|.cond rfl (λ h7 => ?_) λ h7 => ?_
 have hkt : k < i := lt_i h7
 obtain ⟨t, ht⟩ : ∃ t, scs[k]? = some t := ⟨_, gge (by omega)⟩
 have ht' : (scs.map (·.name))[k]? = some t.name := by rw [List.getElem?_map, ht]; rfl
 refine .kn<|.seq<|.block<|.seq<|.region_still mixed (by kernel_rfl)<|.fa rfl<|.lo rfl<|.mo rfl ?_
 refine .indexR i hsc hs (λ p72 => ?_)
 refine .fa rfl<|.lo rfl<|.fa rfl<|.lo rfl<|.mo rfl ?_
 refine .indexR k hsc ht (λ p78 => ?_)
 refine .fa rfl<|.lo rfl<|.q .eqS<|.zn<|.cond rfl (λ h8 => ?_) λ h8 => ?_
 refine .sr<|.az rfl<|.ret (blkQ_r (seqQ_r (loopQ_r (blkQ_r (blkQ_r (seqQ_r (loopQ_r (blkQ_r (seqQ_r (rq1 rfl ?_))))))))))
 ·refine ⟨?_, rfl⟩
  rw [decide_eq_false λ hh => not_nodup hkt hs' ht' (by simpa using h8) (hu.1 hh).2.2]
  rfl
 refine .skip<|blkQ_n<|seqQ_n<|.region<|.mo rfl<|.ia (k + 1) .add<|.ag rfl<|.nil ?_
 ·exact loopQ_i (k + 1) ⟨hkt, λ j y hj hy => by
   rcases Nat.lt_or_ge j k with hh | hh
   ·exact hqk j y hh hy
   ·obtain rfl : j = k := by omega
    rw [ht'] at hy
    cases hy
    intro e
    rw [e] at h8
    simp at h8⟩ (by omega) kE.c.c.c rH
 have hki : k = i := by have := odf h7; omega
 rw [hki] at hqk
 refine .exit<|seqQ_x<|loopQ_x<|blkQ_x<|blkQ_n<|seqQ_n<|.region<|.mo rfl<|.ia (i + 1) .add<|.ag rfl<|.nil ?_
 ·exact loopQ_i (i + 1) ⟨hlt, nodup_next hs' hq hqk⟩ (by omega) kE.c.c rH
 have hend3 : (scs.map (·.name)).Nodup := by rw [take_end (by rw [List.length_map]; have := odf h6; omega)] at hq; exact hq
 refine .exit<|seqQ_x<|loopQ_x<|blkQ_x<|seqQ_n<|.sr<|.az rfl<|.ret (rq1 rfl ?_)
 ·refine ⟨?_, rfl⟩
  rw [decide_eq_true (hu.2 ⟨hend, hend2, hend3⟩)]
  rfl
def encNt (n : Nat) : List Value := [iN n]
abbrev EdM := Int × Int × Bool
def encE (e : EdM) : List Value := [.int .i64 e.1, .int .i64 e.2.1, .bool e.2.2]
instance (e : EdM) : Ones (encE e) := ⟨by simp [encE, oneCell]⟩
def Ed.m (e : Ed) : EdM := (e.f, e.t, e.a)
theorem level_foldl {E : List Ed} {now : List Nat} {n j : Nat} {e : Ed} (he : E[j]? = some e) : (E.take (j + 1)).foldl (jstep now) (List.replicate n 0) = jstep now ((E.take j).foldl (jstep now) (List.replicate n 0)) e := by rw [take_next he, List.foldl_append]; rfl
theorem rlevel_spec (v : Value) (E : List Ed) (n steps : Nat) (R : Rds) (h : RS R 3 encE v (E.map Ed.m)) (hE : ∀ e ∈ E, e.f < n /\ e.t < n) (hn : n <= 1000000) (hs : steps <= 1000000) :
  Spec prog 86 [v, iN n, iN steps] R [] λ u H' => ∃ T, H' = [T] /\ OS 3 1 encNt u (level E n steps) T := by
 have hle := h.le
 have iv := h.oneCell
 have hEf : ∀ e ∈ E, e.f < n := λ e he => (hE e he).1
 rw [List.length_map] at hle
 refine Spec.body Tryz.func86 rfl Tryz.results86 Tryz.ntmps86 rfl<|.sr<|.ag rfl<|.z<|.mo rfl ?_
 refine .makeSlice (enc := encNt) n 0 rfl rfl (by decide) (by simp [encNt, oneCell]) rfl rfl (by omega) (by omega) (λ b7 T7 hO7 => ?_)
 refine .ag rfl<|.zs<|.sr<|.az rfl<|.block<|.loopS [(0, _), (1, _), (2, _)] (X := Nat × Value × Seg) (λ y => y.1 <= steps /\ OS 3 1 encNt y.2.1 (level E n y.1) y.2.2) (λ y E => (8, iN y.1) :: (7, y.2.1) :: E) (λ y G => y.2.2 :: G) (λ y => steps - y.1) (0, _, T7) ⟨Nat.zero_le _, hO7⟩ kE.c.c.c.c.c rH ?_
 rintro ⟨s, v7, T7⟩ ⟨hsl, hO⟩
 simp only at hsl hO ⊢
 have i7 := hO.oneCell
 have hlv : ∀ i, (level E n s).getD i 0 <= s := level_le hEf s
 have hll : (level E n s).length = n := level_len s
 generalize hnow : level E n s = now at *
 refine .seq<|.sr<|.mo rfl<|.mo rfl<|.q .lss<|.zn<|.cond rfl (λ h1 => ?_) λ h1 => ?_
 have hst : s < steps := lt_i h1
 refine .kn<|.seq<|.block<|.sr<|.mo rfl ?_
 refine .makeSlice (enc := encNt) n 0 rfl rfl (by decide) (by simp [encNt, oneCell]) rfl rfl (by omega) (by omega) (λ b9 T9 hO9 => ?_)
 refine .ag rfl<|.zs<|.sr<|.az rfl<|.block<|.loopS [(0, _), (1, _), (2, _), (7, _), (8, _), (9, _)] (X := Nat × Seg) (λ y => y.1 <= E.length /\ OS 3 1 encNt (.slice (some ⟨b9, 0, none⟩) n n) ((E.take y.1).foldl (jstep now) (List.replicate n 0)) y.2) (λ y E => (10, iN y.1) :: E) (λ y G => y.2 :: G) (λ y => E.length - y.1) (0, T9) ⟨Nat.zero_le _, hO9⟩ kE.c.c.c.c.c.c.c rH ?_
 rintro ⟨j, T9⟩ ⟨hj, hO9⟩
 simp only at hj hO9 ⊢
 refine .seq<|.sr<|.mo rfl<|.mo rfl<|.q (.lenR h) ?_
 rw [List.length_map]
 refine .q .lss<|.zn<|.cond rfl (λ h2 => ?_) λ h2 => ?_
 have hjt : j < E.length := lt_i h2
 obtain ⟨e, he⟩ := exg hjt
 have he' : (E.map Ed.m)[j]? = some e.m := by rw [List.getElem?_map, he]; rfl
 obtain ⟨hef, het⟩ := hE e (mog he)
 obtain ⟨ef, et, ea⟩ := e
 simp only at hef het
 have hlx : ((E.take j).foldl (jstep now) (List.replicate n 0)).length = n := by rw [jfold_len, List.length_replicate]
 generalize hnx : (E.take j).foldl (jstep now) (List.replicate n 0) = nx at *
 have hnext : (E.take (j + 1)).foldl (jstep now) (List.replicate n 0) = jstep now nx ⟨ef, et, ea⟩ := by rw [level_foldl he, hnx]
 obtain ⟨a, ha⟩ : ∃ a, now[et]? = some a := ⟨_, gge (by omega)⟩
 obtain ⟨z, hz⟩ : ∃ z, nx[ef]? = some z := ⟨_, gge (by omega)⟩
 have had : now.getD et 0 = a := by rw [List.getD_eq_getElem?_getD, ha]; rfl
 have hzd : nx.getD ef 0 = z := by rw [List.getD_eq_getElem?_getD, hz]; rfl
 have hal := hlv et
 rw [had] at hal
 refine .kn<|.seq<|.block<|.sr<|.mo rfl<|.mo rfl ?_
 refine .indexR j h he' (λ p30 => ?_)
 refine .q (.loadA rfl) ?_
 refine .allocA (λ b11 => ?_)
 refine .storeA rfl rfl<|.z<|.mo rfl<|.fa rfl<|.lo rfl ?_
 refine .indexO et hO ha (λ p35 => ?_)
 refine .lo rfl<|.ag rfl<|.zs<|.sr<|.fa rfl<|.lo rfl<|.zn ?_
 refine Tri.cutS [(0, _), (1, _), (2, _), (7, _), (8, _), (9, _), (10, _), (11, _)] kE.c.c.c.c.c.c.c.c (X := Unit) (λ _ => True) (λ _ E => (12, .int .i64 ((a + (if ea then 1 else 0) : Nat) : Int)) :: E) (λ _ => [bl b11 (encE (Ed.m ⟨ef, et, ea⟩)) 259, T9, T7]) ?_ ?_
 refine .cond rfl (λ h3 => ?_) λ h3 => ?_
 refine .region<|.mo rfl<|.ia (a + 1) .add<|.ag rfl<|.nil ?_
 ·exact joinQ_n () trivial (kE.c.c.c.c.c.c.c.c.consI rfl (by have h : ea = _ := h3; simp [h])) rH
 refine .skip ?_
 ·exact joinQ_n () trivial (kE.c.c.c.c.c.c.c.c.consI rfl (by have h : ea = _ := h3; simp [h])) rH
 intro x hx
 refine seqQ_n<|.sr<|.mo rfl<|.mo rfl<|.fa rfl<|.lo rfl ?_
 refine .indexO ef hO9 hz (λ p45 => ?_)
 refine .lo rfl<|.q .gtr<|.zn ?_
 refine Tri.cutS [(0, _), (1, _), (2, _), (7, _), (8, _), (9, _), (10, _)] kE.c.c.c.c.c.c.c (X := Seg) (λ T => OS 3 1 encNt (.slice (some ⟨b9, 0, none⟩) n n) (jstep now nx ⟨ef, et, ea⟩) T) (λ _ E => E) (λ T => [T, T7]) ?_ ?_
 refine .cond rfl (λ h4 => ?_) λ h4 => ?_
 refine .region<|.mo rfl<|.fa rfl<|.lo rfl<|.mo rfl ?_
 refine .indexO ef hO9 hz (λ p52 => ?_)
 refine .storeO1 ef hO9 hz (a + (if ea then 1 else 0)) (λ T5 h5 => ?_)
 refine .nil ?_
 ·exact joinQ_n T5 (by unfold jstep Ed.w; simp only; rw [had, hzd, if_pos (by have := odt h4; omega)]; exact h5) kE.c.c.c.c.c.c.c (pkH [1, 1])
 refine .skip ?_
 ·exact joinQ_n T9 (by unfold jstep Ed.w; simp only; rw [had, hzd, if_neg (by have := odf h4; omega)]; exact hO9) kE.c.c.c.c.c.c.c (pkH [1, 1])
 intro x hx
 have hx' : OS 3 1 encNt (.slice (some ⟨b9, 0, none⟩) n n) (jstep now nx ⟨ef, et, ea⟩) x := hx
 refine blkQ_n<|seqQ_n<|.region<|.mo rfl<|.ia (j + 1) .add<|.ag rfl<|.nil ?_
 ·exact loopQ_i (j + 1, x) ⟨hjt, by simp only; rw [hnext]; exact hx'⟩ (by simp only; omega) kE.c.c.c.c.c.c.c rH
 have hje : E.length <= j := by have := odf h2; omega
 rw [take_end hje] at hO9
 refine .exit<|seqQ_x<|loopQ_x<|blkQ_x<|seqQ_n<|.region<|.mo rfl<|.ag rfl<|.nil<|blkQ_n<|seqQ_n<|.region<|.mo rfl<|.ia (s + 1) .add<|.ag rfl<|.nil ?_
 ·exact loopQ_i (s + 1, _, T9) ⟨hst, by simp only; unfold level; rw [hnow]; exact hO9⟩ (by simp only; omega) (((((kE.d rfl).d rfl).d rfl).d rfl).d rfl) (pkH [0])
 have hse : s = steps := by have := odf h1; omega
 refine .exit<|seqQ_x<|loopQ_x<|blkQ_x<|seqQ_n<|.sr<|.mo rfl<|.az rfl<|.ret (retQ_r _ (.one (.tmp rfl)) (.one [0] _) ?_)
 ·refine ⟨T7, by simp [take], ?_⟩
  rw [<- hse, hnow]
  exact hO
def WE (ok : Bool) (E : List EdM) (o : Option (List Ed)) : Prop := match o with
 | some E' => ok = true /\ E = E'.map Ed.m
 | none => ok = false
def keyT (thn : ByteArray) (t : Ty) : Ty := ⟨t.space, if thn = ⟨#[]⟩ then t.rel else thn⟩
theorem findAll_all (l : List (ByteArray × Rl)) : ∀ ks : List Ty, match findAll l ks with
  | some o => (ks.all λ t => (rfind l t).isSome) = true /\ (o.map λ k : Nat => (k : Int)) = ks.map λ t => fI (rfind l t)
  | none => (ks.all λ t => (rfind l t).isSome) = false
 | [] => ⟨rfl, rfl⟩
 | t :: ks => by
  have ih := findAll_all l ks
  unfold findAll
  cases h : rfind l t with
  | none => simp [h]
  | some i =>
   simp only [Option.bind_some, List.all_cons, h, Option.isSome_some, Bool.true_and, List.map_cons]
   cases h2 : findAll l ks with
   | none => rw [h2] at ih; exact ih
   | some o => rw [h2] at ih; exact ⟨ih.1, by rw [<- ih.2]; rfl⟩
def TG (l : List (ByteArray × Rl)) (sp : ByteArray) (r : Rl) (n : Nd) (tys : List Ty) (thn : ByteArray) : Prop :=
 (n.kind = 1 /\ tys = r.types /\ thn = ⟨#[]⟩) \/ (n.kind = 3 /\ thn = n.thn /\ ∃ k, rfind l ⟨sp, n.rel⟩ = some k /\ tys = (l.map (·.2.types)).getD k [])
def outs (l : List (ByteArray × Rl)) (i : Nat) (ab : Bool) (thn : ByteArray) (ts : List Ty) : List EdM := (setsT ts).map λ t => ((i : Int), fI (rfind l (keyT thn t)), ab)
def oks (l : List (ByteArray × Rl)) (thn : ByteArray) (ts : List Ty) : Bool := (setsT ts).all λ t => (rfind l (keyT thn t)).isSome
theorem setsT_next {ts : List Ty} {j : Nat} {t : Ty} (h : ts[j]? = some t) : setsT (ts.take (j + 1)) = setsT (ts.take j) ++ if t.space = ⟨#[]⟩ then [] else [t] := by
 unfold setsT
 rw [take_next h, List.filter_append]
 congr 1
 by_cases e : t.space = ⟨#[]⟩
 ·simp [e]
 ·simp [e]
theorem WE.all {l : List (ByteArray × Rl)} {i : Nat} {ab : Bool} (ks : List Ty) : WE (ks.all λ t => (rfind l t).isSome) (ks.map λ t => ((i : Int), fI (rfind l t), ab)) ((findAll l ks).map λ ts => ts.map λ t => (⟨i, t, ab⟩ : Ed)) := by
 have h := findAll_all l ks
 cases h2 : findAll l ks with
 | none => rw [h2] at h; exact h
 | some o =>
  rw [h2] at h
  refine ⟨h.1, ?_⟩
  have : (ks.map λ t => ((i : Int), fI (rfind l t), ab)) = (ks.map λ t => fI (rfind l t)).map λ z => ((i : Int), z, ab) := by rw [List.map_map]; rfl
  rw [this, <- h.2]
  simp [Ed.m, Function.comp_def]
theorem node_out {l : List (ByteArray × Rl)} {i : Nat} {sp : ByteArray} {r : Rl} {ab : Bool} {n : Nd} {tys : List Ty} {thn : ByteArray} (h : TG l sp r n tys thn) (ht : n.kind = 3 -> n.thn ≠ ⟨#[]⟩) :
  WE (oks l thn tys && (decide (thn = ⟨#[]⟩) || decide (0 < (outs l i ab thn tys).length))) (outs l i ab thn tys) (nodeE l i sp r ab n) := by
 rcases h with ⟨hk, rfl, rfl⟩ | ⟨hk, rfl, k, hr, rfl⟩
 ·have e : ∀ t : Ty, keyT ⟨#[]⟩ t = t := λ t => by unfold keyT; rw [if_pos rfl]
  have := WE.all (l := l) (i := i) (ab := ab) (setsT r.types)
  unfold nodeE targets oks outs
  simp only [e, hk, if_true, decide_true, Bool.true_or, Bool.and_true]
  exact this
 ·have hne := ht hk
  have e : ∀ t : Ty, keyT n.thn t = ⟨t.space, n.thn⟩ := λ t => by unfold keyT; rw [if_neg hne]
  unfold nodeE targets oks outs
  simp only [e, hk, hr, decide_eq_false hne, Bool.false_or, if_neg (show ¬ (3 : Int) = 1 by decide), if_neg (show ¬ (3 : Int) = 2 by decide), if_true, List.length_map]
  generalize hz : setsT ((l.map (·.2.types)).getD k []) = zs
  have hw := WE.all (l := l) (i := i) (ab := ab) (zs.map λ t => (⟨t.space, n.thn⟩ : Ty))
  rw [List.all_map, List.map_map] at hw
  cases zs with
  | nil => rfl
  | cons z zs =>
   simp only [List.length_cons, Nat.zero_lt_succ, decide_true, Bool.and_true]
   exact hw
theorem wcat_app {l : List (ByteArray × Rl)} {i : Nat} {sp : ByteArray} {r : Rl} {A B : List (Nat × Bool)} {oa ob : Bool} {Ea Eb : List EdM}
  (ha : WE oa Ea (cat (λ p : Nat × Bool => (r.nodes[p.1]?).bind λ n => nodeE l i sp r p.2 n) A)) (hb : WE ob Eb (cat (λ p : Nat × Bool => (r.nodes[p.1]?).bind λ n => nodeE l i sp r p.2 n) B)) :
  WE (oa && ob) (Ea ++ Eb) (cat (λ p : Nat × Bool => (r.nodes[p.1]?).bind λ n => nodeE l i sp r p.2 n) (A ++ B)) := by
 rw [cat_append]
 revert ha hb
 generalize cat (λ p : Nat × Bool => (r.nodes[p.1]?).bind λ n => nodeE l i sp r p.2 n) A = a
 generalize cat (λ p : Nat × Bool => (r.nodes[p.1]?).bind λ n => nodeE l i sp r p.2 n) B = b
 intro ha hb
 cases a with
 | none => have ha' : oa = false := ha; subst ha'; exact Bool.false_and _
 | some a =>
  cases b with
  | none => have hb' : ob = false := hb; subst hb'; exact Bool.and_false _
  | some b => obtain ⟨rfl, rfl⟩ := ha; obtain ⟨rfl, rfl⟩ := hb; exact ⟨rfl, by simp⟩
theorem node_rel {l : List (ByteArray × Rl)} {i : Nat} {sp : ByteArray} {r : Rl} {ab : Bool} {n : Nd} (hk : n.kind = 2) :
  WE (decide (0 <= fI (rfind l ⟨sp, n.rel⟩))) [((i : Int), fI (rfind l ⟨sp, n.rel⟩), ab)] (nodeE l i sp r ab n) := by
 have h := WE.all (l := l) (i := i) (ab := ab) [(⟨sp, n.rel⟩ : Ty)]
 unfold nodeE targets
 rw [if_neg (by omega), if_pos hk]
 have e : decide (0 <= fI (rfind l ⟨sp, n.rel⟩)) = ([(⟨sp, n.rel⟩ : Ty)].all λ t => (rfind l t).isSome) := by
  simp only [List.all_cons, List.all_nil, Bool.and_true]
  cases rfind l ⟨sp, n.rel⟩ with
  | none => rfl
  | some k => simp [fI]
 rw [e]
 exact h
theorem node_none {l : List (ByteArray × Rl)} {i : Nat} {sp : ByteArray} {r : Rl} {ab : Bool} {n : Nd} (hk : n.kind = 3) (h : fI (rfind l ⟨sp, n.rel⟩) < 0) : WE false [] (nodeE l i sp r ab n) := by
 cases hr : rfind l ⟨sp, n.rel⟩ with
 | none =>
  unfold nodeE targets
  rw [if_neg (by omega), if_neg (by omega), if_pos hk, hr]
  rfl
 | some k => rw [hr] at h; simp only [fI] at h; omega
def NmsR (L : List Nm) : Prop := ∀ x ∈ L, x.2.r.types.length <= 8 /\ x.2.r.nodes.length <= 64 /\ deepD isWord x.2.r.nodes ≠ 0
theorem word_ne {s : ByteArray} (h : isWord s = true) : s ≠ ⟨#[]⟩ := by
 intro e
 subst e
 revert h
 decide +kernel
theorem nms_types {L : List Nm} {k : Nat} {y : Nm} (h : L[k]? = some y) : ((L.map Nm.p).map (·.2.types)).getD k [] = y.2.r.types := by
 rw [List.getD_eq_getElem?_getD, List.getElem?_map, List.getElem?_map, h]
 rfl
theorem rwalk_spec (v : Value) (L : List Nm) (R : Rds) (h : NmsOK R v L) (hL : NmsR L) (i : Nat) (sp : ByteArray) (vt vn : Value) (r : Rl) (hxi : L[i]? = some (sp, ⟨vt, vn, r⟩)) :
  ∀ (m b d : Nat), tree isWord r.nodes m = some (b, d) -> ∀ (ab : Bool) (j : Int), j = (m : Int) - 1 ->
  Spec prog 137 [v, iN i, .int .i64 j, .bool ab] R [] λ u H' => ∃ T, H' = [T] /\ ∃ w E ok, u = .tuple [w, .bool ok].toArray /\ OS 259 3 encE w E T /\ E.length <= 8 * (m - b) /\
   WE ok E (cat (λ p : Nat × Bool => (r.nodes[p.1]?).bind λ n => nodeE (L.map Nm.p) i sp r p.2 n) (walkL r.nodes m ab)) := by
 intro m
 induction m using Nat.strongRecOn with
 | _ m ih =>
 intro b d ht ab j hj
 have hrs := h.rs
 have iv := hrs.oneCell
 have hxr := h.all _ (mog hxi)
 have hrt : RS R 2 Ty.enc vt r.types := hxr.t
 have hrd : RS R 5 Nd.enc vn r.nodes := hxr.d
 have irt := hrt.oneCell
 have ird := hrd.oneCell
 obtain ⟨hT8, hN64, hdp⟩ := hL _ (mog hxi)
 simp only at hT8 hN64 hdp
 have hbm := tree_some_le ht
 obtain ⟨e, rfl⟩ : ∃ e, m = e + 1 := ⟨m - 1, by omega⟩
 have hj' : j = (e : Int) := by omega
 subst hj'
 obtain ⟨n, hnx⟩ : ∃ n, r.nodes[e]? = some n := ⟨_, gge (by omega)⟩
 have hlleaf : ∀ ab, n.op = false -> cat (λ p : Nat × Bool => (r.nodes[p.1]?).bind λ n => nodeE (L.map Nm.p) i sp r p.2 n) (walkL r.nodes (e + 1) ab) = nodeE (L.map Nm.p) i sp r ab n := λ ab ho => by
  rw [walkL_leaf hnx ho]
  unfold cat
  simp only [hnx, Option.bind_some, cat]
  cases nodeE (L.map Nm.p) i sp r ab n <;> simp
 have hleaf : n.op = false -> n.leaf isWord = true /\ b = e := λ ho => by
  rw [tree_leaf hnx ho] at ht
  split at ht
  ·rename_i hl; cases ht; exact ⟨hl, rfl⟩
  ·cases ht
 refine Spec.segs (H' := [[]]) (by simp)<|Spec.body Tryz.func137 rfl Tryz.results137 Tryz.ntmps137 rfl<|.sr<|.ag rfl<|.ag rfl<|.z<|.ag rfl<|.z<|.mo rfl<|.mo rfl ?_
 refine .indexR i hrs hxi (λ p26 => ?_)
 refine .fa rfl<|.fa rfl<|.lo rfl<|.mo rfl ?_
 refine .indexR e hrd hnx (λ p31 => ?_)
 refine .q (.loadA rfl) ?_
 refine .allocA (λ b11 => ?_)
 refine .storeA rfl rfl<|.zs<|.seq ?_
 refine Tri.cutS [(0, _), (1, _), (3, _), (10, _), (11, _)] kE.c.c.c.c.c (X := Unit) (λ _ => True) (λ _ E => (45, .bool n.op) :: E) (λ _ => [bl b11 n.enc 168, []]) ?_ ?_
 refine .region<|.fa rfl<|.lo rfl<|.q .eqI<|.mo rfl<|.split (t := 36) rfl (λ g3_3 => ?_) (λ g3_3 => ?_)
 refine .gF g3_3<|.gF g3_3<|.gF g3_3<|.q (.pickTh g3_3)<|.mo rfl<|.gX<|.gX<|.gX<|.q .pickT<|.nil ?_
 ·exact joinQ_n () trivial (kE.c.c.c.c.c.consB rfl (by clear ih; grind [Nd.op])) rH
 refine .gT g3_3<|.fa rfl<|.gT g3_3<|.lo rfl<|.gT g3_3<|.q .eqI<|.q (.pickFh g3_3)<|.mo rfl<|.split (t := 41) rfl (λ g3_8 => ?_) (λ g3_8 => ?_)
 refine .gF g3_8<|.gF g3_8<|.gF g3_8<|.q (.pickTh g3_8)<|.nil ?_
 ·exact joinQ_n () trivial (kE.c.c.c.c.c.consB rfl (by clear ih; grind [Nd.op])) rH
 refine .gT g3_8<|.fa rfl<|.gT g3_8<|.lo rfl<|.gT g3_8<|.q .eqI<|.q (.pickFh g3_8)<|.nil ?_
 ·exact joinQ_n () trivial (kE.c.c.c.c.c.consB rfl (by clear ih; grind [Nd.op])) rH
 intro y hy
 refine seqQ_n<|.cond rfl (λ h1 => ?_) λ h1 => ?_
 have hop : n.op = true := h1
 obtain ⟨b', x, y, h2, h3, h4, h5, h6, h7, h8, h9⟩ := tree_op hnx hop ht
 have hb'e := tree_some_le h2
 have hbb' := tree_some_le h4
 simp only at h4 hbb' h9
 have hwl := walkL_op hnx hop ⟨by omega, by omega⟩ ab
 rw [show n.a.toNat + 1 = b' by omega, show n.b.toNat + 1 = e by omega] at hwl
 refine .sr<|.mo rfl<|.mo rfl<|.fa rfl<|.lo rfl<|.mo rfl<|.callN ((ih b' (by omega) b y h4 ab _ h5).weaken rxl) (λ u Ta hu => ?_)
 obtain ⟨wa, Ea, oka, rfl, hOa, hla, hWa⟩ := hu
 have iwa := hOa.oneCell
 refine .mo rfl<|.q .extract<|.q .extract<|.ag rfl<|.ag rfl<|.zs ?_
 refine Tri.cutS [(10, _), (12, _), (13, _)] kE.c.c.c (X := Value × List EdM × Bool × Seg) (λ y => OS 259 3 encE y.1 y.2.1 y.2.2.2 /\ y.2.1.length <= 8 * (e - b') /\ WE y.2.2.1 y.2.1 (cat (λ p : Nat × Bool => (r.nodes[p.1]?).bind λ n => nodeE (L.map Nm.p) i sp r p.2 n) (walkL r.nodes e (ab || n.kind == 6)))) (λ y E => (14, y.1) :: (15, .bool y.2.2.1) :: E) (λ y => [bl b11 n.enc 168, [], Ta, y.2.2.2]) ?_ ?_
 refine .region<|.mo rfl<|.mo rfl<|.fa rfl<|.lo rfl<|.mo rfl<|.mo rfl<|.split (t := 61) rfl (λ g5_5 => ?_) (λ g5_5 => ?_)
 refine .gF g5_5<|.gF g5_5<|.gF g5_5<|.q (.pickTh g5_5)<|.callN ((ih e (by omega) b' x h2 _ _ h6).weaken rxl) (λ u Tb hu => ?_)
 obtain ⟨wb, Eb, okb, rfl, hOb, hlb, hWb⟩ := hu
 have iwb := hOb.oneCell
 refine .mo rfl<|.q .extract<|.q .extract<|.ag rfl<|.ag rfl<|.nil ?_
 ·exact joinQ_n (wb, Eb, okb, Tb) ⟨hOb, hlb, by simpa only [h1, g5_5, Bool.true_or, Bool.false_or] using hWb⟩ kE.c.c.c.c.c (pkH [2, 2, 1, 0])
 refine .gT g5_5<|.fa rfl<|.gT g5_5<|.lo rfl<|.gT g5_5<|.q .eqI<|.q (.pickFh g5_5)<|.callN ((ih e (by omega) b' x h2 _ _ h6).weaken rxl) (λ u Tb hu => ?_)
 obtain ⟨wb, Eb, okb, rfl, hOb, hlb, hWb⟩ := hu
 have iwb := hOb.oneCell
 refine .mo rfl<|.q .extract<|.q .extract<|.ag rfl<|.ag rfl<|.nil ?_
 ·exact joinQ_n (wb, Eb, okb, Tb) ⟨hOb, hlb, by simpa only [h1, g5_5, Bool.true_or, Bool.false_or] using hWb⟩ kE.c.c.c.c.c (pkH [2, 2, 1, 0])
 intro y hy
 obtain ⟨wb, Eb, okb, Tb⟩ := y
 obtain ⟨hOb, hlb, hWb⟩ := hy
 simp only at hOb hlb hWb ⊢
 have iwb := hOb.oneCell
 refine seqQ_n<|.sr<|.mo rfl<|.mo rfl<|.append (OS.nil (enc := encE) (sz := 3)) hOa.rx (by simp only [List.length_nil]; omega) (λ v1 T1 hv1 => ?_)
 rw [List.nil_append] at hv1
 have iv1 := hv1.oneCell
 refine .ag rfl<|.z<|.mo rfl<|.mo rfl<|.append hv1 hOb.rx (by omega) (λ v2 T2 hv2 => ?_)
 have iv2 := hv2.oneCell
 refine .mo rfl<|.mo rfl<|.split (t := 76) rfl (λ g7_4 => ?_) (λ g7_4 => ?_)
 refine .gT g7_4<|.mo rfl<|.q (.pickTh g7_4)<|.ag rfl<|.az rfl<|.ret (seqQ_r (retQ_r _ (.two (.tmp rfl) (.tmp rfl)) (.one [1] _) ?_))
 ·refine ⟨T2, by simp [take, dropAt], v2, _, _, rfl, hv2, ?_, ?_⟩
  ·rw [List.length_append]; omega
  ·rw [hwl]; have hh := wcat_app hWa hWb; simpa only [g7_4, Bool.true_and, Bool.false_and] using hh
 refine .gF g7_4<|.q (.pickFh g7_4)<|.ag rfl<|.az rfl<|.ret (seqQ_r (retQ_r _ (.two (.tmp rfl) (.tmp rfl)) (.one [1] _) ?_))
 ·refine ⟨T2, by simp [take, dropAt], v2, _, _, rfl, hv2, ?_, ?_⟩
  ·rw [List.length_append]; omega
  ·rw [hwl]; have hh := wcat_app hWa hWb; simpa only [g7_4, Bool.true_and, Bool.false_and] using hh
 refine .kn<|.seq<|.sr<|.fa rfl<|.lo rfl<|.q .eqI<|.zn<|.cond rfl (λ h2 => ?_) λ h2 => ?_
 refine .seq<|.region_tail 8 mixed (by kernel_rfl) ?_
 conv => arg 6; dsimp only [List.take]
 refine .mo rfl<|.mo rfl<|.mo rfl ?_
 refine .indexR i hrs hxi (λ p85 => ?_)
 refine .fa rfl<|.lo rfl<|.fa rfl<|.lo rfl<|.nil<|.callR ((rfind18_spec v L R h sp n.rel).weaken rxl) (λ u hu => ?_)
 subst hu
 refine .ag rfl<|.z<|.mo rfl<|.mo rfl<|.mo rfl<|.mo rfl<|.q .bld ?_
 refine .buildSlice1A (λ b96 => ?_)
 refine .append (OS.nil (enc := encE) (sz := 3)) (RS.lits (xs := [((i : Int), fI (rfind (L.map Nm.p) ⟨sp, n.rel⟩), ab)]) rfl (by simp [encE]) (by simp [encE, oneCell])) (by simp) (λ v1 T1 hv1 => ?_)
 rw [List.nil_append] at hv1
 have iv1 := hv1.oneCell
 refine .mo rfl<|.q .geq<|.ag rfl<|.az rfl<|.ret (seqQ_r (retQ_r _ (.two (.tmp rfl) (.tmp rfl)) (.one [2] _) ?_))
 ·refine ⟨T1, by simp [take, dropAt], v1, _, _, rfl, hv1, ?_, ?_⟩
  ·have := (hleaf h1).2; simp only [List.length_singleton]; omega
  ·rw [hlleaf ab h1]; exact node_rel (by simpa using h2)
 have hk13 : n.kind = 1 \/ n.kind = 3 := by have hl := (hleaf h1).1; grind [Nd.leaf]
 refine .kn<|.sr<|.mo rfl<|.mo rfl ?_
 refine .indexR i hrs hxi (λ p102 => ?_)
 refine .fa rfl<|.fa rfl<|.lo rfl<|.ag rfl<|.ag rfl<|.zs<|.sr<|.fa rfl<|.lo rfl<|.q .eqI<|.zn ?_
 refine Tri.cutS [(0, _), (1, _), (3, _), (10, _)] kE.c.c.c.c (X := Value × List Ty × ByteArray) (λ y => RS R 2 Ty.enc y.1 y.2.1 /\ y.2.1.length <= 8 /\ TG (L.map Nm.p) sp r n y.2.1 y.2.2) (λ y E => (17, y.1) :: (18, .string y.2.2) :: E) (λ y => [bl b11 n.enc 168, []]) ?_ ?_
 refine .cond rfl (λ h3 => ?_) λ h3 => ?_
 refine .seq<|.region_tail 8 mixed (by kernel_rfl) ?_
 conv => arg 6; dsimp only [List.take]
 refine .mo rfl<|.mo rfl<|.mo rfl ?_
 refine .indexR i hrs hxi (λ p112 => ?_)
 refine .fa rfl<|.lo rfl<|.fa rfl<|.lo rfl<|.nil<|.callR ((rfind18_spec v L R h sp n.rel).weaken rxl) (λ u hu => ?_)
 subst hu
 refine .ag rfl<|.zs<|.sr<|.mo rfl<|.q .lss<|.zn<|.cond rfl (λ h4 => ?_) λ h4 => ?_
 refine .sr<|.ag rfl<|.az rfl<|.ret (seqQ_r (joinQ_r (seqQ_r (retQ_r _ (.two (.tmp rfl) (.tmp rfl)) (.one [1] _) ?_))))
 ·refine ⟨[], by simp [take, dropAt], _, [], _, rfl, OS.nil, by simp, ?_⟩
  rw [hlleaf ab h1]
  exact node_none (by simpa using h3) (by simpa using h4)
 obtain ⟨k, hk⟩ : ∃ k, rfind (L.map Nm.p) ⟨sp, n.rel⟩ = some k := by
  cases hr : rfind (L.map Nm.p) ⟨sp, n.rel⟩ with
  | none => rw [hr] at h4; simp [fI] at h4
  | some k => exact ⟨k, rfl⟩
 have hkl : k < L.length := by have := rfind_lt hk; rwa [List.length_map] at this
 obtain ⟨⟨sk, vtk, vnk, rk⟩, hyk⟩ := exg hkl
 have hkr := h.all _ (mog hyk)
 have hkt : RS R 2 Ty.enc vtk rk.types := hkr.t
 have ikt := hkt.oneCell
 have ikd : One vnk := RS.oneCell hkr.d
 have hk8 := (hL _ (mog hyk)).1
 have pk := hrs.pc hyk
 have hkI : fI (rfind (L.map Nm.p) ⟨sp, n.rel⟩) = (k : Int) := by rw [hk]; rfl
 refine .kn<|.region_still mixed (by kernel_rfl)<|.mo rfl<|.mo rfl<|.q (.indexR k hrs hyk rfl rfl hkI)<|.fa rfl<|.fa rfl<|.lo rfl<|.fa rfl<|.lo rfl<|.ag rfl<|.ag rfl<|.nil ?_
 ·exact joinQ_n (vtk, rk.types, n.thn) ⟨hkt, hk8, .inr ⟨by simpa using h3, rfl, k, hk, (nms_types hyk).symm⟩⟩ kE.c.c.c.c.c.c rH
 refine .skip ?_
 ·exact joinQ_n (vt, r.types, ⟨#[]⟩) ⟨hrt, hT8, .inl ⟨by grind, rfl, rfl⟩⟩ kE.c.c.c.c.c.c rH
 intro x hx
 obtain ⟨vy, tys, thn⟩ := x
 obtain ⟨hty, hty8, hTG⟩ := hx
 simp only at hty hty8 hTG ⊢
 have iy := hty.oneCell
 refine seqQ_n<|.sr<|.ag rfl<|.zs<|.sr<|.az rfl<|.block<|.loopS [(0, _), (1, _), (3, _), (17, _), (18, _)] (X := Nat × Value × Seg) (λ y => y.1 <= tys.length /\ OS 259 3 encE y.2.1 (outs (L.map Nm.p) i ab thn (tys.take y.1)) y.2.2) (λ y E => (21, iN y.1) :: (10, y.2.1) :: (20, .bool (oks (L.map Nm.p) thn (tys.take y.1))) :: E) (λ y G => y.2.2 :: G) (λ y => tys.length - y.1) (0, sZ, []) ⟨Nat.zero_le _, OS.nil⟩ kE.c.c.c.c.c.c.c.c (pkH [1, 0]) ?_
 rintro ⟨q, vo, To⟩ ⟨hq, hO⟩
 simp only at hq hO ⊢
 have io := hO.oneCell
 have hol : (outs (L.map Nm.p) i ab thn (tys.take q)).length <= 8 := by
  unfold outs setsT
  rw [List.length_map]
  exact Nat.le_trans (List.length_filter_le _ _) (by rw [List.length_take]; omega)
 refine .seq<|.sr<|.mo rfl<|.mo rfl<|.q (.lenR hty)<|.q .lss<|.zn<|.cond rfl (λ h5 => ?_) λ h5 => ?_
 have hqt : q < tys.length := lt_i h5
 obtain ⟨t, hqx⟩ := exg hqt
 have hnx2 := setsT_next hqx
 refine .kn<|.seq<|.block<|.seq<|.sr<|.mo rfl<|.mo rfl ?_
 refine .indexR q hty hqx (λ p136 => ?_)
 refine .fa rfl<|.lo rfl<|.q .eqS<|.zn<|.cond rfl (λ h6 => ?_) λ h6 => ?_
 refine .exit<|seqQ_x<|blkQ_x<|seqQ_n<|.region<|.mo rfl<|.ia (q + 1) .add<|.ag rfl<|.nil ?_
 ·exact loopQ_i (q + 1, vo, To) ⟨hqt, by simp only; unfold outs; rw [hnx2, if_pos (by simpa using h6), List.append_nil]; exact hO⟩ (by simp only; omega) (((kE.c.c.c.c.c.consB rfl (by simp only; unfold oks; rw [hnx2, if_pos (by simpa using h6), List.append_nil])).cons rfl).cons rfl) rH
 refine .kn<|.sr<|.mo rfl<|.mo rfl ?_
 refine .indexR q hty hqx (λ p142 => ?_)
 refine .fa rfl<|.lo rfl<|.ag rfl<|.zs<|.sr<|.mo rfl<|.q .neS<|.zn ?_
 refine Tri.cutS [(0, _), (1, _), (3, _), (10, _), (17, _), (18, _), (20, _), (21, _)] kE.c.c.c.c.c.c.c.c (X := Unit) (λ _ => True) (λ _ E => (22, .string (keyT thn t).rel) :: E) (λ _ => [To, bl b11 n.enc 168]) ?_ ?_
 refine .cond rfl (λ h7 => ?_) λ h7 => ?_
 refine .region<|.mo rfl<|.ag rfl<|.nil ?_
 ·exact joinQ_n () trivial (kE.c.c.c.c.c.c.c.c.consE rfl (by unfold keyT; grind)) rH
 refine .skip ?_
 ·exact joinQ_n () trivial (kE.c.c.c.c.c.c.c.c.consE rfl (by unfold keyT; grind)) rH
 intro x hx
 refine seqQ_n<|.sr<|.mo rfl<|.mo rfl<|.mo rfl ?_
 refine .indexR q hty hqx (λ p151 => ?_)
 refine .fa rfl<|.lo rfl<|.mo rfl<|.callR ((rfind18_spec v L R h t.space (keyT thn t).rel).weaken rxl) (λ u hu => ?_)
 subst hu
 rw [show (⟨t.space, (keyT thn t).rel⟩ : Ty) = keyT thn t from rfl]
 refine .ag rfl<|.zs ?_
 refine Tri.cutS [(0, _), (1, _), (3, _), (10, _), (17, _), (18, _), (21, _), (23, _)] kE.c.c.c.c.c.c.c.c (X := Unit) (λ _ => True) (λ _ E => (20, .bool (oks (L.map Nm.p) thn (tys.take q) && (rfind (L.map Nm.p) (keyT thn t)).isSome)) :: E) (λ _ => [To, bl b11 n.enc 168]) ?_ ?_
 refine .region<|.mo rfl<|.mo rfl<|.split (t := 157) rfl (λ g26_1 => ?_) (λ g26_1 => ?_)
 refine .gT g26_1<|.mo rfl<|.gT g26_1<|.q .geq<|.q (.pickTh g26_1)<|.ag rfl<|.nil ?_
 ·exact joinQ_n () trivial (kE.c.c.c.c.c.c.c.c.consB rfl (by simp only [g26_1, Bool.true_and, Bool.false_and] <;> cases rfind (L.map Nm.p) (keyT thn t) <;> simp [fI])) rH
 refine .gF g26_1<|.gF g26_1<|.q (.pickFh g26_1)<|.ag rfl<|.nil ?_
 ·exact joinQ_n () trivial (kE.c.c.c.c.c.c.c.c.consB rfl (by simp only [g26_1, Bool.true_and, Bool.false_and] <;> cases rfind (L.map Nm.p) (keyT thn t) <;> simp [fI])) rH
 intro y hy
 refine seqQ_n<|.region<|.mo rfl<|.mo rfl<|.mo rfl<|.mo rfl<|.q .bld ?_
 refine .buildSlice1A (λ b166 => ?_)
 refine .append hO (RS.lits (xs := [((i : Int), fI (rfind (L.map Nm.p) (keyT thn t)), ab)]) rfl (by simp [encE]) (by simp [encE, oneCell])) (by simp only [List.length_singleton]; omega) (λ v1 T1 hv1 => ?_)
 have iv1 := hv1.oneCell
 refine .ag rfl<|.nil<|blkQ_n<|seqQ_n<|.region<|.mo rfl<|.ia (q + 1) .add<|.ag rfl<|.nil ?_
 ·exact loopQ_i (q + 1, v1, T1) ⟨hqt, by simp only; unfold outs; rw [hnx2, if_neg (by simpa using h6), List.map_append]; exact hv1⟩ (by simp only; omega) (((kE.c.c.c.c.c.consB rfl (by simp only; unfold oks; rw [hnx2, if_neg (by simpa using h6), List.all_append]; simp)).cons rfl).cons rfl) (pkH [1, 1])
 have hqe : tys.length <= q := by have := odf h5; omega
 rw [take_end hqe] at hO hol ⊢
 refine .exit<|seqQ_x<|loopQ_x<|blkQ_x<|seqQ_n<|.seq ?_
 refine Tri.cutS [] (EnvLe.nil _) (X := Unit) (λ _ => True) (λ _ E => (8, vo) :: (9, .bool (oks (L.map Nm.p) thn tys && (decide (thn = ⟨#[]⟩) || decide (0 < (outs (L.map Nm.p) i ab thn tys).length)))) :: E) (λ _ => [To]) ?_ ?_
 refine .region<|.mo rfl<|.mo rfl<|.mo rfl<|.split (t := 170) rfl (λ g28_2 => ?_) (λ g28_2 => ?_)
 refine .gT g28_2<|.mo rfl<|.gT g28_2<|.q .eqS<|.gT g28_2<|.mo rfl<|.split (t := 173) rfl (λ g28_5 => ?_) (λ g28_5 => ?_)
 refine .gF g28_5<|.gF g28_5<|.gF g28_5<|.gT g28_2<|.q (.pickTh g28_5)<|.q (.pickTh g28_2)<|.ag rfl<|.ag rfl<|.nil ?_
 ·exact joinQ_n () trivial (((EnvLe.nil _).consB rfl (by simp [h5, g28_2, g28_5])).cons rfl) (pkH [0])
 refine .gT g28_5<|.mo rfl<|.gT g28_5<|.q (.lenO hO)<|.gT g28_5<|.q .gtr<|.gT g28_2<|.q (.pickFh g28_5)<|.q (.pickTh g28_2)<|.ag rfl<|.ag rfl<|.nil ?_
 ·exact joinQ_n () trivial (((EnvLe.nil _).consB rfl (by simp [h5, g28_2, g28_5])).cons rfl) (pkH [0])
 refine .gF g28_2<|.gF g28_2<|.gF g28_2<|.gfU rfl<|.gfU rfl<|.gfU rfl<|.gF g28_2<|.q (.pickFh g28_2)<|.ag rfl<|.ag rfl<|.nil ?_
 ·exact joinQ_n () trivial (((EnvLe.nil _).consB rfl (by simp [h5, g28_2])).cons rfl) (pkH [0])
 intro y hy
 refine seqQ_n<|.ret (retQ_r _ (.two (.tmp rfl) (.tmp rfl)) (.one [0] _) ?_)
 ·refine ⟨To, by simp [take, dropAt], vo, _, _, rfl, hO, ?_, ?_⟩
  ·have := (hleaf h1).2; omega
  ·rw [hlleaf ab h1]
   refine node_out hTG λ hk => ?_
   have hl := (hleaf h1).1
   exact word_ne (by grind [Nd.leaf])
theorem WE.app {oa ob : Bool} {Ea Eb : List EdM} {a b : Option (List Ed)} (ha : WE oa Ea a) (hb : WE ob Eb b) : WE (oa && ob) (Ea ++ Eb) (a.bind λ x => b.map (x ++ ·)) := by
 cases a with
 | none => have ha' : oa = false := ha; subst ha'; exact Bool.false_and _
 | some a =>
  cases b with
  | none => have hb' : ob = false := hb; subst hb'; exact Bool.and_false _
  | some b => obtain ⟨rfl, rfl⟩ := ha; obtain ⟨rfl, rfl⟩ := hb; exact ⟨rfl, by simp⟩
theorem enum_app {α : Type} {x : α} : ∀ {l : List α} {i b : Nat}, l[i]? = some x -> enum b (l.take (i + 1)) = enum b (l.take i) ++ [(b + i, x)]
 | [], i, b, h => by simp at h
 | y :: l, 0, b, h => by simp only [List.getElem?_cons_zero, Option.some.injEq] at h; subst h; rfl
 | y :: l, i + 1, b, h => by
  rw [List.take_succ_cons, List.take_succ_cons, enum, enum, enum_app (l := l) (i := i) (b := b + 1) (by simpa using h), show b + 1 + i = b + (i + 1) by omega]
  rfl
def tyOK (l : List (ByteArray × Rl)) (t : Ty) : Bool := decide (t.space = ⟨#[]⟩) || (rfind l t).isSome
theorem sets_found {l : List (ByteArray × Rl)} {ts : List Ty} : (findAll l (setsT ts)).isSome = ts.all (tyOK l) := by
 have h := findAll_all l (setsT ts)
 have e : ((setsT ts).all λ t => (rfind l t).isSome) = ts.all (tyOK l) := by
  unfold setsT
  rw [List.all_filter]
  congr 1
  funext t
  unfold tyOK
  cases decide (t.space = ⟨#[]⟩) <;> simp
 rw [<- e]
 cases hf : findAll l (setsT ts) with
 | none => rw [hf] at h; exact h.symm
 | some o => rw [hf] at h; exact h.1.symm
theorem WE.rel {l : List (ByteArray × Rl)} {i : Nat} {sp : ByteArray} {r : Rl} {ok : Bool} {E : List EdM} (h : WE ok E (cat (λ p : Nat × Bool => (r.nodes[p.1]?).bind λ n => nodeE l i sp r p.2 n) (walkL r.nodes r.nodes.length false))) :
  WE (r.types.all (tyOK l) && ok) E (relD l i sp r) := by
 unfold relD
 rw [<- sets_found]
 cases (findAll l (setsT r.types)).isSome with
 | true => simpa using h
 | false => exact Bool.false_and _
def scDecl (l : List (ByteArray × Rl)) (s : Sc) : Bool := (rfind l ⟨s.ospace, s.rel⟩).isSome
theorem deep_tree {l : List Nd} (h : deepD isWord l ≠ 0) : ∃ d, tree isWord l l.length = some (0, d) := by
 unfold deepD at h
 cases ht : tree isWord l l.length with
 | none => rw [ht] at h; exact absurd rfl h
 | some r =>
  obtain ⟨b, d⟩ := r
  rw [ht] at h
  simp only at h
  split at h
  ·rename_i hb; subst hb; exact ⟨d, rfl⟩
  ·exact absurd rfl h
theorem fI_nat (o : Option Nat) : decide (0 <= fI o) = o.isSome := by cases o <;> simp [fI]
theorem redges_spec (c : CfM) (R : Rds) (h : c.is R) (hf : c.few) (hr : NmsR c.nms) : Spec prog 84 [.agg c.enc.toArray] R [] λ u H' => ∃ T, H' = [T] /\ ∃ w E ok, u = .tuple [w, .bool ok].toArray /\ OS 259 3 encE w E T /\ WE ok E c.plain.edgesD := by
 have hall := rall_spec c R h hf
 have hni := nms_is h
 have hlen := hf.nms
 have hed : c.plain.edgesD = if c.scopes.all (scDecl (c.nms.map Nm.p)) = true then cat (λ p : Nat × (ByteArray × Rl) => relD (c.nms.map Nm.p) p.1 p.2.1 p.2.2) (enum 0 (c.nms.map Nm.p)) else none := by
  rw [nms_all]; rfl
 rw [hed]
 clear hed
 generalize hLn : c.nms = L at *
 obtain ⟨vs, vc, sps, scs⟩ := c
 have i1 : One vs := RS.oneCell h.ss
 have hsc : RS R 4 Sc.enc vc scs := h.sc
 have i2 := hsc.oneCell
 have hlc := hsc.le
 refine Spec.segs (H' := [[]]) (by simp)<|Spec.body Tryz.func84 rfl Tryz.results84 Tryz.ntmps84 rfl<|.sr ?_
 refine .boxA rfl (λ b1 => ?_)
 refine .ag rfl<|.ag rfl<|.z<|.q (.loadA rfl)<|.callN (hall.weaken rxl) (λ u T4 hu4 => ?_)
 have i4 := hu4.oneCell
 refine .ag rfl<|.z<|.ag rfl<|.z<|.ag rfl<|.zs<|.sr<|.az rfl<|.block<|.loopS [(1, _), (4, _)] (X := Nat × Value × List EdM × Bool × Seg) (λ y => y.1 <= L.length /\ OS 259 3 encE y.2.1 y.2.2.1 y.2.2.2.2 /\ y.2.2.1.length <= 512 * y.1 /\ WE y.2.2.2.1 y.2.2.1 (cat (λ p : Nat × (ByteArray × Rl) => relD (L.map Nm.p) p.1 p.2.1 p.2.2) (enum 0 ((L.map Nm.p).take y.1)))) (λ y E => (7, iN y.1) :: (5, y.2.1) :: (6, .bool y.2.2.2.1) :: E) (λ y G => y.2.2.2.2 :: G) (λ y => L.length - y.1) (0, sZ, [], true, []) ⟨Nat.zero_le _, OS.nil, by simp, ⟨rfl, rfl⟩⟩ kE.c.c.c.c.c HLe.new0 ?_
 rintro ⟨i, v5, E5, ok, T5⟩ ⟨hi, hO, hEl, hW⟩
 simp only at hi hO hEl hW ⊢
 have i5 := hO.oneCell
 refine .seq<|.sr<|.mo rfl<|.mo rfl<|.q (.lenO hu4)<|.q .lss<|.zn<|.cond rfl (λ h1 => ?_) λ h1 => ?_
 have hlt : i < L.length := lt_i h1
 obtain ⟨⟨sn, vt, vn, r⟩, hx1⟩ := exg hlt
 have hxr := hni _ (mog hx1)
 have hrt : RS R 2 Ty.enc vt r.types := hxr.t
 have hrd : RS R 5 Nd.enc vn r.nodes := hxr.d
 have irt := hrt.oneCell
 have ird := hrd.oneCell
 have hone : Ones (RlM.enc ⟨vt, vn, r⟩) := ⟨hxr.ones⟩
 have hone2 : Ones (List.take 3 (List.drop 1 (encN (sn, (⟨vt, vn, r⟩ : RlM))))) := ⟨hxr.ones⟩
 obtain ⟨hT8, hN64, hdp⟩ := hr _ (mog hx1)
 simp only at hT8 hN64 hdp
 obtain ⟨d, htr⟩ := deep_tree hdp
 have hx2 : (L.map Nm.p)[i]? = some (sn, r) := by rw [List.getElem?_map, hx1]; rfl
 have hNm : NmsOK (λ b o => R b o \/ (b, o) ∈ T4) u L := ⟨hu4.rs λ p hp => .inr hp, λ x hx => (hni x hx).mono λ b o hb => .inl hb⟩
 have hnl : 1 <= r.nodes.length := by have := (tree_some_le htr).1; omega
 refine .kn<|.seq<|.block<|.sr<|.mo rfl<|.mo rfl ?_
 refine .indexO i hu4 hx1 (λ p23 => ?_)
 refine .fa rfl<|.q (.loadT rfl) ?_
 refine .allocA (λ b8 => ?_)
 refine .storeA rfl rfl<|.zs<|.sr<|.az rfl<|.block<|.loopS [(1, _), (4, _), (5, _), (7, _), (8, _)] (X := Nat) (λ k => k <= r.types.length) (λ k E => (9, iN k) :: (6, .bool (ok && (r.types.take k).all (tyOK (L.map Nm.p)))) :: E) (λ _ G => G) (λ k => r.types.length - k) 0 (Nat.zero_le _) ((kE.c.c.c.c.c.consB rfl (by simp)).cons rfl) rH ?_
 rintro k hk
 refine .seq<|.sr<|.mo rfl<|.fa rfl<|.lo rfl<|.q (.lenR hrt)<|.q .lss<|.zn<|.cond rfl (λ h2 => ?_) λ h2 => ?_
 have hkt : k < r.types.length := lt_i h2
 obtain ⟨t, ht⟩ := exg hkt
 refine .kn<|.seq<|.block ?_
 refine Tri.cutS [(1, _), (4, _), (5, _), (7, _), (8, _), (9, _)] kE.c.c.c.c.c.c (X := Unit) (λ _ => True) (λ _ E => (6, .bool (ok && (r.types.take (k + 1)).all (tyOK (L.map Nm.p)))) :: E) (λ _ => [bl b8 (RlM.enc ⟨vt, vn, r⟩) 207, T5, T4, bl b1 [vs, vc] 25]) ?_ ?_
 refine .region_tail 23 mixed (by kernel_rfl) ?_
 conv => arg 6; dsimp only [List.take]
 refine .mo rfl<|.mo rfl<|.split (t := 34) rfl (λ g11_1 => ?_) (λ g11_1 => ?_)
 refine .gT g11_1<|.fa rfl<|.gT g11_1<|.lo rfl<|.gT g11_1<|.mo rfl<|.gT g11_1 ?_
 refine .indexR k hrt ht (λ p38 => ?_)
 refine .gT g11_1<|.fa rfl<|.gT g11_1<|.lo rfl<|.gT g11_1<|.q .eqS<|.gT g11_1<|.mo rfl<|.split (t := 42) rfl (λ g11_9 => ?_) (λ g11_9 => ?_)
 refine .gF g11_9<|.gF g11_9<|.gF g11_9<|.gF g11_9<|.gF g11_9<|.gF g11_9<|.gF g11_9<|.gF g11_9<|.gF g11_9<|.gF g11_9<|.gF g11_9<|.gF g11_9<|.gF g11_9<|.nil<|.gF g11_9<|.gF g11_9<|.gT g11_1<|.q (.pickTh g11_9)<|.q (.pickTh g11_1)<|.ag rfl<|.nil ?_
 ·exact joinQ_n () trivial (kE.c.c.c.c.c.c.consB rfl (by rw [take_next ht, List.all_append]; simp only [List.all_cons, List.all_nil, Bool.and_true, tyOK, h2, g11_1, g11_9, fI_nat]; grind)) rH
 refine .gT g11_9<|.mo rfl<|.gT g11_9<|.fa rfl<|.gT g11_9<|.lo rfl<|.gT g11_9<|.mo rfl<|.gT g11_9 ?_
 refine .indexR k hrt ht (λ p47 => ?_)
 refine .gT g11_9<|.fa rfl<|.gT g11_9<|.lo rfl<|.gT g11_9<|.fa rfl<|.gT g11_9<|.lo rfl<|.gT g11_9<|.mo rfl<|.gT g11_9 ?_
 refine .indexR k hrt ht (λ p53 => ?_)
 refine .gT g11_9<|.fa rfl<|.gT g11_9<|.lo rfl<|.nil<|.gT g11_9<|.callR ((rfind18_spec u L _ hNm t.space t.rel).weaken λ b o hb => hb.elim .inl λ hb => .inr (by simp [hb])) (λ w hw => ?_)
 subst hw
 rw [show (⟨t.space, t.rel⟩ : Ty) = t from rfl]
 refine .gT g11_9<|.q .geq<|.gT g11_1<|.q (.pickFh g11_9)<|.q (.pickTh g11_1)<|.ag rfl<|.nil ?_
 ·exact joinQ_n () trivial (kE.c.c.c.c.c.c.consB rfl (by rw [take_next ht, List.all_append]; simp only [List.all_cons, List.all_nil, Bool.and_true, tyOK, h2, g11_1, g11_9, fI_nat]; grind)) rH
 refine .gF g11_1<|.gF g11_1<|.gF g11_1<|.gF g11_1<|.gF g11_1<|.gF g11_1<|.gF g11_1<|.gF g11_1<|.gfU rfl<|.gfU rfl<|.gfU rfl<|.gfU rfl<|.gfU rfl<|.gfU rfl<|.gfU rfl<|.gfU rfl<|.gfU rfl<|.gfU rfl<|.gfU rfl<|.gfU rfl<|.gfU rfl<|.nil<|.gfU rfl<|.gfU rfl<|.gF g11_1<|.q (.pickFh g11_1)<|.ag rfl<|.nil ?_
 ·exact joinQ_n () trivial (kE.c.c.c.c.c.c.consB rfl (by rw [take_next ht, List.all_append]; simp only [List.all_cons, List.all_nil, Bool.and_true, tyOK, h2, g11_1, fI_nat]; grind)) rH
 intro y hy
 refine blkQ_n<|seqQ_n<|.region<|.mo rfl<|.ia (k + 1) .add<|.ag rfl<|.nil ?_
 ·exact loopQ_i (k + 1) hkt (by omega) kE.c.c.c.c.c.c.c rH
 rw [take_end (l := r.types) (i := k) (by have := odf h2; omega)]
 refine .exit<|seqQ_x<|loopQ_x<|blkQ_x<|seqQ_n<|.sr<|.mo rfl<|.mo rfl<|.fa rfl<|.lo rfl<|.q (.lenR hrd)<|.q (.i64 ((r.nodes.length : Int) - 1) .sub ⟨rfl, by omega, by omega⟩)<|.callN ((rwalk_spec u L _ hNm hr i sn vt vn r hx1 _ _ _ htr false _ rfl).weaken λ b o hb => hb.elim .inl λ hb => .inr (by simp [hb])) (λ w Tw hw => ?_)
 obtain ⟨w, Ew, okw, rfl, hOw, hlw, hWw⟩ := hw
 have iw := hOw.oneCell
 refine .mo rfl<|.q .extract<|.q .extract<|.ag rfl<|.ag rfl<|.zs ?_
 refine Tri.cutS [(1, _), (4, _), (5, _), (7, _), (10, _)] kE.c.c.c.c.c (X := Unit) (λ _ => True) (λ _ E => (6, .bool (ok && (r.types.all (tyOK (L.map Nm.p)) && okw))) :: E) (λ _ => [Tw, T5, T4, bl b1 [vs, vc] 25]) ?_ ?_
 refine .region<|.mo rfl<|.mo rfl<|.split (t := 71) rfl (λ g13_1 => ?_) (λ g13_1 => ?_)
 refine .gT g13_1<|.mo rfl<|.q (.pickTh g13_1)<|.ag rfl<|.nil ?_
 ·exact joinQ_n () trivial (kE.c.c.c.c.c.consB rfl (by grind)) (pkH [0, 1, 1, 1])
 refine .gF g13_1<|.q (.pickFh g13_1)<|.ag rfl<|.nil ?_
 ·exact joinQ_n () trivial (kE.c.c.c.c.c.consB rfl (by grind)) (pkH [0, 1, 1, 1])
 intro y hy
 refine seqQ_n<|.region<|.mo rfl<|.mo rfl<|.append hO hOw.rx (by omega) (λ v1 T1 hv1 => ?_)
 have iv1 := hv1.oneCell
 refine .ag rfl<|.nil<|blkQ_n<|seqQ_n<|.region<|.mo rfl<|.ia (i + 1) .add<|.ag rfl<|.nil ?_
 ·exact loopQ_i (i + 1, v1, E5 ++ Ew, ok && (r.types.all (tyOK (L.map Nm.p)) && okw), T1) ⟨hlt, hv1, by simp only [List.length_append]; omega, by
   simp only
   rw [enum_app hx2, cat_append]
   refine hW.app ?_
   have hh := WE.rel hWw
   simp only [Nat.zero_add, cat]
   revert hh
   generalize relD (L.map Nm.p) i sn r = o
   intro hh
   cases o with
   | none => exact hh
   | some o => simpa using hh⟩ (by simp only; omega) kE.c.c.c.c.c (pkH [1, 1, 1])
 have hie : L.length <= i := by have := odf h1; omega
 rw [take_end (by rw [List.length_map]; exact hie)] at hW
 have hNm : NmsOK (λ b o => R b o \/ (b, o) ∈ T4) u L := ⟨hu4.rs λ p hp => .inr hp, λ x hx => (hni x hx).mono λ b o hb => .inl hb⟩
 refine .exit<|seqQ_x<|loopQ_x<|blkQ_x<|seqQ_n<|.seq<|.sr<|.az rfl<|.block<|.loopS [(1, _), (4, _), (5, _)] (X := Nat) (λ k => k <= scs.length) (λ k E => (12, iN k) :: (6, .bool (ok && (scs.take k).all (scDecl (L.map Nm.p)))) :: E) (λ _ G => G) (λ k => scs.length - k) 0 (Nat.zero_le _) ((kE.c.c.c.consB rfl (by simp)).cons rfl) rH ?_
 rintro k hk
 refine .seq<|.sr<|.mo rfl<|.fa rfl<|.lo rfl<|.q (.lenR hsc)<|.q .lss<|.zn<|.cond rfl (λ h3 => ?_) λ h3 => ?_
 have hkt : k < scs.length := lt_i h3
 obtain ⟨s, hs⟩ := exg hkt
 refine .kn<|.seq<|.block ?_
 refine Tri.cutS [(1, _), (4, _), (5, _), (12, _)] kE.c.c.c.c (X := Unit) (λ _ => True) (λ _ E => (6, .bool (ok && (scs.take (k + 1)).all (scDecl (L.map Nm.p)))) :: E) (λ _ => [T5, T4, bl b1 [vs, vc] 25]) ?_ ?_
 refine .region_tail 16 mixed (by kernel_rfl) ?_
 conv => arg 6; dsimp only [List.take]
 refine .mo rfl<|.mo rfl<|.split (t := 85) rfl (λ g18_1 => ?_) (λ g18_1 => ?_)
 refine .gT g18_1<|.mo rfl<|.gT g18_1<|.fa rfl<|.gT g18_1<|.lo rfl<|.gT g18_1<|.mo rfl<|.gT g18_1 ?_
 refine .indexR k hsc hs (λ p90 => ?_)
 refine .gT g18_1<|.fa rfl<|.gT g18_1<|.fa rfl<|.gT g18_1<|.lo rfl<|.gT g18_1<|.fa rfl<|.gT g18_1<|.lo rfl<|.gT g18_1<|.mo rfl<|.gT g18_1 ?_
 refine .indexR k hsc hs (λ p97 => ?_)
 refine .gT g18_1<|.fa rfl<|.gT g18_1<|.lo rfl<|.nil<|.gT g18_1<|.callR ((rfind18_spec u L _ hNm s.ospace s.rel).weaken λ b o hb => hb.elim .inl λ hb => .inr (by simp [hb])) (λ w hw => ?_)
 subst hw
 refine .gT g18_1<|.q .geq<|.q (.pickTh g18_1)<|.ag rfl<|.nil ?_
 ·exact joinQ_n () trivial (kE.c.c.c.c.consB rfl (by rw [take_next hs, List.all_append]; simp only [List.all_cons, List.all_nil, Bool.and_true, scDecl, h3, g18_1, fI_nat]; grind)) rH
 refine .gF g18_1<|.gF g18_1<|.gF g18_1<|.gF g18_1<|.gF g18_1<|.gF g18_1<|.gF g18_1<|.gF g18_1<|.gF g18_1<|.gF g18_1<|.gF g18_1<|.gF g18_1<|.gF g18_1<|.gF g18_1<|.nil<|.gF g18_1<|.gF g18_1<|.q (.pickFh g18_1)<|.ag rfl<|.nil ?_
 ·exact joinQ_n () trivial (kE.c.c.c.c.consB rfl (by rw [take_next hs, List.all_append]; simp only [List.all_cons, List.all_nil, Bool.and_true, scDecl, h3, g18_1, fI_nat]; grind)) rH
 intro y hy
 refine blkQ_n<|seqQ_n<|.region<|.mo rfl<|.ia (k + 1) .add<|.ag rfl<|.nil ?_
 ·exact loopQ_i (k + 1) hkt (by omega) kE.c.c.c.c.c rH
 rw [take_end (l := scs) (i := k) (by have := odf h3; omega)]
 refine .exit<|seqQ_x<|loopQ_x<|blkQ_x<|seqQ_n<|.sr<|.mo rfl<|.mo rfl<|.ag rfl<|.az rfl<|.ret (retQ_r _ (.two (.tmp rfl) (.tmp rfl)) (.one [0] _) ?_)
 ·refine ⟨T5, by simp [take, dropAt], v5, E5, _, rfl, hO, ?_⟩
  cases scs.all (scDecl (L.map Nm.p)) with
  | true => simpa using hW
  | false => exact Bool.and_false _
theorem RS.nil0 {α : Type} {R : Rds} {sz : Nat} {enc : α -> List Value} : RS R sz enc (sZ) ([] : List α) := (OS.nil (E := 0) (sz := sz) (enc := enc)).rs λ p hp => (by cases hp)
abbrev NlM := Value × List Nat
def encV1 (q : NlM) : List Value := [q.1]
structure NN (R : Rds) (w : Value) (ll : List NlM) : Prop where
 rs : RS R 1 encV1 w ll
 all : ∀ q ∈ ll, RS R 1 encNt q.1 q.2
theorem NN.mono {R R' : Rds} {w : Value} {ll : List NlM} (h : NN R w ll) (hR : ∀ b o, R b o -> R' b o) : NN R' w ll := ⟨h.rs.mono hR, λ q hq => (h.all q hq).mono hR⟩
theorem NN.nil {R : Rds} : NN R (sZ) [] := ⟨RS.nil0, λ q hq => (by cases hq)⟩
theorem offs_next : ∀ {l : List Sp} {i : Nat} {s : Sp}, l[i]? = some s -> offs l (i + 1) = offs l i + s.rels.length
 | [], i, s, h => by simp at h
 | x :: l, 0, s, h => by
  simp only [List.getElem?_cons_zero, Option.some.injEq] at h
  subst h
  cases l <;> simp [offs]
 | x :: l, i + 1, s, h => by
  have := offs_next (l := l) (i := i) (by simpa using h)
  rw [offs, offs, this]
  omega
theorem few_of_right {c : CfM} (h : c.plain.right isWord isRef = true) : c.few /\ NmsR c.nms := by
 have hr := right_rel h
 have hm : c.plain.much isWord = false := by
  unfold Cf.right at h
  simp only [Bool.and_eq_true, Bool.not_eq_true'] at h
  exact h.2
 rw [much_eq] at hm
 simp only [Bool.or_eq_false_iff, decide_eq_false_iff_not, List.any_eq_false, Nat.not_lt] at hm
 refine ⟨⟨by omega, λ s hs => ?_⟩, λ x hx => ?_⟩
 ·have := hm.2 s hs
  unfold mSp at this
  simp only [Bool.or_eq_true, decide_eq_true_eq, not_or, Nat.not_lt] at this
  exact this.1
 ·have hx' : x.p ∈ c.plain.all := by rw [<- nms_all]; exact List.mem_map.2 ⟨x, hx, rfl⟩
  obtain ⟨h1, h2⟩ := hr _ hx'
  unfold relOK at h1
  unfold muchR at h2
  simp only [Bool.and_eq_true, bne_iff_ne, ne_eq] at h1
  simp only [Bool.or_eq_false_iff, decide_eq_false_iff_not, Nat.not_lt] at h2
  exact ⟨h2.1.1, h2.1.2, h1.1.2⟩
theorem rnumbers_spec (c : CfM) (R : Rds) (h : c.is R) : Spec prog 26 [.agg c.enc.toArray] R [] λ u H' => ∃ T, H' = [T] /\ ∃ w ll, u = .tuple [w, .int .i64 (c.plain.numbers isWord isRef).1].toArray /\ NN (sg T) w ll /\ ll.map (·.2) = (c.plain.numbers isWord isRef).2 := by
 have h1_ := rright16_spec c R h
 have h2_ := rtwice_spec c R h
 have h3_ := redges_spec c R h
 have h4_ := rall_spec c R h
 have hal := nms_all c
 have hfr := few_of_right (c := c)
 have hsp : ∀ (i : Nat) s, c.spaces[i]? = some s -> c.plain.spaces[i]? = some s.plain := λ i s hs => by unfold CfM.plain; simp only; rw [List.getElem?_map, hs]; rfl
 have hspl : c.plain.spaces.length = c.spaces.length := by unfold CfM.plain; simp
 have hnm : c.plain.numbers isWord isRef = if c.plain.right isWord isRef = false then ((4 : Int), ([] : List (List Nat))) else if ¬ c.plain.uniq then (10, []) else match c.plain.edgesD with | none => (14, []) | some E => if docOK E c.plain.all.length = true then (0, rows c.plain.spaces (level E c.plain.all.length (c.plain.all.length + 1))) else (15, []) := rfl
 have hlal : c.plain.all.length = c.nms.length := by rw [<- hal, List.length_map]
 have hnml := λ hh => CfM.few.nms (c := c) hh
 have htot := total_all c.plain
 generalize hnn : c.plain.numbers isWord isRef = nn at *
 generalize hpl : c.plain = pl at *
 generalize hLn : c.nms = L at *
 rw [hlal] at hnm htot
 obtain ⟨vs, vc, sps, scs⟩ := c
 have hss := h.ss
 have i1 := hss.oneCell
 have i2 : One vc := RS.oneCell h.sc
 simp only at hss i1 i2 hsp hspl ⊢
 have hle := hss.le
 refine Spec.segs (H' := [[]]) (by simp)<|Spec.body Tryz.func26 rfl Tryz.results26 Tryz.ntmps26 rfl<|.sr ?_
 refine .boxA rfl (λ b1 => ?_)
 refine .ag rfl<|.ag rfl<|.zs<|.sr<|.q (.loadA rfl)<|.callR (h1_.weaken rxl) (λ u hu => ?_)
 subst hu
 refine .q .not<|.zn<|.cond rfl (λ h1 => ?_) λ h1 => ?_
 refine .sr<|.ag rfl<|.az rfl<|.ret (seqQ_r (retQ_r _ (.two (.tmp rfl) (.tmp rfl)) (.one [1] _) ?_))
 ·refine ⟨[], by simp [take, dropAt], sZ, [], ?_, .nil, ?_⟩
  ·rw [hnm, if_pos (by simpa using h1)]
  ·rw [hnm, if_pos (by simpa using h1)]; rfl
 have hri : pl.right isWord isRef = true := by simpa using h1
 obtain ⟨hfew, hNR⟩ := hfr hri
 have hn256 := hnml hfew
 rw [if_neg (by rw [hri]; simp)] at hnm
 refine .kn<|.seq<|.sr<|.q (.loadA rfl)<|.callR ((h2_ hfew).weaken rxl) (λ u hu => ?_)
 subst hu
 refine .zn<|.cond rfl (λ h2 => ?_) λ h2 => ?_
 refine .sr<|.ag rfl<|.az rfl<|.ret (seqQ_r (retQ_r _ (.two (.tmp rfl) (.tmp rfl)) (.one [1] _) ?_))
 ·refine ⟨[], by simp [take, dropAt], sZ, [], ?_, .nil, ?_⟩
  ·rw [hnm, if_pos (by simpa using h2)]
  ·rw [hnm, if_pos (by simpa using h2)]; rfl
 have hun : pl.uniq := by simpa using h2
 rw [if_neg (λ hh => hh hun)] at hnm
 refine .kn<|.sr<|.q (.loadA rfl)<|.callN ((h3_ hfew hNR).weaken rxl) (λ u T4 hu => ?_)
 obtain ⟨w4, E4, ok, rfl, hO4, hW4⟩ := hu
 have i4 := hO4.oneCell
 refine .mo rfl<|.q .extract<|.q .extract<|.ag rfl<|.ag rfl<|.zs<|.sr<|.mo rfl<|.q .not<|.zn<|.cond rfl (λ h3 => ?_) λ h3 => ?_
 have hok : ok = false := by simpa using h3
 have hed : pl.edgesD = none := by
  cases he : pl.edgesD with
  | none => rfl
  | some E => rw [he] at hW4; rw [hW4.1] at hok; cases hok
 rw [hed] at hnm
 simp only at hnm
 refine .sr<|.ag rfl<|.az rfl<|.ret (seqQ_r (retQ_r _ (.two (.tmp rfl) (.tmp rfl)) (.one [2] _) ?_))
 ·refine ⟨[], by simp [take, dropAt], sZ, [], ?_, .nil, ?_⟩
  ·rw [hnm]
  ·rw [hnm]; rfl
 have hok : ok = true := by simpa using h3
 obtain ⟨E, hed, hE4⟩ : ∃ E, pl.edgesD = some E /\ E4 = E.map Ed.m := by
  cases he : pl.edgesD with
  | none => rw [he] at hW4; rw [show ok = false from hW4] at hok; cases hok
  | some E => rw [he] at hW4; exact ⟨E, rfl, hW4.2⟩
 subst hE4
 rw [hed] at hnm
 simp only at hnm
 have hElt : ∀ e ∈ E, e.f < L.length /\ e.t < L.length := by
  have := edgesD_lt hed
  rw [hlal] at this
  exact this
 have hsq : (L.length + 1) * (L.length + 1) <= 1000000 := Nat.le_trans (Nat.mul_le_mul (by omega : L.length + 1 <= 257) (by omega : L.length + 1 <= 257)) (by decide)
 refine .kn<|.sr<|.q (.loadA rfl)<|.callN ((h4_ hfew).weaken rxl) (λ u T6 hu6 => ?_)
 have i6 := hu6.oneCell
 refine .q (.lenO hu6)<|.ag rfl<|.z<|.mo rfl<|.mo rfl<|.mo rfl<|.ia (L.length + 1) .add<|.callN (rlevel_spec w4 E L.length (L.length + 1) _ hO4.rx hElt (by omega) (by omega)) (λ u T7 hu7 => ?_)
 have i7 := hu7.oneCell
 refine .ag rfl<|.z<|.mo rfl<|.mo rfl<|.mo rfl<|.ia (L.length + 1) .add<|.mo rfl<|.ia (L.length + 1) .add<|.q (.i64 (((L.length + 1) * (L.length + 1) : Nat) : Int) .mul ⟨by rw [Int.natCast_mul], by omega, by omega⟩)<|.callN (rlevel_spec w4 E L.length ((L.length + 1) * (L.length + 1)) _ hO4.rx hElt (by omega) (by omega)) (λ u8 T8 hu8 => ?_)
 have i8 := hu8.oneCell
 have hla : (level E L.length (L.length + 1)).length = L.length := level_len _
 have hlb : (level E L.length ((L.length + 1) * (L.length + 1))).length = L.length := level_len _
 refine .ag rfl<|.zs<|.sr<|.az rfl<|.block<|.loopS [(1, _), (6, _), (7, _), (8, _)] (X := Nat) (λ i => i <= L.length /\ ∀ j, j < i -> (level E L.length (L.length + 1))[j]? = (level E L.length ((L.length + 1) * (L.length + 1)))[j]? /\ (level E L.length (L.length + 1)).getD j 0 < L.length) (λ i E => (9, iN i) :: E) (λ _ G => G) (λ i => L.length - i) 0 ⟨Nat.zero_le _, λ j hj => absurd hj (by omega)⟩ kE.c.c.c.c.c rH ?_
 rintro i ⟨hi, hq⟩
 refine .seq<|.sr<|.mo rfl<|.mo rfl<|.q .lss<|.zn<|.cond rfl (λ h4 => ?_) λ h4 => ?_
 have hlt : i < L.length := lt_i h4
 obtain ⟨a, ha⟩ : ∃ a, (level E L.length (L.length + 1))[i]? = some a := ⟨_, gge (by omega)⟩
 obtain ⟨b, hb⟩ : ∃ b, (level E L.length ((L.length + 1) * (L.length + 1)))[i]? = some b := ⟨_, gge (by omega)⟩
 refine .kn<|.seq<|.block<|.seq ?_
 refine Tri.cutS [(1, _), (6, _), (7, _), (8, _), (9, _)] kE.c.c.c.c.c (X := Unit) (λ _ => True) (λ _ E => (64, .bool (decide (a ≠ b \/ L.length <= a))) :: E) (λ _ => [T8, T7, T6, T4, bl b1 [vs, vc] 25, []]) ?_ ?_
 refine .region_still mixed (by kernel_rfl)<|.mo rfl<|.mo rfl ?_
 refine .indexO i hu7 ha (λ p50 => ?_)
 refine .lo rfl<|.mo rfl<|.mo rfl ?_
 refine .indexO i hu8 hb (λ p54 => ?_)
 refine .lo rfl<|.q .neI<|.mo rfl<|.split (t := 57) rfl (λ g14_9 => ?_) (λ g14_9 => ?_)
 refine .gF g14_9<|.gF g14_9<|.gF g14_9<|.gF g14_9<|.gF g14_9<|.gF g14_9<|.q (.pickTh g14_9)<|.nil ?_
 ·exact joinQ_n () trivial (kE.c.c.c.c.c.consB rfl (by clear h1_ h2_ h3_ h4_ hfr hsp hq; grind)) rH
 refine .gT g14_9<|.mo rfl<|.gT g14_9<|.mo rfl<|.gT g14_9 ?_
 refine .indexO i hu7 ha (λ p60 => ?_)
 refine .gT g14_9<|.lo rfl<|.gT g14_9<|.mo rfl<|.gT g14_9<|.q .geq<|.q (.pickFh g14_9)<|.nil ?_
 ·exact joinQ_n () trivial (kE.c.c.c.c.c.consB rfl (by clear h1_ h2_ h3_ h4_ hfr hsp hq; grind)) rH
 intro y hy
 refine seqQ_n<|.cond rfl (λ h5 => ?_) λ h5 => ?_
 refine .sr<|.ag rfl<|.az rfl<|.ret (blkQ_r (seqQ_r (loopQ_r (blkQ_r (seqQ_r (retQ_r _ (.two (.tmp rfl) (.tmp rfl)) (.one [5] _) ?_))))))
 ·have hno : ¬ docOK E L.length = true := by
   intro hd
   unfold docOK at hd
   rw [Bool.and_eq_true, List.all_eq_true] at hd
   have h7 := odt hd.1
   have h8 := hd.2 a (mog ha)
   rw [h7, hb] at ha
   cases ha
   have h5' := odt h5
   have h9 := odt h8
   rcases h5' with h5' | h5'
   ·exact h5' rfl
   ·omega
  refine ⟨[], by simp [take, dropAt], sZ, [], ?_, .nil, ?_⟩
  ·rw [hnm, if_neg hno]
  ·rw [hnm, if_neg hno]; rfl
 refine .skip<|blkQ_n<|seqQ_n<|.region<|.mo rfl<|.ia (i + 1) .add<|.ag rfl<|.nil ?_
 ·exact loopQ_i (i + 1) ⟨hlt, λ j hj => by
   rcases Nat.lt_or_ge j i with hh | hh
   ·exact hq j hh
   ·obtain rfl : j = i := by omega
    have h5' := odf h5
    simp only [ne_eq, not_or, Decidable.not_not, Nat.not_le] at h5'
    exact ⟨by rw [ha, hb, h5'.1], by rw [List.getD_eq_getElem?_getD, ha]; exact h5'.2⟩⟩ (by omega) kE.c.c.c.c.c rH
 have hie : i = L.length := by have := odf h4; omega
 have hdoc : docOK E L.length = true := by
  unfold docOK
  rw [Bool.and_eq_true]
  refine ⟨decide_eq_true (List.ext_getElem? λ j => ?_), ?_⟩
  ·rcases Nat.lt_or_ge j i with hh | hh
   ·exact (hq j hh).1
   ·rw [List.getElem?_eq_none (by omega), List.getElem?_eq_none (by omega)]
  ·rw [List.all_eq_true]
   intro x hx
   obtain ⟨j, hj, e⟩ := List.mem_iff_getElem.1 hx
   have := (hq j (by omega)).2
   rw [List.getD_eq_getElem?_getD, gge hj, e] at this
   exact decide_eq_true this
 rw [if_pos hdoc] at hnm
 generalize hlev : level E L.length (L.length + 1) = A at *
 refine .exit<|seqQ_x<|loopQ_x<|blkQ_x<|seqQ_n<|.sr<|.ag rfl<|.z<|.ag rfl<|.zs<|.sr<|.az rfl<|.block<|.loopS [(1, _), (7, _)] (X := Nat × Value × List NlM × Seg × Seg) (λ y => y.1 <= sps.length /\ OS 127 1 encV1 y.2.1 y.2.2.1 y.2.2.2.1 /\ (∀ q ∈ y.2.2.1, RS (sg y.2.2.2.2) 1 encNt q.1 q.2) /\ y.2.2.1.map (·.2) = (rows pl.spaces A).take y.1) (λ y E => (12, iN y.1) :: (11, .int .i64 (offs pl.spaces y.1 : Nat)) :: (10, y.2.1) :: E) (λ y G => y.2.2.2.1 :: y.2.2.2.2 :: G) (λ y => sps.length - y.1) (0, sZ, [], [], []) ⟨Nat.zero_le _, OS.nil, λ q hq => (by cases hq), by simp⟩ ((kE.c.c.c.consI rfl (by cases pl.spaces <;> rfl)).cons rfl) HLe.new00 ?_
 rintro ⟨i, v10, ll, T10, Tp⟩ ⟨hi2, hO10, hal2, hll⟩
 simp only at hi2 hO10 hal2 hll ⊢
 have i10 := hO10.oneCell
 have hl10 : ll.length <= 16 := by
  have h5 := congrArg List.length hll
  rw [List.length_map, List.length_take, rows_len] at h5
  have h6 := hfew.1
  simp only at h6
  omega
 refine .seq<|.sr<|.mo rfl<|.fa rfl<|.lo rfl<|.q (.lenR hss)<|.q .lss<|.zn<|.cond rfl (λ h6 => ?_) λ h6 => ?_
 have hlt : i < sps.length := lt_i h6
 obtain ⟨s, hs⟩ := exg hlt
 have hsi := h.all _ (mog hs)
 have hrs := hsi.rs
 have hrle := hrs.le
 have hs16 : s.rels.length <= 16 := hfew.2 s (mog hs)
 have hsp1 := hsp i s hs
 have hrow := rows_at (n := A) hsp1
 have hof := offs_next hsp1
 have hofl := offs_le hsp1
 have hpr : s.plain.rels.length = s.rels.length := by simp [SpM.plain]
 rw [hpr] at hrow hof hofl
 rw [htot] at hofl
 refine .kn<|.seq<|.block<|.sr<|.ag rfl<|.zs<|.sr<|.az rfl<|.block<|.loopS [(1, _), (7, _), (10, _), (12, _)] (X := Nat × Value × Seg) (λ y => y.1 <= s.rels.length /\ OS 3 1 encNt y.2.1 ((A.drop (offs pl.spaces i)).take y.1) y.2.2) (λ y E => (14, iN y.1) :: (11, .int .i64 (offs pl.spaces i + y.1 : Nat)) :: (13, y.2.1) :: E) (λ y G => y.2.2 :: G) (λ y => s.rels.length - y.1) (0, sZ, []) ⟨Nat.zero_le _, OS.nil⟩ kE.c.c.c.c.c.c.c HLe.new0 ?_
 rintro ⟨k, v13, T13⟩ ⟨hk, hO13⟩
 simp only at hk hO13 ⊢
 have i13 := hO13.oneCell
 refine .seq<|.sr<|.mo rfl<|.fa rfl<|.lo rfl<|.mo rfl ?_
 refine .indexR i hss hs (λ p76 => ?_)
 refine .fa rfl<|.lo rfl<|.q (.lenR hrs)<|.q .lss<|.zn<|.cond rfl (λ h7 => ?_) λ h7 => ?_
 have hkt : k < s.rels.length := lt_i h7
 obtain ⟨a, ha⟩ : ∃ a, A[offs pl.spaces i + k]? = some a := ⟨_, gge (by omega)⟩
 have hdk : (A.drop (offs pl.spaces i)).take (k + 1) = (A.drop (offs pl.spaces i)).take k ++ [a] := take_next (by rw [List.getElem?_drop, ha])
 refine .kn<|.seq<|.block<|.sr<|.mo rfl<|.mo rfl<|.mo rfl ?_
 refine .indexO (offs pl.spaces i + k) hu7 ha (λ p86 => ?_)
 refine .lo rfl ?_
 refine .buildSlice11 (λ b88 => ?_)
 refine .append hO13 (RS.lits (xs := [a]) rfl (by simp [encNt]) (by simp [encNt, oneCell])) (by simp only [List.length_take, List.length_singleton]; omega) (λ v1 T1 hv1 => ?_)
 rw [<- hdk] at hv1
 have iv1 := hv1.oneCell
 refine .az rfl<|.region<|.mo rfl<|.ia (offs pl.spaces i + (k + 1)) .add<|.ag rfl<|.nil<|blkQ_n<|seqQ_n<|.region<|.mo rfl<|.ia (k + 1) .add<|.ag rfl<|.nil ?_
 ·exact loopQ_i (k + 1, v1, T1) ⟨hkt, hv1⟩ (by simp only; omega) kE.c.c.c.c.c.c.c (pkH [1, 1, 1, 1, 1, 1, 1, 1, 1])
 have hke : k = s.rels.length := by have := odf h7; omega
 refine .exit<|seqQ_x<|loopQ_x<|blkQ_x<|seqQ_n<|.region<|.mo rfl<|.mo rfl ?_
 refine .buildSlice11 (λ b94 => ?_)
 refine .append hO10 (RS.lits (xs := [((v13, (A.drop (offs pl.spaces i)).take k) : NlM)]) rfl (by simp [encV1]) (by simp [encV1, i13.h])) (by simp only [List.length_singleton]; omega) (λ v1 T1 hv1 => ?_)
 have iv1 := hv1.oneCell
 refine .ag rfl<|.nil<|blkQ_n<|seqQ_n<|.region<|.mo rfl<|.ia (i + 1) .add<|.ag rfl<|.nil ?_
 ·exact loopQ_i (i + 1, v1, ll ++ [(v13, (A.drop (offs pl.spaces i)).take k)], T1, T13 ++ Tp) ⟨hlt, hv1, λ q hq => by
   rcases List.mem_append.1 hq with hq | hq
   ·exact (hal2 q hq).mono λ b o hb => sg_right hb
   ·rw [List.mem_singleton] at hq
    subst hq
    exact hO13.sg.mono λ b o hb => sg_left hb, by simp only; rw [List.map_append, hll, take_next hrow, hke]; rfl⟩ (by simp only; omega) ((kE.c.c.c.consI rfl (by simp only; rw [hof, hke])).cons rfl) ((pkH [2, 1, 1, 1, 1, 1, 1, 1]).trans (HLe.ofPerm (by simp [take, dropAt])))
 refine .exit<|seqQ_x<|loopQ_x<|blkQ_x<|seqQ_n<|.sr<|.mo rfl<|.ag rfl<|.az rfl<|.ret (retQ_r _ (.two (.tmp rfl) (.tmp rfl)) (.one [0, 0] _) ?_)
 ·have hie2 : pl.spaces.length <= i := by rw [hspl]; have := odf h6; omega
  refine ⟨T10 ++ Tp, by simp [take, dropAt], v10, ll, ?_, ⟨hO10.sg.mono λ b o hb => sg_left hb, λ q hq => (hal2 q hq).mono λ b o hb => sg_right hb⟩, ?_⟩
  ·rw [hnm]
  ·rw [hnm, hll]
   exact take_end (by rw [rows_len]; exact hie2)
abbrev pblk (pb : Nat) (v : Value) (b : Bool) : Seg := (bl pb [v, .bool b] 237)
def tokOK (t : LTok) : Prop := t.kind ≠ 0 /\ t.text.size <= 9223372036854775807 /\ (t.kind = 2 \/ (t.text ≠ tLp /\ t.text ≠ tRp /\ t.text ≠ tAnd /\ t.text ≠ tBar /\ t.text ≠ tMinus /\ t.text ≠ tArrow /\ t.text ≠ tScope))
instance (t : LTok) : Decidable (tokOK t) := by unfold tokOK; infer_instance
structure PaI (R : Rds) (pb : Nat) (st : PSt) (T : Seg) : Prop where
 h : ∃ v, T = pblk pb v st.2 /\ RS R 3 LTok.enc v st.1
 ok : ∀ t ∈ st.1, tokOK t
theorem PaI.nil {R : Rds} {pb : Nat} : PaI R pb pFail (pblk pb (sZ) true) := ⟨⟨_, rfl, RS.nil0⟩, λ t ht => (by cases ht)⟩
def tok0 : List LTok -> LTok
 | [] => ⟨0, ⟨#[]⟩, 0⟩
 | t :: _ => t
theorem next_spec (pb : Nat) (v : Value) (b : Bool) (l : List LTok) (R : Rds) (h : RS R 3 LTok.enc v l) [pc : PC R (pT pb) [v, .bool b]] : Spec prog 226 [pT pb] R [] λ u H' => u = .agg (tok0 l).enc.toArray /\ H' = [] := by
 have iv := h.oneCell
 refine Spec.body Tryz.func226 rfl Tryz.results226 Tryz.ntmps226 rfl ?_
 refine .sr ?_
 refine .allocA (λ b2 => ?_)
 refine .zs<|.sr<|.mo rfl<|.nc rfl<|.fa rfl<|.lo rfl<|.q (.lenR h) ?_
 refine .q .eqI<|.zn ?_
 refine .cond rfl (λ h1 => ?_) λ h1 => ?_
 have h9 : (l.length : Int) = 0 := by simpa using h1
 have hnil : l = [] := List.eq_nil_of_length_eq_zero (by omega)
 subst hnil
 refine .sr ?_
 refine .q .bld ?_
 refine .storeA rfl rfl<|.zn ?_
 refine .ret (seqQ_r (retQ_r _ (.one (.cellA rfl rfl)) (.none _) ?_))
 ·exact ⟨rfl, rfl⟩
 have h9 : ¬ (l.length : Int) = 0 := by simpa using h1
 obtain ⟨t, r, rfl⟩ : ∃ t r, l = t :: r := by
  cases l with
  | nil => simp at h9
  | cons t r => exact ⟨t, r, rfl⟩
 have h0 : (t :: r)[0]? = some t := rfl
 refine .kn<|.sr<|.mo rfl<|.nc rfl<|.fa rfl<|.lo rfl ?_
 refine .indexR 0 h h0 (λ p14 => ?_)
 refine .q (.loadA rfl)<|.storeA rfl rfl<|.zn ?_
 refine .ret (retQ_r _ (.one (.cellA rfl rfl)) (.none _) ?_)
 ·exact ⟨rfl, rfl⟩
theorem fail_spec (pb : Nat) (v : Value) [iv : One v] (b : Bool) (R : Rds) : Spec prog 179 [pT pb] R [pblk pb v b] λ _ H' => ∃ T', H' = [T'] /\ T' = pblk pb (sZ) true := by
 refine Spec.body Tryz.func179 rfl Tryz.results179 Tryz.ntmps179 rfl ?_
 refine .sr<|.mo rfl<|.nc rfl<|.fa rfl<|.store1 rfl rfl<|.zn<|.region<|.mo rfl<|.nc rfl<|.fa rfl<|.store1 rfl rfl<|.nil<|retQ_n _ .none rH ?_
 ·exact ⟨_, rfl, rfl⟩
theorem take_spec (pb : Nat) (st : PSt) (T : Seg) (R : Rds) (hI : PaI R pb st T) (s : ByteArray) : Spec prog 176 [pT pb, .string s] R [T] λ u H' => ∃ T', H' = [T'] /\ u = .bool (pTake s st).isSome /\ PaI R pb ((pTake s st).getD st) T' := by
 obtain ⟨⟨v, rfl, h⟩, hok⟩ := hI
 obtain ⟨l, b⟩ := st
 simp only at h hok ⊢
 have iv := h.oneCell
 have hle := h.le
 have hT0 : pTake s ([], b) = none := rfl
 have hT1 : ∀ t r, pTake s (t :: r, b) = if t.kind = 2 \/ t.text ≠ s then none else some (r, b) := λ _ _ => rfl
 refine Spec.body Tryz.func176 rfl Tryz.results176 Tryz.ntmps176 rfl ?_
 refine .sr<|.ag rfl<|.z<|.mo rfl ?_
 refine .callR (next_spec pb v b l _ h.rx) (λ u hu => ?_)
 subst hu
 refine .allocA (λ b5 => ?_)
 refine .storeA rfl rfl<|.zs<|.sr<|.fa rfl<|.lo rfl<|.q .eqI<|.mo rfl ?_
 refine .split (t := 11) rfl (λ g2_3 => ?_) (λ g2_3 => ?_)
 refine .gF g2_3<|.gF g2_3<|.gF g2_3<|.q (.pickTh g2_3) ?_
 refine .mo rfl<|.gX<|.gX<|.gX<|.gX<|.q .pickT<|.zn<|.condT ?_
 have hnone : pTake s (l, b) = none := by
  cases l with
  | nil => exact hT0
  | cons t r =>
   rw [hT1]
   obtain ⟨o1, _, _⟩ := hok t List.mem_cons_self
   simp only [tok0] at *
   rw [if_pos]
   by_cases e : t.kind = 2
   ·exact .inl e
   ·exact .inr (by grind)
 refine .sr<|.az rfl ?_
 refine .ret (seqQ_r (retQ_r _ (.one (.tmp rfl)) (pkH [1]) ?_))
 ·first
   |exact ⟨_, rfl, by rw [hnone]; rfl, by rw [hnone]; exact ⟨⟨v, rfl, h⟩, hok⟩⟩
   |exact ⟨_, rfl, by rw [hsome]; rfl, by rw [hsome]; exact ⟨⟨v2, rfl, hv2⟩, λ t ht => hok t (List.mem_cons_of_mem _ ht)⟩⟩
 refine .gT g2_3<|.fa rfl<|.gT g2_3<|.lo rfl<|.gT g2_3<|.q .eqI<|.q (.pickFh g2_3) ?_
 refine .mo rfl ?_
 refine .split (t := 16) rfl (λ g2_8 => ?_) (λ g2_8 => ?_)
 refine .gF g2_8<|.gF g2_8<|.gF g2_8<|.gF g2_8<|.q (.pickTh g2_8) ?_
 refine .zn<|.condT ?_
 have hnone : pTake s (l, b) = none := by
  cases l with
  | nil => exact hT0
  | cons t r =>
   rw [hT1]
   obtain ⟨o1, _, _⟩ := hok t List.mem_cons_self
   simp only [tok0] at *
   rw [if_pos]
   by_cases e : t.kind = 2
   ·exact .inl e
   ·exact .inr (by grind)
 refine .sr<|.az rfl ?_
 refine .ret (seqQ_r (retQ_r _ (.one (.tmp rfl)) (pkH [1]) ?_))
 ·first
   |exact ⟨_, rfl, by rw [hnone]; rfl, by rw [hnone]; exact ⟨⟨v, rfl, h⟩, hok⟩⟩
   |exact ⟨_, rfl, by rw [hsome]; rfl, by rw [hsome]; exact ⟨⟨v2, rfl, hv2⟩, λ t ht => hok t (List.mem_cons_of_mem _ ht)⟩⟩
 refine .gT g2_8<|.fa rfl<|.gT g2_8<|.lo rfl<|.gT g2_8<|.mo rfl<|.gT g2_8<|.q .neS<|.q (.pickFh g2_8) ?_
 refine .zn ?_
 refine .cond rfl (λ h1 => ?_) λ h1 => ?_
 have hnone : pTake s (l, b) = none := by
  cases l with
  | nil => exact hT0
  | cons t r =>
   rw [hT1]
   obtain ⟨o1, _, _⟩ := hok t List.mem_cons_self
   simp only [tok0] at *
   rw [if_pos]
   by_cases e : t.kind = 2
   ·exact .inl e
   ·exact .inr (by grind)
 refine .sr<|.az rfl ?_
 refine .ret (seqQ_r (retQ_r _ (.one (.tmp rfl)) (pkH [1]) ?_))
 ·first
   |exact ⟨_, rfl, by rw [hnone]; rfl, by rw [hnone]; exact ⟨⟨v, rfl, h⟩, hok⟩⟩
   |exact ⟨_, rfl, by rw [hsome]; rfl, by rw [hsome]; exact ⟨⟨v2, rfl, hv2⟩, λ t ht => hok t (List.mem_cons_of_mem _ ht)⟩⟩
 obtain ⟨t, r, rfl⟩ : ∃ t r, l = t :: r := by
  cases l with
  | nil => simp [tok0] at *
  | cons t r => exact ⟨t, r, rfl⟩
 have hsome : pTake s (t :: r, b) = some (r, b) := by
  rw [hT1, if_neg]
  simp only [tok0] at *
  grind
 refine .kn<|.sr<|.mo rfl<|.mo rfl<|.nc rfl<|.fa rfl<|.lo rfl ?_
 refine .sliceR 1 (r.length + 1) h ⟨_, rfl⟩ rfl (by omega) (by simp) (λ v2 hv2 => ?_)
 rw [show ((t :: r).drop 1).take (r.length + 1 - 1) = r by simp] at hv2
 have iv2 := hv2.oneCell
 refine .nc rfl<|.fa rfl<|.store1 rfl rfl<|.z<|.az rfl ?_
 refine .ret (retQ_r _ (.one (.tmp rfl)) (pkH [1]) ?_)
 ·first
   |exact ⟨_, rfl, by rw [hnone]; rfl, by rw [hnone]; exact ⟨⟨v, rfl, h⟩, hok⟩⟩
   |exact ⟨_, rfl, by rw [hsome]; rfl, by rw [hsome]; exact ⟨⟨v2, rfl, hv2⟩, λ t ht => hok t (List.mem_cons_of_mem _ ht)⟩⟩
theorem must_spec (pb : Nat) (st : PSt) (T : Seg) (R : Rds) (hI : PaI R pb st T) (s : ByteArray) : Spec prog 228 [pT pb, .string s] R [T] λ _ H' => ∃ T', H' = [T'] /\ PaI R pb (pMust s st) T' := by
 have ht := take_spec pb st T R hI s
 have hm : pMust s st = (pTake s st).getD pFail := rfl
 refine Spec.body Tryz.func228 rfl Tryz.results228 Tryz.ntmps228 rfl ?_
 refine .sr<|.mo rfl<|.mo rfl ?_
 refine .callM (R := R) ht (λ u T' hu => ?_)
 obtain ⟨rfl, hI2⟩ := hu
 refine .q .not<|.zn ?_
 refine .cond rfl (λ h1 => ?_) λ h1 => ?_
 have hn : pTake s st = none := by
  cases hh : pTake s st with
  | none => rfl
  | some x => rw [hh] at h1; simp at h1
 rw [hn] at hI2 hm
 simp only [Option.getD_none] at hI2
 obtain ⟨⟨v, rfl, hv⟩, _⟩ := hI2
 have iv := hv.oneCell
 refine .region<|.mo rfl ?_
 refine .callM (R := R) (fail_spec pb v st.2 R) (λ u T' hu => ?_)
 subst hu
 refine .nil<|retQ_n _ .none rH ?_
 ·first
   |exact ⟨_, rfl, by rw [hm]; exact PaI.nil⟩
   |exact ⟨_, rfl, by rw [hm]; exact hI2⟩
 obtain ⟨x, hx⟩ : ∃ x, pTake s st = some x := by
  cases hh : pTake s st with
  | none => rw [hh] at h1; simp at h1
  | some x => exact ⟨x, rfl⟩
 rw [hx] at hI2 hm
 refine .skip<|retQ_n _ .none rH ?_
 ·first
   |exact ⟨_, rfl, by rw [hm]; exact PaI.nil⟩
   |exact ⟨_, rfl, by rw [hm]; exact hI2⟩
theorem pword_spec (pb : Nat) (st : PSt) (T : Seg) (R : Rds) (hI : PaI R pb st T) : Spec prog 227 [pT pb] R [T] λ u H' => ∃ T', H' = [T'] /\ u = .string (pWord isWord st).1 /\ PaI R pb (pWord isWord st).2 T' := by
 obtain ⟨⟨v, rfl, h⟩, hok⟩ := hI
 obtain ⟨l, b⟩ := st
 simp only at h hok ⊢
 have iv := h.oneCell
 have hle := h.le
 have hT0 : pWord isWord ([], b) = (⟨#[]⟩, pFail) := rfl
 have hT1 : ∀ t r, pWord isWord (t :: r, b) = if t.kind ≠ 1 \/ isWord t.text = false then (⟨#[]⟩, pFail) else (t.text, (r, b)) := λ _ _ => rfl
 have hts : (tok0 l).text.size <= 9223372036854775807 := by
  cases l with
  | nil => exact Nat.zero_le _
  | cons t r => exact (hok t List.mem_cons_self).2.1
 refine Spec.body Tryz.func227 rfl Tryz.results227 Tryz.ntmps227 rfl ?_
 refine .sr<|.ag rfl<|.z<|.mo rfl ?_
 refine .callR (next_spec pb v b l _ h.rx) (λ u hu => ?_)
 subst hu
 refine .allocA (λ b3 => ?_)
 refine .storeA rfl rfl<|.zs<|.sr<|.fa rfl<|.lo rfl<|.q .neI<|.mo rfl ?_
 refine .split (t := 9) rfl (λ g2_3 => ?_) (λ g2_3 => ?_)
 refine .gF g2_3<|.gF g2_3<|.gF g2_3<|.gF g2_3<|.q (.pickTh g2_3) ?_
 refine .zn<|.condT ?_
 have hnone : pWord isWord (l, b) = (⟨#[]⟩, pFail) := by
  cases l with
  | nil => exact hT0
  | cons t r =>
   rw [hT1, if_pos]
   simp only [tok0] at *
   by_cases e : t.kind = 1
   ·right; simp_all
   ·exact .inl e
 refine .sr<|.mo rfl ?_
 refine .callM (R := R) (fail_spec pb v b R) (λ u T' hu => ?_)
 subst hu
 refine .z<|.az rfl ?_
 refine .ret (seqQ_r (retQ_r _ (.one (.tmp rfl)) (pkH [1]) ?_))
 ·first
   |exact ⟨_, rfl, by rw [hnone], by rw [hnone]; exact PaI.nil⟩
   |exact ⟨_, rfl, by rw [hsome]; rfl, by rw [hsome]; exact ⟨⟨v2, rfl, hv2⟩, λ t ht => hok t (List.mem_cons_of_mem _ ht)⟩⟩
 refine .gT g2_3<|.fa rfl<|.gT g2_3<|.lo rfl<|.gT g2_3 ?_
 refine .callR ((word_spec _ hts R).weaken rxl) (λ u hu => ?_)
 subst hu
 refine .gT g2_3<|.q .not<|.q (.pickFh g2_3) ?_
 refine .zn ?_
 refine .cond rfl (λ h1 => ?_) λ h1 => ?_
 have hnone : pWord isWord (l, b) = (⟨#[]⟩, pFail) := by
  cases l with
  | nil => exact hT0
  | cons t r =>
   rw [hT1, if_pos]
   simp only [tok0] at *
   by_cases e : t.kind = 1
   ·right; simp_all
   ·exact .inl e
 refine .sr<|.mo rfl ?_
 refine .callM (R := R) (fail_spec pb v b R) (λ u T' hu => ?_)
 subst hu
 refine .z<|.az rfl ?_
 refine .ret (seqQ_r (retQ_r _ (.one (.tmp rfl)) (pkH [1]) ?_))
 ·first
   |exact ⟨_, rfl, by rw [hnone], by rw [hnone]; exact PaI.nil⟩
   |exact ⟨_, rfl, by rw [hsome]; rfl, by rw [hsome]; exact ⟨⟨v2, rfl, hv2⟩, λ t ht => hok t (List.mem_cons_of_mem _ ht)⟩⟩
 obtain ⟨t, r, rfl⟩ : ∃ t r, l = t :: r := by
  cases l with
  | nil => simp [tok0] at *
  | cons t r => exact ⟨t, r, rfl⟩
 have hsome : pWord isWord (t :: r, b) = (t.text, (r, b)) := by
  rw [hT1, if_neg]
  simp_all [tok0]
 refine .kn<|.sr<|.mo rfl<|.mo rfl<|.nc rfl<|.fa rfl<|.lo rfl ?_
 refine .sliceR 1 (r.length + 1) h ⟨_, rfl⟩ rfl (by omega) (by simp) (λ v2 hv2 => ?_)
 rw [show ((t :: r).drop 1).take (r.length + 1 - 1) = r by simp] at hv2
 have iv2 := hv2.oneCell
 refine .nc rfl<|.fa rfl<|.store1 rfl rfl<|.z<|.fa rfl<|.lo rfl<|.az rfl ?_
 refine .ret (retQ_r _ (.one (.tmp rfl)) (pkH [1]) ?_)
 ·first
   |exact ⟨_, rfl, by rw [hnone], by rw [hnone]; exact PaI.nil⟩
   |exact ⟨_, rfl, by rw [hsome]; rfl, by rw [hsome]; exact ⟨⟨v2, rfl, hv2⟩, λ t ht => hok t (List.mem_cons_of_mem _ ht)⟩⟩
theorem tok_none {s : ByteArray} {st : PSt} (h : ∀ t ∈ st.1, tokOK t) (hs : s = tLp \/ s = tRp \/ s = tAnd \/ s = tBar \/ s = tMinus \/ s = tArrow \/ s = tScope) : pTake s st = none := by
 unfold pTake
 split
 ·rfl
 ·rename_i t r e
  have ht := (h t (by rw [e]; exact List.mem_cons_self)).2.2
  rw [if_pos]
  rcases ht with ht | ⟨h1, h2, h3, h4, h5, h6, h7⟩
  ·exact .inl ht
  ·right
   rcases hs with rfl | rfl | rfl | rfl | rfl | rfl | rfl <;> assumption
theorem pword_fit {W : ByteArray -> Bool} {st : PSt} (h : ∀ t ∈ st.1, tokOK t) : (pWord W st).1.size <= 9223372036854775807 := by
 unfold pWord
 split
 ·exact Nat.zero_le _
 ·rename_i t r e
  split
  ·exact Nat.zero_le _
  ·exact (h t (by rw [e]; exact List.mem_cons_self)).2.1
section
variable {R : Rds}
theorem takeN_spec (pb : Nat) (st : PSt) (T : Seg) (hI : PaI R pb st T) (s : ByteArray) (hs : s = tLp \/ s = tRp \/ s = tAnd \/ s = tBar \/ s = tMinus \/ s = tArrow \/ s = tScope) : Spec prog 176 [pT pb, .string s] R [T] λ u H' => ∃ T', H' = [T'] /\ u = .bool false /\ PaI R pb st T' :=
 (take_spec pb st T R hI s).mono λ u H' hu => by
  obtain ⟨T', rfl, rfl, h⟩ := hu
  rw [tok_none hI.ok hs] at h ⊢
  exact ⟨T', rfl, rfl, h⟩
theorem kind_spec (pb : Nat) (st : PSt) (T : Seg) (hI : PaI R pb st T) : Spec prog 265 [pT pb] R [T] λ u H' => ∃ T', H' = [T'] /\ u = .agg (pKind isWord st).1.enc.toArray /\ PaI R pb (pKind isWord st).2 T' := by
 have hk : pKind isWord st = match pTake tUser st with
  | some s => (⟨⟨#[]⟩, ⟨#[]⟩⟩, s)
  | none => (⟨(pWord isWord st).1, (pWord isWord (pMust tHash (pWord isWord st).2)).1⟩, (pWord isWord (pMust tHash (pWord isWord st).2)).2) := rfl
 generalize pKind isWord st = out at *
 refine Spec.body Tryz.func265 rfl Tryz.results265 Tryz.ntmps265 rfl ?_
 refine .sr ?_
 refine .allocA (λ b2 => ?_)
 refine .zs<|.sr<|.mo rfl ?_
 refine .callM (R := R) (take_spec pb st T R hI tUser) (λ u T' hu => ?_)
 obtain ⟨rfl, hI1⟩ := hu
 refine .zn ?_
 refine .cond rfl (λ h1 => ?_) λ h1 => ?_
 obtain ⟨s, hs⟩ := Option.isSome_iff_exists.1 h1
 rw [hs] at hI1 hk
 simp only [Option.getD_some] at hI1 hk
 subst hk
 refine .sr ?_
 refine .q .bld ?_
 refine .storeA rfl rfl<|.zn ?_
 refine .ret (seqQ_r (retQ_r _ (.one (.cellA rfl rfl)) (pkH [1]) ?_))
 ·exact ⟨_, rfl, rfl, hI1⟩
 have hs : pTake tUser st = none := by
  cases hh : pTake tUser st with
  | none => rfl
  | some x => rw [hh] at h1; cases h1
 rw [hs] at hI1 hk
 simp only [Option.getD_none] at hI1 hk
 subst hk
 refine .kn<|.sr<|.mo rfl ?_
 refine .callM (R := R) (pword_spec pb st _ R hI1) (λ u T2 hu => ?_)
 obtain ⟨rfl, hI2⟩ := hu
 refine .q .bld ?_
 refine .allocA (λ b3 => ?_)
 refine .storeA rfl rfl<|.z<|.mo rfl ?_
 refine .callM (R := R) (must_spec pb _ _ R hI2 tHash) (λ u T3 hI3 => ?_)
 refine .z<|.mo rfl ?_
 refine .callM (R := R) (pword_spec pb _ _ R hI3) (λ u T4 hu => ?_)
 obtain ⟨rfl, hI4⟩ := hu
 refine .fa rfl<|.store1 rfl rfl<|.z<|.q (.loadA rfl)<|.storeA rfl rfl<|.zn ?_
 refine .ret (retQ_r _ (.one (.cellA rfl rfl)) (pkH [2]) ?_)
 ·exact ⟨_, rfl, rfl, hI4⟩
def facS (l : List Nd) (st : PSt) : List Nd × PSt :=
 match pTake tThis st with
 | some s => (l ++ [⟨1, ⟨#[]⟩, ⟨#[]⟩, 0, 0⟩], s)
 | none => (l ++ [⟨2, (pWord isWord st).1, ⟨#[]⟩, 0, 0⟩], (pWord isWord st).2)
theorem facS_suf (l : List Nd) (st : PSt) : Suf (facS l st).2 st := by
 unfold facS
 split
 ·rename_i s h; exact (take_suf h).1
 ·exact word_suf st
theorem factor_facS {st : PSt} (h : ∀ t ∈ st.1, tokOK t) (f : Nat) (l : List Nd) : pFactor isWord (f + 1) l st = facS l st := by
 rw [pFactor]
 unfold facS
 cases hh : pTake tThis st with
 | some s => rfl
 | none =>
  rw [tok_none h (by simp)]
  simp only
  rw [tok_none (λ t ht => h t ((word_suf st).mem ht)) (by simp)]
theorem term_facS {st : PSt} (h : ∀ t ∈ st.1, tokOK t) (f : Nat) (l : List Nd) : pTerm (pFactor isWord (f + 1)) l st = facS l st := by
 unfold pTerm
 rw [factor_facS h, termLoop]
 split
 ·rfl
 ·rw [tok_none (λ t ht => h t ((facS_suf l st).mem ht)) (by simp)]
theorem expr_facS {st : PSt} (h : ∀ t ∈ st.1, tokOK t) (f : Nat) (l : List Nd) : pExpr (pFactor isWord (f + 1)) l st = facS l st := by
 unfold pExpr
 rw [term_facS h, exprLoop]
 have h2 : ∀ t ∈ (facS l st).2.1, tokOK t := λ t ht => h t ((facS_suf l st).mem ht)
 have : pOper (facS l st).2 = none := by
  unfold pOper
  rw [tok_none h2 (by simp), tok_none h2 (by simp)]
  rfl
 rw [this]
theorem factor_spec (pb : Nat) (st : PSt) (T : Seg) (hI : PaI R pb st T) (v : Value) (l : List Nd) (Tl : Seg) (hO : OS 168 5 Nd.enc v l Tl) (hl : l.length <= 1000000) : Spec prog 285 [pT pb, v] R [T, Tl] λ u H' => ∃ T' Tl', H' = [T', Tl'] /\ OS 168 5 Nd.enc u (facS l st).1 Tl' /\ PaI R pb (facS l st).2 T' := by
 have hk : facS l st = match pTake tThis st with
  | some s => (l ++ [⟨1, ⟨#[]⟩, ⟨#[]⟩, 0, 0⟩], s)
  | none => (l ++ [⟨2, (pWord isWord st).1, ⟨#[]⟩, 0, 0⟩], (pWord isWord st).2) := rfl
 generalize facS l st = out at *
 have iv := hO.oneCell
 refine Spec.body Tryz.func285 rfl Tryz.results285 Tryz.ntmps285 rfl ?_
 refine .sr<|.ag rfl<|.zs<|.block<|.sr<|.mo rfl ?_
 refine .callM (R := R) (take_spec pb st T R hI tThis) (λ u T' hu => ?_)
 obtain ⟨rfl, hI1⟩ := hu
 refine .az rfl ?_
 refine .cond rfl (λ h1 => ?_) λ h1 => ?_
 obtain ⟨s, hs⟩ := Option.isSome_iff_exists.1 h1
 rw [hs] at hI1 hk
 simp only [Option.getD_some] at hI1 hk
 subst hk
 refine .sr<|.mo rfl ?_
 refine .q .bld ?_
 refine .buildSlice1A (λ b11 => ?_)
 refine .append hO (RS.lits (xs := [(⟨1, ⟨#[]⟩, ⟨#[]⟩, 0, 0⟩ : Nd)]) rfl (by simp [Nd.enc]) (by simp [Nd.enc, oneCell])) (by simp only [List.length_singleton]; omega) (λ v5 T5 hv5 => ?_)
 have i5 := hv5.oneCell
 refine .az rfl ?_
 refine .ret (blkQ_r (seqQ_r (retQ_r _ (.one (.tmp rfl)) (pkH [1, 1]) ?_)))
 ·exact ⟨_, _, rfl, hv5, hI1⟩
 have hs : pTake tThis st = none := by
  cases hh : pTake tThis st with
  | none => rfl
  | some x => rw [hh] at h1; cases h1
 rw [hs] at hI1 hk
 simp only [Option.getD_none] at hI1 hk
 subst hk
 refine .sr<|.mo rfl ?_
 refine .callM (R := R) (takeN_spec pb st _ hI1 tLp (by simp)) (λ u T' hu => ?_)
 obtain ⟨rfl, hI2⟩ := hu
 refine .az rfl<|.condF<|.skip<|blkQ_n<|seqQ_n<|.sr<|.mo rfl ?_
 refine .callM (R := R) (pword_spec pb st _ R hI2) (λ u T2 hu => ?_)
 obtain ⟨rfl, hI3⟩ := hu
 refine .q .bld ?_
 refine .allocA (λ b5 => ?_)
 refine .storeA rfl rfl<|.zs<|.sr<|.mo rfl ?_
 refine .callM (R := R) (takeN_spec pb _ _ hI3 tArrow (by simp)) (λ u T' hu => ?_)
 obtain ⟨rfl, hI4⟩ := hu
 refine .zn<|.condF<|.kn<|.sr<|.mo rfl<|.q (.loadA rfl) ?_
 refine .buildSlice1A (λ b33 => ?_)
 refine .append hO (RS.lits (xs := [(⟨2, (pWord isWord st).1, ⟨#[]⟩, 0, 0⟩ : Nd)]) rfl (by simp [Nd.enc]) (by simp [Nd.enc, oneCell])) (by simp only [List.length_singleton]; omega) (λ v5 T5 hv5 => ?_)
 have i5 := hv5.oneCell
 refine .az rfl ?_
 refine .ret (retQ_r _ (.one (.tmp rfl)) (pkH [2, 2]) ?_)
 ·exact ⟨_, _, rfl, hv5, hI4⟩
theorem term_spec (pb : Nat) (st : PSt) (T : Seg) (hI : PaI R pb st T) (v : Value) (l : List Nd) (Tl : Seg) (hO : OS 168 5 Nd.enc v l Tl) (hl : l.length <= 1000000) : Spec prog 278 [pT pb, v] R [T, Tl] λ u H' => ∃ T' Tl', H' = [T', Tl'] /\ OS 168 5 Nd.enc u (facS l st).1 Tl' /\ PaI R pb (facS l st).2 T' := by
 have iv := hO.oneCell
 refine Spec.body Tryz.func278 rfl Tryz.results278 Tryz.ntmps278 rfl ?_
 refine .sr<|.ag rfl<|.z<|.mo rfl<|.mo rfl ?_
 refine .call [0, 0] (factor_spec (R := Rx R []) pb st T ⟨hI.h.imp λ v h => ⟨h.1, h.2.rx⟩, hI.ok⟩ v l Tl hO hl) (λ u H' hu => ?_)
 obtain ⟨T1, Tl1, rfl, hO1, hI1⟩ := hu
 have hI1 : PaI R pb (facS l st).2 T1 := ⟨hI1.h.imp λ v h => ⟨h.1, h.2.mono λ b o hb => hb.elim id λ hb => (by cases hb)⟩, hI1.ok⟩
 have i1 := hO1.oneCell
 conv => arg 8; simp only [rest, dropAt, List.cons_append, List.nil_append]
 refine .ag rfl<|.zs<|.block ?_
 refine .loopS [(0, _)] (X := Seg) (λ T => PaI R pb (facS l st).2 T) (λ _ E => (1, _) :: E) (λ T G => T :: G) (λ _ => 0) T1 hI1 kE.c.c rH ?_
 rintro T2 hI2
 obtain ⟨⟨v2, hT2, hr2⟩, hok2⟩ := hI2
 have hI2 : PaI R pb (facS l st).2 T2 := ⟨⟨v2, hT2, hr2⟩, hok2⟩
 have i2 := hr2.oneCell
 have ps2 : PS T2 (pT pb) [v2, .bool (facS l st).2.2] := PS.of (E := 237) (fr := (0, 0)) (by rw [hT2]; simp)
 refine .seq<|.seq ?_
 refine Tri.cutS [(0, _), (1, _)] kE.c.c (X := Seg) (λ T => PaI R pb (facS l st).2 T) (λ _ E => (17, .bool false) :: E) (λ T => [T, Tl1]) ?_ ?_
 refine .region<|.mo rfl<|.nc rfl<|.fa rfl<|.lo rfl<|.q .not<|.mo rfl ?_
 refine .split (t := 14) rfl (λ g2_5 => ?_) (λ g2_5 => ?_)
 refine .gT g2_5<|.mo rfl<|.gT g2_5 ?_
 refine .callM (R := R) (takeN_spec pb _ _ hI2 tAnd (by simp)) (λ u T' hu => ?_)
 obtain ⟨rfl, hI3⟩ := hu
 refine .q (.pickTh g2_5) ?_
 refine .nil ?_
 ·first
   |exact joinQ_n _ hI3 kE.c.c.c rH
   |exact joinQ_n _ hI2 kE.c.c.c rH
 refine .gF g2_5<|.gF g2_5<|.q (.pickFh g2_5) ?_
 refine .nil ?_
 ·first
   |exact joinQ_n _ hI3 kE.c.c.c rH
   |exact joinQ_n _ hI2 kE.c.c.c rH
 intro y hy
 refine seqQ_n<|.condF<|.exit<|seqQ_x<|loopQ_x<|blkQ_x<|seqQ_n<|.sr<|.mo rfl<|.az rfl ?_
 refine .ret (retQ_r _ (.one (.tmp rfl)) rH ?_)
 ·exact ⟨_, _, rfl, hO1, by assumption⟩
theorem oper_spec (pb : Nat) (st : PSt) (T : Seg) (hI : PaI R pb st T) : Spec prog 279 [pT pb] R [T] λ u H' => ∃ T', H' = [T'] /\ u = .int .i64 0 /\ PaI R pb st T' := by
 refine Spec.body Tryz.func279 rfl Tryz.results279 Tryz.ntmps279 rfl ?_
 refine .sr<|.ag rfl<|.zs<|.block<|.sr<|.mo rfl ?_
 refine .callM (R := R) (takeN_spec pb _ _ hI tBar (by simp)) (λ u T' hu => ?_)
 obtain ⟨rfl, hI1⟩ := hu
 refine .az rfl<|.condF<|.sr<|.mo rfl ?_
 refine .callM (R := R) (takeN_spec pb _ _ hI1 tMinus (by simp)) (λ u T' hu => ?_)
 obtain ⟨rfl, hI2⟩ := hu
 refine .az rfl<|.condF<|.skip<|blkQ_n<|seqQ_n<|.sr<|.az rfl ?_
 refine .ret (retQ_r _ (.one (.tmp rfl)) rH ?_)
 ·exact ⟨_, rfl, rfl, hI2⟩
theorem expr_spec (pb : Nat) (st : PSt) (T : Seg) (hI : PaI R pb st T) (v : Value) (l : List Nd) (Tl : Seg) (hO : OS 168 5 Nd.enc v l Tl) (hl : l.length <= 1000000) : Spec prog 266 [pT pb, v] R [T, Tl] λ u H' => ∃ T' Tl', H' = [T', Tl'] /\ OS 168 5 Nd.enc u (facS l st).1 Tl' /\ PaI R pb (facS l st).2 T' := by
 have iv := hO.oneCell
 refine Spec.body Tryz.func266 rfl Tryz.results266 Tryz.ntmps266 rfl ?_
 refine .sr<|.ag rfl<|.z<|.mo rfl<|.mo rfl ?_
 refine .call [0, 0] (term_spec (R := Rx R []) pb st T ⟨hI.h.imp λ v h => ⟨h.1, h.2.rx⟩, hI.ok⟩ v l Tl hO hl) (λ u H' hu => ?_)
 obtain ⟨T1, Tl1, rfl, hO1, hI1⟩ := hu
 have hI1 : PaI R pb (facS l st).2 T1 := ⟨hI1.h.imp λ v h => ⟨h.1, h.2.mono λ b o hb => hb.elim id λ hb => (by cases hb)⟩, hI1.ok⟩
 have i1 := hO1.oneCell
 conv => arg 8; simp only [rest, dropAt, List.cons_append, List.nil_append]
 refine .ag rfl<|.zs<|.sr<|.mo rfl ?_
 refine .callM (R := R) (oper_spec pb _ _ hI1) (λ u T' hu => ?_)
 obtain ⟨rfl, hI2⟩ := hu
 refine .az rfl<|.block ?_
 refine .loopS [(0, _)] (X := Unit) (λ _ => True) (λ _ E => (5, .int .i64 0) :: (1, _) :: E) (λ _ G => G) (λ _ => 0) () trivial kE.c.c.c rH ?_
 rintro _ _
 refine .seq<|.sr<|.mo rfl<|.q .neI<|.mo rfl ?_
 refine .split (t := 14) rfl (λ g3_2 => ?_) (λ g3_2 => ?_)
 ·cases g3_2
 refine .gF g3_2<|.gF g3_2<|.gF g3_2<|.gF g3_2<|.gF g3_2<|.q (.pickFh g3_2) ?_
 refine .zn<|.condF<|.exit<|seqQ_x<|loopQ_x<|blkQ_x<|seqQ_n<|.sr<|.mo rfl<|.az rfl ?_
 refine .ret (retQ_r _ (.one (.tmp rfl)) rH ?_)
 ·exact ⟨_, _, rfl, hO1, hI2⟩
end
theorem leaf_spec (n : Nd) (hf : n.fits) (R : Rds) : Spec prog 247 [.agg n.enc.toArray] R [] λ u H' => u = .bool (n.leaf isWord) /\ H' = [] := by
 obtain ⟨k, rel, thn, a, b⟩ := n
 obtain ⟨f1, f2⟩ := hf
 simp only at f1 f2
 refine Spec.body Tryz.func247 rfl Tryz.results247 Tryz.ntmps247 rfl<|.sr ?_
 refine .boxA rfl (λ b1 => ?_)
 refine .ag rfl<|.zs<|.seq ?_
 refine Tri.cutS [(1, _)] kE.c (X := Unit) (λ _ => True) (λ _ E => (10, .bool (!(a == 0 && b == 0))) :: E) (λ _ => [bl b1 (Nd.enc ⟨k, rel, thn, a, b⟩) 168]) ?_ ?_
 refine .region<|.fa rfl<|.lo rfl<|.q .neI<|.mo rfl<|.split (t := 6) rfl (λ g1_3 => ?_) (λ g1_3 => ?_)
 refine .gF g1_3<|.gF g1_3<|.gF g1_3<|.q (.pickTh g1_3)<|.nil ?_
 ·exact joinQ_n () trivial (kE.c.consB rfl (by grind)) rH
 refine .gT g1_3<|.fa rfl<|.gT g1_3<|.lo rfl<|.gT g1_3<|.q .neI<|.q (.pickFh g1_3)<|.nil ?_
 ·exact joinQ_n () trivial (kE.c.consB rfl (by grind)) rH
 intro y hy
 refine seqQ_n<|.cond rfl (λ h1 => ?_) λ h1 => ?_
 refine .sr<|.az rfl<|.ret (seqQ_r (rq1 rfl ?_))
 ·refine ⟨congrArg _ ?_, rfl⟩
  simp only [Nd.leaf]
  grind
 refine .kn<|.seq<|.sr<|.fa rfl<|.lo rfl<|.zn<|.block<|.sr<|.q .eqI<|.az rfl<|.cond rfl (λ h2 => ?_) λ h2 => ?_
 refine .sr<|.fa rfl<|.lo rfl<|.q .eqS<|.mo rfl<|.split (t := 18) rfl (λ g5_3 => ?_) (λ g5_3 => ?_)
 refine .gT g5_3<|.fa rfl<|.gT g5_3<|.lo rfl<|.gT g5_3<|.q .eqS<|.q (.pickTh g5_3)<|.az rfl<|.ret (blkQ_r (seqQ_r (rq1 rfl ?_)))
 ·refine ⟨congrArg _ ?_, rfl⟩
  simp only [Nd.leaf]
  grind
 refine .gF g5_3<|.gF g5_3<|.gF g5_3<|.q (.pickFh g5_3)<|.az rfl<|.ret (blkQ_r (seqQ_r (rq1 rfl ?_)))
 ·refine ⟨congrArg _ ?_, rfl⟩
  simp only [Nd.leaf]
  grind
 refine .sr<|.q .eqI<|.az rfl<|.cond rfl (λ h3 => ?_) λ h3 => ?_
 refine .sr<|.fa rfl<|.lo rfl<|.callR (word_spec rel f1 _) (λ u hu => ?_)
 subst hu
 refine .mo rfl<|.split (t := 28) rfl (λ g7_3 => ?_) (λ g7_3 => ?_)
 refine .gT g7_3<|.fa rfl<|.gT g7_3<|.lo rfl<|.gT g7_3<|.q .eqS<|.q (.pickTh g7_3)<|.az rfl<|.ret (blkQ_r (seqQ_r (rq1 rfl ?_)))
 ·refine ⟨congrArg _ ?_, rfl⟩
  simp only [Nd.leaf]
  grind
 refine .gF g7_3<|.gF g7_3<|.gF g7_3<|.q (.pickFh g7_3)<|.az rfl<|.ret (blkQ_r (seqQ_r (rq1 rfl ?_)))
 ·refine ⟨congrArg _ ?_, rfl⟩
  simp only [Nd.leaf]
  grind
 refine .sr<|.q .eqI<|.az rfl<|.cond rfl (λ h4 => ?_) λ h4 => ?_
 refine .sr<|.fa rfl<|.lo rfl<|.callR (word_spec rel f1 _) (λ u hu => ?_)
 subst hu
 refine .mo rfl<|.split (t := 38) rfl (λ g9_3 => ?_) (λ g9_3 => ?_)
 refine .gT g9_3<|.fa rfl<|.gT g9_3<|.lo rfl<|.gT g9_3<|.callR (word_spec thn f2 _) (λ u hu => ?_)
 subst hu
 refine .q (.pickTh g9_3)<|.az rfl<|.ret (blkQ_r (seqQ_r (rq1 rfl ?_)))
 ·refine ⟨congrArg _ ?_, rfl⟩
  simp only [Nd.leaf]
  grind
 refine .gF g9_3<|.gF g9_3<|.gF g9_3<|.q (.pickFh g9_3)<|.az rfl<|.ret (blkQ_r (seqQ_r (rq1 rfl ?_)))
 ·refine ⟨congrArg _ ?_, rfl⟩
  simp only [Nd.leaf]
  grind
 refine .skip<|blkQ_n<|seqQ_n<|.sr<|.az rfl<|.ret (rq1 rfl ?_)
 ·refine ⟨congrArg _ ?_, rfl⟩
  simp only [Nd.leaf]
  grind
theorem dsteps_app (W : ByteArray -> Bool) : ∀ (a b : List Nd) (S : List (Nat × Nat)), dsteps W (a ++ b) S = (dsteps W a S).bind (dsteps W b)
 | [], b, S => rfl
 | n :: a, b, S => by
  rw [List.cons_append, dsteps, dsteps]
  cases dstep W S n with
  | none => rfl
  | some S' => exact dsteps_app W a b S'
theorem set_grow {α : Type} {A : List α} {i k : Nat} {x z : α} (hA : A.length = i) : (A ++ List.replicate (k + 1) z).set i x = (A ++ [x]) ++ List.replicate k z := by
 subst hA
 rw [List.set_append_right _ _ (Nat.le_refl _), Nat.sub_self, List.replicate_succ, List.set_cons_zero]
 simp
theorem grow_get {A : List Nat} {j k : Nat} {a : Nat} (h : A[j]? = some a) : (A ++ List.replicate k 0)[j]? = some a := by
 rw [List.getElem?_append_left (List.getElem?_eq_some_iff.1 h).1]
 exact h
def dbad (S : List (Nat × Nat)) (n : Nd) : Prop := n.rel ≠ ⟨#[]⟩ \/ n.thn ≠ ⟨#[]⟩ \/ n.b ≠ (S.length : Int) - 1 \/ n.b < 0 \/ n.a ≠ (S.length : Int) - 1 - (S.getD (S.length - 1) (0, 0)).1 \/ n.a < 0
instance (S : List (Nat × Nat)) (n : Nd) : Decidable (dbad S n) := by unfold dbad; infer_instance
theorem dstep_bad {S : List (Nat × Nat)} {n : Nd} (ho : n.op = true) (h : dbad S n) : dstep isWord S n = none := by
 unfold dstep
 rw [if_pos ho]
 exact if_pos h
theorem dstep_good {S : List (Nat × Nat)} {n : Nd} (ho : n.op = true) (h : ¬ dbad S n) : dstep isWord S n = some (S ++ [((S.getD n.a.toNat (0, 0)).1 + (S.getD n.b.toNat (0, 0)).1 + 1, max (S.getD n.a.toNat (0, 0)).2 (S.getD n.b.toNat (0, 0)).2 + 1)]) := by
 unfold dstep
 rw [if_pos ho]
 exact if_neg h
theorem deep_none {l : List Nd} {i : Nat} {n : Nd} {S : List (Nat × Nat)} (hn : l[i]? = some n) (hS : dsteps isWord (l.take i) [] = some S) (h : dstep isWord S n = none) : deepC isWord l = 0 := by
 have hl : l = l.take i ++ n :: l.drop (i + 1) := by
  rw [<- List.take_append_drop i l]
  congr 1
  ·rw [List.take_append_drop]
  ·rw [List.take_append_drop]; exact drop_at hn
 have : dsteps isWord l [] = none := by
  rw [hl, dsteps_app, hS, Option.bind_some, dsteps, h]
  rfl
 unfold deepC
 rw [this]
theorem deep_spec (v : Value) (l : List Nd) (R : Rds) (h : RS R 5 Nd.enc v l) (hf : ∀ x ∈ l, x.fits) (hlen : l.length <= 1000000) :
    Spec prog 193 [v] R [] λ u H' => u = .int .i64 (deepD isWord l : Nat) /\ H' = [] := by
  rw [<- deep_doc]
  have iv := h.oneCell
  refine Spec.body Tryz.func193 rfl Tryz.results193 Tryz.ntmps193 rfl ?_
  refine .sr<|.ag rfl<|.zs ?_
  refine Tri.cutS [(0, _)] kE.c (X := (Nat × Seg) × (Nat × Seg)) (λ y => OS 3 1 encNt (.slice (some ⟨y.1.1, 0, none⟩) l.length l.length) (List.replicate l.length 0) y.1.2 /\ OS 3 1 encNt (.slice (some ⟨y.2.1, 0, none⟩) l.length l.length) (List.replicate l.length 0) y.2.2) (λ y E => (3, .slice (some ⟨y.1.1, 0, none⟩) l.length l.length) :: (4, .slice (some ⟨y.2.1, 0, none⟩) l.length l.length) :: E) (λ y => [y.1.2, y.2.2]) ?_ ?_
  refine .region_all [2, 5] mixed ?_
  refine .tK 0 rfl .move ?_
  refine .tK 1 rfl (.lenR h) ?_
  refine .tK 3 rfl .move ?_
  refine .tK 4 rfl (.lenR h) ?_
  refine RA.step2 2 5 rfl rfl (by kernel_rfl) rfl ?_ ?_
  refine .makeSlice (enc := encNt) l.length 0 rfl rfl (by decide) (by simp [encNt, oneCell]) rfl rfl (by omega) (by omega) (λ bA TA hA => ?_)
  refine .nil (Next.mod rfl ?_)
  refine .tK 6 rfl .assign ?_
  refine .sT 5 rfl ?_
  refine .makeSlice (enc := encNt) l.length 0 rfl rfl (by decide) (by simp [encNt, oneCell]) rfl rfl (by omega) (by omega) (λ bB TB hB => ?_)
  refine .nil (Next.mod rfl ?_)
  refine .tK 7 rfl .assign ?_
  refine RA.nil (by kernel_rfl) ?_
  · first
      | exact joinQ_n ((bA, TA), (bB, TB)) ⟨hA, hB⟩ kE.c.c.c (pkH [0, 0])
      | exact joinQ_n ((bA, TA), (bB, TB)) ⟨hA, hB⟩ kE.c.c.c (pkH [1, 0])
  refine .makeSlice (enc := encNt) l.length 0 rfl rfl (by decide) (by simp [encNt, oneCell]) rfl rfl (by omega) (by omega) (λ bB TB hB => ?_)
  refine .nil (Next.mod rfl ?_)
  refine .sT 2 rfl ?_
  refine .makeSlice (enc := encNt) l.length 0 rfl rfl (by decide) (by simp [encNt, oneCell]) rfl rfl (by omega) (by omega) (λ bA TA hA => ?_)
  refine .nil (Next.mod rfl ?_)
  refine .tK 6 rfl .assign<|.tK 7 rfl .assign ?_
  refine RA.nil (by kernel_rfl) ?_
  · first
      | exact joinQ_n ((bA, TA), (bB, TB)) ⟨hA, hB⟩ kE.c.c.c (pkH [0, 0])
      | exact joinQ_n ((bA, TA), (bB, TB)) ⟨hA, hB⟩ kE.c.c.c (pkH [1, 0])
  intro y hy
  obtain ⟨⟨bA, TA⟩, ⟨bB, TB⟩⟩ := y
  obtain ⟨hA, hB⟩ := hy
  simp only at hA hB ⊢
  refine seqQ_n<|.seq<|.sr<|.mo rfl<|.q (.lenR h) ?_
  refine .mo rfl<|.zn<|.block ?_
  refine .loopS [(0, _), (3, _), (4, _), (13, _), (14, _)] (X := Nat × List (Nat × Nat) × Seg × Seg) (λ y => y.1 <= l.length /\ y.2.1.length = y.1 /\ dsteps isWord (l.take y.1) [] = some y.2.1 /\ DI isWord l y.2.1 /\ OS 3 1 encNt (.slice (some ⟨bA, 0, none⟩) l.length l.length) (y.2.1.map (·.1) ++ List.replicate (l.length - y.1) 0) y.2.2.1 /\ OS 3 1 encNt (.slice (some ⟨bB, 0, none⟩) l.length l.length) (y.2.1.map (·.2) ++ List.replicate (l.length - y.1) 0) y.2.2.2) (λ y E => (15, iN y.1) :: E) (λ y _ => [y.2.2.1, y.2.2.2]) (λ y => l.length - y.1) (0, [], TA, TB) ⟨Nat.zero_le _, rfl, rfl, ⟨Nat.zero_le _, λ j hj => absurd hj (by simp)⟩, by simpa using hA, by simpa using hB⟩ kE.c.c.c.c.c.c rH (G := []) ?_
  rintro ⟨i, S, TA, TB⟩ ⟨hi, hSl, hS, hDI, hA, hB⟩
  simp only at hi hSl hS hDI hA hB ⊢
  refine .sr<|.q .lss<|.zs ?_
  refine .cond rfl (λ h1 => ?_) λ h1 => ?_
  have hlt : i < l.length := lt_i h1
  obtain ⟨n, hn⟩ := exg hlt
  obtain ⟨k, hk⟩ : ∃ k, l.length - i = k + 1 := ⟨l.length - i - 1, by omega⟩
  have hk' : l.length - (i + 1) = k := by omega
  rw [hk] at hA hB
  have hSn : dsteps isWord (l.take (i + 1)) [] = dstep isWord S n := by
    rw [take_next hn, dsteps_app, hS, Option.bind_some, dsteps]
    cases dstep isWord S n <;> rfl
  have hm1 : (S.map (·.1)).length = i := by rw [List.length_map, hSl]
  have hm2 : (S.map (·.2)).length = i := by rw [List.length_map, hSl]
  have hgi : ∀ j, j < i -> (S.map (·.1))[j]? = some (S.getD j (0, 0)).1 /\ (S.map (·.2))[j]? = some (S.getD j (0, 0)).2 /\ (S.getD j (0, 0)).1 <= j + 1 /\ (S.getD j (0, 0)).2 <= j + 1 /\ 1 <= (S.getD j (0, 0)).1 := λ j hj => by
    obtain ⟨d1, d2, d3⟩ := hDI.t j (by omega)
    have d4 := tree_depth _ _ _ d3
    refine ⟨?_, ?_, d2, d4, d1⟩
    · rw [List.getElem?_map, gge (by omega), List.getD_eq_getElem?_getD, gge (by omega)]; rfl
    · rw [List.getElem?_map, gge (by omega), List.getD_eq_getElem?_getD, gge (by omega)]; rfl
  obtain ⟨z1, hz1⟩ : ∃ z, (S.map (·.1) ++ List.replicate (k + 1) 0)[i]? = some z := ⟨_, gge (by rw [List.length_append, hm1, List.length_replicate]; omega)⟩
  obtain ⟨z2, hz2⟩ : ∃ z, (S.map (·.2) ++ List.replicate (k + 1) 0)[i]? = some z := ⟨_, gge (by rw [List.length_append, hm2, List.length_replicate]; omega)⟩
  have hle := h.le
  refine .kn<|.seq<|.block<|.sr<|.mo rfl ?_
  refine .indexR i h hn (λ p18 => ?_)
  refine .q (.loadA rfl) ?_
  refine .allocA (λ b6 => ?_)
  refine .ag rfl<|.storeA rfl rfl<|.zs<|.seq ?_
  refine Tri.cutS [(0, _), (3, _), (4, _), (5, _), (6, _), (13, _), (14, _), (15, _)] kE.c.c.c.c.c.c.c.c (X := Unit) (λ _ => True) (λ _ E => (32, .bool (!n.op)) :: E) (λ _ => [bl b6 n.enc 168, TA, TB]) ?_ ?_
  refine .region<|.fa rfl<|.lo rfl<|.q .neI<|.mo rfl ?_
  refine .split (t := 23) rfl (λ g5_3 => ?_) (λ g5_3 => ?_)
  refine .gT g5_3<|.fa rfl<|.gT g5_3<|.lo rfl<|.gT g5_3<|.q .neI<|.q (.pickTh g5_3) ?_
  refine .mo rfl ?_
  refine .split (t := 28) rfl (λ g5_8 => ?_) (λ g5_8 => ?_)
  refine .gT g5_8<|.fa rfl<|.gT g5_8<|.lo rfl<|.gT g5_8<|.q .neI<|.q (.pickTh g5_8) ?_
  refine .nil ?_
  · exact joinQ_n () trivial (kE.c.c.c.c.c.c.c.c.consB rfl (by clear hgi hDI hA hB hf; grind [Nd.op])) rH
  refine .gF g5_8<|.gF g5_8<|.gF g5_8<|.q (.pickFh g5_8) ?_
  refine .nil ?_
  · exact joinQ_n () trivial (kE.c.c.c.c.c.c.c.c.consB rfl (by clear hgi hDI hA hB hf; grind [Nd.op])) rH
  refine .gF g5_3<|.gF g5_3<|.gF g5_3<|.q (.pickFh g5_3) ?_
  refine .mo rfl<|.gX<|.gX<|.gX<|.q .pickF<|.nil ?_
  · exact joinQ_n () trivial (kE.c.c.c.c.c.c.c.c.consB rfl (by clear hgi hDI hA hB hf; grind [Nd.op])) rH
  intro y hy
  refine seqQ_n ?_
  refine .cond rfl (λ h2 => ?_) λ h2 => ?_
  refine .seq<|.sr<|.q (.loadA rfl) ?_
  refine .callR (leaf_spec n (hf n (mog hn)) _) (λ u hu => ?_)
  subst hu
  refine .q .not<|.zn ?_
  refine .cond rfl (λ h3 => ?_) λ h3 => ?_
  refine .sr<|.az rfl ?_
  refine .ret (seqQ_r (seqQ_r (blkQ_r (seqQ_r (loopQ_r (blkQ_r (seqQ_r (rq1 rfl ?_))))))))
  · refine ⟨?_, rfl⟩
    rw [deep_none hn hS (by unfold dstep; rw [if_neg (by have hno : n.op = false := by simpa using h2
                                                         rw [hno]; simp), if_neg (by simpa using h3)])]
    rfl
  have hno : n.op = false := by simpa using h2
  have hlf : n.leaf isWord = true := by simpa using h3
  have hds : dstep isWord S n = some (S ++ [(1, 1)]) := by unfold dstep; rw [if_neg (by rw [hno]; simp), if_pos hlf]
  refine .kn<|.sr<|.mo rfl<|.mo rfl<|.mo rfl<|.mo rfl ?_
  refine .indexO i hA hz1 (λ p40 => ?_)
  refine .storeO1 i hA hz1 1 (λ T1 hA1 => ?_)
  rw [set_grow hm1] at hA1
  refine .indexO i hB hz2 (λ p41 => ?_)
  refine .storeO1 i hB hz2 1 (λ T2 hB1 => ?_)
  rw [set_grow hm2] at hB1
  refine .zn<|.exit<|seqQ_x<|blkQ_x<|seqQ_n<|.region ?_
  refine .ia (i + 1) .add ?_
  refine .mo rfl<|.nil ?_
  · first
      | exact loopQ_i (i + 1, S ++ [(1, 1)], T1, T2) ⟨hlt, by simp [hSl], by simp only; rw [hSn, hds], hDI.step (by rw [hSl]; exact hn) hds, by simp only; rw [hk', List.map_append]; exact hA1, by simp only; rw [hk', List.map_append]; exact hB1⟩ (by simp only; omega) kE.c.c.c.c.c.c (pkH [1, 1])
      | exact loopQ_i (i + 1, S ++ [((S.getD n.a.toNat (0, 0)).1 + (S.getD (i - 1) (0, 0)).1 + 1, max (S.getD n.a.toNat (0, 0)).2 (S.getD (i - 1) (0, 0)).2 + 1)], T1, T2) ⟨hlt, by simp [hSl], by simp only; rw [hSn, hds], hDI.step (by rw [hSl]; exact hn) hds, by simp only; rw [hk', List.map_append]; exact hA1, by simp only; rw [hk', List.map_append]; exact hB1⟩ (by simp only; omega) kE.c.c.c.c.c.c (pkH [1, 1])
  refine .kn<|.seq<|.seq ?_
  refine Tri.cutS [(0, _), (3, _), (4, _), (5, _), (6, _), (13, _), (14, _), (15, _)] kE.c.c.c.c.c.c.c.c (X := Unit) (λ _ => True) (λ _ E => (79, .bool (decide (n.rel ≠ ⟨#[]⟩ \/ n.thn ≠ ⟨#[]⟩ \/ n.b ≠ (i : Int) - 1 \/ n.b < 0 \/ n.a ≠ (i : Int) - 1 - ((S.getD (i - 1) (0, 0)).1 : Nat) \/ n.a < 0))) :: E) (λ _ => [bl b6 n.enc 168, TA, TB]) ?_ ?_
  refine .region_still mixed (by kernel_rfl) ?_
  refine .fa rfl<|.lo rfl<|.q .neS<|.mo rfl ?_
  refine .split (t := 45) rfl (λ g9_3 => ?_) (λ g9_3 => ?_)
  refine .gF g9_3<|.gF g9_3<|.gF g9_3<|.q (.pickTh g9_3) ?_
  refine .mo rfl<|.gX<|.gX<|.gX<|.gX<|.gX<|.q .pickT<|.mo rfl<|.gX<|.gX<|.gX<|.q .pickT<|.mo rfl<|.gX<|.gX<|.gX<|.gX<|.gX<|.gX<|.gX<|.gX<|.gX<|.gX<|.gX<|.q .pickT<|.mo rfl<|.gX<|.gX<|.gX<|.q .pickT<|.nil ?_
  · exact joinQ_n () trivial (kE.c.c.c.c.c.c.c.c.consB rfl (by clear hgi hDI hA hB hf; grind)) rH
  refine .gT g9_3<|.fa rfl<|.gT g9_3<|.lo rfl<|.gT g9_3<|.q .neS<|.q (.pickFh g9_3) ?_
  refine .mo rfl ?_
  refine .split (t := 50) rfl (λ g9_8 => ?_) (λ g9_8 => ?_)
  refine .gF g9_8<|.gF g9_8<|.gF g9_8<|.gF g9_8<|.gF g9_8<|.q (.pickTh g9_8) ?_
  refine .mo rfl<|.gX<|.gX<|.gX<|.q .pickT<|.mo rfl<|.gX<|.gX<|.gX<|.gX<|.gX<|.gX<|.gX<|.gX<|.gX<|.gX<|.gX<|.q .pickT<|.mo rfl<|.gX<|.gX<|.gX<|.q .pickT<|.nil ?_
  · exact joinQ_n () trivial (kE.c.c.c.c.c.c.c.c.consB rfl (by clear hgi hDI hA hB hf; grind)) rH
  refine .gT g9_8<|.fa rfl<|.gT g9_8<|.lo rfl<|.gT g9_8<|.mo rfl<|.gT g9_8 ?_
  refine .q (.i64 ((i : Int) - 1) .sub ⟨rfl, by omega, by omega⟩) ?_
  refine .gT g9_8<|.q .neI<|.q (.pickFh g9_8) ?_
  refine .mo rfl ?_
  refine .split (t := 57) rfl (λ g9_15 => ?_) (λ g9_15 => ?_)
  refine .gF g9_15<|.gF g9_15<|.gF g9_15<|.q (.pickTh g9_15) ?_
  refine .mo rfl<|.gX<|.gX<|.gX<|.gX<|.gX<|.gX<|.gX<|.gX<|.gX<|.gX<|.gX<|.q .pickT<|.mo rfl<|.gX<|.gX<|.gX<|.q .pickT<|.nil ?_
  · exact joinQ_n () trivial (kE.c.c.c.c.c.c.c.c.consB rfl (by clear hgi hDI hA hB hf; grind)) rH
  refine .gT g9_15<|.fa rfl<|.gT g9_15<|.lo rfl<|.gT g9_15<|.q .lss<|.q (.pickFh g9_15) ?_
  refine .mo rfl ?_
  refine .split (t := 62) rfl (λ g9_20 => ?_) (λ g9_20 => ?_)
  refine .gF g9_20<|.gF g9_20<|.gF g9_20<|.gF g9_20<|.gF g9_20<|.gF g9_20<|.gF g9_20<|.gF g9_20<|.gF g9_20<|.gF g9_20<|.gF g9_20<|.q (.pickTh g9_20) ?_
  refine .mo rfl<|.gX<|.gX<|.gX<|.q .pickT<|.nil ?_
  · exact joinQ_n () trivial (kE.c.c.c.c.c.c.c.c.consB rfl (by clear hgi hDI hA hB hf; grind)) rH
  have hi1 : 1 <= i := by clear hgi hDI hA hB; grind
  obtain ⟨q1, q2, q3, q4, q5⟩ := hgi (i - 1) (by omega)
  have q1' := grow_get (k := k + 1) q1
  refine .gT g9_20<|.fa rfl<|.gT g9_20<|.lo rfl<|.gT g9_20<|.mo rfl<|.gT g9_20 ?_
  refine .q (.i64 ((i : Int) - 1) .sub ⟨rfl, by omega, by omega⟩) ?_
  refine .gT g9_20<|.mo rfl<|.gT g9_20<|.mo rfl<|.gT g9_20 ?_
  refine .q (.i64 ((i : Int) - 1) .sub ⟨rfl, by omega, by omega⟩) ?_
  refine .gT g9_20 ?_
  refine .indexO (i - 1) hA q1' (λ p70 => ?_) rfl rfl (by omega)
  refine .gT g9_20<|.lo rfl<|.gT g9_20 ?_
  refine .q (.i64 ((i : Int) - 1 - ((S.getD (i - 1) (0, 0)).1 : Nat)) .sub ⟨rfl, by omega, by omega⟩) ?_
  refine .gT g9_20<|.q .neI<|.q (.pickFh g9_20) ?_
  refine .mo rfl ?_
  refine .split (t := 75) rfl (λ g9_33 => ?_) (λ g9_33 => ?_)
  refine .gF g9_33<|.gF g9_33<|.gF g9_33<|.q (.pickTh g9_33) ?_
  refine .nil ?_
  · exact joinQ_n () trivial (kE.c.c.c.c.c.c.c.c.consB rfl (by clear hgi hDI hA hB hf; grind)) rH
  refine .gT g9_33<|.fa rfl<|.gT g9_33<|.lo rfl<|.gT g9_33<|.q .lss<|.q (.pickFh g9_33) ?_
  refine .nil ?_
  · exact joinQ_n () trivial (kE.c.c.c.c.c.c.c.c.consB rfl (by clear hgi hDI hA hB hf; grind)) rH
  intro y hy
  refine seqQ_n ?_
  refine .cond rfl (λ h4 => ?_) λ h4 => ?_
  have hop : n.op = true := by simpa using h2
  have hbad : dbad S n := by unfold dbad; rw [hSl]; exact odt h4
  refine .sr<|.az rfl ?_
  refine .ret (seqQ_r (blkQ_r (seqQ_r (loopQ_r (blkQ_r (seqQ_r (rq1 rfl ?_)))))))
  · refine ⟨?_, rfl⟩
    rw [deep_none hn hS (dstep_bad hop hbad)]
    rfl
  have hop : n.op = true := by simpa using h2
  have hbad : ¬ dbad S n := by unfold dbad; rw [hSl]; exact odf h4
  have hb2 := hbad
  unfold dbad at hb2
  simp only [not_or, Decidable.not_not, hSl] at hb2
  obtain ⟨b1_, b2_, b3_, b4_, b5_, b6_⟩ := hb2
  obtain ⟨q1, q2, q3, q4, q5⟩ := hgi (i - 1) (by omega)
  obtain ⟨r1, r2, r3, r4, r5⟩ := hgi n.a.toNat (by omega)
  have hbi : n.b.toNat = i - 1 := by omega
  have q1' := grow_get (k := k + 1) q1
  have q2' := grow_get (k := k + 1) q2
  have r1' := grow_get (k := k + 1) r1
  have r2' := grow_get (k := k + 1) r2
  have hds : dstep isWord S n = some (S ++ [((S.getD n.a.toNat (0, 0)).1 + (S.getD (i - 1) (0, 0)).1 + 1, max (S.getD n.a.toNat (0, 0)).2 (S.getD (i - 1) (0, 0)).2 + 1)]) := by
    rw [dstep_good hop hbad, hbi]
  refine .kn<|.seq ?_
  refine .region_tail 15 mixed (by kernel_rfl) ?_
  conv => arg 6; dsimp only [List.take]
  refine .mo rfl<|.mo rfl<|.mo rfl<|.fa rfl<|.lo rfl ?_
  refine .indexO n.a.toNat hA r1' (λ p85 => ?_) rfl rfl (by omega)
  refine .lo rfl<|.mo rfl<|.fa rfl<|.lo rfl ?_
  refine .indexO (i - 1) hA q1' (λ p90 => ?_) rfl rfl (by omega)
  refine .lo rfl ?_
  refine .q (.i64 (((S.getD n.a.toNat (0, 0)).1 + (S.getD (i - 1) (0, 0)).1 : Nat) : Int) .add ⟨by push_cast; rfl, by omega, by omega⟩) ?_
  refine .q (.i64 (((S.getD n.a.toNat (0, 0)).1 + (S.getD (i - 1) (0, 0)).1 + 1 : Nat) : Int) .add ⟨by push_cast; rfl, by omega, by omega⟩) ?_
  refine .indexO i hA hz1 (λ p94 => ?_)
  refine .nil ?_
  refine .storeO1 i hA hz1 ((S.getD n.a.toNat (0, 0)).1 + (S.getD (i - 1) (0, 0)).1 + 1) (λ T1 hA1 => ?_)
  rw [set_grow hm1] at hA1
  refine .zn ?_
  refine .region_tail 15 mixed (by kernel_rfl) ?_
  conv => arg 6; dsimp only [List.take]
  refine .mo rfl<|.mo rfl<|.mo rfl<|.fa rfl<|.lo rfl ?_
  refine .indexO n.a.toNat hB r2' (λ p100 => ?_) rfl rfl (by omega)
  refine .lo rfl<|.mo rfl<|.fa rfl<|.lo rfl ?_
  refine .indexO (i - 1) hB q2' (λ p105 => ?_) rfl rfl (by omega)
  refine .lo rfl<|.q .maxI ?_
  refine .q (.i64 ((max (S.getD n.a.toNat (0, 0)).2 (S.getD (i - 1) (0, 0)).2 + 1 : Nat) : Int) .add ⟨by omega, by omega, by omega⟩) ?_
  refine .indexO i hB hz2 (λ p109 => ?_)
  refine .nil ?_
  refine .storeO1 i hB hz2 (max (S.getD n.a.toNat (0, 0)).2 (S.getD (i - 1) (0, 0)).2 + 1) (λ T2 hB1 => ?_)
  rw [set_grow hm2] at hB1
  refine .nil<|blkQ_n<|seqQ_n<|.region ?_
  refine .ia (i + 1) .add ?_
  refine .mo rfl<|.nil ?_
  · first
      | exact loopQ_i (i + 1, S ++ [(1, 1)], T1, T2) ⟨hlt, by simp [hSl], by simp only; rw [hSn, hds], hDI.step (by rw [hSl]; exact hn) hds, by simp only; rw [hk', List.map_append]; exact hA1, by simp only; rw [hk', List.map_append]; exact hB1⟩ (by simp only; omega) kE.c.c.c.c.c.c (pkH [1, 1])
      | exact loopQ_i (i + 1, S ++ [((S.getD n.a.toNat (0, 0)).1 + (S.getD (i - 1) (0, 0)).1 + 1, max (S.getD n.a.toNat (0, 0)).2 (S.getD (i - 1) (0, 0)).2 + 1)], T1, T2) ⟨hlt, by simp [hSl], by simp only; rw [hSn, hds], hDI.step (by rw [hSl]; exact hn) hds, by simp only; rw [hk', List.map_append]; exact hA1, by simp only; rw [hk', List.map_append]; exact hB1⟩ (by simp only; omega) kE.c.c.c.c.c.c (pkH [1, 1])
  have hie : i = l.length := by have := odf h1; omega
  subst hie
  rw [List.take_length] at hS
  rw [Nat.sub_self] at hA hB
  simp only [List.replicate_zero, List.append_nil] at hA hB
  have hle := h.le
  refine .exit<|seqQ_x<|loopQ_x<|blkQ_x<|seqQ_n<|.seq<|.seq ?_
  refine Tri.cutS [(0, _), (4, _)] kE.c.c (X := Unit) (λ _ => True) (λ _ E => (124, .bool (decide (l = [] \/ (S.getD (l.length - 1) (0, 0)).1 ≠ l.length))) :: E) (λ _ => [TA, TB]) ?_ ?_
  refine .region<|.mo rfl<|.q (.lenR h) ?_
  refine .q .eqI<|.mo rfl ?_
  refine .split (t := 114) rfl (λ g14_3 => ?_) (λ g14_3 => ?_)
  refine .gF g14_3<|.gF g14_3<|.gF g14_3<|.gF g14_3<|.gF g14_3<|.gF g14_3<|.gF g14_3<|.gF g14_3<|.gF g14_3<|.q (.pickTh g14_3) ?_
  refine .nil ?_
  · exact joinQ_n () trivial (kE.c.c.consB rfl (by clear hf hDI hA hB; rcases l with _ | ⟨x, l⟩ <;> simp at * <;> grind)) rH
  have hl1 : 1 <= l.length := by have := odf g14_3; omega
  have hgl : (S.map (·.1))[l.length - 1]? = some (S.getD (l.length - 1) (0, 0)).1 := by rw [List.getElem?_map, gge (by omega), List.getD_eq_getElem?_getD, gge (by omega)]; rfl
  refine .gT g14_3<|.mo rfl<|.gT g14_3<|.mo rfl<|.gT g14_3<|.q (.lenR h) ?_
  refine .gT g14_3 ?_
  refine .q (.i64 ((l.length : Int) - 1) .sub ⟨rfl, by omega, by omega⟩) ?_
  refine .gT g14_3 ?_
  refine .indexO (l.length - 1) hA hgl (λ p119 => ?_) rfl rfl (by omega)
  refine .gT g14_3<|.lo rfl<|.gT g14_3<|.mo rfl<|.gT g14_3<|.q (.lenR h) ?_
  refine .gT g14_3<|.q .neI<|.q (.pickFh g14_3) ?_
  refine .nil ?_
  · exact joinQ_n () trivial (kE.c.c.consB rfl (by clear hf hDI hA hB; rcases l with _ | ⟨x, l⟩ <;> simp at * <;> grind)) rH
  intro y hy
  refine seqQ_n ?_
  refine .cond rfl (λ h5 => ?_) λ h5 => ?_
  refine .sr<|.az rfl ?_
  refine .ret (seqQ_r (rq1 rfl ?_))
  · refine ⟨?_, rfl⟩
    unfold deepC
    rw [hS]
    simp only
    rw [if_pos (odt h5)]
    rfl
  have hcn := odf h5
  have hl1 : 1 <= l.length := by rcases l with _ | ⟨x, l⟩ <;> simp at hcn ⊢
  have hgl2 : (S.map (·.2))[l.length - 1]? = some (S.getD (l.length - 1) (0, 0)).2 := by rw [List.getElem?_map, gge (by omega), List.getD_eq_getElem?_getD, gge (by omega)]; rfl
  refine .kn<|.sr<|.mo rfl<|.mo rfl<|.q (.lenR h) ?_
  refine .q (.i64 ((l.length : Int) - 1) .sub ⟨rfl, by omega, by omega⟩) ?_
  refine .indexO (l.length - 1) hB hgl2 (λ p129 => ?_) rfl rfl (by omega)
  refine .lo rfl<|.az rfl ?_
  refine .ret (rq1 rfl ?_)
  · refine ⟨?_, rfl⟩
    unfold deepC
    rw [hS]
    simp only
    rw [if_neg hcn]
theorem Ty.kinds (t : Ty) : HasK [.s, .s] t.enc := ⟨trivial, trivial, trivial⟩
theorem Ty.eq (a b : Ty) : cellsEq a.enc b.enc = decide (a = b) := by
 obtain ⟨a1, a2⟩ := a
 obtain ⟨b1, b2⟩ := b
 rw [Bool.eq_iff_iff]
 simp [Ty.enc, cellsEq, cellEq]
theorem kindOK_spec (t : Ty) (hf : t.fits) (R : Rds) : Spec prog 196 [.agg t.enc.toArray] R [] λ u H' => u = .bool (kindOK isWord t) /\ H' = [] := by
 obtain ⟨s, r⟩ := t
 obtain ⟨f1, f2⟩ := hf
 simp only at f1 f2
 refine Spec.body Tryz.func196 rfl Tryz.results196 Tryz.ntmps196 rfl<|.sr ?_
 refine .boxA rfl (λ b1 => ?_)
 refine .ag rfl<|.z<|.q (.loadA rfl)<|.q .bld<|.q (.cast (.eqA (xs := Ty.enc ⟨s, r⟩) (ys := Ty.enc ⟨⟨#[]⟩, ⟨#[]⟩⟩) rfl rfl (Ty.kinds _) (Ty.kinds _)) (congrArg Value.bool (Ty.eq _ _)))<|.mo rfl<|.split (t := 6) rfl (λ g1_3 => ?_) (λ g1_3 => ?_)
 refine .gF g1_3<|.gF g1_3<|.gF g1_3<|.gF g1_3<|.gfU rfl<|.gfU rfl<|.gfU rfl<|.gF g1_3<|.q (.pickTh g1_3)<|.az rfl<|.ret (rq1 rfl ?_)
 ·refine ⟨congrArg _ ?_, rfl⟩
  simp only [kindOK]
  grind
 refine .gT g1_3<|.fa rfl<|.gT g1_3<|.lo rfl<|.gT g1_3<|.callR (word_spec s f1 _) (λ u hu => ?_)
 subst hu
 refine .gT g1_3<|.mo rfl<|.split (t := 10) rfl (λ g1_7 => ?_) (λ g1_7 => ?_)
 refine .gT g1_7<|.fa rfl<|.gT g1_7<|.lo rfl<|.gT g1_7<|.callR (word_spec r f2 _) (λ u hu => ?_)
 subst hu
 refine .gT g1_3<|.q (.pickTh g1_7)<|.q (.pickFh g1_3)<|.az rfl<|.ret (rq1 rfl ?_)
 ·refine ⟨congrArg _ ?_, rfl⟩
  simp only [kindOK]
  grind
 refine .gF g1_7<|.gF g1_7<|.gF g1_7<|.gT g1_3<|.q (.pickFh g1_7)<|.q (.pickFh g1_3)<|.az rfl<|.ret (rq1 rfl ?_)
 ·refine ⟨congrArg _ ?_, rfl⟩
  simp only [kindOK]
  grind
theorem right1_spec (t : Ty) (hf : t.fits) (R : Rds) : Spec prog 195 [.agg t.enc.toArray] R [] λ u H' => u = .bool (!kindOK isWord t) /\ H' = [] := by
 refine Spec.body Tryz.func195 rfl Tryz.results195 Tryz.ntmps195 rfl<|.sr ?_
 refine .boxA rfl (λ b1 => ?_)
 refine .ag rfl<|.z<|.q (.loadA rfl)<|.callR (kindOK_spec t hf _) (λ u hu => ?_)
 subst hu
 refine .q .not<|.az rfl<|.ret (rq1 rfl ?_)
 ·exact ⟨rfl, rfl⟩
theorem right2_spec (s : Sc) (hf : s.fits) (R : Rds) : Spec prog 198 [.agg s.enc.toArray] R [] λ u H' => u = .bool (!scOK isWord isRef s) /\ H' = [] := by
 obtain ⟨n, os, oi, r⟩ := s
 obtain ⟨f1, f2, f3, f4⟩ := hf
 simp only at f1 f2 f3 f4
 refine Spec.body Tryz.func198 rfl Tryz.results198 Tryz.ntmps198 rfl<|.sr ?_
 refine .boxA rfl (λ b1 => ?_)
 refine .ag rfl<|.z<|.fa rfl<|.lo rfl<|.callR (word_spec n f1 _) (λ u hu => ?_)
 subst hu
 refine .q .not<|.mo rfl<|.split (t := 7) rfl (λ g1_4 => ?_) (λ g1_4 => ?_)
 refine .gF g1_4<|.gF g1_4<|.gF g1_4<|.gF g1_4<|.q (.pickTh g1_4)<|.mo rfl<|.gX<|.gX<|.gX<|.gX<|.q .pickT<|.az rfl<|.ret (rq1 rfl ?_)
 ·refine ⟨congrArg _ ?_, rfl⟩
  simp only [scOK]
  grind
 refine .gT g1_4<|.fa rfl<|.gT g1_4<|.q (.loadT rfl)<|.gT g1_4<|.callR (checkRef_spec os oi f2 f3 _) (λ u hu => ?_)
 subst hu
 refine .gT g1_4<|.q .neI<|.q (.pickFh g1_4)<|.mo rfl<|.split (t := 13) rfl (λ g1_10 => ?_) (λ g1_10 => ?_)
 refine .gF g1_10<|.gF g1_10<|.gF g1_10<|.gF g1_10<|.q (.pickTh g1_10)<|.az rfl<|.ret (rq1 rfl ?_)
 ·refine ⟨congrArg _ ?_, rfl⟩
  simp only [scOK]
  grind
 refine .gT g1_10<|.fa rfl<|.gT g1_10<|.lo rfl<|.gT g1_10<|.callR (word_spec r f4 _) (λ u hu => ?_)
 subst hu
 refine .gT g1_10<|.q .not<|.q (.pickFh g1_10)<|.az rfl<|.ret (rq1 rfl ?_)
 ·refine ⟨congrArg _ ?_, rfl⟩
  simp only [scOK]
  grind
theorem much1_spec (p : RlM) (R : Rds) (h : p.is R) (R' : Rds) (hR : ∀ b o, R b o -> R' b o) : Spec prog 181 [.agg p.enc.toArray] R' [] λ u H' => u = .bool (muchR isWord p.r) /\ H' = [] := by
 obtain ⟨vt, vn, r⟩ := p
 have hrt : RS R 2 Ty.enc vt r.types := h.t
 have hrd : RS R 5 Nd.enc vn r.nodes := h.d
 have irt := hrt.oneCell
 have ird := hrd.oneCell
 refine Spec.body Tryz.func181 rfl Tryz.results181 Tryz.ntmps181 rfl<|.sr ?_
 refine .boxA rfl (λ b1 => ?_)
 refine .ag rfl<|.z<|.fa rfl<|.lo rfl<|.q (.lenR hrt)<|.q .gtr<|.mo rfl<|.split (t := 7) rfl (λ g1_4 => ?_) (λ g1_4 => ?_)
 refine .gF g1_4<|.gF g1_4<|.gF g1_4<|.gF g1_4<|.q (.pickTh g1_4)<|.mo rfl<|.gX<|.gX<|.gX<|.gX<|.q .pickT<|.az rfl<|.ret (rq1 rfl ?_)
 ·refine ⟨congrArg _ ?_, rfl⟩
  simp only [muchR]
  grind
 refine .gT g1_4<|.fa rfl<|.gT g1_4<|.lo rfl<|.gT g1_4<|.q (.lenR hrd)<|.gT g1_4<|.q .gtr<|.q (.pickFh g1_4)<|.mo rfl<|.split (t := 13) rfl (λ g1_10 => ?_) (λ g1_10 => ?_)
 refine .gF g1_10<|.gF g1_10<|.gF g1_10<|.gF g1_10<|.q (.pickTh g1_10)<|.az rfl<|.ret (rq1 rfl ?_)
 ·refine ⟨congrArg _ ?_, rfl⟩
  simp only [muchR]
  grind
 have hn64 : r.nodes.length <= 64 := by grind
 refine .gT g1_10<|.fa rfl<|.gT g1_10<|.lo rfl<|.gT g1_10<|.callR ((deep_spec vn r.nodes R hrd h.fd (by omega)).weaken λ b o hb => .inl (hR b o hb)) (λ u hu => ?_)
 subst hu
 refine .gT g1_10<|.q .gtr<|.q (.pickFh g1_10)<|.az rfl<|.ret (rq1 rfl ?_)
 ·refine ⟨congrArg _ ?_, rfl⟩
  simp only [muchR]
  grind
theorem within_spec (c : CfM) (R : Rds) (h : c.is R) : Spec prog 119 [.agg c.enc.toArray] R [] λ u H' => u = .bool (!c.plain.much isWord) /\ H' = [] := by
 rw [much_eq]
 obtain ⟨vs, vc, sps, scs⟩ := c
 have hss := h.ss
 have hsc := h.sc
 have i1 := hss.oneCell
 have i2 := hsc.oneCell
 simp only at hss hsc i1 i2 ⊢
 have hle := hss.le
 refine Spec.body Tryz.func119 rfl Tryz.results119 Tryz.ntmps119 rfl<|.sr ?_
 refine .boxA rfl (λ b1 => ?_)
 refine .ag rfl<|.zs<|.seq ?_
 refine Tri.cutS [(1, _)] kE.c (X := Unit) (λ _ => True) (λ _ E => (14, .bool (decide (16 < sps.length) || decide (16 < scs.length))) :: E) (λ _ => [bl b1 [vs, vc] 25]) ?_ ?_
 refine .region<|.fa rfl<|.lo rfl<|.q (.lenR hss)<|.q .gtr<|.mo rfl<|.split (t := 9) rfl (λ g1_4 => ?_) (λ g1_4 => ?_)
 refine .gF g1_4<|.gF g1_4<|.gF g1_4<|.gF g1_4<|.q (.pickTh g1_4)<|.nil ?_
 ·exact joinQ_n () trivial (kE.c.consB rfl (by grind)) rH
 refine .gT g1_4<|.fa rfl<|.gT g1_4<|.lo rfl<|.gT g1_4<|.q (.lenR hsc)<|.gT g1_4<|.q .gtr<|.q (.pickFh g1_4)<|.nil ?_
 ·exact joinQ_n () trivial (kE.c.consB rfl (by grind)) rH
 intro y hy
 refine seqQ_n<|.cond rfl (λ h1 => ?_) λ h1 => ?_
 refine .sr<|.az rfl<|.ret (seqQ_r (rq1 rfl ?_))
 ·exact ⟨by rw [h1]; rfl, rfl⟩
 refine .kn<|.seq<|.sr<|.fa rfl<|.lo rfl<|.q (.lenR hss)<|.mo rfl<|.zn<|.block<|.loopS [(16, _), (17, _)] (X := Nat) (λ i => i <= sps.length /\ (sps.take i).any mSp = false) (λ i E => (18, iN i) :: E) (λ _ G => G) (λ i => sps.length - i) 0 ⟨Nat.zero_le _, rfl⟩ kE.c.c.c rH ?_
 rintro i ⟨hi, hq⟩
 refine .sr<|.q .lss<|.zs<|.cond rfl (λ h2 => ?_) λ h2 => ?_
 have hlt : i < sps.length := lt_i h2
 obtain ⟨⟨sn, sv, rls⟩, hs⟩ := exg hlt
 have hsi := h.all _ (mog hs)
 have hrs : RS R 3 RlM.enc sv rls := hsi.rs
 have irs := hrs.oneCell
 have isp : Ones (SpM.enc ⟨sn, sv, rls⟩) := ⟨hsi.ones⟩
 refine .kn<|.seq<|.block<|.sr ?_
 refine .indexR i hss hs (λ p20 => ?_)
 refine .q (.loadA rfl) ?_
 refine .allocA (λ b4 => ?_)
 refine .storeA rfl rfl<|.zs ?_
 refine Tri.cutS [(16, _), (17, _), (18, _)] kE.c.c.c (X := Unit) (λ _ => True) (λ _ E => (30, .bool (mSp ⟨sn, sv, rls⟩)) :: E) (λ _ => [bl b1 [vs, vc] 25]) ?_ ?_
 refine .region<|.fa rfl<|.lo rfl<|.q (.lenR hrs)<|.q .gtr<|.mo rfl<|.split (t := 26) rfl (λ g6_4 => ?_) (λ g6_4 => ?_)
 refine .gF g6_4<|.gF g6_4<|.gF g6_4<|.q (.pickTh g6_4)<|.nil ?_
 ·exact joinQ_n () trivial (kE.c.c.c.consB rfl (by unfold mSp; simp only; grind)) (pkH [1])
 refine .gT g6_4<|.fa rfl<|.gT g6_4<|.lo rfl<|.gT g6_4<|.callR (LRE.containsF_spec 181 [] (λ r => muchR isWord r.r) sv rls _ hrs.rx (λ r hr R' hR' => much1_spec r R (hsi.all r hr) R' λ b o hb => hR' b o (.inl hb))) (λ u hu => ?_)
 subst hu
 refine .q (.pickFh g6_4)<|.nil ?_
 ·exact joinQ_n () trivial (kE.c.c.c.consB rfl (by unfold mSp; simp only; grind)) (pkH [1])
 intro y hy
 refine seqQ_n<|.cond rfl (λ h3 => ?_) λ h3 => ?_
 refine .sr<|.az rfl<|.ret (blkQ_r (seqQ_r (loopQ_r (blkQ_r (seqQ_r (rq1 rfl ?_))))))
 ·refine ⟨?_, rfl⟩
  rw [any_hit hs (f := mSp) h3, Bool.or_true]
  rfl
 refine .skip<|blkQ_n<|seqQ_n<|.region<|.ia (i + 1) .add<|.mo rfl<|.nil ?_
 ·exact loopQ_i (i + 1) ⟨hlt, any_next hs hq h3⟩ (by omega) kE.c.c.c rH
 refine .exit<|seqQ_x<|loopQ_x<|blkQ_x<|seqQ_n<|.sr<|.az rfl<|.ret (rq1 rfl ?_)
 ·refine ⟨?_, rfl⟩
  have h1' : (decide (16 < sps.length) || decide (16 < scs.length)) = false := h1
  have hend : sps.any mSp = false := by rw [<- take_end (l := sps) (i := i) (by have := odf h2; omega)]; exact hq
  rw [h1', hend]
  rfl
theorem right_spec (c : CfM) (R : Rds) (h : c.is R) : Spec prog 156 [.agg c.enc.toArray] R [] λ u H' => u = .bool (c.plain.right isWord isRef) /\ H' = [] := by
 have hw := within_spec c R h
 have hr : c.plain.much isWord = false -> c.few /\ ∀ s ∈ c.spaces, ∀ r ∈ s.rels, r.r.nodes.length <= 64 := λ hm => by
  rw [much_eq] at hm
  simp only [Bool.or_eq_false_iff, decide_eq_false_iff_not, List.any_eq_false, Nat.not_lt] at hm
  refine ⟨⟨by omega, λ s hs => ?_⟩, λ s hs r hr => ?_⟩
  ·have := hm.2 s hs
   unfold mSp at this
   simp only [Bool.or_eq_true, decide_eq_true_eq, not_or, Nat.not_lt] at this
   exact this.1
  ·have := hm.2 s hs
   unfold mSp at this
   simp only [Bool.or_eq_true, decide_eq_true_eq, not_or, Nat.not_lt, List.any_eq_true, not_exists, not_and] at this
   have h2 := this.2 r hr
   unfold muchR at h2
   simp only [Bool.or_eq_true, decide_eq_true_eq, not_or, Nat.not_lt] at h2
   exact h2.1.2
 rw [right_eq]
 generalize hmu : c.plain.much isWord = mu at *
 obtain ⟨vs, vc, sps, scs⟩ := c
 have hss := h.ss
 have hsc := h.sc
 have i1 := hss.oneCell
 have i2 := hsc.oneCell
 simp only at hss hsc i1 i2 ⊢
 have hle := hss.le
 refine Spec.body Tryz.func156 rfl Tryz.results156 Tryz.ntmps156 rfl<|.sr ?_
 refine .boxA rfl (λ b1 => ?_)
 refine .ag rfl<|.zs<|.sr<|.q (.loadA rfl)<|.callR (hw.weaken rxl) (λ u hu => ?_)
 subst hu
 refine .q .not<|.zn<|.cond rfl (λ h1 => ?_) λ h1 => ?_
 have hmt : mu = true := by simpa using h1
 refine .sr<|.az rfl<|.ret (seqQ_r (rq1 rfl ?_))
 ·refine ⟨?_, rfl⟩
  rw [hmt]
  simp
 have hmf : mu = false := by simpa using h1
 obtain ⟨hfew, hn64⟩ := hr hmf
 simp only at hn64
 refine .kn<|.seq<|.sr<|.fa rfl<|.lo rfl<|.q (.lenR hss)<|.mo rfl<|.zn<|.block<|.loopS [(1, _), (11, _), (12, _)] (X := Nat) (λ i => i <= sps.length /\ (sps.take i).all rSp = true) (λ i E => (13, iN i) :: E) (λ _ G => G) (λ i => sps.length - i) 0 ⟨Nat.zero_le _, rfl⟩ kE.c.c.c.c rH ?_
 rintro i ⟨hi, hq⟩
 refine .sr<|.q .lss<|.zs<|.cond rfl (λ h2 => ?_) λ h2 => ?_
 have hlt : i < sps.length := lt_i h2
 obtain ⟨⟨sn, sv, rls⟩, hs⟩ := exg hlt
 have hsi := h.all _ (mog hs)
 have hrs : RS R 3 RlM.enc sv rls := hsi.rs
 have irs := hrs.oneCell
 have hler := hrs.le
 have isp : Ones (SpM.enc ⟨sn, sv, rls⟩) := ⟨hsi.ones⟩
 refine .kn<|.seq<|.block<|.sr ?_
 refine .indexR i hss hs (λ p15 => ?_)
 refine .q (.loadA rfl) ?_
 refine .allocA (λ b4 => ?_)
 refine .storeA rfl rfl<|.zs<|.sr<|.fa rfl<|.lo rfl<|.callR (word_spec sn hsi.n _) (λ u hu => ?_)
 subst hu
 refine .q .not<|.zn<|.cond rfl (λ h3 => ?_) λ h3 => ?_
 refine .sr<|.az rfl<|.ret (seqQ_r (blkQ_r (seqQ_r (loopQ_r (blkQ_r (seqQ_r (rq1 rfl ?_)))))))
 ·refine ⟨?_, rfl⟩
  rw [all_miss hs (f := rSp) (by unfold rSp; simp only; rw [show isWord sn = false by simpa using h3]; rfl)]
  rfl
 refine .kn<|.sr<|.fa rfl<|.lo rfl<|.q (.lenR hrs)<|.mo rfl<|.zn<|.block<|.loopS [(1, _), (11, _), (12, _), (13, _), (22, _), (23, _)] (X := Nat) (λ k => k <= rls.length /\ (rls.take k).all rRl = true) (λ k E => (24, iN k) :: E) (λ _ G => G) (λ k => rls.length - k) 0 ⟨Nat.zero_le _, rfl⟩ kE.c.c.c.c.c.c.c rH ?_
 rintro k ⟨hk, hqk⟩
 refine .sr<|.q .lss<|.zs<|.cond rfl (λ h4 => ?_) λ h4 => ?_
 have hkt : k < rls.length := lt_i h4
 obtain ⟨⟨vt, vn, r⟩, hr⟩ := exg hkt
 have hri := hsi.all _ (mog hr)
 have hrt : RS R 2 Ty.enc vt r.types := hri.t
 have hrd : RS R 5 Nd.enc vn r.nodes := hri.d
 have irt := hrt.oneCell
 have ird := hrd.oneCell
 have hone : Ones (RlM.enc ⟨vt, vn, r⟩) := ⟨hri.ones⟩
 have hrn : r.nodes.length <= 64 := hn64 _ (mog hs) _ (mog hr)
 refine .kn<|.seq<|.block<|.sr ?_
 refine .indexR k hrs hr (λ p26 => ?_)
 refine .q (.loadA rfl) ?_
 refine .allocA (λ b6 => ?_)
 refine .storeA rfl rfl<|.zs ?_
 refine Tri.cutS [(1, _), (11, _), (12, _), (13, _), (22, _), (23, _), (24, _)] kE.c.c.c.c.c.c.c (X := Unit) (λ _ => True) (λ _ E => (42, .bool (!rRl ⟨vt, vn, r⟩)) :: E) (λ _ => [bl b4 (SpM.enc ⟨sn, sv, rls⟩) 187, bl b1 [vs, vc] 25]) ?_ ?_
 refine .region<|.fa rfl<|.lo rfl<|.callR (word_spec r.name hri.n _) (λ u hu => ?_)
 subst hu
 refine .q .not<|.mo rfl<|.split (t := 32) rfl (λ g11_4 => ?_) (λ g11_4 => ?_)
 refine .gF g11_4<|.gF g11_4<|.gF g11_4<|.gF g11_4<|.q (.pickTh g11_4)<|.mo rfl<|.gX<|.gX<|.gX<|.q .pickT<|.nil ?_
 ·exact joinQ_n () trivial (kE.c.c.c.c.c.c.c.consB rfl (by
   have e : (r.types.any λ t => !kindOK isWord t) = !rTy ⟨vt, vn, r⟩ := by unfold rTy; simp [List.not_all_eq_any_not]
   unfold rRl
   simp only [e] at *
   grind)) (pkH [1, 1])
 refine .gT g11_4<|.fa rfl<|.gT g11_4<|.lo rfl<|.gT g11_4<|.callR ((deep_spec vn r.nodes R hrd hri.fd (by omega)).weaken rxl) (λ u hu => ?_)
 subst hu
 refine .gT g11_4<|.q .eqI<|.q (.pickFh g11_4)<|.mo rfl<|.split (t := 38) rfl (λ g11_10 => ?_) (λ g11_10 => ?_)
 refine .gF g11_10<|.gF g11_10<|.gF g11_10<|.q (.pickTh g11_10)<|.nil ?_
 ·exact joinQ_n () trivial (kE.c.c.c.c.c.c.c.consB rfl (by
   have e : (r.types.any λ t => !kindOK isWord t) = !rTy ⟨vt, vn, r⟩ := by unfold rTy; simp [List.not_all_eq_any_not]
   unfold rRl
   simp only [e] at *
   grind)) (pkH [1, 1])
 refine .gT g11_10<|.fa rfl<|.gT g11_10<|.lo rfl<|.gT g11_10<|.callR (LTY.containsF_spec 195 [] (λ t => !kindOK isWord t) vt r.types _ hrt.rx (λ t ht R' hR' => right1_spec t (hri.ft t ht) R')) (λ u hu => ?_)
 subst hu
 refine .q (.pickFh g11_10)<|.nil ?_
 ·exact joinQ_n () trivial (kE.c.c.c.c.c.c.c.consB rfl (by
   have e : (r.types.any λ t => !kindOK isWord t) = !rTy ⟨vt, vn, r⟩ := by unfold rTy; simp [List.not_all_eq_any_not]
   unfold rRl
   simp only [e] at *
   grind)) (pkH [1, 1])
 intro y hy
 refine seqQ_n<|.cond rfl (λ h5 => ?_) λ h5 => ?_
 refine .sr<|.az rfl<|.ret (blkQ_r (seqQ_r (loopQ_r (blkQ_r (blkQ_r (seqQ_r (loopQ_r (blkQ_r (seqQ_r (rq1 rfl ?_))))))))))
 ·refine ⟨?_, rfl⟩
  rw [all_miss hs (f := rSp) (by unfold rSp; simp only; rw [all_miss hr (f := rRl) (by simpa using h5), Bool.and_false])]
  rfl
 refine .skip<|blkQ_n<|seqQ_n<|.region<|.ia (k + 1) .add<|.mo rfl<|.nil ?_
 ·exact loopQ_i (k + 1) ⟨hkt, all_next hr hqk (by simpa using h5)⟩ (by omega) kE.c.c.c.c.c.c.c rH
 have hm : rSp ⟨sn, sv, rls⟩ = true := by
  have h5 : rls.all rRl = true := by rw [<- take_end (l := rls) (i := k) (by have := odf h4; omega)]; exact hqk
  unfold rSp
  simp only [h5, Bool.and_true]
  simpa using h3
 refine .exit<|seqQ_x<|loopQ_x<|blkQ_x<|blkQ_n<|seqQ_n<|.region<|.ia (i + 1) .add<|.mo rfl<|.nil ?_
 ·exact loopQ_i (i + 1) ⟨hlt, all_next hs hq hm⟩ (by omega) kE.c.c.c.c (pkH [1])
 have hend : sps.all rSp = true := by rw [<- take_end (l := sps) (i := i) (by have := odf h2; omega)]; exact hq
 refine .exit<|seqQ_x<|loopQ_x<|blkQ_x<|seqQ_n<|.sr<|.fa rfl<|.lo rfl<|.callR (LSC.containsF_spec 198 [] (λ s => !scOK isWord isRef s) vc scs _ hsc.rx (λ s hs R' hR' => right2_spec s (h.fc s hs) R')) (λ u hu => ?_)
 subst hu
 refine .q .not<|.az rfl<|.ret (rq1 rfl ?_)
 ·refine ⟨?_, rfl⟩
  rw [hend, hmf]
  simp [List.not_all_eq_any_not]
instance Ty.keyP : KeyT prog 252 (λ k : Ty => .agg k.enc.toArray) := KeyT.agg fQ252 Tryz.underlying252 rfl Ty.kinds Ty.eq
abbrev Spot := Nat × Nat
def encSp (p : Spot) : List Value := [iN p.1, iN p.2]
instance (p : Spot) : Ones (encSp p) := ⟨by simp [encSp, oneCell]⟩
abbrev kTy (k : Ty) : Value := .agg k.enc.toArray
abbrev vSp (p : Spot) : Value := .agg (encSp p).toArray
theorem spotsR_at (i : Nat) (sp : ByteArray) : ∀ {rs : List Rl} {b k : Nat} {r : Rl}, rs[k]? = some r -> (spotsR i sp b rs)[k]? = some ((⟨sp, r.name⟩ : Ty), (i, b + k))
 | [], b, k, r, h => by simp at h
 | x :: rs, b, 0, r, h => by simp only [List.getElem?_cons_zero, Option.some.injEq] at h; subst h; rfl
 | x :: rs, b, k + 1, r, h => by
  rw [spotsR, List.getElem?_cons_succ, spotsR_at i sp (rs := rs) (b := b + 1) (k := k) (r := r) (by simpa using h)]
  rw [show b + 1 + k = b + (k + 1) by omega]
theorem spots_at : ∀ {l : List Sp} {b i k : Nat} {s : Sp} {r : Rl}, l[i]? = some s -> s.rels[k]? = some r -> (spots b l)[offs l i + k]? = some ((⟨s.name, r.name⟩ : Ty), (b + i, k))
 | [], b, i, k, s, r, h, _ => by simp at h
 | x :: l, b, 0, k, s, r, h, hr => by
  simp only [List.getElem?_cons_zero, Option.some.injEq] at h
  subst h
  have hk := (List.getElem?_eq_some_iff.1 hr).1
  rw [spots, List.getElem?_append_left (by rw [spotsR_len]; simpa [offs] using hk)]
  simpa [offs] using spotsR_at b x.name (b := 0) hr
 | x :: l, b, i + 1, k, s, r, h, hr => by
  rw [spots, offs, List.getElem?_append_right (by rw [spotsR_len]; omega), spotsR_len, show x.rels.length + offs l i + k - x.rels.length = offs l i + k by omega, spots_at (l := l) (b := b + 1) (by simpa using h) hr, show b + 1 + i = b + (i + 1) by omega]
theorem spots_len : ∀ (l : List Sp) (b : Nat), (spots b l).length = total l
 | [], b => rfl
 | s :: l, b => by
  have := spots_len l (b + 1)
  unfold total at this ⊢
  rw [spots, List.length_append, spotsR_len, this, List.length_cons, offs]
theorem mget_look (t : Ty) : ∀ M : List (Ty × Spot), mget t M = look t M
 | [] => rfl
 | (k, x) :: M => by
  have ih := mget_look t M
  unfold look at ih ⊢
  rw [mget, List.find?_cons]
  by_cases e : t = k
  ·subst e; simp
  ·rw [if_neg e, ih]
   have : decide (k = t) = false := decide_eq_false λ h => e h.symm
   simp only [this]
def txtMap (M : List (ByteArray × Bool)) (l : List ByteArray) : Prop := ∀ k, mget k M = if k ∈ l then some true else none
theorem txtMap.nil : txtMap [] [] := λ k => by simp [mget]
theorem txtMap.add {M : List (ByteArray × Bool)} {l : List ByteArray} (h : txtMap M l) (t : ByteArray) : txtMap (mset t true M) (l ++ [t]) := λ k => by
 rw [mget_mset, h k]
 by_cases e : k = t
 ·simp [e]
 ·simp [e]
def IXs (xb : Nat) (c : CfM) (T : Seg) : Prop := ∃ vm Tm, T = (xb, .cells [c.vs, c.vc, vm].toArray 335 (0, 0)) :: Tm /\ MS kTy vSp vm (spots 0 c.plain.spaces) Tm
theorem newIndex_spec (c : CfM) (R : Rds) (h : c.is R) : Spec prog 157 [.agg c.enc.toArray] R [] λ u H' => ∃ T, H' = [T] /\ ((c.plain.uniq /\ ∃ xb, u = .tuple [pT xb, .bool true].toArray /\ IXs xb c T) \/ (¬ c.plain.uniq /\ u = .tuple [.pointer none, .bool false].toArray)) := by
 have hsp : ∀ (i : Nat) s, c.spaces[i]? = some s -> c.plain.spaces[i]? = some s.plain := λ i s hs => by unfold CfM.plain; simp only; rw [List.getElem?_map, hs]; rfl
 have hspl : c.plain.spaces.length = c.spaces.length := by unfold CfM.plain; simp
 have hu : c.plain.uniq ↔ (c.spaces.map (·.name)).Nodup /\ ((spots 0 c.plain.spaces).map (·.1)).Nodup /\ (c.scopes.map (·.name)).Nodup := by
  unfold Cf.uniq
  rw [spots_keys]
  simp only [CfM.plain, List.map_map]
  exact Iff.rfl
 have hIX : ∀ xb T, IXs xb c T ↔ ∃ vm Tm, T = (xb, .cells [c.vs, c.vc, vm].toArray 335 (0, 0)) :: Tm /\ MS kTy vSp vm (spots 0 c.plain.spaces) Tm := λ _ _ => Iff.rfl
 have hsl := spots_len c.plain.spaces 0
 generalize hpl : c.plain = pl at *
 generalize hS : spots 0 pl.spaces = S at *
 have hsat : ∀ i k s (r : Rl), pl.spaces[i]? = some s -> s.rels[k]? = some r -> S[offs pl.spaces i + k]? = some ((⟨s.name, r.name⟩ : Ty), (i, k)) := λ i k s r h1 h2 => by
  have := spots_at (b := 0) h1 h2
  rw [hS, Nat.zero_add] at this
  exact this
 obtain ⟨vs, vc, sps, scs⟩ := c
 have hss := h.ss
 have hsc := h.sc
 have i1 := hss.oneCell
 have i2 := hsc.oneCell
 simp only at hss hsc i1 i2 hsp hspl hu hIX ⊢
 have hle := hss.le
 have hlc := hsc.le
 refine Spec.body Tryz.func157 rfl Tryz.results157 Tryz.ntmps157 rfl ?_
 refine .sr ?_
 refine .boxA rfl (λ b1 => ?_)
 refine .ag rfl<|.ag rfl<|.z<|.q (.loadA rfl) ?_
 refine .makeMap (λ b17 => ?_)
 refine .q .bld ?_
 refine .boxA rfl (λ b19 => ?_)
 refine .ag rfl<|.z ?_
 refine .makeMap (λ b20 => ?_)
 refine .ag rfl<|.zs<|.sr<|.fa rfl<|.lo rfl<|.q (.lenR hss) ?_
 refine .mo rfl<|.zn<|.block ?_
 refine .loopS [(1, _), (4, _), (5, _), (22, _), (23, _)] (G := [bl b19 [vs, vc, .map (some b17)] 335, bl b1 [vs, vc] 25]) (X := Nat × List (ByteArray × Bool) × Seg × Seg) (λ y => y.1 <= sps.length /\ ((sps.map (·.name)).take y.1).Nodup /\ txtMap y.2.1 ((sps.map (·.name)).take y.1) /\ MS kTy vSp (.map (some b17)) (S.take (offs pl.spaces y.1)) y.2.2.1 /\ MS (λ s : ByteArray => .string s) (λ b : Bool => .bool b) (.map (some b20)) y.2.1 y.2.2.2) (λ y E => (24, iN y.1) :: E) (λ y G => y.2.2.1 :: y.2.2.2 :: G) (λ y => sps.length - y.1) (0, [], [(b17, .map #[] 0)], [(b20, .map #[] 0)]) ⟨Nat.zero_le _, by simp, by simpa using txtMap.nil, by rw [show offs pl.spaces 0 = 0 by cases pl.spaces <;> rfl]; exact MS.nil, MS.nil⟩ kE.c.c.c.c.c.c (pkH [2, 0, 0, 0]) ?_
 rintro ⟨i, M, Ta, Tb⟩ ⟨hi, hnd, htm, hMa, hMb⟩
 simp only at hi hnd htm hMa hMb ⊢
 refine .sr<|.q .lss<|.zs ?_
 refine .cond rfl (λ h1 => ?_) λ h1 => ?_
 have hlt : i < sps.length := lt_i h1
 obtain ⟨⟨sn, sv, rls⟩, hs⟩ := exg hlt
 have hsi := h.all _ (mog hs)
 have hrs : RS R 3 RlM.enc sv rls := hsi.rs
 have irs := hrs.oneCell
 have hler := hrs.le
 have isp : Ones (SpM.enc ⟨sn, sv, rls⟩) := ⟨hsi.ones⟩
 have hs' : (sps.map (·.name))[i]? = some sn := by rw [List.getElem?_map, hs]; rfl
 have hs1 := hsp i _ hs
 have hof := offs_next hs1
 rw [show (SpM.plain ⟨sn, sv, rls⟩).rels.length = rls.length by simp [SpM.plain]] at hof
 refine .kn<|.seq<|.block<|.sr<|.mo rfl ?_
 refine .indexR i hss hs (λ p27 => ?_)
 refine .q (.loadA rfl) ?_
 refine .allocA (λ b7 => ?_)
 refine .ag rfl<|.storeA rfl rfl<|.zs<|.sr<|.mo rfl<|.fa rfl<|.lo rfl ?_
 refine .q (.lookupE hMb.rx rfl (key := sn) rfl (show _ = Value.bool (decide (sn ∈ (sps.map (·.name)).take i)) from by rw [htm sn]; split <;> simp_all)) ?_
 refine .zn ?_
 refine .cond rfl (λ h2 => ?_) λ h2 => ?_
 refine .sr<|.ag rfl<|.az rfl ?_
 refine .ret (seqQ_r (blkQ_r (seqQ_r (loopQ_r (blkQ_r (seqQ_r (retQ_r _ (.two (.tmp rfl) (.tmp rfl)) (.one [0] _) ?_)))))))
 ·refine ⟨_, rfl, .inr ⟨λ hh => ?_, rfl⟩⟩
  have hm : sn ∈ (sps.map (·.name)).take i := by simpa using h2
  obtain ⟨q, hq, e⟩ := List.mem_iff_getElem.1 hm
  rw [List.length_take] at hq
  rw [List.getElem_take] at e
  exact not_nodup (show q < i by omega) hs' (gge (by omega)) e.symm (hu.1 hh).1
 have hni : sn ∉ (sps.map (·.name)).take i := by simpa using h2
 have hnd2 : ((sps.map (·.name)).take (i + 1)).Nodup := by rw [take_next hs', List.nodup_append]; exact ⟨hnd, by simp, λ a ha b hb => by rw [List.mem_singleton] at hb; subst hb; intro e; subst e; exact hni ha⟩
 have htm2 : txtMap (mset sn true M) ((sps.map (·.name)).take (i + 1)) := by rw [take_next hs']; exact htm.add sn
 refine .kn<|.sr<|.mo rfl<|.fa rfl<|.lo rfl ?_
 refine .update (key := sn) (u := true) hMb rfl rfl rfl (λ Tb2 hMb2 _ => ?_)
 refine .z<|.fa rfl<|.lo rfl<|.q (.lenR hrs) ?_
 refine .mo rfl<|.zn<|.block ?_
 refine .loopS [(1, _), (4, _), (5, _), (6, _), (7, _), (22, _), (23, _), (24, _), (37, _), (38, _)] (G := [Tb2, bl b7 (SpM.enc ⟨sn, sv, rls⟩) 187, bl b19 [vs, vc, .map (some b17)] 335, bl b1 [vs, vc] 25]) (X := Nat × Seg) (λ y => y.1 <= rls.length /\ MS kTy vSp (.map (some b17)) (S.take (offs pl.spaces i + y.1)) y.2) (λ y E => (39, iN y.1) :: E) (λ y G => y.2 :: G) (λ y => rls.length - y.1) (0, Ta) ⟨Nat.zero_le _, hMa⟩ kE.c.c.c.c.c.c.c.c.c.c.c (pkH [1, 1, 0, 0, 0]) ?_
 rintro ⟨k, Ta⟩ ⟨hk, hMa⟩
 simp only at hk hMa ⊢
 refine .sr<|.q .lss<|.zs ?_
 refine .cond rfl (λ h3 => ?_) λ h3 => ?_
 have hkt : k < rls.length := lt_i h3
 obtain ⟨⟨vt, vn, r⟩, hr⟩ := exg hkt
 have hri := hsi.all _ (mog hr)
 have irt : One vt := RS.oneCell hri.t
 have ird : One vn := RS.oneCell hri.d
 have hone : Ones (RlM.enc ⟨vt, vn, r⟩) := ⟨hri.ones⟩
 have hr' : (SpM.plain ⟨sn, sv, rls⟩).rels[k]? = some r := by unfold SpM.plain; simp only; rw [List.getElem?_map, hr]; rfl
 have hSk : S[offs pl.spaces i + k]? = some ((⟨sn, r.name⟩ : Ty), (i, k)) := hsat i k _ r hs1 hr'
 obtain ⟨ps, ok, hps, hok⟩ : ∃ (ps : Spot) (ok : Bool), [((mget (⟨sn, r.name⟩ : Ty) (S.take (offs pl.spaces i + k))).map vSp).getD (vSp (0, 0)), Value.bool (mget (⟨sn, r.name⟩ : Ty) (S.take (offs pl.spaces i + k))).isSome] = [vSp ps, .bool ok] /\ (mget (⟨sn, r.name⟩ : Ty) (S.take (offs pl.spaces i + k))).isSome = ok := by
  cases mget (⟨sn, r.name⟩ : Ty) (S.take (offs pl.spaces i + k)) with
  | none => exact ⟨(0, 0), false, rfl, rfl⟩
  | some p => exact ⟨p, true, rfl, rfl⟩
 refine .kn<|.seq<|.block<|.sr<|.mo rfl ?_
 refine .indexR k hrs hr (λ p42 => ?_)
 refine .q (.loadA rfl) ?_
 refine .allocA (λ b9 => ?_)
 refine .ag rfl<|.storeA rfl rfl<|.z<|.fa rfl<|.lo rfl<|.fa rfl<|.lo rfl ?_
 refine .q .bld ?_
 refine .allocA (λ b10 => ?_)
 refine .storeA rfl rfl<|.zs<|.seq<|.region_all [10] mixed ?_
 refine .tO 0 rfl .move<|.tO 1 rfl (.nilCheck rfl)<|.tO 2 rfl (.fieldAddr rfl)<|.tO 3 rfl (.load1 rfl)<|.tO 4 rfl (.loadA rfl) ?_
 refine .takeO 5 rfl (.cast (.lookup2 hMa.rx rfl rfl) (congrArg (λ l : List Value => Value.tuple l.toArray) hps)) (by kernel_rfl) ?_
 refine .tO 6 rfl .move<|.tO 7 rfl .extract<|.tK 8 rfl .extract ?_
 refine .sT 9 rfl ?_
 refine .allocA (λ b11 => ?_)
 refine .nil (Next.sub ?_)
 refine .sT 10 rfl ?_
 refine .storeA rfl rfl ?_
 refine .nil (Next.mod rfl ?_)
 refine .tK 11 rfl .assign ?_
 refine RA.nil (by kernel_rfl) ?_
 refine seqQ_n<|.sr<|.mo rfl<|.zn ?_
 refine .cond rfl (λ h4 => ?_) λ h4 => ?_
 refine .sr<|.ag rfl<|.az rfl ?_
 refine .ret (seqQ_r (blkQ_r (seqQ_r (loopQ_r (blkQ_r (blkQ_r (seqQ_r (loopQ_r (blkQ_r (seqQ_r (retQ_r _ (.two (.tmp rfl) (.tmp rfl)) (.one [0] _) ?_)))))))))))
 ·refine ⟨_, rfl, .inr ⟨λ hh => ?_, rfl⟩⟩
  have h5 : ok = true := h4
  rw [h5] at hok
  obtain ⟨p, hp⟩ := Option.isSome_iff_exists.1 hok
  have hm := mget_some hp
  obtain ⟨q, hq, e⟩ := List.mem_iff_getElem.1 hm
  rw [List.length_take] at hq
  rw [List.getElem_take] at e
  have hSk' : (S.map (·.1))[offs pl.spaces i + k]? = some ⟨sn, r.name⟩ := by rw [List.getElem?_map, hSk]; rfl
  have hq' : (S.map (·.1))[q]? = some ⟨sn, r.name⟩ := by rw [List.getElem?_map, gge (by omega), e]; rfl
  exact not_nodup (show q < offs pl.spaces i + k by omega) hSk' hq' rfl (hu.1 hh).2.1
 refine .kn ?_
 refine .region_tail 8 mixed (by kernel_rfl) ?_
 conv => arg 6; dsimp only [List.take]
 refine .mo rfl<|.nc rfl<|.fa rfl<|.lo rfl<|.q (.loadA rfl)<|.mo rfl<|.mo rfl ?_
 refine .q .bld ?_
 refine .nil ?_
 refine .update (key := (⟨sn, r.name⟩ : Ty)) (u := ((i, k) : Spot)) hMa rfl rfl rfl (λ Ta2 hMa2 _ => ?_)
 rw [mset_new (by
  have h5 : ok = false := h4
  rw [h5] at hok
  intro hm
  rw [Option.isSome_eq_false_iff, Option.isNone_iff_eq_none] at hok
  exact mget_none.1 hok hm), <- take_next hSk] at hMa2
 refine .nil<|blkQ_n<|seqQ_n<|.region ?_
 refine .ia (k + 1) .add ?_
 refine .mo rfl<|.nil ?_
 ·exact loopQ_i (k + 1, Ta2) ⟨hkt, hMa2⟩ (by simp only; omega) kE.c.c.c.c.c.c.c.c.c.c.c (pkH [3, 3, 3, 3, 3])
 have hke : k = rls.length := by have := odf h3; omega
 rw [hke, <- hof] at hMa
 refine .exit<|seqQ_x<|loopQ_x<|blkQ_x<|blkQ_n<|seqQ_n<|.region ?_
 refine .ia (i + 1) .add ?_
 refine .mo rfl<|.nil ?_
 ·exact loopQ_i (i + 1, mset sn true M, Ta, Tb2) ⟨hlt, hnd2, htm2, hMa, hMb2⟩ (by simp only; omega) kE.c.c.c.c.c.c (pkH [0, 0, 1, 1])
 have hie : i = sps.length := by have := odf h1; omega
 subst hie
 rw [show offs pl.spaces sps.length = S.length by rw [<- hspl, hsl]; rfl, List.take_length] at hMa
 rw [show sps.length = (sps.map (·.name)).length by rw [List.length_map], List.take_length] at hnd
 refine .exit<|seqQ_x<|loopQ_x<|blkQ_x<|seqQ_n<|.sr ?_
 refine .makeMap (λ b69 => ?_)
 refine .ag rfl<|.zs<|.sr<|.fa rfl<|.lo rfl<|.q (.lenR hsc) ?_
 refine .mo rfl<|.zn<|.block ?_
 refine .loopS [(4, _), (13, _), (71, _), (72, _)] (X := Nat × List (ByteArray × Bool) × Seg) (λ y => y.1 <= scs.length /\ ((scs.map (·.name)).take y.1).Nodup /\ txtMap y.2.1 ((scs.map (·.name)).take y.1) /\ MS (λ s : ByteArray => .string s) (λ b : Bool => .bool b) (.map (some b69)) y.2.1 y.2.2) (λ y E => (73, iN y.1) :: E) (λ y G => y.2.2 :: G) (λ y => scs.length - y.1) (0, [], [(b69, .map #[] 0)]) ⟨Nat.zero_le _, by simp, by simpa using txtMap.nil, MS.nil⟩ kE.c.c.c.c.c rH ?_
 rintro ⟨j, M3, Tc⟩ ⟨hj, hndj, htmj, hMc⟩
 simp only at hj hndj htmj hMc ⊢
 refine .sr<|.q .lss<|.zs ?_
 refine .cond rfl (λ h5 => ?_) λ h5 => ?_
 have hjt : j < scs.length := lt_i h5
 obtain ⟨s, hs⟩ := exg hjt
 have hs' : (scs.map (·.name))[j]? = some s.name := by rw [List.getElem?_map, hs]; rfl
 refine .kn<|.seq<|.block<|.sr ?_
 refine .indexR j hsc hs (λ p75 => ?_)
 refine .q (.loadA rfl) ?_
 refine .allocA (λ b15 => ?_)
 refine .storeA rfl rfl<|.zs<|.sr<|.mo rfl<|.fa rfl<|.lo rfl ?_
 refine .q (.lookupE hMc.rx rfl (key := s.name) rfl (show _ = Value.bool (decide (s.name ∈ (scs.map (·.name)).take j)) from by rw [htmj s.name]; split <;> simp_all)) ?_
 refine .zn ?_
 refine .cond rfl (λ h6 => ?_) λ h6 => ?_
 refine .sr<|.ag rfl<|.az rfl ?_
 refine .ret (seqQ_r (blkQ_r (seqQ_r (loopQ_r (blkQ_r (seqQ_r (retQ_r _ (.two (.tmp rfl) (.tmp rfl)) (.one [0] _) ?_)))))))
 ·refine ⟨_, rfl, .inr ⟨λ hh => ?_, rfl⟩⟩
  have hm : s.name ∈ (scs.map (·.name)).take j := by simpa using h6
  obtain ⟨q, hq, e⟩ := List.mem_iff_getElem.1 hm
  rw [List.length_take] at hq
  rw [List.getElem_take] at e
  exact not_nodup (show q < j by omega) hs' (gge (by omega)) e.symm (hu.1 hh).2.2
 have hni : s.name ∉ (scs.map (·.name)).take j := by simpa using h6
 refine .kn<|.region<|.mo rfl<|.fa rfl<|.lo rfl ?_
 refine .update (key := s.name) (u := true) hMc rfl rfl rfl (λ Tc2 hMc2 _ => ?_)
 refine .nil<|blkQ_n<|seqQ_n<|.region ?_
 refine .ia (j + 1) .add ?_
 refine .mo rfl<|.nil ?_
 ·exact loopQ_i (j + 1, mset s.name true M3, Tc2) ⟨hjt, by rw [take_next hs', List.nodup_append]; exact ⟨hndj, by simp, λ a ha b hb => by rw [List.mem_singleton] at hb; subst hb; intro e; subst e; exact hni ha⟩, by simp only; rw [take_next hs']; exact htmj.add s.name, hMc2⟩ (by simp only; omega) kE.c.c.c.c.c (pkH [1, 1, 1, 1, 1])
 refine .exit<|seqQ_x<|loopQ_x<|blkQ_x<|seqQ_n<|.sr<|.mo rfl<|.ag rfl<|.az rfl ?_
 refine .ret (retQ_r _ (.two (.tmp rfl) (.tmp rfl)) (.one [3, 1] _) ?_)
 ·refine ⟨_, rfl, .inl ⟨hu.2 ⟨hnd, hMa.nd, ?_⟩, b19, rfl, (hIX _ _).2 ⟨_, Ta, by simp [take, dropAt], hMa⟩⟩⟩
  rw [take_end (by rw [List.length_map]; have := odf h5; omega)] at hndj
  exact hndj
theorem HLe.nil1 {H : Segs} : HLe H [[]] := ⟨H.flatten, by simp⟩
structure IX (R : Rds) (xb : Nat) (vm : Value) (c : CfM) : Prop where
 pc : PC R (pT xb) [c.vs, c.vc, vm]
 om : One vm
 ci : c.is R
 rm : RM R kTy vSp vm (spots 0 c.plain.spaces)
theorem RM.mono' {κ β : Type} [DecidableEq κ] {R R' : Rds} {encK : κ -> Value} {encV : β -> Value} {m : Value} {M : List (κ × β)} (h : RM R encK encV m M) (hR : ∀ b o, R b o -> R' b o) : RM R' encK encV m M := by
 obtain ⟨b, es, c, h1, h2, h3⟩ := h
 exact ⟨b, es, c, h1, hR _ _ h2, h3⟩
theorem IX.mono {R R' : Rds} {xb : Nat} {vm : Value} {c : CfM} (h : IX R xb vm c) (hR : ∀ b o, R b o -> R' b o) : IX R' xb vm c := ⟨h.pc.mono hR, h.om, h.ci.mono hR, h.rm.mono' hR⟩
theorem IXs.view {R : Rds} {xb : Nat} {c : CfM} {T : Seg} (h : IXs xb c T) (hc : c.is R) : ∃ vm, IX (λ b o => R b o \/ (b, o) ∈ T) xb vm c := by
 obtain ⟨vm, Tm, rfl, hM⟩ := h
 refine ⟨vm, ⟨PC.of (E := 335) (fr := (0, 0)) ?_, hM.one, hc.mono λ b o hb => .inl hb, hM.rm λ p hp => .inr (by simp [hp])⟩⟩
 exact .inr (by simp)
def CfM.valid (c : CfM) (p : Spot) : Prop := ∃ s r, c.spaces[p.1]? = some s /\ s.rels[p.2]? = some r
def CfM.ix (c : CfM) (p : Spot) : Nat := offs c.plain.spaces p.1 + p.2
theorem plain_space {c : CfM} {i : Nat} {s' : Sp} (h : c.plain.spaces[i]? = some s') : ∃ s, c.spaces[i]? = some s /\ s' = s.plain := by
 unfold CfM.plain at h
 simp only at h
 rw [List.getElem?_map] at h
 cases hs : c.spaces[i]? with
 | none => rw [hs] at h; cases h
 | some s => rw [hs] at h; exact ⟨s, rfl, by simpa using h.symm⟩
theorem plain_at {c : CfM} {i : Nat} {s : SpM} (h : c.spaces[i]? = some s) : c.plain.spaces[i]? = some s.plain := by unfold CfM.plain; simp only; rw [List.getElem?_map, h]; rfl
theorem plain_rel {s : SpM} {k : Nat} {r : RlM} (h : s.rels[k]? = some r) : s.plain.rels[k]? = some r.r := by unfold SpM.plain; simp only; rw [List.getElem?_map, h]; rfl
theorem rel_plain {s : SpM} {k : Nat} {r' : Rl} (h : s.plain.rels[k]? = some r') : ∃ r, s.rels[k]? = some r /\ r' = r.r := by
 unfold SpM.plain at h
 simp only at h
 rw [List.getElem?_map] at h
 cases hs : s.rels[k]? with
 | none => rw [hs] at h; cases h
 | some s => rw [hs] at h; exact ⟨s, rfl, by simpa using h.symm⟩
def Looked (c : CfM) (t : Ty) (ps : Spot) (ok : Bool) : Prop := match rfind c.plain.all t with
 | none => ok = false
 | some j => ok = true /\ c.ix ps = j /\ c.valid ps
theorem looked (c : CfM) (t : Ty) : ∃ (ps : Spot) (ok : Bool), [((mget t (spots 0 c.plain.spaces)).map vSp).getD (vSp (0, 0)), Value.bool (mget t (spots 0 c.plain.spaces)).isSome] = [vSp ps, .bool ok] /\ Looked c t ps ok := by
 have h := look_rfind c.plain t
 rw [mget_look]
 unfold Looked
 cases hl : look t (spots 0 c.plain.spaces) with
 | none => rw [hl] at h; exact ⟨(0, 0), false, rfl, by rw [h]⟩
 | some p =>
  obtain ⟨i, k⟩ := p
  rw [hl] at h
  obtain ⟨h1, s, r, h2, h3, _⟩ := h
  obtain ⟨s2, h4, rfl⟩ := plain_space h2
  obtain ⟨r2, h5, rfl⟩ := rel_plain h3
  exact ⟨(i, k), true, rfl, by rw [h1]; exact ⟨rfl, rfl, s2, r2, h4, h5⟩⟩
theorem rel_spec {R : Rds} {xb : Nat} {vm : Value} {c : CfM} (h : IX R xb vm c) (p : Spot) (s : SpM) (r : RlM) (hs : c.spaces[p.1]? = some s) (hr : s.rels[p.2]? = some r) :
  Spec prog 250 [pT xb, .agg (encSp p).toArray] R [] λ u H' => u = .agg r.enc.toArray /\ H' = [] := by
 obtain ⟨i, k⟩ := p
 obtain ⟨vs, vc, sps, scs⟩ := c
 obtain ⟨vt, vn, r⟩ := r
 have pc := h.pc
 have om := h.om
 have hss := h.ci.ss
 have i1 := hss.oneCell
 have i2 : One vc := RS.oneCell h.ci.sc
 simp only at hss i1 i2 hs hr pc ⊢
 have hsi := h.ci.all _ (mog hs)
 have hri := hsi.all _ (mog hr)
 have irs : One s.v := RS.oneCell hsi.rs
 have hone : Ones (RlM.enc ⟨vt, vn, r⟩) := ⟨hri.ones⟩
 have irt : One vt := RS.oneCell hri.t
 have ird : One vn := RS.oneCell hri.d
 refine Spec.body Tryz.func250 rfl Tryz.results250 Tryz.ntmps250 rfl<|.sr ?_
 refine .boxA rfl (λ b3 => ?_)
 refine .allocA (λ b4 => ?_)
 refine .zs<|.region_tail 14 mixed (by kernel_rfl) ?_
 conv => arg 6; dsimp only [List.take]
 refine .mo rfl<|.nc rfl<|.fa rfl<|.fa rfl<|.lo rfl<|.fa rfl<|.lo rfl ?_
 refine .indexR i hss hs (λ p12 => ?_)
 refine .fa rfl<|.lo rfl<|.fa rfl<|.lo rfl ?_
 refine .indexR k hsi.rs hr (λ p17 => ?_)
 refine .q (.loadA rfl)<|.nil<|.storeA rfl rfl<|.zn ?_
 refine .ret (retQ_r _ (.one (.cellA rfl rfl)) (.none _) ?_)
 ·exact ⟨rfl, rfl⟩
theorem sets_spec (v : Value) (l : List Ty) (R : Rds) (h : RS R 2 Ty.enc v l) (hl : l.length <= 100000) : Spec prog 251 [v] R [] λ u H' => ∃ T, H' = [T] /\ OS 252 2 Ty.enc u (setsT l) T := by
 have iv := h.oneCell
 have hle := h.le
 refine Spec.body Tryz.func251 rfl Tryz.results251 Tryz.ntmps251 rfl<|.sr<|.ag rfl<|.z<|.ag rfl<|.zs<|.sr<|.mo rfl<|.q (.lenR h)<|.mo rfl<|.zn<|.block<|.loopS [(6, _), (7, _)] (X := Nat × Value × Seg) (λ y => y.1 <= l.length /\ OS 252 2 Ty.enc y.2.1 (setsT (l.take y.1)) y.2.2) (λ y E => (8, iN y.1) :: (3, y.2.1) :: E) (λ y G => y.2.2 :: G) (λ y => l.length - y.1) (0, sZ, []) ⟨Nat.zero_le _, OS.nil⟩ kE.c.c.c.c HLe.new0 ?_
 rintro ⟨i, vo, To⟩ ⟨hi, hO⟩
 simp only at hi hO ⊢
 have io := hO.oneCell
 have hol : (setsT (l.take i)).length <= 100000 := Nat.le_trans (List.length_filter_le _ _) (by rw [List.length_take]; omega)
 refine .sr<|.q .lss<|.zs<|.cond rfl (λ h1 => ?_) λ h1 => ?_
 have hlt : i < l.length := lt_i h1
 obtain ⟨t, ht⟩ := exg hlt
 have hn := setsT_next ht
 refine .kn<|.seq<|.block<|.sr ?_
 refine .indexR i h ht (λ p10 => ?_)
 refine .q (.loadA rfl) ?_
 refine .allocA (λ b5 => ?_)
 refine .storeA rfl rfl<|.z<|.fa rfl<|.lo rfl<|.q .neS<|.zn<|.cond rfl (λ h2 => ?_) λ h2 => ?_
 refine .region<|.mo rfl<|.q (.loadA rfl) ?_
 refine .buildSlice1A (λ b17 => ?_)
 refine .append hO (RS.lits (xs := [t]) rfl (by simp [Ty.enc]) (by simp [Ty.enc, oneCell])) (by simp only [List.length_singleton]; omega) (λ v1 T1 hv1 => ?_)
 have iv1 := hv1.oneCell
 refine .ag rfl<|.nil<|blkQ_n<|seqQ_n<|.region<|.ia (i + 1) .add<|.mo rfl<|.nil ?_
 ·exact loopQ_i (i + 1, v1, T1) ⟨hlt, by simp only; rw [hn, if_neg (by simpa using h2)]; exact hv1⟩ (by simp only; omega) kE.c.c.c.c (pkH [2])
 refine .skip<|blkQ_n<|seqQ_n<|.region<|.ia (i + 1) .add<|.mo rfl<|.nil ?_
 ·exact loopQ_i (i + 1, vo, To) ⟨hlt, by simp only; rw [hn, if_pos (by simpa using h2), List.append_nil]; exact hO⟩ (by simp only; omega) kE.c.c.c.c (pkH [1])
 refine .exit<|seqQ_x<|loopQ_x<|blkQ_x<|seqQ_n<|.sr<|.mo rfl<|.az rfl<|.ret (retQ_r _ (.one (.tmp rfl)) (.one [0] _) ?_)
 ·refine ⟨To, by simp [take], ?_⟩
  rw [take_end (ge_i h1)] at hO
  exact hO
def encBl (b : Bool) : List Value := [.bool b]
theorem absences_spec (v : Value) (l : List Nd) (R : Rds) (h : RS R 5 Nd.enc v l) (hd : deepD isWord l ≠ 0) (hl : l.length <= 100000) : Spec prog 252 [v] R [] λ u H' => ∃ T, H' = [T] /\ OS 4 1 encBl u (absC l) T := by
 have iv := h.oneCell
 have hle := h.le
 obtain ⟨d, htr⟩ := deep_tree hd
 obtain ⟨_, _, _, hall⟩ := tree_some _ _ htr
 have hrep : (List.replicate l.length false).length = l.length := List.length_replicate
 generalize hout : List.replicate l.length false = out0 at *
 refine Spec.body Tryz.func252 rfl Tryz.results252 Tryz.ntmps252 rfl<|.sr<|.ag rfl<|.z<|.mo rfl<|.q (.lenR h)<|.makeSlice (enc := encBl) l.length false rfl rfl (by decide) (by simp [encBl, oneCell]) rfl rfl (by omega) (by omega) (λ b8 T8 hO8 => ?_)
 rw [hout] at hO8
 refine .ag rfl<|.zs<|.sr<|.mo rfl<|.q (.lenR h)<|.q (.i64 ((l.length : Int) - 1) .sub ⟨rfl, by omega, by omega⟩)<|.az rfl<|.block<|.loopS [(0, _), (3, _)] (X := Nat × Seg) (λ y => y.1 <= l.length /\ OS 4 1 encBl (.slice (some ⟨b8, 0, none⟩) l.length l.length) (down l y.1 (l.length - y.1) out0) y.2) (λ y E => (4, .int .i64 ((y.1 : Int) - 1)) :: E) (λ y G => y.2 :: G) (λ y => y.1) (l.length, T8) ⟨Nat.le_refl _, by simp only; rw [Nat.sub_self]; exact hO8⟩ kE.c.c.c rH ?_
 rintro ⟨m, To⟩ ⟨hm, hO⟩
 simp only at hm hO ⊢
 refine .seq<|.sr<|.mo rfl<|.q .geq<|.zn<|.cond rfl (λ h1 => ?_) λ h1 => ?_
 obtain ⟨e, rfl⟩ : ∃ e, m = e + 1 := ⟨m - 1, by have := odt h1; omega⟩
 obtain ⟨n, hn⟩ : ∃ n, l[e]? = some n := ⟨_, gge (by omega)⟩
 have hee : ((e + 1 : Nat) : Int) - 1 = (e : Int) := by omega
 have hts := hall e (Nat.zero_le _) (by omega)
 have hdn : down l e (l.length - e) out0 = absStep l (down l (e + 1) (l.length - (e + 1)) out0) e := by
  rw [show l.length - e = 1 + (l.length - (e + 1)) by omega, down_add]
  rfl
 have hdl : (down l (e + 1) (l.length - (e + 1)) out0).length = l.length := by rw [down_len, hrep]
 generalize hX : down l (e + 1) (l.length - (e + 1)) out0 = X at *
 have hab : absStep l X e = if n.op then (X.set n.a.toNat (X.getD e false)).set n.b.toNat ((X.set n.a.toNat (X.getD e false)).getD e false || n.kind == 6) else X := by unfold absStep; rw [hn]
 have hop : decide (4 <= n.kind) = n.op := by
  cases ho : n.op with
  | true => unfold Nd.op at ho; simp only [Bool.or_eq_true, beq_iff_eq] at ho; exact decide_eq_true (by omega)
  | false =>
   rw [tree_leaf hn ho] at hts
   split at hts
   ·rename_i hlf
    unfold Nd.leaf at hlf
    refine decide_eq_false λ h4 => ?_
    rw [if_neg (by omega), if_neg (by omega), if_neg (by omega), Bool.and_false] at hlf
    cases hlf
   ·cases hts
 rw [hee]
 refine .kn<|.seq<|.block<|.sr<|.mo rfl<|.mo rfl ?_
 refine .indexR e h hn (λ p18 => ?_)
 refine .q (.loadA rfl) ?_
 refine .allocA (λ b5 => ?_)
 refine .storeA rfl rfl<|.z<|.fa rfl<|.lo rfl<|.q .geq<|.zn<|.cond rfl (λ h2 => ?_) λ h2 => ?_
 have hopt : n.op = true := by rw [<- hop]; exact h2
 obtain ⟨rr, hrr⟩ := Option.isSome_iff_exists.1 hts
 obtain ⟨b', x', y', t1, t2, t3, t4, t5, _, _, _⟩ := tree_op hn hopt hrr
 have hb' := tree_some_le t1
 have hb'' := (tree_some _ _ t3).1
 obtain ⟨za, hza⟩ : ∃ z, X[n.a.toNat]? = some z := ⟨_, gge (by omega)⟩
 obtain ⟨zi, hzi⟩ : ∃ z, X[e]? = some z := ⟨_, gge (by omega)⟩
 have hzd : X.getD e false = zi := by rw [List.getD_eq_getElem?_getD, hzi]; rfl
 rw [if_pos hopt, hzd] at hab
 obtain ⟨z2, hz2⟩ : ∃ z, (X.set n.a.toNat zi)[e]? = some z := ⟨_, gge (by rw [List.length_set]; omega)⟩
 obtain ⟨z3, hz3⟩ : ∃ z, (X.set n.a.toNat zi)[n.b.toNat]? = some z := ⟨_, gge (by rw [List.length_set]; omega)⟩
 have hzd2 : (X.set n.a.toNat zi).getD e false = z2 := by rw [List.getD_eq_getElem?_getD, hz2]; rfl
 rw [hzd2] at hab
 refine .seq<|.region_tail 8 mixed (by kernel_rfl) ?_
 conv => arg 6; dsimp only [List.take]
 refine .mo rfl<|.fa rfl<|.lo rfl<|.mo rfl<|.mo rfl ?_
 refine .indexO e hO hzi (λ p28 => ?_)
 refine .lo rfl<|.indexO n.a.toNat hO hza (λ p30 => ?_) rfl rfl (by omega)
 refine .nil ?_
 refine .storeO1 n.a.toNat hO hza zi (λ T1 hO1 => ?_)
 refine .zn ?_
 refine Tri.cutS [(0, _), (3, _), (4, _)] kE.c.c.c (X := Seg) (λ T => OS 4 1 encBl (.slice (some ⟨b8, 0, none⟩) l.length l.length) (absStep l X e) T) (λ _ E => E) (λ T => [T]) ?_ ?_
 refine .region_tail 13 mixed (by kernel_rfl) ?_
 conv => arg 6; dsimp only [List.take]
 refine .mo rfl<|.fa rfl<|.lo rfl<|.mo rfl<|.mo rfl ?_
 refine .indexO e hO1 hz2 (λ p36 => ?_)
 refine .lo rfl<|.mo rfl<|.split (t := 38) rfl (λ g8_7 => ?_) (λ g8_7 => ?_)
 refine .gF g8_7<|.gF g8_7<|.gF g8_7<|.q (.pickTh g8_7)<|.indexO n.b.toNat hO1 hz3 (λ p43 => ?_) rfl rfl (by omega)
 refine .nil ?_
 refine .storeO1 n.b.toNat hO1 hz3 _ (λ T2 hO2 => ?_)
 refine .nil ?_
 ·exact joinQ_n T2 (by rw [hab]; simpa only [h1, h2, g8_7, Bool.true_or, Bool.false_or] using hO2) kE.c.c.c (pkH [1])
 refine .gT g8_7<|.fa rfl<|.gT g8_7<|.lo rfl<|.gT g8_7<|.q .eqI<|.q (.pickFh g8_7)<|.indexO n.b.toNat hO1 hz3 (λ p43 => ?_) rfl rfl (by omega)
 refine .nil ?_
 refine .storeO1 n.b.toNat hO1 hz3 _ (λ T2 hO2 => ?_)
 refine .nil ?_
 ·exact joinQ_n T2 (by rw [hab]; simpa only [h1, h2, g8_7, Bool.true_or, Bool.false_or] using hO2) kE.c.c.c (pkH [1])
 intro y hy
 have hO9 : OS 4 1 encBl (.slice (some ⟨b8, 0, none⟩) l.length l.length) (absStep l X e) y := hy
 refine blkQ_n<|seqQ_n<|.region<|.mo rfl<|.q (.i64 ((e : Int) - 1) .sub ⟨rfl, by omega, by omega⟩)<|.ag rfl<|.nil ?_
 ·exact loopQ_i (e, y) ⟨by simp only; omega, by simp only; rw [hdn]; exact hO9⟩ (by simp only; omega) kE.c.c.c rH
 have hopf : ¬ n.op = true := by rw [<- hop, h2]; simp
 rw [if_neg hopf] at hab
 refine .skip<|blkQ_n<|seqQ_n<|.region<|.mo rfl<|.q (.i64 ((e : Int) - 1) .sub ⟨rfl, by omega, by omega⟩)<|.ag rfl<|.nil ?_
 ·exact loopQ_i (e, To) ⟨by simp only; omega, by simp only; rw [hdn, hab]; exact hO⟩ (by simp only; omega) kE.c.c.c (pkH [1])
 refine .exit<|seqQ_x<|loopQ_x<|blkQ_x<|seqQ_n<|.sr<|.mo rfl<|.az rfl<|.ret (retQ_r _ (.one (.tmp rfl)) (.one [0] _) ?_)
 ·refine ⟨To, by simp [take], ?_⟩
  have hm0 : m = 0 := by have := odf h1; omega
  subst hm0
  unfold absC
  rw [hout]
  exact hO
def NA (c : CfM) (ok : Bool) (S : List Spot) (o : Option (List Nat)) : Prop := match o with
 | none => ok = false
 | some ts => ok = true /\ S.map c.ix = ts /\ ∀ p ∈ S, c.valid p
def TN (l : List (ByteArray × Rl)) (sp : ByteArray) (r : Rl) (n : Nd) (tys : List Ty) : Prop := targets l sp r.types n = findAll l tys /\ tys.length <= 8
theorem setsT_le {ts : List Ty} {n : Nat} (h : ts.length <= n) : (setsT ts).length <= n := Nat.le_trans (List.length_filter_le _ _) h
theorem findAll_app (l : List (ByteArray × Rl)) : ∀ (a : List Ty) (t : Ty), findAll l (a ++ [t]) = (findAll l a).bind λ x => (rfind l t).map λ i => x ++ [i]
 | [], t => by
  rw [List.nil_append, findAll, findAll]
  cases rfind l t <;> rfl
 | x :: a, t => by
  rw [List.cons_append, findAll, findAll, findAll_app l a t]
  cases rfind l x with
  | none => rfl
  | some i =>
   cases findAll l a with
   | none => rfl
   | some u => cases rfind l t <;> rfl
theorem findAll_none {l : List (ByteArray × Rl)} {t : Ty} {ts : List Ty} (h : t ∈ ts) (hn : rfind l t = none) : findAll l ts = none := by
 cases hf : findAll l ts with
 | none => rfl
 | some o => obtain ⟨i, h1, _⟩ := findAll_get hf h; rw [hn] at h1; cases h1
theorem nms_typesC {c : CfM} {p : Spot} {s : SpM} {r : RlM} (hs : c.spaces[p.1]? = some s) (hr : s.rels[p.2]? = some r) : c.plain.all[c.ix p]? = some (s.name, r.r) := by
 have := all_at (plain_at hs) (plain_rel hr)
 unfold CfM.ix Cf.all
 exact this
def CfM.few8 (c : CfM) : Prop := ∀ s ∈ c.spaces, ∀ r ∈ s.rels, r.r.types.length <= 8 /\ r.r.nodes.length <= 64 /\ deepD isWord r.r.nodes ≠ 0
theorem named_spec {R : Rds} {xb : Nat} {vm : Value} {c : CfM} (h : IX R xb vm c) (h8 : c.few8) (p : Spot) (s : SpM) (r : RlM) (hs : c.spaces[p.1]? = some s) (hr : s.rels[p.2]? = some r) (n : Nd) :
  Spec prog 253 [pT xb, .agg (encSp p).toArray, .agg n.enc.toArray] R [] λ u H' => ∃ T, H' = [T] /\ ∃ w S ok, u = .tuple [w, .bool ok].toArray /\ OS 338 2 encSp w S T /\ S.length <= 8 /\
   NA c ok S (targets c.plain.all s.name r.r.types n) := by
 have hrel := rel_spec h p s r hs hr
 have hix := h
 have hty8 := (h8 s (mog hs) r (mog hr)).1
 have hlook := looked c
 obtain ⟨i, k⟩ := p
 have pc := h.pc
 have om := h.om
 have hss := h.ci.ss
 have i1 := hss.oneCell
 have i2 : One c.vc := RS.oneCell h.ci.sc
 have hsi := h.ci.all _ (mog hs)
 have hri := hsi.all _ (mog hr)
 have irs : One s.v := RS.oneCell hsi.rs
 have hone : Ones (RlM.enc r) := ⟨hri.ones⟩
 simp only at hs hr
 have psc := hss.pc hs
 generalize hA : c.plain.all = A at *
 refine Spec.body Tryz.func253 rfl Tryz.results253 Tryz.ntmps253 rfl<|.sr ?_
 refine .boxA rfl (λ b4 => ?_)
 refine .boxA rfl (λ b5 => ?_)
 refine .ag rfl<|.ag rfl<|.zs ?_
 refine Tri.cutS [(0, _), (5, _)] kE.c.c (X := Nat) (λ _ => True) (λ y E => (9, pT y) :: (8, .string s.name) :: E) (λ y => [bl y r.enc 207, bl b5 n.enc 168, bl b4 (encSp (i, k)) 338]) ?_ ?_
 refine .region_all [15] mixed<|.tO 0 rfl .move<|.tO 1 rfl (.nilCheck rfl)<|.tO 2 rfl (.fieldAddr rfl)<|.tO 3 rfl (.fieldAddr rfl)<|.tO 4 rfl (.load1 rfl)<|.tO 5 rfl (.fieldAddr rfl)<|.tO 6 rfl (.load1 rfl)<|.tO 7 rfl (.indexR i hss hs rfl rfl rfl)<|.tO 8 rfl (.fieldAddr rfl)<|.tO 9 rfl (.load1 rfl)<|.tO 10 rfl .move<|.tO 11 rfl (.loadA rfl)<|RA.step2 12 13 rfl rfl (by kernel_rfl) rfl ?_ ?_
 refine .callR (hrel.weaken rxl) (λ u hu => ?_)
 subst hu
 refine .nil<|Next.sub<|.sT 13 rfl ?_
 refine .allocA (λ b9 => ?_)
 refine .nil<|Next.sub<|.tO 14 rfl .assign<|.sT 15 rfl<|.storeA rfl rfl<|.nil<|Next.mod rfl<|RA.nil (by kernel_rfl) ?_
 ·exact joinQ_n b9 trivial kE.c.c.c.c rH
 refine .allocA (λ b9 => ?_)
 refine .nil<|Next.sub<|.sT 12 rfl<|.callR (hrel.weaken rxl) (λ u hu => ?_)
 subst hu
 refine .nil<|Next.sub<|.tO 14 rfl .assign<|.sT 15 rfl<|.storeA rfl rfl<|.nil<|Next.mod rfl<|RA.nil (by kernel_rfl) ?_
 ·exact joinQ_n b9 trivial kE.c.c.c.c rH
 intro y hy
 obtain ⟨vt, vn, r⟩ := r
 have hrt : RS R 2 Ty.enc vt r.types := hri.t
 have irt : One vt := hrt.oneCell
 have ird : One vn := RS.oneCell hri.d
 refine seqQ_n<|.sr<|.ag rfl<|.zs<|.sr<|.fa rfl<|.lo rfl<|.zn<|.block<|.sr<|.q .eqI<|.az rfl ?_
 refine Tri.cutS [(0, _)] kE.c (X := Value × List Ty × Seg) (λ y => OS 252 2 Ty.enc y.1 y.2.1 y.2.2 /\ TN A s.name r n y.2.1) (λ y E => (10, y.1) :: E) (λ y => [y.2.2]) ?_ ?_
 refine .cond rfl (λ h1 => ?_) λ h1 => ?_
 refine .region<|.fa rfl<|.lo rfl<|.callN (sets_spec vt r.types _ hrt.rx (by simp only at hty8; omega)) (λ u T1 hu => ?_)
 have iu := hu.oneCell
 refine .ag rfl<|.nil ?_
 ·exact joinQ_n (u, setsT r.types, T1) ⟨hu, by unfold targets; rw [if_pos (by simpa using h1)], setsT_le hty8⟩ kE.c.c (pkH [0])
 refine .sr<|.q .eqI<|.az rfl<|.cond rfl (λ h2 => ?_) λ h2 => ?_
 refine .region<|.mo rfl<|.fa rfl<|.lo rfl ?_
 refine .q .bld ?_
 refine .buildSlice1A (λ b46 => ?_)
 refine .ag rfl<|.nil ?_
 ·exact joinQ_n (_, [(⟨s.name, n.rel⟩ : Ty)], _) ⟨OS.lits (xs := [(⟨s.name, n.rel⟩ : Ty)]) rfl (by simp [Ty.enc]) (by simp [Ty.enc, oneCell]), by unfold targets; rw [if_neg (by simpa using h1), if_pos (by simpa using h2)], by simp⟩ ((kE.d rfl).d rfl) (pkH [0])
 refine .sr<|.q .eqI<|.az rfl<|.cond rfl (λ h3 => ?_) λ h3 => ?_
 obtain ⟨ps, ok, hps, hok⟩ := hlook (⟨s.name, n.rel⟩ : Ty)
 refine .seq<|.region_all [13] mixed<|.tO 0 rfl .move<|.tO 1 rfl (.nilCheck rfl)<|.tO 2 rfl (.fieldAddr rfl)<|.tO 3 rfl (.load1 rfl)<|.tO 4 rfl .move<|.tO 5 rfl (.fieldAddr rfl)<|.tO 6 rfl (.load1 rfl)<|.tO 7 rfl .bld<|.takeO 8 rfl (.cast (.lookup2 (hix.rm.mono' λ b o hb => .inl hb) rfl rfl) (congrArg (λ l : List Value => Value.tuple l.toArray) hps)) (by kernel_rfl)<|.tO 9 rfl .move<|.tO 10 rfl .extract<|.tK 11 rfl .extract<|.sT 12 rfl ?_
 refine .allocA (λ b11 => ?_)
 refine .nil<|Next.sub<|.sT 13 rfl<|.storeA rfl rfl<|.nil<|Next.mod rfl<|.tK 14 rfl .assign<|RA.nil (by kernel_rfl)<|seqQ_n<|.seq<|.sr<|.mo rfl<|.q .not<|.zn<|.cond rfl (λ h4 => ?_) λ h4 => ?_
 refine .sr<|.ag rfl<|.az rfl<|.ret (seqQ_r (joinQ_r (blkQ_r (seqQ_r (retQ_r _ (.two (.tmp rfl) (.tmp rfl)) HLe.nil1 ?_)))))
 ·refine ⟨[], rfl, _, [], false, rfl, OS.nil, by simp, ?_⟩
  have hokf : ok = false := by simpa using h4
  have hj : rfind A ⟨s.name, n.rel⟩ = none := by
   unfold Looked at hok
   rw [hA] at hok
   cases hf : rfind A ⟨s.name, n.rel⟩ with
   | none => rfl
   | some j => rw [hf] at hok; rw [hok.1] at hokf; cases hokf
  unfold targets
  rw [if_neg (by simpa using h1), if_neg (by simpa using h2), if_pos (by simpa using h3), hj]
  rfl
 have hokt : ok = true := by simpa using h4
 subst hokt
 obtain ⟨j, hj, hjx, s2, r2, hs2, hr2⟩ : ∃ j, rfind A ⟨s.name, n.rel⟩ = some j /\ c.ix ps = j /\ c.valid ps := by
  unfold Looked at hok
  rw [hA] at hok
  cases hf : rfind A ⟨s.name, n.rel⟩ with
  | none => rw [hf] at hok; cases hok
  | some j => rw [hf] at hok; exact ⟨j, rfl, hok.2.1, hok.2.2⟩
 have hrel2 := rel_spec hix ps s2 r2 hs2 hr2
 obtain ⟨vt2, vn2, r2⟩ := r2
 have hri2 := (h.ci.all _ (mog hs2)).all _ (mog hr2)
 have hrt2 : RS R 2 Ty.enc vt2 r2.types := hri2.t
 have ht28 : r2.types.length <= 8 := (h8 _ (mog hs2) _ (mog hr2)).1
 have hAj : (A.map (·.2.types)).getD j [] = r2.types := by
  have := nms_typesC hs2 hr2
  rw [hA, hjx] at this
  rw [List.getD_eq_getElem?_getD, List.getElem?_map, this]
  rfl
 refine .kn<|.seq<|.sr<|.mo rfl<|.q (.loadA rfl)<|.callR (hrel2.weaken rxl) (λ u hu => ?_)
 subst hu
 refine .q (.field1 Tryz.underlying207 rfl rfl fA205 rfl)<|.callN (sets_spec vt2 r2.types _ hrt2.rx (by omega)) (λ u T2 hu2 => ?_)
 have iu2 := hu2.oneCell
 have hzl := setsT_le ht28
 refine .q (.lenO hu2)<|.mo rfl<|.zn<|.block<|.loopS [(0, _), (5, _), (67, _), (68, _)] (X := Nat × Value × Seg) (λ y => y.1 <= (setsT r2.types).length /\ OS 252 2 Ty.enc y.2.1 (((setsT r2.types).take y.1).map λ t => (⟨t.space, n.thn⟩ : Ty)) y.2.2) (λ y E => (69, iN y.1) :: (10, y.2.1) :: E) (λ y G => y.2.2 :: G) (λ y => (setsT r2.types).length - y.1) (0, sZ, []) ⟨Nat.zero_le _, OS.nil⟩ kE.c.c.c.c.c.c HLe.new0 ?_
 rintro ⟨q, vo, To⟩ ⟨hq, hO⟩
 simp only at hq hO ⊢
 have io := hO.oneCell
 refine .sr<|.q .lss<|.zs<|.cond rfl (λ h5 => ?_) λ h5 => ?_
 have hqt : q < (setsT r2.types).length := by have := odt h5; omega
 obtain ⟨t, htx⟩ := exg hqt
 refine .kn<|.seq<|.block<|.sr ?_
 refine .indexO q hu2 htx (λ p71 => ?_)
 refine .q (.loadA rfl) ?_
 refine .allocA (λ b14 => ?_)
 refine .storeA rfl rfl<|.zn<|.region<|.mo rfl<|.fa rfl<|.lo rfl<|.fa rfl<|.lo rfl ?_
 refine .q .bld ?_
 refine .buildSlice1A (λ b79 => ?_)
 refine .append hO (RS.lits (xs := [(⟨t.space, n.thn⟩ : Ty)]) rfl (by simp [Ty.enc]) (by simp [Ty.enc, oneCell])) (by simp only [List.length_map, List.length_take, List.length_singleton]; omega) (λ v1 T1 hv1 => ?_)
 have iv1 := hv1.oneCell
 refine .ag rfl<|.nil<|blkQ_n<|seqQ_n<|.region<|.ia (q + 1) .add<|.mo rfl<|.nil ?_
 ·exact loopQ_i (q + 1, v1, T1) ⟨hqt, by simp only; rw [take_next htx, List.map_append]; exact hv1⟩ (by simp only; omega) kE.c.c.c.c.c.c (pkH [2, 2, 2, 2, 2, 2])
 rw [take_end (ge_i h5)] at hO
 refine .exit<|seqQ_x<|loopQ_x<|blkQ_x<|seqQ_n<|.sr<|.mo rfl<|.q (.lenO hO)<|.q .eqI<|.zn<|.cond rfl (λ h6 => ?_) λ h6 => ?_
 have hnil : setsT r2.types = [] := by have h7 := eq_of_beq h6; rw [List.length_map] at h7; exact List.eq_nil_of_length_eq_zero (by omega)
 refine .sr<|.ag rfl<|.az rfl<|.ret (joinQ_r (blkQ_r (seqQ_r (retQ_r _ (.two (.tmp rfl) (.tmp rfl)) HLe.nil1 ?_))))
 ·refine ⟨[], rfl, _, [], false, rfl, OS.nil, by simp, ?_⟩
  unfold targets
  rw [if_neg (by simpa using h1), if_neg (by simpa using h2), if_pos (by simpa using h3), hj]
  simp only
  rw [hAj, hnil]
  rfl
 have hne : setsT r2.types ≠ [] := by intro e; rw [e] at h6; simp at h6
 refine .skip ?_
 ·exact joinQ_n (vo, (setsT r2.types).map λ t => (⟨t.space, n.thn⟩ : Ty), To) ⟨hO, by
   unfold targets
   rw [if_neg (by simpa using h1), if_neg (by simpa using h2), if_pos (by simpa using h3), hj]
   simp only
   rw [hAj]
   cases hz : setsT r2.types with
   | nil => exact absurd hz hne
   | cons z zs => rfl, by rw [List.length_map]; exact hzl⟩ kE.c.c (pkH [0])
 refine .skip ?_
 ·exact joinQ_n (sZ, [], []) ⟨OS.nil, by unfold targets; rw [if_neg (by simpa using h1), if_neg (by simpa using h2), if_neg (by simpa using h3)]; rfl, by simp⟩ kE.c.c HLe.nil1
 intro x hx
 obtain ⟨w, tys, Tt⟩ := x
 obtain ⟨hOt, hT1, hT2⟩ := hx
 simp only at hOt hT1 hT2 ⊢
 have iw := hOt.oneCell
 rw [hT1]
 refine blkQ_n<|seqQ_n<|.sr<|.ag rfl<|.zs<|.sr<|.mo rfl<|.q (.lenO hOt)<|.mo rfl<|.zn<|.block<|.loopS [(0, _), (85, _), (86, _)] (X := Nat × Value × List Spot × Seg) (λ y => y.1 <= tys.length /\ OS 338 2 encSp y.2.1 y.2.2.1 y.2.2.2 /\ y.2.2.1.length = y.1 /\ NA c true y.2.2.1 (findAll A (tys.take y.1))) (λ y E => (87, iN y.1) :: (15, y.2.1) :: E) (λ y G => y.2.2.2 :: G) (λ y => tys.length - y.1) (0, sZ, [], []) ⟨Nat.zero_le _, OS.nil, rfl, ⟨rfl, rfl, λ p hp => (by cases hp)⟩⟩ kE.c.c.c.c.c HLe.new0 ?_
 rintro ⟨q, vo, S, To⟩ ⟨hq, hO, hSl, hN⟩
 simp only at hq hO hSl hN ⊢
 have io := hO.oneCell
 refine .sr<|.q .lss<|.zs<|.cond rfl (λ h7 => ?_) λ h7 => ?_
 have hqt : q < tys.length := lt_i h7
 obtain ⟨t, htx⟩ := exg hqt
 obtain ⟨ps, ok, hps, hok⟩ := hlook t
 unfold Looked at hok
 rw [hA] at hok
 refine .kn<|.seq<|.block<|.sr ?_
 refine .indexO q hOt htx (λ p89 => ?_)
 refine .q (.loadA rfl) ?_
 refine .allocA (λ b17 => ?_)
 refine .storeA rfl rfl<|.zs<|.region_all [10] mixed<|.tO 0 rfl .move<|.tO 1 rfl (.nilCheck rfl)<|.tO 2 rfl (.fieldAddr rfl)<|.tO 3 rfl (.load1 rfl)<|.tO 4 rfl (.loadA rfl)<|.takeO 5 rfl (.cast (.lookup2 (hix.rm.mono' λ b o hb => .inl hb) rfl rfl) (congrArg (λ l : List Value => Value.tuple l.toArray) hps)) (by kernel_rfl)<|.tO 6 rfl .move<|.tO 7 rfl .extract<|.tK 8 rfl .extract<|.sT 9 rfl ?_
 refine .allocA (λ b18 => ?_)
 refine .nil<|Next.sub<|.sT 10 rfl<|.storeA rfl rfl<|.nil<|Next.mod rfl<|.tK 11 rfl .assign<|RA.nil (by kernel_rfl)<|seqQ_n<|.seq<|.sr<|.mo rfl<|.q .not<|.zn<|.cond rfl (λ h8 => ?_) λ h8 => ?_
 refine .sr<|.ag rfl<|.az rfl<|.ret (seqQ_r (blkQ_r (seqQ_r (loopQ_r (blkQ_r (seqQ_r (retQ_r _ (.two (.tmp rfl) (.tmp rfl)) HLe.nil1 ?_)))))))
 ·refine ⟨[], rfl, _, [], false, rfl, OS.nil, by simp, ?_⟩
  have hokf : ok = false := by simpa using h8
  have hj : rfind A t = none := by
   cases hf : rfind A t with
   | none => rfl
   | some j => rw [hf] at hok; rw [hok.1] at hokf; cases hokf
  rw [findAll_none (mog htx) hj]
  rfl
 have hokt : ok = true := by simpa using h8
 subst hokt
 obtain ⟨j, hj, hjx, hval⟩ : ∃ j, rfind A t = some j /\ c.ix ps = j /\ c.valid ps := by
  cases hf : rfind A t with
  | none => rw [hf] at hok; cases hok
  | some j => rw [hf] at hok; exact ⟨j, rfl, hok.2.1, hok.2.2⟩
 refine .kn<|.region<|.mo rfl<|.q (.loadA rfl) ?_
 refine .buildSlice1A (λ b104 => ?_)
 refine .append hO (RS.lits (xs := [ps]) rfl (by simp [encSp]) (by simp [encSp, oneCell])) (by simp only [List.length_singleton]; omega) (λ v1 T1 hv1 => ?_)
 have iv1 := hv1.oneCell
 refine .ag rfl<|.nil<|blkQ_n<|seqQ_n<|.region<|.ia (q + 1) .add<|.mo rfl<|.nil ?_
 ·exact loopQ_i (q + 1, v1, S ++ [ps], T1) ⟨hqt, hv1, by simp [hSl], by
   simp only
   rw [take_next htx, findAll_app, hj]
   cases hf : findAll A (tys.take q) with
   | none => rw [hf] at hN; cases hN
   | some o =>
    rw [hf] at hN
    obtain ⟨_, n1, n2⟩ := hN
    refine ⟨rfl, by rw [List.map_append, n1]; simp [hjx], λ p hp => ?_⟩
    rcases List.mem_append.1 hp with hp | hp
    ·exact n2 p hp
    ·rw [List.mem_singleton] at hp; subst hp; exact hval⟩ (by simp only; omega) kE.c.c.c.c.c (pkH [3, 3])
 rw [take_end (ge_i h7)] at hN
 refine .exit<|seqQ_x<|loopQ_x<|blkQ_x<|seqQ_n<|.sr<|.mo rfl<|.ag rfl<|.az rfl<|.ret (retQ_r _ (.two (.tmp rfl) (.tmp rfl)) (.one [0] _) ?_)
 ·exact ⟨To, by simp [take], vo, S, true, rfl, hO, by omega, hN⟩
abbrev EdS := Spot × Spot × Bool
def encEs (e : EdS) : List Value := [iN e.1.1, iN e.1.2, iN e.2.1.1, iN e.2.1.2, .bool e.2.2]
instance (e : EdS) : Ones (encEs e) := ⟨by simp [encEs, oneCell]⟩
def CfM.ed (c : CfM) (e : EdS) : Ed := ⟨c.ix e.1, c.ix e.2.1, e.2.2⟩
def EA (c : CfM) (ok : Bool) (Es : List EdS) (o : Option (List Ed)) : Prop := match o with
 | none => ok = false
 | some E => ok = true /\ Es.map c.ed = E /\ ∀ e ∈ Es, c.valid e.1 /\ c.valid e.2.1
theorem cat_none {α β : Type} {f : α -> Option (List β)} {x : α} : ∀ {l : List α}, x ∈ l -> f x = none -> cat f l = none
 | [], hx, _ => by cases hx
 | y :: l, hx, h => by
  rw [cat]
  rcases List.mem_cons.1 hx with rfl | hx
  ·rw [h]; rfl
  ·rw [cat_none hx h]
   cases f y <;> rfl
theorem EA.app {c : CfM} {Es Fs : List EdS} {a b : Option (List Ed)} (ha : EA c true Es a) (hb : EA c true Fs b) : EA c true (Es ++ Fs) (a.bind λ x => b.map (x ++ ·)) := by
 cases a with
 | none => cases ha
 | some a =>
  cases b with
  | none => cases hb
  | some b =>
   obtain ⟨_, a1, a2⟩ := ha
   obtain ⟨_, b1, b2⟩ := hb
   refine ⟨rfl, by rw [List.map_append, a1, b1], λ e he => ?_⟩
   rcases List.mem_append.1 he with he | he
   ·exact a2 e he
   ·exact b2 e he
theorem EA.nil {c : CfM} : EA c true [] (some []) := ⟨rfl, rfl, λ e he => (by cases he)⟩
theorem edges_spec {R : Rds} {xb : Nat} {vm : Value} {c : CfM} (h : IX R xb vm c) (h8 : c.few8) (p : Spot) (s : SpM) (r : RlM) (hs : c.spaces[p.1]? = some s) (hr : s.rels[p.2]? = some r) :
  Spec prog 200 [pT xb, .agg (encSp p).toArray] R [] λ u H' => ∃ T, H' = [T] /\ ∃ w Es ok, u = .tuple [w, .bool ok].toArray /\ OS 342 5 encEs w Es T /\ Es.length <= 512 /\
   EA c ok Es (relC c.plain.all (c.ix p) s.name r.r) := by
 have hrel := rel_spec h p s r hs hr
 have hnamed := λ n => named_spec h h8 p s r hs hr n
 have hix := h
 obtain ⟨hty8, hn64, hdp⟩ := h8 s (mog hs) r (mog hr)
 have hlook := looked c
 have hvp : c.valid p := ⟨s, r, hs, hr⟩
 have pc := h.pc
 have om := h.om
 have hri := (h.ci.all _ (mog hs)).all _ (mog hr)
 generalize hA : c.plain.all = A at *
 generalize hj0 : c.ix p = j0 at *
 have hrC : relC A j0 s.name r.r = if (findAll A (setsT r.r.types)).isSome then cat (λ k : Nat => (r.r.nodes[k]?).bind λ n => nodeE A j0 s.name r.r ((absC r.r.nodes).getD k false) n) (List.range' 0 r.r.nodes.length) else none := rfl
 obtain ⟨vt, vn, r⟩ := r
 have hrt : RS R 2 Ty.enc vt r.types := hri.t
 have hrd : RS R 5 Nd.enc vn r.nodes := hri.d
 have irt : One vt := hrt.oneCell
 have ird : One vn := hrd.oneCell
 have hone : Ones (RlM.enc ⟨vt, vn, r⟩) := ⟨hri.ones⟩
 have hzl := setsT_le hty8
 simp only at hty8 hn64 hdp hrC hnamed hzl ⊢
 have hal : (absC r.nodes).length = r.nodes.length := by unfold absC; rw [down_len, List.length_replicate]
 refine Spec.body Tryz.func200 rfl Tryz.results200 Tryz.ntmps200 rfl<|.sr ?_
 refine .boxA rfl (λ b3 => ?_)
 refine .ag rfl<|.ag rfl<|.z<|.mo rfl<|.q (.loadA rfl)<|.callR (hrel.weaken rxl) (λ u hu => ?_)
 subst hu
 refine .allocA (λ b6 => ?_)
 refine .storeA rfl rfl<|.zs<|.sr<|.fa rfl<|.lo rfl<|.callN (sets_spec vt r.types _ hrt.rx (by omega)) (λ u T2 hu2 => ?_)
 have iu2 := hu2.oneCell
 refine .q (.lenO hu2)<|.mo rfl<|.zn<|.block<|.loopS [(0, _), (3, _), (6, _), (24, _), (25, _)] (X := Nat) (λ q => q <= (setsT r.types).length /\ ((setsT r.types).take q).all (λ t => (rfind A t).isSome) = true) (λ q E => (26, iN q) :: E) (λ _ G => G) (λ q => (setsT r.types).length - q) 0 ⟨Nat.zero_le _, rfl⟩ kE.c.c.c.c.c.c rH ?_
 rintro q ⟨hq, hqa⟩
 refine .sr<|.q .lss<|.zs<|.cond rfl (λ h1 => ?_) λ h1 => ?_
 have hqt : q < (setsT r.types).length := by have := odt h1; omega
 obtain ⟨t, htx⟩ := exg hqt
 obtain ⟨ps, ok, hps, hok⟩ := hlook t
 unfold Looked at hok
 rw [hA] at hok
 refine .kn<|.seq<|.block<|.sr ?_
 refine .indexO q hu2 htx (λ p28 => ?_)
 refine .q (.loadA rfl) ?_
 refine .allocA (λ b8 => ?_)
 refine .storeA rfl rfl<|.zs<|.region_all [10] mixed<|.tO 0 rfl .move<|.tO 1 rfl (.nilCheck rfl)<|.tO 2 rfl (.fieldAddr rfl)<|.tO 3 rfl (.load1 rfl)<|.tO 4 rfl (.loadA rfl)<|.takeO 5 rfl (.cast (.lookup2 (hix.rm.mono' λ b o hb => .inl hb) rfl rfl) (congrArg (λ l : List Value => Value.tuple l.toArray) hps)) (by kernel_rfl)<|.tO 6 rfl .move<|.tO 7 rfl .extract<|.tK 8 rfl .extract<|.sT 9 rfl ?_
 refine .allocA (λ b9 => ?_)
 refine .nil<|Next.sub<|.sT 10 rfl<|.storeA rfl rfl<|.nil<|Next.mod rfl<|.tK 11 rfl .assign<|RA.nil (by kernel_rfl)<|seqQ_n<|.sr<|.mo rfl<|.q .not<|.zn<|.cond rfl (λ h2 => ?_) λ h2 => ?_
 refine .sr<|.ag rfl<|.az rfl<|.ret (blkQ_r (seqQ_r (loopQ_r (blkQ_r (seqQ_r (retQ_r _ (.two (.tmp rfl) (.tmp rfl)) HLe.nil1 ?_))))))
 ·refine ⟨[], rfl, _, [], false, rfl, OS.nil, by simp, ?_⟩
  have hokf : ok = false := by simpa using h2
  have hj : rfind A t = none := by
   cases hf : rfind A t with
   | none => rfl
   | some j => rw [hf] at hok; rw [hok.1] at hokf; cases hokf
  rw [hrC, findAll_none (mog htx) hj]
  rfl
 have hf : (rfind A t).isSome = true := by
  have hokt : ok = true := by simpa using h2
  cases hf : rfind A t with
  | none => rw [hf] at hok; rw [hok] at hokt; cases hokt
  | some j => rfl
 refine .skip<|blkQ_n<|seqQ_n<|.region<|.ia (q + 1) .add<|.mo rfl<|.nil ?_
 ·exact loopQ_i (q + 1) ⟨hqt, all_next htx hqa hf⟩ (by omega) kE.c.c.c.c.c.c (pkH [2, 2, 2, 2])
 have hfa : (findAll A (setsT r.types)).isSome = true := by
  have h5 := findAll_all A (setsT r.types)
  rw [take_end (ge_i h1)] at hqa
  cases hf : findAll A (setsT r.types) with
  | none => rw [hf] at h5; rw [show _ = false from h5] at hqa; cases hqa
  | some o => rfl
 rw [if_pos hfa] at hrC
 rw [hrC]
 generalize hg : (λ k : Nat => (r.nodes[k]?).bind λ n => nodeE A j0 s.name r ((absC r.nodes).getD k false) n) = g at *
 refine .exit<|seqQ_x<|loopQ_x<|blkQ_x<|seqQ_n<|.sr<|.fa rfl<|.lo rfl<|.callN (absences_spec vn r.nodes _ hrd.rx hdp (by omega)) (λ u T9 hu9 => ?_)
 have iu9 := hu9.oneCell
 refine .ag rfl<|.z<|.ag rfl<|.zs<|.sr<|.fa rfl<|.lo rfl<|.q (.lenR hrd)<|.mo rfl<|.zn<|.block<|.loopS [(0, _), (3, _), (11, _), (46, _), (47, _)] (X := Nat × Value × List EdS × Seg) (λ y => y.1 <= r.nodes.length /\ OS 342 5 encEs y.2.1 y.2.2.1 y.2.2.2 /\ y.2.2.1.length <= 8 * y.1 /\ EA c true y.2.2.1 (cat g (List.range' 0 y.1))) (λ y E => (48, iN y.1) :: (12, y.2.1) :: E) (λ y G => y.2.2.2 :: G) (λ y => r.nodes.length - y.1) (0, sZ, [], []) ⟨Nat.zero_le _, OS.nil, by simp, EA.nil⟩ kE.c.c.c.c.c.c.c HLe.new0 ?_
 rintro ⟨m, vo, Es, To⟩ ⟨hm, hO, hEl, hE⟩
 simp only at hm hO hEl hE ⊢
 have io := hO.oneCell
 refine .sr<|.q .lss<|.zs<|.cond rfl (λ h3 => ?_) λ h3 => ?_
 have hmt : m < r.nodes.length := lt_i h3
 obtain ⟨n, hnx⟩ := exg hmt
 obtain ⟨ab, hab⟩ : ∃ b, (absC r.nodes)[m]? = some b := ⟨_, gge (by omega)⟩
 have hgm : g m = nodeE A j0 s.name r ab n := by
  rw [<- hg]
  simp only [hnx, Option.bind_some]
  rw [List.getD_eq_getElem?_getD, hab]
  rfl
 have hrg : List.range' 0 (m + 1) = List.range' 0 m ++ [m] := by rw [List.range'_1_concat]; simp
 refine .kn<|.seq<|.block<|.sr<|.mo rfl ?_
 refine .indexR m hrd hnx (λ p51 => ?_)
 refine .q (.loadA rfl) ?_
 refine .allocA (λ b14 => ?_)
 refine .ag rfl<|.storeA rfl rfl<|.z<|.mo rfl<|.q (.loadA rfl)<|.q (.loadA rfl)<|.callN ((hnamed n).weaken rxl) (λ u T4 hu4 => ?_)
 obtain ⟨w4, S, ok, rfl, hO4, hS8, hNA⟩ := hu4
 have i4 := hO4.oneCell
 refine .mo rfl<|.q .extract<|.q .extract<|.ag rfl<|.ag rfl<|.zs<|.sr<|.mo rfl<|.q .not<|.zn<|.cond rfl (λ h4 => ?_) λ h4 => ?_
 refine .sr<|.ag rfl<|.az rfl<|.ret (seqQ_r (blkQ_r (seqQ_r (loopQ_r (blkQ_r (seqQ_r (retQ_r _ (.two (.tmp rfl) (.tmp rfl)) HLe.nil1 ?_)))))))
 ·refine ⟨[], rfl, _, [], false, rfl, OS.nil, by simp, ?_⟩
  have hokf : ok = false := by simpa using h4
  have ht : targets A s.name r.types n = none := by
   cases ht : targets A s.name r.types n with
   | none => rfl
   | some ts => rw [ht] at hNA; rw [hNA.1] at hokf; cases hokf
  rw [cat_none (x := m) (by rw [List.mem_range'_1]; omega) (by rw [hgm]; unfold nodeE; rw [ht]; rfl)]
  rfl
 have hokt : ok = true := by simpa using h4
 subst hokt
 obtain ⟨ts, hts, hSts, hSv⟩ : ∃ ts, targets A s.name r.types n = some ts /\ S.map c.ix = ts /\ ∀ q ∈ S, c.valid q := by
  cases ht : targets A s.name r.types n with
  | none => rw [ht] at hNA; cases hNA
  | some ts => rw [ht] at hNA; exact ⟨ts, rfl, hNA.2.1, hNA.2.2⟩
 refine .kn<|.sr<|.mo rfl<|.q (.lenO hO4)<|.mo rfl<|.zn<|.block<|.loopS [(0, _), (3, _), (11, _), (13, _), (46, _), (47, _), (48, _), (62, _), (63, _)] (X := Nat × Value × Seg) (λ y => y.1 <= S.length /\ OS 342 5 encEs y.2.1 (Es ++ (S.take y.1).map λ q => ((p, q, ab) : EdS)) y.2.2) (λ y E => (64, iN y.1) :: (12, y.2.1) :: E) (λ y G => T4 :: bl b14 n.enc 168 :: y.2.2 :: G) (λ y => S.length - y.1) (0, vo, To) ⟨Nat.zero_le _, by simpa using hO⟩ kE.c.c.c.c.c.c.c.c.c.c.c rH ?_
 rintro ⟨q, v3, T3⟩ ⟨hq3, hO3⟩
 simp only at hq3 hO3 ⊢
 have io3 := hO3.oneCell
 refine .sr<|.q .lss<|.zs<|.cond rfl (λ h5 => ?_) λ h5 => ?_
 have hqt3 : q < S.length := lt_i h5
 obtain ⟨ps3, hpx⟩ := exg hqt3
 refine .kn<|.seq<|.block<|.sr ?_
 refine .indexO q hO4 hpx (λ p66 => ?_)
 refine .q (.loadA rfl) ?_
 refine .allocA (λ b18 => ?_)
 refine .storeA rfl rfl<|.zn<|.region_all [9] mixed<|.tO 0 rfl .move<|.tO 1 rfl (.loadA rfl)<|.tO 2 rfl (.loadA rfl)<|.tO 3 rfl .move<|.tO 4 rfl .move ?_
 refine RA.indexO 5 rfl m hu9 hab rfl rfl rfl (by kernel_rfl) (λ p73 => ?_)
 refine .tO 6 rfl (.load1 rfl)<|.tO 7 rfl .bld<|.sT 8 rfl ?_
 refine .buildSlice1A (λ b76 => ?_)
 refine .nil<|Next.sub<|.sT 9 rfl<|.append hO3 (RS.lits (xs := [((p, ps3, ab) : EdS)]) rfl (by simp [encEs]) (by simp [encEs, oneCell])) (by simp only [List.length_append, List.length_map, List.length_take, List.length_singleton]; omega) (λ v1 T1 hv1 => ?_)
 have iv1 := hv1.oneCell
 refine .nil<|Next.mod rfl<|.tK 10 rfl .assign<|RA.nil (by kernel_rfl)<|blkQ_n<|seqQ_n<|.region<|.ia (q + 1) .add<|.mo rfl<|.nil ?_
 ·exact loopQ_i (q + 1, v1, T1) ⟨hqt3, by simp only; rw [take_next hpx, List.map_append, <- List.append_assoc]; exact hv1⟩ (by simp only; omega) kE.c.c.c.c.c.c.c.c.c.c.c (pkH [2, 2, 2, 2, 2, 2, 2])
 rw [take_end (ge_i h5)] at hO3
 refine .exit<|seqQ_x<|loopQ_x<|blkQ_x<|blkQ_n<|seqQ_n<|.region<|.ia (m + 1) .add<|.mo rfl<|.nil ?_
 ·exact loopQ_i (m + 1, v3, Es ++ S.map (λ q => ((p, q, ab) : EdS)), T3) ⟨hmt, hO3, by simp only [List.length_append, List.length_map]; omega, by
   simp only
   rw [hrg, cat_append]
   refine hE.app ?_
   rw [cat, hgm]
   unfold nodeE
   rw [hts]
   simp only [cat, Option.map_some, Option.bind_some, List.append_nil]
   refine ⟨rfl, ?_, λ e he => ?_⟩
   ·rw [<- hSts, List.map_map, List.map_map]
    congr 1
    funext q
    simp only [Function.comp_def, CfM.ed, hj0]
   ·obtain ⟨q, hq, rfl⟩ := List.mem_map.1 he
    exact ⟨hvp, hSv q hq⟩⟩ (by simp only; omega) kE.c.c.c.c.c.c.c (pkH [2, 2, 2, 2, 2])
 have hme : m = r.nodes.length := by have := odf h3; omega
 refine .exit<|seqQ_x<|loopQ_x<|blkQ_x<|seqQ_n<|.sr<|.mo rfl<|.ag rfl<|.az rfl<|.ret (retQ_r _ (.two (.tmp rfl) (.tmp rfl)) (.one [0] _) ?_)
 ·refine ⟨To, by simp [take], vo, Es, true, rfl, hO, by omega, ?_⟩
  rw [<- hme]
  exact hE
end Go.Proofs.YtenilfmlfldogaaGreat
