/- What the law 'MemoNobody' uses. No condition. -/
import Derived.Test.YtenilfmlfldogaaGreatKMemoNobodyB
import Derived.Test.YtenilfmlfldogaaGreatKMemoNobodyF
import Derived.Test.YtenilfmlfldogaaGreatKMemoNobodyH
import Derived.Test.YtenilfmlfldogaaGreatKMemoNobodyI
import Derived.Test.YtenilfmlfldogaaGreatKMemoNobodyK
import Derived.Test.YtenilfmlfldogaaGreatKMemoNobodyN
namespace Go.Proofs.YtenilfmlfldogaaGreat
open Tryz (prog)
set_option linter.unusedVariables false
set_option linter.unusedSimpArgs false
set_option maxRecDepth 4000
theorem settle_all {c : CfM} {k : Nat} {E : List Ed} (h : c.plain.all.length = k) : settle E (k + 1) (List.replicate k 0) = settle E (c.plain.all.length + 1) (List.replicate c.plain.all.length 0) := by rw [h]
def SA (c : CfM) (ok : Bool) (w : Value) (T : Seg) (o : Option (List Nat)) : Prop := match o with
 | none => ok = false
 | some A => ok = true /\ ∃ ll, NN (sg T) w ll /\ ll.map (·.2) = rows c.plain.spaces A
theorem numbers_spec (c : CfM) (R : Rds) (h : c.is R) : Spec prog 99 [.agg c.enc.toArray] R [] λ u H' => ∃ T, H' = [T] /\ ∃ w ll, u = .tuple [w, .int .i64 (c.plain.numbers isWord isRef).1].toArray /\ NN (sg T) w ll /\ ll.map (·.2) = (c.plain.numbers isWord isRef).2 := by
 rw [<- numbers_doc]
 have hR := right_spec c R h
 have hN := newIndex_spec c R h
 have hfr := few_of_right (c := c)
 have hnm : c.plain.numbersC isWord isRef = if c.plain.right isWord isRef = false then ((4 : Int), ([] : List (List Nat))) else if ¬ c.plain.uniq then (10, []) else match c.plain.edgesC with | none => (14, []) | some E => match settle E (c.plain.all.length + 1) (List.replicate c.plain.all.length 0) with | none => (15, []) | some n => (0, rows c.plain.spaces n) := rfl
 have hal := λ (R : Rds) xb vm (hx : IX R xb vm c) h8 hf => sall_spec (R := R) (xb := xb) (vm := vm) hx h8 hf
 have hse := λ (R : Rds) xb vm (hx : IX R xb vm c) hf ve Es hve hl hv => settle_spec (R := R) (xb := xb) (vm := vm) hx hf ve Es hve hl hv
 have htot := total_all c.plain
 have i1 : One c.vs := RS.oneCell h.ss
 have i2 : One c.vc := RS.oneCell h.sc
 generalize hnn : c.plain.numbersC isWord isRef = nn at *
 refine Spec.body Tryz.func99 rfl Tryz.results99 Tryz.ntmps99 rfl<|.sr ?_
 refine .boxA rfl (λ b1 => ?_)
 refine .ag rfl<|.ag rfl<|.zs<|.sr<|.q (.loadA rfl)<|.callR (hR.weaken rxl) (λ u hu => ?_)
 subst hu
 refine .q .not<|.zn<|.cond rfl (λ h1 => ?_) λ h1 => ?_
 refine .sr<|.ag rfl<|.az rfl<|.ret (seqQ_r (retQ_r _ (.two (.tmp rfl) (.tmp rfl)) HLe.nil1 ?_))
 ·refine ⟨[], rfl, sZ, [], ?_, .nil, ?_⟩
  ·rw [hnm, if_pos (by simpa using h1)]
  ·rw [hnm, if_pos (by simpa using h1)]; rfl
 have hri : c.plain.right isWord isRef = true := by simpa using h1
 obtain ⟨hfew, hNR⟩ := hfr hri
 rw [if_neg (by rw [hri]; simp)] at hnm
 refine .kn<|.sr<|.q (.loadA rfl)<|.callN (hN.weaken rxl) (λ u T4 hu => ?_)
 obtain ⟨o, ok, rfl, hok, hu⟩ : ∃ (o : Option Addr) (ok : Bool), u = .tuple [.pointer o, .bool ok].toArray /\ ok = decide c.plain.uniq /\ (ok = true -> ∃ xb, o = some ⟨xb, 0, none⟩ /\ IXs xb c T4) := by
  rcases hu with ⟨hun, xb, rfl, hI⟩ | ⟨hun, rfl⟩
  ·exact ⟨_, true, rfl, (decide_eq_true hun).symm, λ _ => ⟨xb, rfl, hI⟩⟩
  ·exact ⟨_, false, rfl, (decide_eq_false hun).symm, λ hh => (by cases hh)⟩
 refine .mo rfl<|.q .extract<|.q .extract<|.ag rfl<|.ag rfl<|.zs<|.sr<|.mo rfl<|.q .not<|.zn<|.cond rfl (λ h2 => ?_) λ h2 => ?_
 refine .sr<|.ag rfl<|.az rfl<|.ret (seqQ_r (retQ_r _ (.two (.tmp rfl) (.tmp rfl)) HLe.nil1 ?_))
 ·have hof : ok = false := by simpa using h2
  rw [hof] at hok
  have hun : ¬ c.plain.uniq := odf hok.symm
  refine ⟨[], rfl, sZ, [], ?_, .nil, ?_⟩
  ·rw [hnm, if_pos hun]
  ·rw [hnm, if_pos hun]; rfl
 have hokt : ok = true := by simpa using h2
 obtain ⟨xb, rfl, hIs⟩ := hu hokt
 rw [hokt] at hok
 have hun : c.plain.uniq := odt hok.symm
 rw [if_neg (λ hh => hh hun)] at hnm
 obtain ⟨vm, hIX⟩ := hIs.view h
 refine .kn<|.sr<|.mo rfl<|.callN ((hal _ xb vm hIX (few8_of hNR) hfew).weaken λ b o hb => hb.elim .inl λ hb => .inr (by simp [hb])) (λ u T6 hu6 => ?_)
 obtain ⟨w6, Es, ok6, rfl, hO6, hl6, hE6⟩ := hu6
 have i6 := hO6.oneCell
 refine .mo rfl<|.q .extract<|.q .extract<|.ag rfl<|.ag rfl<|.zs<|.sr<|.mo rfl<|.q .not<|.zn<|.cond rfl (λ h3 => ?_) λ h3 => ?_
 have hof : ok6 = false := by simpa using h3
 have hed : c.plain.edgesC = none := by
  cases he : c.plain.edgesC with
  | none => rfl
  | some E => rw [he] at hE6; rw [hE6.1] at hof; cases hof
 rw [hed] at hnm
 simp only at hnm
 refine .sr<|.ag rfl<|.az rfl<|.ret (seqQ_r (retQ_r _ (.two (.tmp rfl) (.tmp rfl)) HLe.nil1 ?_))
 ·refine ⟨[], rfl, sZ, [], ?_, .nil, ?_⟩
  ·rw [hnm]
  ·rw [hnm]; rfl
 have hof : ok6 = true := by simpa using h3
 obtain ⟨E, hed, hEE, hEv⟩ : ∃ E, c.plain.edgesC = some E /\ Es.map c.ed = E /\ ∀ e ∈ Es, c.valid e.1 /\ c.valid e.2.1 := by
  cases he : c.plain.edgesC with
  | none => rw [he] at hE6; rw [show ok6 = false from hE6] at hof; cases hof
  | some E => rw [he] at hE6; exact ⟨E, rfl, hE6.2.1, hE6.2.2⟩
 subst hEE
 rw [hed] at hnm
 simp only at hnm
 rw [<- settle_all htot.symm] at hnm
 refine .kn<|.sr<|.mo rfl<|.mo rfl<|.callN ((hse _ xb vm (hIX.mono (R' := λ b o => R b o \/ (b, o) ∈ T4 \/ (b, o) ∈ T6) λ b o hb => hb.elim .inl λ hb => .inr (.inl hb)) hfew w6 Es (hO6.rs λ p hp => .inr (.inr hp)) hl6 hEv).weaken λ b o hb => hb.elim .inl λ hb => .inr (by rcases hb with hb | hb <;> simp [hb])) (λ u T9 hu9 => ?_)
 obtain ⟨w9, ok9, rfl, hS9⟩ : ∃ (w9 : Value) (ok9 : Bool), u = .tuple [w9, .bool ok9].toArray /\ SA c ok9 w9 T9 (settle (Es.map c.ed) (total c.plain.spaces + 1) (List.replicate (total c.plain.spaces) 0)) := by
  cases hst : settle (Es.map c.ed) (total c.plain.spaces + 1) (List.replicate (total c.plain.spaces) 0) with
  | none => rw [hst] at hu9; exact ⟨_, _, hu9, rfl⟩
  | some A => rw [hst] at hu9; obtain ⟨w, ll, h1, h2, h3⟩ := hu9; exact ⟨w, true, h1, rfl, ll, h2, h3⟩
 refine .mo rfl<|.q .extract<|.q .extract<|.ag rfl<|.ag rfl<|.zs<|.sr<|.mo rfl<|.q .not<|.zn<|.cond rfl (λ h4 => ?_) λ h4 => ?_
 have hof : ok9 = false := by simpa using h4
 have hst : settle (Es.map c.ed) (total c.plain.spaces + 1) (List.replicate (total c.plain.spaces) 0) = none := by
  cases hst : settle (Es.map c.ed) (total c.plain.spaces + 1) (List.replicate (total c.plain.spaces) 0) with
  | none => rfl
  | some A => rw [hst] at hS9; rw [hS9.1] at hof; cases hof
 rw [hst] at hnm
 simp only at hnm
 refine .sr<|.ag rfl<|.az rfl<|.ret (seqQ_r (retQ_r _ (.two (.tmp rfl) (.tmp rfl)) HLe.nil1 ?_))
 ·refine ⟨[], rfl, sZ, [], ?_, .nil, ?_⟩
  ·rw [hnm]
  ·rw [hnm]; rfl
 have hof : ok9 = true := by simpa using h4
 obtain ⟨A, hst, ll, hNN, hll⟩ : ∃ A, settle (Es.map c.ed) (total c.plain.spaces + 1) (List.replicate (total c.plain.spaces) 0) = some A /\ ∃ ll, NN (sg T9) w9 ll /\ ll.map (·.2) = rows c.plain.spaces A := by
  cases hst : settle (Es.map c.ed) (total c.plain.spaces + 1) (List.replicate (total c.plain.spaces) 0) with
  | none => rw [hst] at hS9; rw [show ok9 = false from hS9] at hof; cases hof
  | some A => rw [hst] at hS9; exact ⟨A, rfl, hS9.2⟩
 rw [hst] at hnm
 simp only at hnm
 have i9 : One w9 := hNN.rs.oneCell
 refine .kn<|.sr<|.mo rfl<|.ag rfl<|.az rfl<|.ret (retQ_r _ (.two (.tmp rfl) (.tmp rfl)) (.one [0] _) ?_)
 ·refine ⟨T9, by simp [take], w9, ll, ?_, hNN, ?_⟩
  ·rw [hnm]
  ·rw [hnm]; exact hll
def fewR (r : Rl) : Rl := ⟨r.name, r.types.take 9, r.nodes.take 66⟩
def fewS (s : Sp) : Sp := ⟨short s.name 40, (s.rels.take 6).map fewR⟩
def cfFew (c : Cf) : Cf := ⟨(c.spaces.take 5).map fewS, c.scopes.take 5⟩
theorem RlM.is.taken {R : Rds} {vt vn vt' vn' : Value} {r : Rl} (h : RlM.is R ⟨vt, vn, r⟩) {R' : Rds} (hR : ∀ b o, R b o -> R' b o) {n m : Nat} (ht : RS R' 2 Ty.enc vt' (r.types.take n)) (hn : RS R' 5 Nd.enc vn' (r.nodes.take m)) : RlM.is R' ⟨vt', vn', ⟨r.name, r.types.take n, r.nodes.take m⟩⟩ :=
 ⟨h.n, ht, hn, λ x hx => h.ft x (List.mem_of_mem_take hx), λ x hx => h.fd x (List.mem_of_mem_take hx)⟩
theorem few16_spec (c : CfM) (R : Rds) (h : c.is R) : Spec prog 42 [.agg c.enc.toArray] R [] λ u H' => ∃ T, H' = [T] /\ ∃ c' : CfM, u = .agg c'.enc.toArray /\ c'.is (λ b o => R b o \/ (b, o) ∈ T) /\ c'.plain = cfFew c.plain := by
 obtain ⟨vs, vc, sps, scs⟩ := c
 have hss := h.ss
 have hsc := h.sc
 have i1 := hss.oneCell
 have i2 := hsc.oneCell
 simp only at hss hsc i1 i2
 have hle := hss.le
 have hlc := hsc.le
 refine Spec.body Tryz.func42 rfl Tryz.results42 Tryz.ntmps42 rfl ?_
 refine .sr ?_
 refine .boxA rfl (λ b1 => ?_)
 refine .allocA (λ b2 => ?_)
 refine .z ?_
 refine .q .bld ?_
 refine .allocA (λ b3 => ?_)
 refine .storeA rfl rfl<|.zs<|.sr<|.az rfl<|.block ?_
 refine .loopS [(1, _), (2, _), (3, _)] (X := Nat × Value × List SpM × Seg × Seg) (λ y => (y.1 <= 5 /\ y.1 <= sps.length) /\ OS 187 2 SpM.enc y.2.1 y.2.2.1 y.2.2.2.1 /\ (∀ s ∈ y.2.2.1, s.is (λ b o => R b o \/ (b, o) ∈ y.2.2.2.2)) /\ y.2.2.1.map (·.plain) = ((sps.take y.1).map (·.plain)).map fewS) (λ y E => (4, iN y.1) :: E) (λ y G => y.2.2.2.1 :: y.2.2.2.2 :: bl b3 [y.2.1, sZ] 25 :: G) (λ y => 5 - y.1) (0, sZ, [], [], []) ⟨⟨by simp, by simp⟩, OS.nil, λ s hs => (by cases hs), by simp⟩ kE.c.c.c.c HLe.new00 ?_
 rintro ⟨i, w, L, To, Ti⟩ ⟨⟨hi5, hi⟩, hO, hI, hL⟩
 simp only at hi5 hi hO hI hL ⊢
 have io := hO.oneCell
 have hLl : L.length = i := by have := congrArg List.length hL; rw [List.length_map, List.length_map, List.length_map, List.length_take] at this; omega
 refine .seq<|.seq ?_
 refine Tri.cutS [(1, _), (2, _), (3, _), (4, _)] kE.c.c.c.c (X := Unit) (λ _ => True) (λ _ E => (21, .bool (decide (i < sps.length /\ i < 5))) :: E) (λ _ => [To, Ti, bl b3 [w, sZ] 25, bl b2 [sZ, sZ] 25, bl b1 [vs, vc] 25]) ?_ ?_
 refine .region<|.mo rfl<|.fa rfl<|.lo rfl<|.q (.lenR hss) ?_
 refine .q .lss<|.mo rfl ?_
 refine .split (t := 18) rfl (λ g3_5 => ?_) (λ g3_5 => ?_)
 refine .gT g3_5<|.mo rfl<|.gT g3_5<|.q .lss<|.q (.pickTh g3_5) ?_
 refine .nil ?_
 ·exact joinQ_n () trivial (kE.c.c.c.c.consB rfl (by clear hI; grind)) rH
 refine .gF g3_5<|.gF g3_5<|.q (.pickFh g3_5) ?_
 refine .nil ?_
 ·exact joinQ_n () trivial (kE.c.c.c.c.consB rfl (by clear hI; grind)) rH
 intro y hy
 refine seqQ_n ?_
 refine .cond rfl (λ h1 => ?_) λ h1 => ?_
 obtain ⟨hlt, hlt5⟩ := odt h1
 obtain ⟨⟨sn, sv, rls⟩, hs⟩ := exg hlt
 have hsi := h.all _ (mog hs)
 have hrs : RS R 3 RlM.enc sv rls := hsi.rs
 have irs := hrs.oneCell
 have hler := hrs.le
 refine .kn<|.seq<|.block<|.sr<|.fa rfl<|.lo rfl<|.mo rfl ?_
 refine .indexR i hss hs (λ p27 => ?_)
 refine .fa rfl<|.lo rfl ?_
 refine .callR (short_spec sn 40 _) (λ u hu => ?_)
 subst hu
 refine .q .bld ?_
 refine .allocA (λ b5 => ?_)
 refine .storeA rfl rfl<|.zs<|.sr<|.az rfl<|.block ?_
 refine .loopS [(1, _), (2, _), (3, _), (4, _), (5, _)] (X := Nat × Value × List RlM × Seg) (λ y => (y.1 <= 6 /\ y.1 <= rls.length) /\ OS 207 3 RlM.enc y.2.1 y.2.2.1 y.2.2.2 /\ (∀ r ∈ y.2.2.1, r.is R) /\ y.2.2.1.map (·.r) = ((rls.take y.1).map (·.r)).map fewR) (λ y E => (6, iN y.1) :: E) (λ y G => y.2.2.2 :: bl b5 [.string (short sn 40), y.2.1] 187 :: G) (λ y => 6 - y.1) (0, sZ, [], []) ⟨⟨by simp, by simp⟩, OS.nil, λ s hs => (by cases hs), by simp⟩ kE.c.c.c.c.c.c HLe.new0 ?_
 rintro ⟨k, w2, L2, T2⟩ ⟨⟨hk6, hk⟩, hO2, hI2, hL2⟩
 simp only at hk6 hk hO2 hI2 hL2 ⊢
 have io2 := hO2.oneCell
 have hL2l : L2.length = k := by have := congrArg List.length hL2; rw [List.length_map, List.length_map, List.length_map, List.length_take] at this; omega
 refine .seq<|.seq ?_
 refine Tri.cutS [(1, _), (2, _), (3, _), (4, _), (5, _), (6, _)] kE.c.c.c.c.c.c (X := Unit) (λ _ => True) (λ _ E => (44, .bool (decide (k < rls.length /\ k < 6))) :: E) (λ _ => [T2, bl b5 [.string (short sn 40), w2] 187, To, Ti, bl b3 [w, sZ] 25, bl b2 [sZ, sZ] 25, bl b1 [vs, vc] 25]) ?_ ?_
 refine .region<|.mo rfl<|.fa rfl<|.lo rfl<|.mo rfl ?_
 refine .indexR i hss hs (λ p36 => ?_)
 refine .fa rfl<|.lo rfl<|.q (.lenR hrs) ?_
 refine .q .lss<|.mo rfl ?_
 refine .split (t := 41) rfl (λ g7_9 => ?_) (λ g7_9 => ?_)
 refine .gT g7_9<|.mo rfl<|.gT g7_9<|.q .lss<|.q (.pickTh g7_9) ?_
 refine .nil ?_
 ·exact joinQ_n () trivial (kE.c.c.c.c.c.c.consB rfl (by clear hI hI2; grind)) rH
 refine .gF g7_9<|.gF g7_9<|.q (.pickFh g7_9) ?_
 refine .nil ?_
 ·exact joinQ_n () trivial (kE.c.c.c.c.c.c.consB rfl (by clear hI hI2; grind)) rH
 intro y hy
 refine seqQ_n ?_
 refine .cond rfl (λ h2 => ?_) λ h2 => ?_
 obtain ⟨hkt, hkt6⟩ := odt h2
 obtain ⟨⟨vt, vn, r⟩, hr⟩ := exg hkt
 have hri := hsi.all _ (mog hr)
 have hrt : RS R 2 Ty.enc vt r.types := hri.t
 have hrd : RS R 5 Nd.enc vn r.nodes := hri.d
 have irt := hrt.oneCell
 have ird := hrd.oneCell
 have hone : Ones (RlM.enc ⟨vt, vn, r⟩) := ⟨hri.ones⟩
 refine .kn<|.seq<|.block<|.sr<|.fa rfl<|.lo rfl<|.mo rfl ?_
 refine .indexR i hss hs (λ p50 => ?_)
 refine .fa rfl<|.lo rfl<|.mo rfl ?_
 refine .indexR k hrs hr (λ p54 => ?_)
 refine .q (.loadA rfl) ?_
 refine .allocA (λ b7 => ?_)
 refine .storeA rfl rfl<|.zs<|.sr<|.fa rfl<|.lo rfl<|.q (.lenR hrt) ?_
 refine .q .gtr<|.zn ?_
 refine Tri.cutS [(1, _), (2, _), (3, _), (4, _), (5, _), (6, _), (7, _)] kE.c.c.c.c.c.c.c (X := Value) (λ v => RS R 2 Ty.enc v (r.types.take 9)) (λ _ E => E) (λ v => [bl b7 [.string r.name, v, vn] 207, T2, bl b5 [.string (short sn 40), w2] 187, To, Ti, bl b3 [w, sZ] 25, bl b2 [sZ, sZ] 25, bl b1 [vs, vc] 25]) ?_ ?_
 refine .cond rfl (λ h3 => ?_) λ h3 => ?_
 refine .region<|.fa rfl<|.lo rfl ?_
 refine .sliceR 0 9 hrt rfl ⟨_, rfl⟩ (by omega) (by have := odt h3; omega) (λ v2 hv2 => ?_)
 have iv2 := hv2.oneCell
 refine .fa rfl<|.store1 rfl rfl<|.nil ?_
 ·exact joinQ_n v2 (by simpa using hv2) kE.c.c.c.c.c.c.c rH
 refine .skip ?_
 ·exact joinQ_n vt (by rw [take_end (ge_i h3)]; exact hrt) kE.c.c.c.c.c.c.c rH
 intro x hx
 have hvt : RS R 2 Ty.enc x (r.types.take 9) := hx
 clear hx
 obtain ⟨xt, rfl⟩ : ∃ z, z = x := ⟨_, rfl⟩
 have ivt := hvt.oneCell
 refine seqQ_n<|.seq<|.sr<|.fa rfl<|.lo rfl<|.q (.lenR hrd) ?_
 refine .q .gtr<|.zn ?_
 refine Tri.cutS [(1, _), (2, _), (3, _), (4, _), (5, _), (6, _), (7, _)] kE.c.c.c.c.c.c.c (X := Value) (λ v => RS R 5 Nd.enc v (r.nodes.take 66)) (λ _ E => E) (λ v => [bl b7 [.string r.name, xt, v] 207, T2, bl b5 [.string (short sn 40), w2] 187, To, Ti, bl b3 [w, sZ] 25, bl b2 [sZ, sZ] 25, bl b1 [vs, vc] 25]) ?_ ?_
 refine .cond rfl (λ h4 => ?_) λ h4 => ?_
 refine .region<|.fa rfl<|.lo rfl ?_
 refine .sliceR 0 66 hrd rfl ⟨_, rfl⟩ (by omega) (by have := odt h4; omega) (λ v2 hv2 => ?_)
 have iv2 := hv2.oneCell
 refine .fa rfl<|.store1 rfl rfl<|.nil ?_
 ·exact joinQ_n v2 (by simpa using hv2) kE.c.c.c.c.c.c.c rH
 refine .skip ?_
 ·exact joinQ_n vn (by rw [take_end (ge_i h4)]; exact hrd) kE.c.c.c.c.c.c.c rH
 intro x hx
 have hvn : RS R 5 Nd.enc x (r.nodes.take 66) := hx
 have ivn := hvn.oneCell
 have hnew : RlM.is R ⟨xt, x, fewR r⟩ := hri.taken (λ b o hb => hb) hvt hvn
 refine seqQ_n<|.sr<|.fa rfl<|.lo rfl<|.az rfl<|.region<|.mo rfl<|.q (.loadA rfl) ?_
 refine .buildSlice1A (λ b76 => ?_)
 refine .append hO2 (RS.lits (xs := [(⟨xt, x, fewR r⟩ : RlM)]) rfl (by simp [RlM.enc]) (by intro y hy; rw [List.mem_singleton] at hy; subst hy; exact hnew.ones)) (by simp only [List.length_singleton]; omega) (λ v5 T5 hv5 => ?_)
 have i5 := hv5.oneCell
 refine .fa rfl<|.store1 rfl rfl<|.nil<|blkQ_n<|seqQ_n<|.region<|.mo rfl ?_
 refine .ia (k + 1) .add ?_
 refine .ag rfl<|.nil ?_
 ·exact loopQ_i (k + 1, v5, L2 ++ [⟨xt, x, fewR r⟩], T5) ⟨⟨hkt6, hkt⟩, hv5, λ q hq => by
   rcases List.mem_append.1 hq with hq | hq
   ·exact hI2 q hq
   ·rw [List.mem_singleton] at hq; subst hq; exact hnew, by simp only; rw [take_next hr, List.map_append, List.map_append, List.map_append, hL2]; rfl⟩ (by simp only; omega) kE.c.c.c.c.c.c (pkH [2, 2, 2, 2, 2, 2, 2])
 refine .exit<|seqQ_x<|loopQ_x<|blkQ_x<|seqQ_n<|.sr<|.fa rfl<|.lo rfl<|.az rfl<|.region<|.mo rfl<|.q (.loadA rfl) ?_
 refine .buildSlice1A (λ b83 => ?_)
 refine .append hO (RS.lits (xs := [(⟨short sn 40, w2, L2⟩ : SpM)]) rfl (by simp [SpM.enc]) (by intro y hy u hu; rw [List.mem_singleton] at hy; subst hy; simp only [SpM.enc, List.mem_cons, List.not_mem_nil, or_false] at hu; rcases hu with rfl | rfl; rfl; exact io2.h)) (by simp only [List.length_singleton]; omega) (λ v5 T5 hv5 => ?_)
 have i5 := hv5.oneCell
 refine .fa rfl<|.store1 rfl rfl<|.nil<|blkQ_n<|seqQ_n<|.region<|.mo rfl ?_
 refine .ia (i + 1) .add ?_
 refine .ag rfl<|.nil ?_
 ·exact loopQ_i (i + 1, v5, L ++ [⟨short sn 40, w2, L2⟩], T5, T2 ++ Ti) ⟨⟨hlt5, hlt⟩, hv5, λ q hq => by
   rcases List.mem_append.1 hq with hq | hq
   ·exact (hI q hq).mono λ b o hb => hb.elim .inl λ hb => .inr (List.mem_append_right _ hb)
   ·rw [List.mem_singleton] at hq
    subst hq
    refine ⟨?_, hO2.rs λ p hp => .inr (List.mem_append_left _ hp), λ r hr => (hI2 r hr).mono λ b o hb => .inl hb⟩
    have := short_size (s := sn) (n := 40)
    simp only
    omega, by
   simp only
   rw [take_next hs, List.map_append, List.map_append, List.map_append, hL]
   have hke : rls.take k = rls.take 6 := by
    have h2' := odf h2
    by_cases h6 : k = 6
    ·rw [h6]
    ·rw [take_end (show rls.length <= k by omega), take_end (show rls.length <= 6 by omega)]
   simp only [List.map_cons, List.map_nil]
   congr 1
   unfold SpM.plain fewS
   simp only
   rw [hL2, hke]
   simp [List.map_take]⟩ (by simp only; omega) kE.c.c.c.c ((pkH [3, 1, 2, 2, 2, 2]).trans (HLe.ofPerm (by simp [take, dropAt, setL, CfM.enc])))
 have hie : sps.take i = sps.take 5 := by
  have h1' := odf h1
  by_cases h5 : i = 5
  ·rw [h5]
  ·rw [take_end (show sps.length <= i by omega), take_end (show sps.length <= 5 by omega)]
 rw [hie] at hL
 refine .exit<|seqQ_x<|loopQ_x<|blkQ_x<|seqQ_n<|.seq<|.sr<|.az rfl<|.block ?_
 refine .loopS [(1, _), (2, _), (3, _)] (X := Nat × Value × Seg) (λ y => (y.1 <= 5 /\ y.1 <= scs.length) /\ OS 209 4 Sc.enc y.2.1 (scs.take y.1) y.2.2) (λ y E => (10, iN y.1) :: E) (λ y G => y.2.2 :: To :: Ti :: bl b3 [w, y.2.1] 25 :: G) (λ y => 5 - y.1) (0, sZ, []) ⟨⟨by simp, by simp⟩, OS.nil⟩ kE.c.c.c.c HLe.new0 ?_
 rintro ⟨j, w3, T3⟩ ⟨⟨hj5, hj⟩, hO3⟩
 simp only at hj5 hj hO3 ⊢
 have io3 := hO3.oneCell
 refine .seq<|.seq ?_
 refine Tri.cutS [(1, _), (2, _), (3, _), (10, _)] kE.c.c.c.c (X := Unit) (λ _ => True) (λ _ E => (94, .bool (decide (j < scs.length /\ j < 5))) :: E) (λ _ => [T3, To, Ti, bl b3 [w, w3] 25, bl b2 [sZ, sZ] 25, bl b1 [vs, vc] 25]) ?_ ?_
 refine .region<|.mo rfl<|.fa rfl<|.lo rfl<|.q (.lenR hsc) ?_
 refine .q .lss<|.mo rfl ?_
 refine .split (t := 91) rfl (λ g19_5 => ?_) (λ g19_5 => ?_)
 refine .gT g19_5<|.mo rfl<|.gT g19_5<|.q .lss<|.q (.pickTh g19_5) ?_
 refine .nil ?_
 ·exact joinQ_n () trivial (kE.c.c.c.c.consB rfl (by clear hI; grind)) rH
 refine .gF g19_5<|.gF g19_5<|.q (.pickFh g19_5) ?_
 refine .nil ?_
 ·exact joinQ_n () trivial (kE.c.c.c.c.consB rfl (by clear hI; grind)) rH
 intro y hy
 refine seqQ_n ?_
 refine .cond rfl (λ h5 => ?_) λ h5 => ?_
 obtain ⟨hjt, hjt5⟩ := odt h5
 obtain ⟨s, hs⟩ := exg hjt
 refine .kn<|.seq<|.block<|.sr<|.fa rfl<|.lo rfl<|.az rfl<|.region<|.mo rfl<|.fa rfl<|.lo rfl<|.mo rfl ?_
 refine .indexR j hsc hs (λ p103 => ?_)
 refine .q (.loadA rfl) ?_
 refine .buildSlice1A (λ b105 => ?_)
 refine .append hO3 (RS.lits (xs := [s]) rfl (by simp [Sc.enc]) (by simp [Sc.enc, oneCell])) (by simp only [List.length_take, List.length_singleton]; omega) (λ v5 T5 hv5 => ?_)
 have i5 := hv5.oneCell
 refine .fa rfl<|.store1 rfl rfl<|.nil<|blkQ_n<|seqQ_n<|.region<|.mo rfl ?_
 refine .ia (j + 1) .add ?_
 refine .ag rfl<|.nil ?_
 ·exact loopQ_i (j + 1, v5, T5) ⟨⟨hjt5, hjt⟩, by simp only; rw [take_next hs]; exact hv5⟩ (by simp only; omega) kE.c.c.c.c (pkH [1, 1, 1, 1, 1, 1])
 refine .exit<|seqQ_x<|loopQ_x<|blkQ_x<|seqQ_n<|.sr<|.q (.loadA rfl)<|.storeA rfl rfl<|.zn ?_
 refine .ret (retQ_r _ (.one (.cellA rfl rfl)) (.one [1, 1, 0] _) ?_)
 ·refine ⟨_, rfl, ⟨w, w3, L, scs.take j⟩, rfl, ⟨hO.rs λ p hp => .inr (by simp [take, dropAt, hp]), hO3.rs λ p hp => .inr (by simp [take, dropAt, hp]), λ s hs => (hI s hs).mono λ b o hb => hb.elim .inl λ hb => .inr (by simp [take, dropAt, hb]), λ s hs => h.fc s (List.mem_of_mem_take hs)⟩, ?_⟩
  have hje : scs.take j = scs.take 5 := by
   have h5' := odf h5
   by_cases h6 : j = 5
   ·rw [h6]
   ·rw [take_end (show scs.length <= j by omega), take_end (show scs.length <= 5 by omega)]
  unfold CfM.plain cfFew
  simp only
  rw [hL, hje, List.map_take]
namespace LIN
theorem clone_spec (v : Value) (xs : List Nat) (R : Rds) (h : RS R 1 encNt v xs) (hl : xs.length <= 1000000) :
  Spec prog 163 [v] R [] λ v' H' => ∃ T, H' = [T] /\ OS 3 1 encNt v' xs T := by
 obtain ⟨pr, cap, rfl⟩ := h.val
 have hx : ∀ H, RS (Rx R H) 1 encNt (.slice pr xs.length cap) xs := λ H => h.rx
 refine Spec.segs (H' := [[]]) (by simp)<|Spec.body Tryz.func163 rfl Tryz.results163 Tryz.ntmps163 rfl<|.sr<|.ag rfl<|.zs<|.sr<|.mo rfl<|.q (.eqNilS rfl rfl)<|.zn<|.cond rfl (λ h1 => ?_) λ h1 => ?_
 refine .sr<|.az rfl<|.ret (seqQ_r (retQ_r _ (.one (.tmp rfl)) (.one [0] _) ?_))
 ·obtain rfl : pr = none := by simpa using h1
  have := h.none_nil
  subst this
  exact ⟨[], rfl, OS.nil⟩
 refine .kn<|.sr ?_
 refine .buildSlice0 (λ b5 => ?_)
 refine .mo rfl ?_
 refine .append (OS.empty (enc := encNt) (sz := 1)) (hx _) (by simp; omega) (λ v' T' h3 => ?_)
 refine .az rfl<|.ret (retQ_r _ (.one (.tmp rfl)) (.one [0] _) ?_)
 ·exact ⟨T', by simp [take], by simpa using h3⟩
end LIN
def CfM.fewC (c : CfM) : Prop := c.few /\ c.few8 /\ c.scopes.length <= 16
theorem fewC_of {c : CfM} (h : c.plain.right isWord isRef = true) : c.fewC := by
 obtain ⟨h1, h2⟩ := few_of_right h
 refine ⟨h1, few8_of h2, ?_⟩
 have hm : c.plain.much isWord = false := by
  unfold Cf.right at h
  simp only [Bool.and_eq_true, Bool.not_eq_true'] at h
  exact h.2
 rw [much_eq] at hm
 simp only [Bool.or_eq_false_iff, decide_eq_false_iff_not, Nat.not_lt] at hm
 exact hm.1.2
theorem copied_spec (c : CfM) (R : Rds) (h : c.is R) (hf : c.fewC) : Spec prog 100 [.agg c.enc.toArray] R [] λ u H' => ∃ T, H' = [T] /\ ∃ c' : CfM, u = .agg c'.enc.toArray /\ c'.is (sg T) /\ c'.plain = c.plain := by
 obtain ⟨⟨hsl, hrl⟩, h8, hscl⟩ := hf
 obtain ⟨vs, vc, sps, scs⟩ := c
 have hss := h.ss
 have hsc := h.sc
 have i1 := hss.oneCell
 have i2 := hsc.oneCell
 simp only at hss hsc i1 i2 hsl hrl hscl
 have hle := hss.le
 refine Spec.body Tryz.func100 rfl Tryz.results100 Tryz.ntmps100 rfl<|.sr ?_
 refine .boxA rfl (λ b1 => ?_)
 refine .allocA (λ b2 => ?_)
 refine .z ?_
 refine .allocA (λ b3 => ?_)
 refine .zs<|.sr<|.fa rfl<|.lo rfl<|.q (.lenR hss)<|.mo rfl<|.zn<|.block<|.loopS [(1, _), (2, _), (3, _), (10, _), (11, _)] (X := Nat × Value × List SpM × Seg × Seg) (λ y => y.1 <= sps.length /\ OS 187 2 SpM.enc y.2.1 y.2.2.1 y.2.2.2.1 /\ (∀ s ∈ y.2.2.1, s.is (sg y.2.2.2.2)) /\ y.2.2.1.map (·.plain) = (sps.take y.1).map (·.plain)) (λ y E => (12, iN y.1) :: E) (λ y G => y.2.2.2.1 :: y.2.2.2.2 :: bl b3 [y.2.1, sZ] 25 :: G) (λ y => sps.length - y.1) (0, sZ, [], [], []) ⟨by simp, OS.nil, λ s hs => (by cases hs), by simp⟩ kE.c.c.c.c.c.c HLe.new00 ?_
 rintro ⟨i, w, L, To, Ti⟩ ⟨hi, hO, hI, hL⟩
 simp only at hi hO hI hL ⊢
 have io := hO.oneCell
 have hLl : L.length = i := by have := congrArg List.length hL; rw [List.length_map, List.length_map, List.length_take] at this; omega
 refine .sr<|.q .lss<|.zs<|.cond rfl (λ h1 => ?_) λ h1 => ?_
 have hlt : i < sps.length := lt_i h1
 obtain ⟨⟨sn, sv, rls⟩, hs⟩ := exg hlt
 have hsi := h.all _ (mog hs)
 have hrs : RS R 3 RlM.enc sv rls := hsi.rs
 have irs := hrs.oneCell
 have hler := hrs.le
 have isp : Ones (SpM.enc ⟨sn, sv, rls⟩) := ⟨hsi.ones⟩
 have hr16 := hrl _ (mog hs)
 simp only at hr16
 refine .kn<|.seq<|.block<|.sr ?_
 refine .indexR i hss hs (λ p14 => ?_)
 refine .q (.loadA rfl) ?_
 refine .allocA (λ b5 => ?_)
 refine .storeA rfl rfl<|.z<|.fa rfl<|.lo rfl ?_
 refine .q .bld ?_
 refine .allocA (λ b6 => ?_)
 refine .storeA rfl rfl<|.zs<|.sr<|.fa rfl<|.lo rfl<|.q (.lenR hrs)<|.mo rfl<|.zn<|.block<|.loopS [(1, _), (2, _), (3, _), (6, _), (10, _), (11, _), (12, _), (20, _), (21, _)] (X := Nat × Value × List RlM × Seg × Seg) (λ y => y.1 <= rls.length /\ OS 207 3 RlM.enc y.2.1 y.2.2.1 y.2.2.2.1 /\ (∀ r ∈ y.2.2.1, r.is (sg y.2.2.2.2)) /\ y.2.2.1.map (·.r) = (rls.take y.1).map (·.r)) (λ y E => (22, iN y.1) :: E) (λ y G => y.2.2.2.1 :: y.2.2.2.2 :: bl b6 [.string sn, y.2.1] 187 :: G) (λ y => rls.length - y.1) (0, sZ, [], [], []) ⟨by simp, OS.nil, λ s hs => (by cases hs), by simp⟩ kE.c.c.c.c.c.c.c.c.c.c HLe.new00 ?_
 rintro ⟨k, w2, L2, T2, Tp⟩ ⟨hk, hO2, hI2, hL2⟩
 simp only at hk hO2 hI2 hL2 ⊢
 have io2 := hO2.oneCell
 have hL2l : L2.length = k := by have := congrArg List.length hL2; rw [List.length_map, List.length_map, List.length_take] at this; omega
 refine .sr<|.q .lss<|.zs<|.cond rfl (λ h2 => ?_) λ h2 => ?_
 have hkt : k < rls.length := lt_i h2
 obtain ⟨⟨vt, vn, r⟩, hr⟩ := exg hkt
 have hri := hsi.all _ (mog hr)
 have hrt : RS R 2 Ty.enc vt r.types := hri.t
 have hrd : RS R 5 Nd.enc vn r.nodes := hri.d
 have irt := hrt.oneCell
 have ird := hrd.oneCell
 have hone : Ones (RlM.enc ⟨vt, vn, r⟩) := ⟨hri.ones⟩
 obtain ⟨ht8, hn64, _⟩ := h8 _ (mog hs) _ (mog hr)
 simp only at ht8 hn64
 refine .kn<|.seq<|.block<|.sr ?_
 refine .indexR k hrs hr (λ p24 => ?_)
 refine .q (.loadA rfl) ?_
 refine .allocA (λ b8 => ?_)
 refine .storeA rfl rfl<|.zn ?_
 refine Tri.cutS [(1, _), (2, _), (3, _), (6, _), (10, _), (11, _), (12, _), (20, _), (21, _), (22, _)] kE.c.c.c.c.c.c.c.c.c.c (X := (Value × Seg) × (Value × Seg) × (Value × Seg)) (λ y => OS 207 3 RlM.enc y.1.1 (L2 ++ [(⟨y.2.1.1, y.2.2.1, r⟩ : RlM)]) y.1.2 /\ OS 252 2 Ty.enc y.2.1.1 r.types y.2.1.2 /\ OS 168 5 Nd.enc y.2.2.1 r.nodes y.2.2.2) (λ _ E => E) (λ y => [y.1.2, y.2.1.2, y.2.2.2, Tp, bl b6 [.string sn, y.1.1] 187, bl b5 (SpM.enc ⟨sn, sv, rls⟩) 187, To, Ti, bl b3 [w, sZ] 25, bl b2 [sZ, sZ] 25, bl b1 [vs, vc] 25]) ?_ ?_
 refine .region_all [12, 14] mixed<|.tO 0 rfl (.fieldAddr rfl)<|.tO 1 rfl (.load1 rfl)<|.tO 2 rfl (.fieldAddr rfl)<|.tO 3 rfl (.load1 rfl)<|.tO 4 rfl (.fieldAddr rfl)<|.tO 5 rfl (.load1 rfl)<|.tO 7 rfl (.fieldAddr rfl)<|.tO 8 rfl (.load1 rfl)<|.sT 6 rfl<|.callN (LTY.clone_spec vt r.types _ hrt.rx (by omega)) (λ ut Tt hut => ?_)
 obtain ⟨pt, ct, rfl, _⟩ := hut.shape
 have iut := hut.oneCell
 refine .nil<|Next.sub<|.sT 9 rfl<|.callN (LND.clone_spec vn r.nodes _ hrd.rx (by omega)) (λ un Tn hun => ?_)
 obtain ⟨pn, cn, rfl, _⟩ := hun.shape
 have iun := hun.oneCell
 refine .nil<|Next.sub<|.tO 10 rfl .bld<|.sT 11 rfl ?_
 refine .buildSlice1A (λ b37 => ?_)
 refine .nil<|Next.sub<|.sT 12 rfl<|.append hO2 (RS.lits (xs := [(⟨.slice pt r.types.length ct, .slice pn r.nodes.length cn, r⟩ : RlM)]) rfl (by simp [RlM.enc]) (by intro y hy u hu; rw [List.mem_singleton] at hy; subst hy; simp only [RlM.enc, List.mem_cons, List.not_mem_nil, or_false] at hu; rcases hu with rfl | rfl | rfl <;> rfl)) (by simp only [List.length_singleton]; omega) (λ v5 T5 hv5 => ?_)
 have i5 := hv5.oneCell
 refine .nil<|Next.mod rfl<|.tK 13 rfl (.fieldAddrA rfl)<|.sT 14 rfl<|.store1 rfl rfl<|.nil<|Next.mod rfl<|RA.nil (by kernel_rfl) ?_
 ·exact joinQ_n ((v5, T5), (_, Tt), (_, Tn)) ⟨hv5, hut, hun⟩ ((((((((((kE.d rfl).d rfl).d rfl).d rfl).d rfl).d rfl).d rfl).d rfl).d rfl).d rfl) (pkH [4, 2, 1, 2, 2, 2, 2, 2, 2, 2, 2])
 intro y hy
 obtain ⟨⟨v5, T5⟩, ⟨ut, Tt⟩, ⟨un, Tn⟩⟩ := y
 obtain ⟨hv5, hut, hun⟩ := hy
 simp only at hv5 hut hun ⊢
 have i5 := hv5.oneCell
 refine blkQ_n<|seqQ_n<|.region<|.ia (k + 1) .add<|.mo rfl<|.nil ?_
 ·exact loopQ_i (k + 1, v5, L2 ++ [⟨ut, un, r⟩], T5, Tt ++ (Tn ++ Tp)) ⟨hkt, hv5, λ q hq => by
   rcases List.mem_append.1 hq with hq | hq
   ·exact (hI2 q hq).mono λ b o hb => sg_right (sg_right hb)
   ·rw [List.mem_singleton] at hq
    subst hq
    exact ⟨hri.n, hut.sg.mono λ b o hb => sg_left hb, hun.sg.mono λ b o hb => sg_right (sg_left hb), hri.ft, hri.fd⟩, by simp only; rw [take_next hr, List.map_append, List.map_append, hL2]; rfl⟩ (by simp only; omega) kE.c.c.c.c.c.c.c.c.c.c (HLe.ofPerm (by simp [setL, CfM.enc, SpM.enc]))
 rw [take_end (ge_i h2)] at hL2
 refine .exit<|seqQ_x<|loopQ_x<|blkQ_x<|seqQ_n<|.region<|.fa rfl<|.lo rfl<|.q (.loadA rfl) ?_
 refine .buildSlice1A (λ b44 => ?_)
 refine .append hO (RS.lits (xs := [(⟨sn, w2, L2⟩ : SpM)]) rfl (by simp [SpM.enc]) (by intro y hy u hu; rw [List.mem_singleton] at hy; subst hy; simp only [SpM.enc, List.mem_cons, List.not_mem_nil, or_false] at hu; rcases hu with rfl | rfl; rfl; exact io2.h)) (by simp only [List.length_singleton]; omega) (λ v5 T5 hv5 => ?_)
 have i5 := hv5.oneCell
 refine .fa rfl<|.store1 rfl rfl<|.nil<|blkQ_n<|seqQ_n<|.region<|.ia (i + 1) .add<|.mo rfl<|.nil ?_
 ·exact loopQ_i (i + 1, v5, L ++ [⟨sn, w2, L2⟩], T5, T2 ++ (Tp ++ Ti)) ⟨hlt, hv5, λ q hq => by
   rcases List.mem_append.1 hq with hq | hq
   ·exact (hI q hq).mono λ b o hb => sg_right (sg_right hb)
   ·rw [List.mem_singleton] at hq
    subst hq
    exact ⟨hsi.n, hO2.sg.mono λ b o hb => sg_left hb, λ r hr => (hI2 r hr).mono λ b o hb => sg_right (sg_left hb)⟩, by
   simp only
   rw [take_next hs, List.map_append, List.map_append, hL]
   simp only [List.map_cons, List.map_nil]
   congr 1
   unfold SpM.plain
   simp only
   rw [hL2]⟩ (by simp only; omega) kE.c.c.c.c.c.c ((pkH [5, 1, 1, 3, 3, 3, 3]).trans (HLe.ofPerm (by simp [take, dropAt, setL, CfM.enc])))
 rw [take_end (ge_i h1)] at hL
 refine .exit<|seqQ_x<|loopQ_x<|blkQ_x<|seqQ_n<|.sr<|.fa rfl<|.lo rfl<|.callN (LSC.clone_spec vc scs _ hsc.rx (by omega)) (λ uc Tc huc => ?_)
 have iuc := huc.oneCell
 refine .fa rfl<|.store1 rfl rfl<|.z<|.q (.loadA rfl)<|.storeA rfl rfl<|.zn ?_
 refine .ret (retQ_r _ (.one (.cellA rfl rfl)) (.one [1, 1, 0] _) ?_)
 ·refine ⟨_, rfl, ⟨w, uc, L, scs⟩, rfl, ⟨hO.sg.mono λ b o hb => ?_, huc.sg.mono λ b o hb => ?_, λ s hs => (hI s hs).mono λ b o hb => ?_, h.fc⟩, ?_⟩
  ·simp only [take, dropAt, List.getD_cons_zero, List.getD_cons_succ, List.flatten_cons, List.flatten_nil, List.append_nil]; exact sg_left hb
  ·simp only [take, dropAt, List.getD_cons_zero, List.getD_cons_succ, List.flatten_cons, List.flatten_nil, List.append_nil]; exact sg_right (sg_right hb)
  ·simp only [take, dropAt, List.getD_cons_zero, List.getD_cons_succ, List.flatten_cons, List.flatten_nil, List.append_nil]; exact sg_right (sg_left hb)
  ·unfold CfM.plain; simp only; rw [hL]
def RlM.zero : RlM := ⟨sZ, sZ, ⟨⟨#[]⟩, [], []⟩⟩
def FoundR (c : CfM) (t : Ty) (r : RlM) (ok : Bool) : Prop := match rfind c.plain.all t with
 | none => ok = false /\ r = RlM.zero
 | some j => ok = true /\ ∃ p s, c.spaces[p.1]? = some s /\ s.rels[p.2]? = some r /\ c.ix p = j
theorem find_none {l : List (ByteArray × Rl)} {t : Ty} (h : ∀ j x, j < l.length -> l[j]? = some x -> rkey x ≠ t) : rfind l t = none := by
 unfold rfind
 rw [List.findIdx?_eq_none_iff]
 intro x hx
 obtain ⟨j, hj, e⟩ := List.mem_iff_getElem.1 hx
 have := h j x hj (by rw [gge hj, e])
 simpa using this
theorem find_some {l : List (ByteArray × Rl)} {t : Ty} {i : Nat} {x : ByteArray × Rl} (hx : l[i]? = some x) (hk : rkey x = t) (h : ∀ j y, j < i -> l[j]? = some y -> rkey y ≠ t) : rfind l t = some i := by
 obtain ⟨hl, e⟩ := List.getElem?_eq_some_iff.1 hx
 unfold rfind
 rw [List.findIdx?_eq_some_iff_getElem]
 refine ⟨hl, by rw [e]; exact decide_eq_true hk, λ j hj => ?_⟩
 have := h j _ hj (gge (by omega))
 simpa using this
theorem sfind_spec (c : CfM) (R : Rds) (h : c.is R) (sp rel : ByteArray) : Spec prog 164 [.agg c.enc.toArray, .string sp, .string rel] R [] λ u H' => H' = [] /\ ∃ r ok, u = .tuple [.agg r.enc.toArray, .bool ok].toArray /\ FoundR c ⟨sp, rel⟩ r ok := by
 have hss := h.ss
 have i1 := hss.oneCell
 have i2 : One c.vc := RS.oneCell h.sc
 have hle := hss.le
 have hal := h.all
 have htot := total_all c.plain
 have hspl : c.plain.spaces.length = c.spaces.length := by unfold CfM.plain; simp
 have hpa : ∀ (i : Nat) (s : SpM), c.spaces[i]? = some s -> c.plain.spaces[i]? = some s.plain := λ i s hs => plain_at hs
 have hty := λ (p : Spot) (s : SpM) (r : RlM) => nms_typesC (c := c) (p := p) (s := s) (r := r)
 have hixd : ∀ i k, c.ix (i, k) = offs c.plain.spaces i + k := λ _ _ => rfl
 have hFR : ∀ r ok, FoundR c ⟨sp, rel⟩ r ok = (match rfind c.plain.all ⟨sp, rel⟩ with
  | none => ok = false /\ r = RlM.zero
  | some j => ok = true /\ ∃ p s, c.spaces[p.1]? = some s /\ s.rels[p.2]? = some r /\ c.ix p = j) := λ _ _ => rfl
 generalize hA : c.plain.all = A at *
 generalize hO_ : offs c.plain.spaces = of at *
 have hof0 : of 0 = 0 := by rw [<- hO_]; cases c.plain.spaces <;> rfl
 refine Spec.body Tryz.func164 rfl Tryz.results164 Tryz.ntmps164 rfl<|.sr ?_
 refine .boxA rfl (λ b3 => ?_)
 refine .allocA (λ b6 => ?_)
 refine .ag rfl<|.zs<|.sr<|.fa rfl<|.lo rfl<|.q (.lenR hss)<|.mo rfl<|.zn<|.block<|.loopS [(1, _), (2, _), (6, _), (13, _), (14, _)] (X := Nat) (λ i => i <= c.spaces.length /\ ∀ j x, j < of i -> A[j]? = some x -> rkey x ≠ ⟨sp, rel⟩) (λ i E => (15, iN i) :: E) (λ _ G => G) (λ i => c.spaces.length - i) 0 ⟨Nat.zero_le _, λ j x hj => by rw [hof0] at hj; omega⟩ kE.c.c.c.c.c.c rH ?_
 rintro i ⟨hi, hq⟩
 refine .sr<|.q .lss<|.zs<|.cond rfl (λ h1 => ?_) λ h1 => ?_
 have hlt : i < c.spaces.length := lt_i h1
 obtain ⟨⟨sn, sv, rls⟩, hs⟩ := exg hlt
 have hsi := hal _ (mog hs)
 have hrs : RS R 3 RlM.enc sv rls := hsi.rs
 have irs := hrs.oneCell
 have hler := hrs.le
 have isp : Ones (SpM.enc ⟨sn, sv, rls⟩) := ⟨hsi.ones⟩
 have hp1 := hpa i _ hs
 have hofn := offs_next hp1
 rw [hO_, show (SpM.plain ⟨sn, sv, rls⟩).rels.length = rls.length by simp [SpM.plain]] at hofn
 refine .kn<|.seq<|.block<|.sr ?_
 refine .indexR i hss hs (λ p17 => ?_)
 refine .q (.loadA rfl) ?_
 refine .allocA (λ b9 => ?_)
 refine .storeA rfl rfl<|.z<|.fa rfl<|.lo rfl<|.q (.lenR hrs)<|.mo rfl<|.zn<|.block<|.loopS [(1, _), (2, _), (6, _), (9, _), (13, _), (14, _), (15, _), (20, _), (21, _)] (X := Nat) (λ k => k <= rls.length /\ ∀ j x, j < of i + k -> A[j]? = some x -> rkey x ≠ ⟨sp, rel⟩) (λ k E => (22, iN k) :: E) (λ _ G => G) (λ k => rls.length - k) 0 ⟨Nat.zero_le _, λ j x hj => hq j x (by omega)⟩ kE.c.c.c.c.c.c.c.c.c.c rH ?_
 rintro k ⟨hk, hqk⟩
 refine .sr<|.q .lss<|.zs<|.cond rfl (λ h2 => ?_) λ h2 => ?_
 have hkt : k < rls.length := lt_i h2
 obtain ⟨⟨vt, vn, r⟩, hr⟩ := exg hkt
 have hri := hsi.all _ (mog hr)
 have irt : One vt := RS.oneCell hri.t
 have ird : One vn := RS.oneCell hri.d
 have hone : Ones (RlM.enc ⟨vt, vn, r⟩) := ⟨hri.ones⟩
 have hax := hty (i, k) _ _ hs hr
 rw [hixd] at hax
 refine .kn<|.seq<|.block<|.sr ?_
 refine .indexR k hrs hr (λ p24 => ?_)
 refine .q (.loadA rfl) ?_
 refine .allocA (λ b11 => ?_)
 refine .storeA rfl rfl<|.zs ?_
 refine Tri.cutS [(1, _), (2, _), (6, _), (9, _), (11, _), (13, _), (14, _), (15, _), (20, _), (21, _), (22, _)] kE.c.c.c.c.c.c.c.c.c.c.c (X := Unit) (λ _ => True) (λ _ E => (35, .bool (decide (sn = sp) && decide (r.name = rel))) :: E) (λ _ => [bl b11 (RlM.enc ⟨vt, vn, r⟩) 207, bl b9 (SpM.enc ⟨sn, sv, rls⟩) 187, bl b6 [.string ⟨#[]⟩, sZ, sZ] 207, bl b3 c.enc 25]) ?_ ?_
 refine .region<|.fa rfl<|.lo rfl<|.mo rfl<|.q .eqS<|.mo rfl<|.split (t := 30) rfl (λ g7_4 => ?_) (λ g7_4 => ?_)
 refine .gT g7_4<|.fa rfl<|.gT g7_4<|.lo rfl<|.gT g7_4<|.mo rfl<|.gT g7_4<|.q .eqS<|.q (.pickTh g7_4)<|.nil ?_
 ·exact joinQ_n () trivial (kE.c.c.c.c.c.c.c.c.c.c.c.consB rfl (by simp [h2, g7_4])) rH
 refine .gF g7_4<|.gF g7_4<|.gF g7_4<|.gF g7_4<|.q (.pickFh g7_4)<|.nil ?_
 ·exact joinQ_n () trivial (kE.c.c.c.c.c.c.c.c.c.c.c.consB rfl (by simp [h2, g7_4])) rH
 intro y hy
 refine seqQ_n<|.cond rfl (λ h3 => ?_) λ h3 => ?_
 refine .sr<|.q (.loadA rfl)<|.storeA rfl rfl<|.az rfl ?_
 refine .ret (blkQ_r (seqQ_r (loopQ_r (blkQ_r (blkQ_r (seqQ_r (loopQ_r (blkQ_r (seqQ_r (retQ_r _ (.two (.cellA rfl rfl) (.tmp rfl)) (.none _) ?_))))))))))
 ·refine ⟨rfl, ⟨vt, vn, r⟩, true, rfl, ?_⟩
  have h3' : sn = sp /\ r.name = rel := by simpa using h3
  rw [hFR, find_some hax (show (⟨sn, r.name⟩ : Ty) = _ by rw [h3'.1, h3'.2]) hqk]
  exact ⟨rfl, (i, k), _, hs, hr, hixd i k⟩
 refine .skip<|blkQ_n<|seqQ_n<|.region<|.ia (k + 1) .add<|.mo rfl<|.nil ?_
 ·exact loopQ_i (k + 1) ⟨hkt, λ j x hj hx => by
   rcases Nat.lt_or_ge j (of i + k) with hh | hh
   ·exact hqk j x hh hx
   ·obtain rfl : j = of i + k := by omega
    rw [hax] at hx
    cases hx
    intro he
    injection he with e1 e2
    have e1' : sn = sp := e1
    have e2' : r.name = rel := e2
    simp [e1', e2'] at h3⟩ (by omega) kE.c.c.c.c.c.c.c.c.c.c (pkH [1, 1, 1])
 have hke : k = rls.length := by have := odf h2; omega
 refine .exit<|seqQ_x<|loopQ_x<|blkQ_x<|blkQ_n<|seqQ_n<|.region<|.ia (i + 1) .add<|.mo rfl<|.nil ?_
 ·exact loopQ_i (i + 1) ⟨hlt, λ j x hj hx => hqk j x (by omega) hx⟩ (by omega) kE.c.c.c.c.c.c (pkH [1, 1])
 refine .exit<|seqQ_x<|loopQ_x<|blkQ_x<|seqQ_n<|.sr<|.q .bld<|.storeA rfl rfl<|.az rfl ?_
 refine .ret (retQ_r _ (.two (.cellA rfl rfl) (.tmp rfl)) (.none _) ?_)
 ·refine ⟨rfl, RlM.zero, false, rfl, ?_⟩
  have hie : of i = A.length := by
   have : i = c.spaces.length := by have := odf h1; omega
   rw [this, <- hspl, <- hO_, <- htot]
   rfl
  rw [hFR, find_none λ j x hj hx => hq j x (by omega) hx]
  exact ⟨rfl, rfl⟩
theorem sfits_spec (t : Ty) (s : Sub) (R : Rds) : Spec prog 255 [.agg t.enc.toArray, .agg s.enc.toArray] R [] λ u H' => u = .bool (fitT s t) /\ H' = [] := by
 obtain ⟨ts, tr⟩ := t
 obtain ⟨us, ss, si, sr⟩ := s
 refine Spec.body Tryz.func255 rfl Tryz.results255 Tryz.ntmps255 rfl<|.sr ?_
 refine .boxA rfl (λ b2 => ?_)
 refine .boxA rfl (λ b3 => ?_)
 refine .ag rfl<|.zs<|.sr<|.fa rfl<|.lo rfl<|.q .neS<|.zn<|.cond rfl (λ h1 => ?_) λ h1 => ?_
 refine .sr<|.q (.loadA rfl)<|.q .bld<|.q (.cast (.eqA (xs := Ty.enc ⟨ts, tr⟩) (ys := Ty.enc ⟨⟨#[]⟩, ⟨#[]⟩⟩) rfl rfl (Ty.kinds _) (Ty.kinds _)) (congrArg Value.bool (Ty.eq _ _)))<|.az rfl<|.ret (seqQ_r (rq1 rfl ?_))
 ·refine ⟨congrArg _ ?_, rfl⟩
  simp only [fitT]
  grind
 refine .kn<|.sr<|.fa rfl<|.lo rfl<|.q .neS<|.mo rfl<|.split (t := 14) rfl (λ g3_3 => ?_) (λ g3_3 => ?_)
 refine .gT g3_3<|.fa rfl<|.gT g3_3<|.lo rfl<|.gT g3_3<|.fa rfl<|.gT g3_3<|.fa rfl<|.gT g3_3<|.lo rfl<|.gT g3_3<|.q .eqS<|.q (.pickTh g3_3)<|.mo rfl<|.split (t := 22) rfl (λ g3_11 => ?_) (λ g3_11 => ?_)
 refine .gT g3_11<|.fa rfl<|.gT g3_11<|.lo rfl<|.gT g3_11<|.fa rfl<|.gT g3_11<|.lo rfl<|.gT g3_11<|.q .eqS<|.q (.pickTh g3_11)<|.az rfl<|.ret (rq1 rfl ?_)
 ·refine ⟨congrArg _ ?_, rfl⟩
  simp only [fitT]
  grind
 refine .gF g3_11<|.gF g3_11<|.gF g3_11<|.gF g3_11<|.gF g3_11<|.q (.pickFh g3_11)<|.az rfl<|.ret (rq1 rfl ?_)
 ·refine ⟨congrArg _ ?_, rfl⟩
  simp only [fitT]
  grind
 refine .gF g3_3<|.gF g3_3<|.gF g3_3<|.gF g3_3<|.gF g3_3<|.gF g3_3<|.q (.pickFh g3_3)<|.mo rfl<|.gX<|.gX<|.gX<|.gX<|.gX<|.q .pickF<|.az rfl<|.ret (rq1 rfl ?_)
 ·refine ⟨congrArg _ ?_, rfl⟩
  simp only [fitT]
  grind
theorem allowed1_spec (t : Ty) (s : Sub) (x1 x2 x3 : Value) (q : Nat) (R : Rds) [pc : PC R (pT q) (x1 :: x2 :: x3 :: s.enc)] : Spec prog 254 [.agg t.enc.toArray, pT q] R [] λ u H' => u = .bool (fitT s t) /\ H' = [] := by
 refine Spec.body Tryz.func254 rfl Tryz.results254 Tryz.ntmps254 rfl<|.sr ?_
 refine .boxA rfl (λ b2 => ?_)
 refine .ag rfl<|.z<|.q (.loadA rfl)<|.fa rfl<|.q (.loadT rfl)<|.callR (sfits_spec t s _) (λ u hu => ?_)
 subst hu
 refine .az rfl<|.ret (rq1 rfl ?_)
 ·exact ⟨rfl, rfl⟩
theorem allowed_spec (c : CfM) (R : Rds) (h : c.is R) (t : Tpl) : Spec prog 203 [.agg c.enc.toArray, .agg t.enc.toArray] R [] λ u H' => u = .int .i64 (if allowed c.plain t.obr t.sub then 0 else 14) /\ H' = [] := by
 have hfind := sfind_spec c R h t.os t.rel
 have hal := h.all
 have i1 : One c.vs := RS.oneCell h.ss
 have i2 : One c.vc := RS.oneCell h.sc
 have hall : allowed c.plain t.obr t.sub = match rfind c.plain.all ⟨t.os, t.rel⟩ with
  | none => false
  | some i => ((c.plain.all.map (·.2.types)).getD i []).any (fitT t.sub) := rfl
 refine Spec.body Tryz.func203 rfl Tryz.results203 Tryz.ntmps203 rfl<|.sr ?_
 refine .boxA rfl (λ b2 => ?_)
 refine .boxA rfl (λ b3 => ?_)
 refine .ag rfl<|.z<|.q (.loadA rfl)<|.fa rfl<|.fa rfl<|.lo rfl<|.fa rfl<|.lo rfl<|.callR ((hfind.mono λ u H' hu => ⟨hu.2, hu.1⟩).weaken rxl) (λ u hu => ?_)
 obtain ⟨r, ok, rfl, hF⟩ := hu
 obtain ⟨tys, hty, hany⟩ : ∃ tys, RS R 2 Ty.enc r.vt tys /\ allowed c.plain t.obr t.sub = (ok && tys.any (fitT t.sub)) := by
  rw [hall]
  unfold FoundR at hF
  cases hf : rfind c.plain.all ⟨t.os, t.rel⟩ with
  | none => rw [hf] at hF; obtain ⟨rfl, rfl⟩ := hF; exact ⟨[], RS.nil0, rfl⟩
  | some j =>
   rw [hf] at hF
   obtain ⟨rfl, p, s, hs, hr, hj⟩ := hF
   refine ⟨r.r.types, ((hal _ (mog hs)).all _ (mog hr)).t, ?_⟩
   have := nms_typesC hs hr
   rw [hj] at this
   simp only [Bool.true_and]
   rw [List.getD_eq_getElem?_getD, List.getElem?_map, this]
   rfl
 have hone : Ones r.enc := by
  unfold FoundR at hF
  cases hf : rfind c.plain.all ⟨t.os, t.rel⟩ with
  | none => rw [hf] at hF; obtain ⟨_, rfl⟩ := hF; exact ⟨by simp [RlM.enc, RlM.zero, oneCell]⟩
  | some j => rw [hf] at hF; obtain ⟨_, p, s, hs, hr, hj⟩ := hF; exact ⟨((hal _ (mog hs)).all _ (mog hr)).ones⟩
 obtain ⟨vt, vn, r⟩ := r
 simp only at hty
 refine .mo rfl<|.q .extract<|.q .extract ?_
 refine .allocA (λ b5 => ?_)
 refine .storeA rfl rfl<|.ag rfl<|.zs<|.sr<|.mo rfl<|.q .not<|.mo rfl<|.split (t := 19) rfl (λ g2_2 => ?_) (λ g2_2 => ?_)
 refine .gF g2_2<|.gF g2_2<|.gF g2_2<|.gF g2_2<|.gF g2_2<|.q (.pickTh g2_2)<|.zn<|.condT<|.sr<|.az rfl<|.ret (seqQ_r (rq1 rfl ?_))
 ·refine ⟨?_, rfl⟩
  rw [hany, if_neg (by simp_all)]
 refine .gT g2_2<|.fa rfl<|.gT g2_2<|.lo rfl<|.gT g2_2<|.q .makeFunc<|.gT g2_2 ?_
 refine .callR (LTY.containsF_spec 254 [pT b3] (fitT t.sub) vt tys _ hty.rx (λ y _ R' hR' => by
  have pcb : PC R' (pT b3) (.string t.os :: .string t.oi :: .string t.rel :: t.sub.enc) := PC.of (E := 151) (fr := (0, 0)) (hR' _ _ (.inr (by simp [Tpl.enc, Sub.enc, Tpl.sub])))
  exact allowed1_spec y t.sub _ _ _ b3 R')) (λ u hu => ?_)
 subst hu
 refine .gT g2_2<|.q .not<|.q (.pickFh g2_2)<|.zn<|.cond rfl (λ h1 => ?_) λ h1 => ?_
 refine .sr<|.az rfl<|.ret (seqQ_r (rq1 rfl ?_))
 ·refine ⟨?_, rfl⟩
  rw [hany, if_neg (by simp_all)]
 refine .kn<|.sr<|.az rfl<|.ret (rq1 rfl ?_)
 ·refine ⟨?_, rfl⟩
  rw [hany, if_pos (by simp_all)]
structure EnM where
 rev : Int
 c : CfM
 vn : Value
 ll : List NlM
def EnM.enc (e : EnM) : List Value := [.int .u64 e.rev, e.c.vs, e.c.vc, e.vn]
structure EnM.is (R : Rds) (e : EnM) : Prop where
 c : e.c.is R
 n : NN R e.vn e.ll
 ok : (e.c.plain.numbers isWord isRef).1 = 0
 eq : e.ll.map (·.2) = (e.c.plain.numbers isWord isRef).2
theorem EnM.is.mono {R R' : Rds} {e : EnM} (h : e.is R) (hR : ∀ b o, R b o -> R' b o) : e.is R' := ⟨h.c.mono hR, h.n.mono hR, h.ok, h.eq⟩
theorem EnM.is.ones {R : Rds} {e : EnM} (h : e.is R) : ∀ u ∈ e.enc, oneCell u = true := by
 have h1 := h.c.ss.oneCell
 have h2 := h.c.sc.oneCell
 have h3 := h.n.rs.oneCell
 intro u hu
 simp only [EnM.enc, List.mem_cons, List.not_mem_nil, or_false] at hu
 rcases hu with rfl | rfl | rfl | rfl
 ·rfl
 ·exact h1.h
 ·exact h2.h
 ·exact h3.h
theorem right_of_ok {c : Cf} (h : (c.numbers isWord isRef).1 = 0) : c.right isWord isRef = true := by
 cases hr : c.right isWord isRef with
 | true => rfl
 | false => unfold Cf.numbers at h; rw [if_pos hr] at h; cases h
def HI (hb : Nat) (es : List EnM) (gone : Nat) (T : Seg) : Prop := ∃ vl Te Tp, T = (hb, .cells [.bool true, vl, iN gone].toArray 116 (0, 0)) :: (Te ++ Tp) /\ OS 202 4 EnM.enc vl es Te /\ ∀ e ∈ es, e.is (sg Tp)
structure HV (R : Rds) (hb : Nat) (vl : Value) (es : List EnM) (gone : Nat) : Prop where
 pc : PC R (pT hb) [.bool true, vl, iN gone]
 rs : RS R 4 EnM.enc vl es
 all : ∀ e ∈ es, e.is R
theorem HV.mono {R R' : Rds} {hb : Nat} {vl : Value} {es : List EnM} {gone : Nat} (h : HV R hb vl es gone) (hR : ∀ b o, R b o -> R' b o) : HV R' hb vl es gone := ⟨h.pc.mono hR, h.rs.mono hR, λ e he => (h.all e he).mono hR⟩
theorem HI.view {hb : Nat} {es : List EnM} {gone : Nat} {T : Seg} {R : Rds} (h : HI hb es gone T) (hR : ∀ p ∈ T, R p.1 p.2) : ∃ vl, HV R hb vl es gone := by
 obtain ⟨vl, Te, Tp, rfl, hO, hI⟩ := h
 refine ⟨vl, PC.of (E := 116) (fr := (0, 0)) (hR (hb, _) (by simp)), hO.rs λ p hp => hR p (by simp [hp]), λ e he => (hI e he).mono λ b o hb => hR (b, o) ?_⟩
 have : (b, o) ∈ Tp := hb
 simp [this]
theorem hnew_spec (R : Rds) : Spec prog 36 [] R [] λ u H' => ∃ T, H' = [T] /\ ∃ hb, u = pT hb /\ HI hb [] 0 T := by
 refine Spec.body Tryz.func36 rfl Tryz.results36 Tryz.ntmps36 rfl<|.sr<|.ag rfl<|.z<|.q .bld ?_
 refine .boxA rfl (λ b2 => ?_)
 refine .az rfl<|.ret (retQ_r _ (.one (.tmp rfl)) (.one [0] _) ?_)
 ·exact ⟨_, rfl, b2, rfl, sZ, [], [], rfl, OS.nil, λ e he => (by cases he)⟩
section
variable {R : Rds} {hb : Nat} {vl : Value} {es : List EnM} {gone : Nat}
theorem HV.made (h : HV R hb vl es gone) : Spec prog 91 [pT hb] R [] λ u H' => u = .bool true /\ H' = [] := by
 have pc := h.pc
 have il := h.rs.oneCell
 refine Spec.body Tryz.func91 rfl Tryz.results91 Tryz.ntmps91 rfl<|.sr<|.ag rfl<|.z<|.mo rfl<|.q (.neNilP rfl rfl)<|.mo rfl<|.gt rfl<|.mo rfl<|.gt rfl<|.nc rfl<|.gt rfl<|.fa rfl<|.gt rfl<|.lo rfl<|.q .pickT<|.az rfl<|.ret (rq1 rfl ?_)
 ·exact ⟨rfl, rfl⟩
def hl (es : List EnM) (r : Int) : Nat -> Option Nat
 | 0 => none
 | n + 1 => match es[n]? with
  | some e => if e.rev <= r then some n else hl es r n
  | none => hl es r n
theorem hl_at {es : List EnM} {r : Int} : ∀ {n i : Nat}, hl es r n = some i -> i < n /\ ∃ e, es[i]? = some e
 | 0, i, h => by cases h
 | n + 1, i, h => by
  unfold hl at h
  split at h
  ·rename_i e he
   split at h
   ·cases h; exact ⟨by omega, e, he⟩
   ·obtain ⟨h1, h2⟩ := hl_at h; exact ⟨by omega, h2⟩
  ·obtain ⟨h1, h2⟩ := hl_at h; exact ⟨by omega, h2⟩
theorem HV.last (h : HV R hb vl es gone) (r : Int) : Spec prog 101 [pT hb, .int .u64 r] R [] λ u H' => u = .int .i64 (fI (hl es r es.length)) /\ H' = [] := by
 have pc := h.pc
 have hrs := h.rs
 have il := hrs.oneCell
 have hle := hrs.le
 have hal := h.all
 refine Spec.body Tryz.func101 rfl Tryz.results101 Tryz.ntmps101 rfl<|.sr<|.ag rfl<|.zs<|.sr<|.mo rfl<|.callR (h.made.weaken rxl) (λ u hu => ?_)
 subst hu
 refine .q .not<|.zn<|.condF<|.kn<|.sr<|.ag rfl<|.zs<|.sr<|.mo rfl<|.nc rfl<|.fa rfl<|.lo rfl<|.q (.lenR hrs)<|.mo rfl<|.zn<|.block<|.loopS [(1, _), (14, _), (15, _)] (X := Nat) (λ i => i <= es.length) (λ i E => (16, iN i) :: (5, .int .i64 (fI (hl es r i))) :: E) (λ _ G => G) (λ i => es.length - i) 0 (Nat.zero_le _) kE.c.c.c.c.c rH ?_
 rintro i hi
 refine .sr<|.q .lss<|.zs<|.cond rfl (λ h2 => ?_) λ h2 => ?_
 have hlt : i < es.length := lt_i h2
 obtain ⟨e, he⟩ := exg hlt
 have hone : Ones e.enc := ⟨(hal e (mog he)).ones⟩
 have hn : hl es r (i + 1) = if e.rev <= r then some i else hl es r i := by rw [hl, he]
 refine .kn<|.seq<|.block<|.sr<|.mo rfl ?_
 refine .indexR i hrs he (λ p19 => ?_)
 refine .q (.loadA rfl) ?_
 refine .allocA (λ b7 => ?_)
 refine .ag rfl<|.storeA rfl rfl<|.z<|.fa rfl<|.fa rfl<|.lo rfl<|.mo rfl<|.q .leq<|.zn ?_
 refine Tri.cutS [(1, _), (14, _), (15, _), (16, _)] kE.c.c.c.c (X := Unit) (λ _ => True) (λ _ E => (5, .int .i64 (fI (hl es r (i + 1)))) :: E) (λ _ => []) ?_ ?_
 refine .cond rfl (λ h3 => ?_) λ h3 => ?_
 refine .region<|.mo rfl<|.ag rfl<|.nil ?_
 ·exact joinQ_n () trivial (kE.c.c.c.c.consI rfl (by rw [hn]; first | rw [if_pos (odt h3)]; rfl | rw [if_neg (odf h3)])) (HLe.none _)
 refine .skip ?_
 ·exact joinQ_n () trivial (kE.c.c.c.c.consI rfl (by rw [hn]; first | rw [if_pos (odt h3)]; rfl | rw [if_neg (odf h3)])) (HLe.none _)
 intro x hx
 refine blkQ_n<|seqQ_n<|.region<|.ia (i + 1) .add<|.mo rfl<|.nil ?_
 ·exact loopQ_i (i + 1) hlt (by omega) kE.c.c.c.c.c rH
 refine .exit<|seqQ_x<|loopQ_x<|blkQ_x<|seqQ_n<|.sr<|.mo rfl<|.az rfl<|.ret (rq1 rfl ?_)
 ·refine ⟨?_, rfl⟩
  rw [show i = es.length by have := odf h2; omega]
def atV (es : List EnM) (gone : Nat) (r : Int) : Int := match hl es r es.length with
 | none => 0
 | some i => (gone + i + 1 : Nat)
def atC (es : List EnM) (r : Int) : Option EnM := (hl es r es.length).bind λ i => es[i]?
theorem HV.at_ (h : HV R hb vl es gone) (r : Int) (hg : gone <= 1000000 /\ es.length <= 1000000) : Spec prog 44 [pT hb, .int .u64 r] R [] λ u H' => ∃ T, H' = [T] /\ ∃ c' : CfM, u = .tuple [.agg c'.enc.toArray, .int .i64 (atV es gone r)].toArray /\ c'.is (sg T) /\ c'.plain = ((atC es r).map (·.c.plain)).getD ⟨[], []⟩ := by
 have pc := h.pc
 have hrs := h.rs
 have il := hrs.oneCell
 have hle := hrs.le
 have hal := h.all
 obtain ⟨hg1, hg2⟩ := hg
 refine Spec.body Tryz.func44 rfl Tryz.results44 Tryz.ntmps44 rfl<|.sr ?_
 refine .allocA (λ b4 => ?_)
 refine .ag rfl<|.z<|.mo rfl<|.mo rfl<|.callR ((h.last r).weaken rxl) (λ u hu => ?_)
 subst hu
 refine .ag rfl<|.zs<|.sr<|.mo rfl<|.q .lss<|.zn<|.cond rfl (λ h1 => ?_) λ h1 => ?_
 have hn : hl es r es.length = none := by
  cases hh : hl es r es.length with
  | none => rfl
  | some i => rw [hh] at h1; simp only [fI] at h1; have := odt h1; omega
 refine .sr<|.q .bld<|.storeA rfl rfl<|.az rfl ?_
 refine .ret (seqQ_r (retQ_r _ (.two (.cellA rfl rfl) (.tmp rfl)) HLe.nil1 ?_))
 ·refine ⟨[], rfl, ⟨sZ, sZ, [], []⟩, ?_, ⟨RS.nil0, RS.nil0, λ s hs => (by cases hs), λ s hs => (by cases hs)⟩, ?_⟩
  ·unfold atV; rw [hn]; rfl
  ·unfold atC; rw [hn]; rfl
 obtain ⟨i, hi⟩ : ∃ i, hl es r es.length = some i := by
  cases hh : hl es r es.length with
  | none => rw [hh] at h1; simp [fI] at h1
  | some i => exact ⟨i, rfl⟩
 obtain ⟨hil, e, he⟩ := hl_at hi
 have hei := hal e (mog he)
 have hone : Ones e.enc := ⟨hei.ones⟩
 have hcp := copied_spec e.c R hei.c (fewC_of (right_of_ok hei.ok))
 have hfi : fI (hl es r es.length) = (i : Int) := by rw [hi]; rfl
 have pe := hrs.pc he
 rw [hfi]
 refine .kn<|.seq ?_
 refine Tri.cutS [(4, _)] kE.c (X := CfM × Seg) (λ y => y.1.is (sg y.2) /\ y.1.plain = e.c.plain) (λ _ E => (5, .int .i64 ((gone + i + 1 : Nat) : Int)) :: E) (λ y => [y.2, bl b4 y.1.enc 25]) ?_ ?_
 refine .region_all [17] mixed<|.tO 0 rfl .move<|.tO 1 rfl (.nilCheck rfl)<|.tO 2 rfl (.fieldAddr rfl)<|.tO 3 rfl (.load1 rfl)<|.tO 4 rfl .move<|.tO 5 rfl (.indexR i hrs he rfl rfl rfl)<|.tO 6 rfl (.fieldAddr rfl)<|.tO 7 rfl (.fieldAddr rfl)<|.tO 8 rfl (.loadT rfl)<|.tK 10 rfl .move<|.tK 11 rfl (.nilCheckA rfl)<|.tK 12 rfl (.fieldAddrA rfl)<|.tK 13 rfl (.load1 rfl)<|.tK 14 rfl .move<|.take 15 rfl (.i64 ((gone + i : Nat) : Int) .add ⟨by omega, by omega, by omega⟩) (by kernel_rfl)<|.take 16 rfl (.i64 ((gone + i + 1 : Nat) : Int) .add ⟨by omega, by omega, by omega⟩) (by kernel_rfl)<|.sT 9 rfl<|.callN (hcp.weaken rxl) (λ u T9 hu => ?_)
 obtain ⟨c', rfl, hc', hcpl⟩ := hu
 have hcc : Ones c'.enc := ⟨hc'.ones⟩
 have ic1 : One c'.vs := RS.oneCell hc'.ss
 have ic2 : One c'.vc := RS.oneCell hc'.sc
 refine .nil<|Next.sub<|.sT 17 rfl<|.storeA rfl rfl<|.nil<|Next.mod rfl<|.tK 18 rfl .assign<|RA.nil (by kernel_rfl) ?_
 ·exact joinQ_n (c', T9) ⟨hc', hcpl⟩ kE.c.c (by first | exact HLe.refl _ | exact HLe.pick [0, 0] _ | exact pkH [1, 0])
 intro y hy
 obtain ⟨c', T9⟩ := y
 obtain ⟨hc', hcpl⟩ := hy
 simp only at hc' hcpl ⊢
 refine seqQ_n<|.ret (retQ_r _ (.two (.cellA rfl rfl) (.tmp rfl)) (.one [0] _) ?_)
 ·refine ⟨T9, by simp [take], c', ?_, hc', ?_⟩
  ·unfold atV; rw [hi]
  ·unfold atC; rw [hi, Option.bind_some, he]; exact hcpl
end
theorem HV.numbers {R : Rds} {hb : Nat} {vl : Value} {es : List EnM} {gone : Nat} (h : HV R hb vl es gone) (r : Int) (hl8 : ∀ e ∈ es, e.ll.length <= 1000000 /\ ∀ q ∈ e.ll, q.2.length <= 1000000) : Spec prog 103 [pT hb, .int .u64 r] R [] λ u H' => ∃ T, H' = [T] /\ ∃ ll, NN (sg T) u ll /\ ll.map (·.2) = ((atC es r).map λ e => e.ll.map (·.2)).getD [] := by
 have pc := h.pc
 have hrs := h.rs
 have il := hrs.oneCell
 have hle := hrs.le
 have hal := h.all
 refine Spec.body Tryz.func103 rfl Tryz.results103 Tryz.ntmps103 rfl<|.sr<|.ag rfl<|.z<|.mo rfl<|.mo rfl<|.callR ((h.last r).weaken rxl) (λ u hu => ?_)
 subst hu
 refine .ag rfl<|.zs<|.sr<|.mo rfl<|.q .lss<|.zn<|.cond rfl (λ h1 => ?_) λ h1 => ?_
 have hn : hl es r es.length = none := by
  cases hh : hl es r es.length with
  | none => rfl
  | some i => rw [hh] at h1; simp only [fI] at h1; have := odt h1; omega
 refine .sr<|.az rfl<|.ret (seqQ_r (retQ_r _ (.one (.tmp rfl)) HLe.nil1 ?_))
 ·refine ⟨[], rfl, [], .nil, ?_⟩
  unfold atC; rw [hn]; rfl
 obtain ⟨i, hi⟩ : ∃ i, hl es r es.length = some i := by
  cases hh : hl es r es.length with
  | none => rw [hh] at h1; simp [fI] at h1
  | some i => exact ⟨i, rfl⟩
 obtain ⟨hil, e, he⟩ := hl_at hi
 have hei := hal e (mog he)
 have hn := hei.n
 have hnr := hn.rs
 have inr := hnr.oneCell
 obtain ⟨hl1, hl2⟩ := hl8 e (mog he)
 have ic1 : One e.c.vs := RS.oneCell hei.c.ss
 have ic2 : One e.c.vc := RS.oneCell hei.c.sc
 have hfi : fI (hl es r es.length) = (i : Int) := by rw [hi]; rfl
 rw [hfi]
 refine .kn<|.sr<|.ag rfl<|.zs<|.sr<|.mo rfl<|.nc rfl<|.fa rfl<|.lo rfl<|.mo rfl ?_
 refine .indexR i hrs he (λ p19 => ?_)
 refine .fa rfl<|.lo rfl<|.q (.lenR hnr)<|.mo rfl<|.zn<|.block<|.loopS [(21, _), (22, _)] (X := Nat × Value × List NlM × Seg × Seg) (λ y => y.1 <= e.ll.length /\ OS 127 1 encV1 y.2.1 y.2.2.1 y.2.2.2.1 /\ (∀ q ∈ y.2.2.1, RS (sg y.2.2.2.2) 1 encNt q.1 q.2) /\ y.2.2.1.map (·.2) = (e.ll.take y.1).map (·.2)) (λ y E => (23, iN y.1) :: (6, y.2.1) :: E) (λ y G => y.2.2.2.1 :: y.2.2.2.2 :: G) (λ y => e.ll.length - y.1) (0, sZ, [], [], []) ⟨Nat.zero_le _, OS.nil, λ q hq => (by cases hq), rfl⟩ kE.c.c.c.c HLe.new00 ?_
 rintro ⟨k, vo, L, To, Tp⟩ ⟨hk, hO, hI, hL⟩
 simp only at hk hO hI hL ⊢
 have io := hO.oneCell
 have hLl : L.length = k := by have := congrArg List.length hL; rw [List.length_map, List.length_map, List.length_take] at this; omega
 refine .sr<|.q .lss<|.zs<|.cond rfl (λ h2 => ?_) λ h2 => ?_
 have hkt : k < e.ll.length := lt_i h2
 obtain ⟨q, hq⟩ := exg hkt
 have hqr := hn.all q (mog hq)
 have iq := hqr.oneCell
 refine .kn<|.seq<|.block<|.sr ?_
 refine .indexR k hnr hq (λ p25 => ?_)
 refine .lo rfl<|.az rfl<|.region<|.mo rfl<|.mo rfl<|.callN (LIN.clone_spec q.1 q.2 _ hqr.rx (hl2 q (mog hq))) (λ u T1 hu => ?_)
 have iu := hu.oneCell
 obtain ⟨pu, cu, rfl, _⟩ := hu.shape
 refine .buildSlice11 (λ b30 => ?_)
 refine .append hO (RS.lits (xs := [((.slice pu q.2.length cu, q.2) : NlM)]) rfl (by simp [encV1]) (by simp [encV1, oneCell])) (by simp only [List.length_singleton]; omega) (λ v5 T5 hv5 => ?_)
 have i5 := hv5.oneCell
 refine .ag rfl<|.nil<|blkQ_n<|seqQ_n<|.region<|.ia (k + 1) .add<|.mo rfl<|.nil ?_
 ·exact loopQ_i (k + 1, v5, L ++ [(.slice pu q.2.length cu, q.2)], T5, T1 ++ Tp) ⟨hkt, hv5, λ q' hq' => by
   rcases List.mem_append.1 hq' with hq' | hq'
   ·exact (hI q' hq').mono λ b o hb => sg_right hb
   ·rw [List.mem_singleton] at hq'
    subst hq'
    exact hu.sg.mono λ b o hb => sg_left hb, by simp only; rw [take_next hq, List.map_append, List.map_append, hL]; rfl⟩ (by simp only; omega) kE.c.c.c.c ((pkH [2, 1, 1]).trans (HLe.ofPerm (by simp [take, dropAt])))
 refine .exit<|seqQ_x<|loopQ_x<|blkQ_x<|seqQ_n<|.sr<|.mo rfl<|.az rfl<|.ret (retQ_r _ (.one (.tmp rfl)) (.one [0, 0] _) ?_)
 ·refine ⟨To ++ Tp, by simp [take, dropAt], L, ⟨hO.sg.mono λ b o hb => sg_left hb, λ q hq => (hI q hq).mono λ b o hb => sg_right hb⟩, ?_⟩
  rw [take_end (ge_i h2)] at hL
  unfold atC; rw [hi, Option.bind_some, he, hL]; rfl
def hcode (es : List EnM) (rev : Int) (c : Cf) : Int :=
 if (es.getLast?.map λ e => decide (rev <= e.rev)).getD false then 12 else if (c.numbers isWord isRef).1 ≠ 0 then (c.numbers isWord isRef).1 else if 16 <= es.length then 8 else 0
theorem hadd_spec (hb : Nat) (es : List EnM) (gone : Nat) (T : Seg) (h : HI hb es gone T) (hel : es.length <= 1000) (rev : Int) (c : CfM) (R : Rds) (hc : c.is R) :
  Spec prog 40 [pT hb, .int .u64 rev, .agg c.enc.toArray] R [T] λ u H' => ∃ T', H' = [T'] /\ u = .int .i64 (hcode es rev c.plain) /\ (hcode es rev c.plain = 0 -> ∃ e : EnM, e.rev = rev /\ e.c.plain = c.plain /\ HI hb (es ++ [e]) gone T') /\ (hcode es rev c.plain ≠ 0 -> HI hb es gone T') := by
 have hnum := numbers_spec c R hc
 have hcp := copied_spec c R hc
 have i1 : One c.vs := RS.oneCell hc.ss
 have i2 : One c.vc := RS.oneCell hc.sc
 obtain ⟨vl, Te, Tp, rfl, hO, hI⟩ := h
 have il := hO.oneCell
 have hpl : (c.plain.numbers isWord isRef).1 = 0 -> c.fewC := λ h0 => fewC_of (right_of_ok h0)
 have hcd : hcode es rev c.plain = if (es.getLast?.map λ e => decide (rev <= e.rev)).getD false then 12 else if (c.plain.numbers isWord isRef).1 ≠ 0 then (c.plain.numbers isWord isRef).1 else if 16 <= es.length then 8 else 0 := rfl
 generalize hk : hcode es rev c.plain = kc at *
 generalize hnn : c.plain.numbers isWord isRef = nn at *
 have hHV : ∀ R' : Rds, (∀ p ∈ ((hb, .cells [.bool true, vl, iN gone].toArray 116 (0, 0)) :: (Te ++ Tp) : Seg), R' p.1 p.2) -> HV R' hb vl es gone := λ R' hR => by
  refine ⟨PC.of (E := 116) (fr := (0, 0)) (hR (hb, _) (by simp)), hO.rs λ p hp => hR p (by simp [hp]), λ e he => (hI e he).mono λ b o hb => hR (b, o) ?_⟩
  have : (b, o) ∈ Tp := hb
  simp [this]
 have hback : ∀ w, HI hb es gone w ↔ ∃ vl Te Tp, w = (hb, .cells [.bool true, vl, iN gone].toArray 116 (0, 0)) :: (Te ++ Tp) /\ OS 202 4 EnM.enc vl es Te /\ ∀ e ∈ es, e.is (sg Tp) := λ _ => Iff.rfl
 refine Spec.segs (H' := [bl hb [.bool true, vl, iN gone] 116, Te, Tp]) (by simp)<|Spec.body Tryz.func40 rfl Tryz.results40 Tryz.ntmps40 rfl<|.sr ?_
 refine .boxA rfl (λ b5 => ?_)
 refine .ag rfl<|.zs<|.block<|.sr<|.mo rfl ?_
 refine .callR (HV.made (hHV _ λ p hp => .inr (by
  rcases List.mem_cons.1 hp with rfl | hp
  ·simp
  ·rcases List.mem_append.1 hp with hp | hp <;> simp [hp]))) (λ u hu => ?_)
 subst hu
 refine .q .not<|.az rfl<|.condF<|.seq ?_
 refine Tri.cutS [(0, _), (1, _), (5, _)] kE.c.c.c (X := Unit) (λ _ => True) (λ _ E => (13, .bool ((es.getLast?.map λ e => decide (rev <= e.rev)).getD false)) :: E) (λ _ => [bl b5 c.enc 25, bl hb [.bool true, vl, iN gone] 116, Te, Tp]) ?_ ?_
 refine .region_still mixed (by kernel_rfl)<|.mo rfl<|.nc rfl<|.fa rfl<|.lo rfl<|.q (.lenO hO)<|.q .gtr<|.mo rfl<|.split (t := 20) rfl (λ g3_6 => ?_) (λ g3_6 => ?_)
 obtain ⟨n, hn⟩ : ∃ n, es.length = n + 1 := ⟨es.length - 1, by have := odt g3_6; omega⟩
 obtain ⟨el, hel2⟩ : ∃ e, es[n]? = some e := ⟨_, gge (by omega)⟩
 have hlast : es.getLast? = some el := by rw [List.getLast?_eq_getElem?, hn]; exact hel2
 have hiel := hI el (mog hel2)
 have iel : Ones el.enc := ⟨hiel.ones⟩
 refine .gT g3_6<|.mo rfl<|.gT g3_6<|.mo rfl<|.gT g3_6<|.nc rfl<|.gT g3_6<|.fa rfl<|.gT g3_6<|.lo rfl<|.gT g3_6<|.mo rfl<|.gT g3_6<|.nc rfl<|.gT g3_6<|.fa rfl<|.gT g3_6<|.lo rfl<|.gT g3_6<|.q (.lenO hO)<|.gT g3_6<|.q (.i64 (n : Int) .sub ⟨by omega, by omega, by omega⟩)<|.gT g3_6 ?_
 refine .indexO n hO hel2 (λ p32 => ?_)
 refine .gT g3_6<|.fa rfl<|.gT g3_6<|.fa rfl<|.gT g3_6<|.lo rfl<|.gT g3_6<|.q .leq<|.q (.pickTh g3_6)<|.ag rfl<|.nil ?_
 ·exact joinQ_n () trivial (kE.c.c.c.consB rfl (by first | rfl | (rw [hlast]; rfl))) rH
 have hnil : es = [] := List.eq_nil_of_length_eq_zero (by have := odf g3_6; omega)
 subst hnil
 refine .gF g3_6<|.gF g3_6<|.gF g3_6<|.gF g3_6<|.gF g3_6<|.gF g3_6<|.gF g3_6<|.gF g3_6<|.gF g3_6<|.gF g3_6<|.gF g3_6<|.gF g3_6<|.gF g3_6<|.gF g3_6<|.gF g3_6<|.gF g3_6<|.q (.pickFh g3_6)<|.ag rfl<|.nil ?_
 ·exact joinQ_n () trivial (kE.c.c.c.consB rfl (by first | rfl | (rw [hlast]; rfl))) rH
 intro y hy
 refine seqQ_n<|.cond rfl (λ h2 => ?_) λ h2 => ?_
 refine .sr<|.az rfl<|.ret (blkQ_r (seqQ_r (retQ_r _ (.one (.tmp rfl)) (.one [1, 1, 1] _) ?_)))
 ·have h2' : ((es.getLast?.map λ e => decide (rev <= e.rev)).getD false) = true := h2
  have hz : kc = 12 := by rw [hcd, if_pos h2']
  have hnz : kc ≠ 0 := by rw [hz]; decide
  exact ⟨_, rfl, by rw [hz], λ hh => absurd hh hnz, λ _ => (hback _).2 ⟨vl, Te, Tp, by simp [take, dropAt], hO, hI⟩⟩
 refine .skip<|blkQ_n<|seqQ_n<|.sr<|.q (.loadA rfl)<|.callN (hnum.weaken rxl) (λ u T7 hu7 => ?_)
 obtain ⟨w7, ll, rfl, hNN, hll⟩ := hu7
 have i7 := hNN.rs.oneCell
 refine .mo rfl<|.q .extract<|.q .extract<|.ag rfl<|.ag rfl<|.zs<|.block<|.sr<|.mo rfl<|.q .neI<|.az rfl<|.cond rfl (λ h3 => ?_) λ h3 => ?_
 have hne : nn.1 ≠ 0 := by simpa using h3
 refine .sr<|.mo rfl<|.az rfl<|.ret (blkQ_r (seqQ_r (retQ_r _ (.one (.tmp rfl)) (.one [2, 2, 2] _) ?_)))
 ·have h2' : ((es.getLast?.map λ e => decide (rev <= e.rev)).getD false) = false := h2
  have hz : kc = nn.1 := by rw [hcd, if_neg (by rw [h2']; simp), if_pos hne]
  exact ⟨_, rfl, by rw [hz], λ hh => absurd (hz.symm.trans hh) hne, λ _ => (hback _).2 ⟨vl, Te, Tp, by simp [take, dropAt], hO, hI⟩⟩
 have h0 : nn.1 = 0 := by simpa using h3
 refine .sr<|.mo rfl<|.nc rfl<|.fa rfl<|.lo rfl<|.q (.lenO hO)<|.q .geq<|.az rfl<|.cond rfl (λ h4 => ?_) λ h4 => ?_
 refine .sr<|.az rfl<|.ret (blkQ_r (seqQ_r (retQ_r _ (.one (.tmp rfl)) (.one [2, 2, 2] _) ?_)))
 ·have h2' : ((es.getLast?.map λ e => decide (rev <= e.rev)).getD false) = false := h2
  have hz : kc = 8 := by rw [hcd, if_neg (by rw [h2']; simp), if_neg (by rw [h0]; simp), if_pos (by have := odt h4; omega)]
  have hnz : kc ≠ 0 := by rw [hz]; decide
  exact ⟨_, rfl, by rw [hz], λ hh => absurd hh hnz, λ _ => (hback _).2 ⟨vl, Te, Tp, by simp [take, dropAt], hO, hI⟩⟩
 have hlt16 : ¬ 16 <= es.length := by have := odf h4; omega
 have h2' : ((es.getLast?.map λ e => decide (rev <= e.rev)).getD false) = false := h2
 have hz : kc = 0 := by rw [hcd, if_neg (by rw [h2']; simp), if_neg (by rw [h0]; simp), if_neg hlt16]
 refine .skip<|blkQ_n<|seqQ_n<|.seq ?_
 refine Tri.cutS [] (EnvLe.nil _) (X := Value × Seg × EnM × Seg) (λ y => OS 202 4 EnM.enc y.1 (es ++ [y.2.2.1]) y.2.1 /\ y.2.2.1.is (sg y.2.2.2) /\ y.2.2.1.rev = rev /\ y.2.2.1.c.plain = c.plain) (λ _ E => E) (λ y => [bl hb [.bool true, y.1, iN gone] 116, y.2.1, y.2.2.2, Tp]) ?_ ?_
 refine .region_all [12, 15] mixed<|.tK 0 rfl .move<|.tO 1 rfl .move<|.tO 2 rfl (.nilCheck rfl)<|.tO 3 rfl (.fieldAddr rfl)<|.tO 4 rfl (.load1 rfl)<|.tO 5 rfl .move<|.tO 6 rfl (.loadA rfl)<|.tO 9 rfl .move<|.sT 7 rfl<|.callN ((hcp (hpl h0)).weaken rxl) (λ u T9 hu => ?_)
 obtain ⟨c', rfl, hc', hcpl⟩ := hu
 have ic1 : One c'.vs := RS.oneCell hc'.ss
 have ic2 : One c'.vc := RS.oneCell hc'.sc
 obtain ⟨ps, cs, es1⟩ := hc'.ss.val
 obtain ⟨pc, cc, es2⟩ := hc'.sc.val
 obtain ⟨pw, cw, es3⟩ := hNN.rs.val
 obtain ⟨vs', vc', sps', scs'⟩ := c'
 simp only at es1 es2 es3
 subst es1 es2 es3
 refine .nil<|Next.sub<|.tO 8 rfl .bld<|.tO 10 rfl .bld<|.sT 11 rfl ?_
 refine .buildSlice1A (λ b65 => ?_)
 refine .nil<|Next.sub<|.sT 12 rfl<|.append hO (RS.lits (xs := [(⟨rev, ⟨.slice ps sps'.length cs, .slice pc scs'.length cc, sps', scs'⟩, .slice pw ll.length cw, ll⟩ : EnM)]) rfl (by simp [EnM.enc]) (by simp [EnM.enc, oneCell])) (by simp only [List.length_singleton]; omega) (λ v5 T5 hv5 => ?_)
 have i5 := hv5.oneCell
 refine .nil<|Next.mod rfl<|.tK 13 rfl (.nilCheckA rfl)<|.tK 14 rfl (.fieldAddrA rfl)<|.sT 15 rfl<|.store1 rfl rfl<|.nil<|Next.mod rfl<|RA.nil (by kernel_rfl) ?_
 ·exact joinQ_n (v5, T5, _, T9 ++ T7) ⟨hv5, ⟨hc'.mono λ b o hb => sg_left hb, hNN.mono λ b o hb => sg_right hb, by simp only; rw [hcpl, hnn]; exact h0, by simp only; rw [hcpl, hnn]; exact hll⟩, rfl, hcpl⟩ (EnvLe.nil _) (by first | exact (pkH [4, 4, 1, 1, 2]).trans (HLe.ofPerm (by simp [take, dropAt, setL])) | exact (pkH [3, 3, 0, 1, 2]).trans (HLe.ofPerm (by simp [take, dropAt, setL])))
 intro y hy
 obtain ⟨v5, T5, e5, T9⟩ := y
 obtain ⟨hv5, he5, he5r, he5c⟩ := hy
 simp only at hv5 he5 he5r he5c ⊢
 refine seqQ_n<|.sr<|.az rfl<|.ret (retQ_r _ (.one (.tmp rfl)) (.one [0, 0, 0, 0] _) ?_)
 ·refine ⟨_, rfl, by rw [hz], λ _ => ⟨e5, he5r, he5c, v5, T5, T9 ++ Tp, by simp [take, dropAt], hv5, λ e he => ?_⟩, λ hh => absurd hz hh⟩
  rcases List.mem_append.1 he with he | he
  ·exact (hI e he).mono λ b o hb => sg_right hb
  ·rw [List.mem_singleton] at he
   subst he
   exact he5.mono λ b o hb => sg_left hb
theorem rahead_spec (a b : SRow) (R : Rds) : Spec prog 183 [.agg a.enc.toArray, .agg b.enc.toArray] R [] λ v H' => v = .bool (rlt a b) /\ H' = [] := by
 refine Spec.body Tryz.func183 rfl Tryz.results183 Tryz.ntmps183 rfl<|.sr ?_
 refine .boxA rfl (λ b2 => ?_)
 refine .boxA rfl (λ b3 => ?_)
 refine .ag rfl<|.z<|.fa rfl<|.q (.loadT rfl)<|.fa rfl<|.q (.loadT rfl)<|.callR (rless_spec a.t b.t _) (λ v hv => ?_)
 subst hv
 refine .mo rfl<|.split (t := 10) rfl (λ g1_5 => ?_) (λ g1_5 => ?_)
 refine .gF g1_5<|.gF g1_5<|.gF g1_5<|.gF g1_5<|.gF g1_5<|.gF g1_5<|.gfU rfl<|.gfU rfl<|.gfU rfl<|.gfU rfl<|.gfU rfl<|.gF g1_5<|.q (.pickTh g1_5)<|.az rfl<|.ret (rq1 rfl ?_)
 ·refine ⟨congrArg _ ?_, rfl⟩
  unfold rlt
  simp_all
 refine .gT g1_5<|.fa rfl<|.gT g1_5<|.q (.loadT rfl) ?_
 refine .gT g1_5<|.fa rfl<|.gT g1_5<|.q (.loadT rfl) ?_
 refine .gT g1_5<|.q (.eqA rfl rfl (Tpl.kinds a.t) (Tpl.kinds b.t)) ?_
 rw [show cellsEq (List.take 7 (List.drop 0 a.enc)) (List.take 7 (List.drop 0 b.enc)) = decide (a.t = b.t) from Tpl.eq a.t b.t]
 refine .gT g1_5<|.mo rfl<|.split (t := 16) rfl (λ g1_11 => ?_) (λ g1_11 => ?_)
 refine .gT g1_11<|.fa rfl<|.gT g1_11<|.lo rfl<|.gT g1_11<|.fa rfl<|.gT g1_11<|.lo rfl<|.gT g1_11<|.q .lss<|.gT g1_5<|.q (.pickTh g1_11)<|.q (.pickFh g1_5)<|.az rfl<|.ret (rq1 rfl ?_)
 ·refine ⟨congrArg _ ?_, rfl⟩
  unfold rlt
  simp_all
 refine .gF g1_11<|.gF g1_11<|.gF g1_11<|.gF g1_11<|.gF g1_11<|.gT g1_5<|.q (.pickFh g1_11)<|.q (.pickFh g1_5)<|.az rfl<|.ret (rq1 rfl ?_)
 ·refine ⟨congrArg _ ?_, rfl⟩
  unfold rlt
  simp_all
theorem rins12_spec (v : Value) (l : List SRow) (t : SRow) (R : Rds) (h : RS R 9 SRow.enc v l) (hl : l.length <= 100000) :
    Spec prog 125 [v, .agg t.enc.toArray] R [] λ u H' => ∃ T, H' = [T] /\ OS 241 9 SRow.enc u (gins rlt t l) T := by
  obtain ⟨pv, kv_, rfl⟩ := h.val
  refine Spec.segs (H' := [[]]) (by simp)<|Spec.body Tryz.func125 rfl Tryz.results125 Tryz.ntmps125 rfl<|.sr ?_
  refine .boxA rfl (λ b3 => ?_)
  refine .ag rfl<|.z<|.ag rfl<|.z<|.ag rfl<|.zs<|.sr<|.az rfl<|.block<|.loop (X := Nat × Value × Seg) (λ y => y.1 <= l.length /\ OS 241 9 SRow.enc y.2.1 (gpre rlt t (l.take y.1)) y.2.2) (λ y => [(0, .slice pv l.length kv_), (3, pT b3), (5, y.2.1), (6, .bool ((l.take y.1).any (rlt t))), (7, iN y.1)]) (λ y => [bl b3 t.enc 241, y.2.2]) (λ y => l.length - y.1) (0, sZ, []) ⟨Nat.zero_le _, OS.nil⟩ kE.c.c.c.c.c rH ?_
  rintro ⟨i, vo, To⟩ ⟨hi, hO⟩
  simp only at hi hO ⊢
  have io := hO.oneCell
  have hgl : (gpre rlt t (l.take i)).length <= 100001 := Nat.le_trans gpre_len (by rw [List.length_take]; omega)
  refine .seq<|.sr<|.mo rfl<|.mo rfl<|.q (.lenR h)<|.q .lss<|.zn<|.cond rfl (λ h1 => ?_) λ h1 => ?_
  have hlt : i < l.length := lt_i h1
  obtain ⟨x, hx⟩ := exg hlt
  have e4 := gmid_next (lt := rlt) (p := t) hx
  refine .kn<|.seq<|.block<|.seq ?_
  refine Tri.cut (X := Value × Seg) (λ z => OS 241 9 SRow.enc z.1 (gmid rlt t (l.take i) x) z.2) (λ z => [(0, .slice pv l.length kv_), (3, pT b3), (5, z.1), (6, .bool ((l.take (i + 1)).any (rlt t))), (7, iN i)]) (λ z => [bl b3 t.enc 241, z.2]) ?_ ?_
  refine .seq<|.region_tail 8 mixed (by kernel_rfl) ?_
  conv => arg 6; dsimp only [List.take]
  refine .mo rfl<|.q .not<|.mo rfl<|.split (t := 16) rfl (λ g6_2 => ?_) (λ g6_2 => ?_)
  refine .gT g6_2<|.q (.loadA rfl)<|.gT g6_2<|.mo rfl<|.gT g6_2<|.mo rfl<|.gT g6_2 ?_
  refine .indexR i h hx (λ p20 => ?_)
  refine .gT g6_2<|.q (.loadA rfl)<|.nil<|.gT g6_2<|.callR (rahead_spec t x _) (λ v hv => ?_)
  subst hv
  refine .q (.pickTh g6_2)<|.zn<|.cond rfl (λ h2 => ?_) λ h2 => ?_
  first | have hput := gmid_put hx g6_2 h2 | skip
  refine .sr<|.mo rfl<|.q (.loadA rfl) ?_
  refine .buildSlice1A (λ b26 => ?_)
  refine .append hO (RS.lits (xs := [t]) rfl (by simp [SRow.enc, Tpl.enc]) (by simp [SRow.enc, Tpl.enc, oneCell])) (by simp only [List.length_singleton]; omega) (λ v5 T5 hO5 => ?_)
  refine .az rfl<|.region<|.ag rfl<|.nil ?_
  · first
      | (obtain ⟨hm, hA⟩ := hput
         exact joinQ_n (v5, T5) (by simp only; rw [hm]; exact hO5) (by simp only; rw [hA]; exact kE.c.c.c.c.c) (pkH [1, 1]))
      | (obtain ⟨hm, hA⟩ := hnot
         exact joinQ_n (vo, To) (by simp only; rw [hm]; simpa using hO) (by simp only; rw [hA]; exact kE.c.c.c.c.c) rH)
  first | have hnot := gmid_not (p := t) hx (.inr h2) | skip
  refine .skip ?_
  · first
      | (obtain ⟨hm, hA⟩ := hput
         exact joinQ_n (v5, T5) (by simp only; rw [hm]; exact hO5) (by simp only; rw [hA]; exact kE.c.c.c.c.c) (pkH [1, 1]))
      | (obtain ⟨hm, hA⟩ := hnot
         exact joinQ_n (vo, To) (by simp only; rw [hm]; simpa using hO) (by simp only; rw [hA]; exact kE.c.c.c.c.c) rH)
  have hnot := gmid_not (p := t) hx (.inl g6_2)
  refine .gF g6_2<|.gF g6_2<|.gF g6_2<|.gF g6_2<|.gF g6_2<|.nil<|.gF g6_2<|.q (.pickFh g6_2)<|.zn<|.condF ?_
  first | have hnot := gmid_not (p := t) hx (.inr h2) | skip
  refine .skip ?_
  · first
      | (obtain ⟨hm, hA⟩ := hput
         exact joinQ_n (v5, T5) (by simp only; rw [hm]; exact hO5) (by simp only; rw [hA]; exact kE.c.c.c.c.c) (pkH [1, 1]))
      | (obtain ⟨hm, hA⟩ := hnot
         exact joinQ_n (vo, To) (by simp only; rw [hm]; simpa using hO) (by simp only; rw [hA]; exact kE.c.c.c.c.c) rH)
  intro y hy
  obtain ⟨vm, Tm⟩ := y
  have hO6 : OS 241 9 SRow.enc vm (gmid rlt t (l.take i) x) Tm := hy
  have i6 := hO6.oneCell
  simp only
  refine seqQ_n<|.region<|.mo rfl<|.mo rfl<|.mo rfl ?_
  refine .indexR i h hx (λ p31 => ?_)
  refine .q (.loadA rfl) ?_
  refine .buildSlice1A (λ b33 => ?_)
  refine .append hO6 (RS.lits (xs := [x]) rfl (by simp [SRow.enc, Tpl.enc]) (by simp [SRow.enc, Tpl.enc, oneCell])) (by have := gpre_len (lt := rlt) (p := t) (X := l.take (i + 1)); rw [<- e4, List.length_take] at this; simp at this ⊢; omega) (λ v7 T7 hO7 => ?_)
  rw [e4] at hO7
  refine .ag rfl<|.nil<|blkQ_n<|seqQ_n<|.region<|.mo rfl<|.ia (i + 1) .add<|.ag rfl<|.nil ?_
  · exact loopQ_i (i + 1, v7, T7) ⟨hlt, hO7⟩ (by simp only; omega) kE.c.c.c.c.c (pkH [1, 1])
  have hk3 : i = l.length := by have := odf h1; omega
  subst hk3
  rw [List.take_length] at hO hgl ⊢
  refine .exit<|seqQ_x<|loopQ_x<|blkQ_x<|seqQ_n<|.seq<|.sr<|.mo rfl<|.q .not<|.zn<|.cond rfl (λ h3 => ?_) λ h3 => ?_
  refine .region<|.mo rfl<|.q (.loadA rfl) ?_
  refine .buildSlice1A (λ b39 => ?_)
  refine .append hO (RS.lits (xs := [t]) rfl (by simp [SRow.enc, Tpl.enc]) (by simp [SRow.enc, Tpl.enc, oneCell])) (by simp; omega) (λ v5 T5 hO5 => ?_)
  refine .ag rfl<|.z<|.mo rfl<|.az rfl<|.ret (retQ_r _ (.one (.tmp rfl)) ((pkH [2])) ?_)
  · have han : l.any (rlt t) = false := by simpa using h3
    refine ⟨_, by simp [take, dropAt]; rfl, ?_⟩
    have e0 : gpre rlt t l = l := by unfold gpre; rw [han]; rfl
    rw [e0] at hO5
    rw [gins_end han]; exact hO5
  refine .kn<|.sr<|.mo rfl<|.az rfl<|.ret (retQ_r _ (.one (.tmp rfl)) ((pkH [1])) ?_)
  · have han : l.any (rlt t) = true := by simpa using h3
    refine ⟨_, by simp [take, dropAt]; rfl, ?_⟩
    have e0 : gpre rlt t l = gins rlt t l := by unfold gpre; rw [han]; rfl
    rw [e0] at hO; exact hO
def FndR (L : List SRow) (t : Tpl) (z : Int) : Prop := (∃ (j : Nat) (x : SRow), z = j /\ L[j]? = some x /\ x.openOf t = true /\ ∀ k y, k < j -> L[k]? = some y -> y.openOf t = false) \/ (z = -1 /\ sthere L t = false)
theorem FndR.lt {L : List SRow} {t : Tpl} {z : Int} (h : FndR L t z) : decide (z < 0) = !sthere L t := by
 rcases h with ⟨j, x, rfl, hx, ho, _⟩ | ⟨rfl, h⟩
 ·rw [decide_eq_false (by omega), sthere, List.any_eq_true.2 ⟨x, mog hx, ho⟩]; rfl
 ·rw [h]; rfl
theorem FndR.ge {L : List SRow} {t : Tpl} {z : Int} (h : FndR L t z) : decide (0 <= z) = sthere L t := by
 have h1 := h.lt
 have h2 : decide (0 <= z) = !decide (z < 0) := by rw [Bool.eq_iff_iff]; simp
 rw [h2, h1, Bool.not_not]
section
variable {R : Rds} {b : Nat} {S : Sto} {vL : Value} {L : List SRow}
theorem DV.find (h : DV R b S vL L) (t : Tpl) : Spec prog 126 [pT b, .agg t.enc.toArray] R [] λ u H' => (∃ z, u = .int .i64 z /\ FndR L t z) /\ H' = [] := by
 have pc := h.pc
 have ivl := h.rs.oneCell
 have hle := h.rs.le
 obtain ⟨pv, kv_, rfl⟩ := h.rs.val
 have hrs := h.rs
 refine Spec.body Tryz.func126 rfl Tryz.results126 Tryz.ntmps126 rfl<|.sr ?_
 refine .boxA rfl (λ b3 => ?_)
 refine .ag rfl<|.zs<|.sr<|.az rfl<|.block<|.loop (X := Nat) (λ i => i <= L.length /\ ∀ k y, k < i -> L[k]? = some y -> y.openOf t = false) (λ i => [(0, pT b), (3, pT b3), (5, iN i)]) (λ _ => [bl b3 t.enc 151]) (λ i => L.length - i) 0 ⟨Nat.zero_le _, λ k y hk => absurd hk (Nat.not_lt_zero _)⟩ kE.c.c.c rH ?_
 rintro i ⟨hi, hn⟩
 refine .seq<|.sr<|.mo rfl<|.mo rfl<|.nc rfl<|.fa rfl<|.lo rfl<|.q (.lenR hrs)<|.q .lss<|.zn<|.cond rfl (λ h1 => ?_) λ h1 => ?_
 have hlt : i < L.length := lt_i h1
 obtain ⟨x, hx⟩ := exg hlt
 refine .kn<|.seq<|.block<|.seq<|.region_still mixed (by kernel_rfl) ?_
 refine .mo rfl<|.nc rfl<|.fa rfl<|.lo rfl<|.mo rfl ?_
 refine .indexR i hrs hx (λ p20 => ?_)
 refine .fa rfl<|.q (.loadT rfl) ?_
 refine .q (.loadA rfl)<|.q (.eqA rfl rfl (Tpl.kinds x.t) (Tpl.kinds t)) ?_
 rw [show cellsEq (List.take 7 (List.drop 0 x.enc)) t.enc = decide (x.t = t) from Tpl.eq x.t t]
 refine .mo rfl<|.split (t := 25) rfl (λ g4_10 => ?_) (λ g4_10 => ?_)
 refine .gT g4_10<|.mo rfl<|.gT g4_10<|.nc rfl<|.gT g4_10<|.fa rfl<|.gT g4_10<|.lo rfl<|.gT g4_10<|.mo rfl<|.gT g4_10 ?_
 refine .indexR i hrs hx (λ p31 => ?_)
 refine .gT g4_10<|.fa rfl<|.gT g4_10<|.lo rfl<|.gT g4_10<|.q .eqI<|.q (.pickTh g4_10)<|.zn<|.cond rfl (λ h2 => ?_) λ h2 => ?_
 refine .sr<|.mo rfl<|.az rfl<|.ret (blkQ_r (seqQ_r (loopQ_r (blkQ_r (seqQ_r (rq1 rfl ?_))))))
 ·exact ⟨⟨_, rfl, .inl ⟨i, x, rfl, hx, by unfold SRow.openOf; simp_all, hn⟩⟩, rfl⟩
 refine .skip<|blkQ_n<|seqQ_n<|.region<|.mo rfl<|.ia (i + 1) .add<|.ag rfl<|.nil ?_
 ·exact loopQ_i (i + 1) ⟨hlt, λ k y hk hy => by
   rcases Nat.lt_or_eq_of_le (Nat.le_of_lt_succ hk) with h3 | h3
   ·exact hn k y h3 hy
   ·subst h3
    rw [hx] at hy
    cases hy
    unfold SRow.openOf
    simp_all⟩ (by omega) kE.c.c.c rH
 refine .gF g4_10<|.gF g4_10<|.gF g4_10<|.gF g4_10<|.gF g4_10<|.gF g4_10<|.gF g4_10<|.gF g4_10<|.gF g4_10<|.q (.pickFh g4_10)<|.zn<|.condF<|.skip<|blkQ_n<|seqQ_n<|.region<|.mo rfl<|.ia (i + 1) .add<|.ag rfl<|.nil ?_
 ·exact loopQ_i (i + 1) ⟨hlt, λ k y hk hy => by
   rcases Nat.lt_or_eq_of_le (Nat.le_of_lt_succ hk) with h3 | h3
   ·exact hn k y h3 hy
   ·subst h3
    rw [hx] at hy
    cases hy
    unfold SRow.openOf
    simp_all⟩ (by omega) kE.c.c.c rH
 refine .exit<|seqQ_x<|loopQ_x<|blkQ_x<|seqQ_n<|.sr<|.az rfl<|.ret (rq1 rfl ?_)
 ·have hie : i = L.length := by have := odf h1; omega
  refine ⟨⟨_, rfl, .inr ⟨rfl, ?_⟩⟩, rfl⟩
  unfold sthere
  rw [List.any_eq_false]
  intro y hy ho
  obtain ⟨j, hj, rfl⟩ := List.mem_iff_getElem.1 hy
  have := hn j _ (by omega) (gge hj)
  rw [this] at ho
  cases ho
theorem rcheck_spec (vm vn vc : Value) (must no : List Tpl) (cs : List Chg) (R : Rds) (hM : RS R 7 Tpl.enc vm must) (hN : RS R 7 Tpl.enc vn no) (hC : RS R 8 Chg.enc vc cs) (fm : ∀ t ∈ must, t.fits) (fn : ∀ t ∈ no, t.fits) (fc : ∀ c ∈ cs, c.t.fits) :
  Spec prog 123 [vm, vn, vc] R [] λ u H' => u = .int .i64 (scheck must no cs) /\ H' = [] := by
 have lm := hM.le
 have ln := hN.le
 have lc := hC.le
 obtain ⟨pm, km, rfl⟩ := hM.val
 obtain ⟨pn, kn, rfl⟩ := hN.val
 obtain ⟨pv, kc, rfl⟩ := hC.val
 refine Spec.body Tryz.func123 rfl Tryz.results123 Tryz.ntmps123 rfl<|.sr<|.ag rfl<|.zs<|.sr<|.mo rfl<|.q (.lenR hC)<|.q .gtr<|.mo rfl<|.split (t := 15) rfl (λ g1_3 => ?_) (λ g1_3 => ?_)
 refine .gF g1_3<|.gF g1_3<|.gF g1_3<|.q (.pickTh g1_3)<|.mo rfl<|.gX<|.gX<|.gX<|.q .pickT<|.mo rfl<|.gX<|.gX<|.gX<|.q .pickT<|.zn<|.condT ?_
 have hl : 32 < cs.length \/ cs.length = 0 \/ 32 < must.length \/ 32 < no.length := by simp_all; try omega
 refine .sr<|.az rfl<|.ret (seqQ_r (rq1 rfl ?_))
 ·(refine ⟨?_, rfl⟩; rw [scheck_len hl]; done)
 refine .gT g1_3<|.mo rfl<|.gT g1_3<|.q (.lenR hC)<|.gT g1_3<|.q .eqI<|.q (.pickFh g1_3)<|.mo rfl<|.split (t := 20) rfl (λ g1_8 => ?_) (λ g1_8 => ?_)
 refine .gF g1_8<|.gF g1_8<|.gF g1_8<|.q (.pickTh g1_8)<|.mo rfl<|.gX<|.gX<|.gX<|.q .pickT<|.zn<|.condT ?_
 have hl : 32 < cs.length \/ cs.length = 0 \/ 32 < must.length \/ 32 < no.length := by simp_all; try omega
 refine .sr<|.az rfl<|.ret (seqQ_r (rq1 rfl ?_))
 ·(refine ⟨?_, rfl⟩; rw [scheck_len hl]; done)
 refine .gT g1_8<|.mo rfl<|.gT g1_8<|.q (.lenR hM)<|.gT g1_8<|.q .gtr<|.q (.pickFh g1_8)<|.mo rfl<|.split (t := 25) rfl (λ g1_13 => ?_) (λ g1_13 => ?_)
 refine .gF g1_13<|.gF g1_13<|.gF g1_13<|.q (.pickTh g1_13)<|.zn<|.condT ?_
 have hl : 32 < cs.length \/ cs.length = 0 \/ 32 < must.length \/ 32 < no.length := by simp_all; try omega
 refine .sr<|.az rfl<|.ret (seqQ_r (rq1 rfl ?_))
 ·(refine ⟨?_, rfl⟩; rw [scheck_len hl]; done)
 refine .gT g1_13<|.mo rfl<|.gT g1_13<|.q (.lenR hN)<|.gT g1_13<|.q .gtr<|.q (.pickFh g1_13)<|.zn<|.cond rfl (λ h1 => ?_) λ h1 => ?_
 have hl : 32 < cs.length \/ cs.length = 0 \/ 32 < must.length \/ 32 < no.length := by simp_all; try omega
 refine .sr<|.az rfl<|.ret (seqQ_r (rq1 rfl ?_))
 ·(refine ⟨?_, rfl⟩; rw [scheck_len hl]; done)
 have hl : ¬ (32 < cs.length \/ cs.length = 0 \/ 32 < must.length \/ 32 < no.length) := by simp_all; try omega
 refine .kn<|.seq<|.sr<|.az rfl<|.block<|.loop (X := Nat) (λ i => i <= must.length /\ (must.take i).any (λ t => !isTpl t) = false) (λ i => [(0, .slice pm must.length km), (1, .slice pn no.length kn), (2, .slice pv cs.length kc), (7, iN i)]) (λ _ => []) (λ i => must.length - i) 0 ⟨Nat.zero_le _, by simp⟩ kE.c.c.c.c rH ?_
 rintro i ⟨hi, hA⟩
 refine .seq<|.sr<|.mo rfl<|.mo rfl<|.q (.lenR hM)<|.q .lss<|.zn<|.cond rfl (λ h2 => ?_) λ h2 => ?_
 have hlt : i < must.length := lt_i h2
 obtain ⟨x, hx⟩ := exg hlt
 refine .kn<|.seq<|.block<|.sr<|.mo rfl<|.mo rfl ?_
 refine .indexR i hM hx (λ p38 => ?_)
 refine .q (.loadA rfl)<|.callR (risTpl_spec x (fm x (mog hx)) _) (λ v hv => ?_)
 subst hv
 refine .q .not<|.zn<|.cond rfl (λ h3 => ?_) λ h3 => ?_
 have hc : scheck must no cs = 9 := scheck_name hl (by rw [List.any_eq_true.2 ⟨x, mog hx, h3⟩]; simp)
 refine .sr<|.az rfl<|.ret (blkQ_r (seqQ_r (loopQ_r (blkQ_r (seqQ_r (rq1 rfl ?_))))))
 ·(refine ⟨?_, rfl⟩; rw [hc]; done)
 refine .skip<|blkQ_n<|seqQ_n<|.region<|.mo rfl<|.ia (i + 1) .add<|.ag rfl<|.nil ?_
 ·exact loopQ_i (i + 1) ⟨hlt, by rw [List.take_add_one, hx, List.any_append, hA]; simp; simpa using h3⟩ (by omega) kE.c.c.c.c rH
 have hie : i = must.length := by have := odf h2; omega
 subst hie
 rw [List.take_length] at hA
 refine .exit<|seqQ_x<|loopQ_x<|blkQ_x<|seqQ_n<|.seq<|.sr<|.az rfl<|.block<|.loop (X := Nat) (λ i => i <= no.length /\ (no.take i).any (λ t => !isTpl t) = false) (λ i => [(0, .slice pm must.length km), (1, .slice pn no.length kn), (2, .slice pv cs.length kc), (8, iN i)]) (λ _ => []) (λ i => no.length - i) 0 ⟨Nat.zero_le _, by simp⟩ kE.c.c.c.c rH ?_
 rintro i ⟨hi, hB⟩
 refine .seq<|.sr<|.mo rfl<|.mo rfl<|.q (.lenR hN)<|.q .lss<|.zn<|.cond rfl (λ h4 => ?_) λ h4 => ?_
 have hlt : i < no.length := lt_i h4
 obtain ⟨x, hx⟩ := exg hlt
 refine .kn<|.seq<|.block<|.sr<|.mo rfl<|.mo rfl ?_
 refine .indexR i hN hx (λ p50 => ?_)
 refine .q (.loadA rfl)<|.callR (risTpl_spec x (fn x (mog hx)) _) (λ v hv => ?_)
 subst hv
 refine .q .not<|.zn<|.cond rfl (λ h5 => ?_) λ h5 => ?_
 have hc : scheck must no cs = 9 := scheck_name hl (by rw [hA, List.any_eq_true.2 ⟨x, mog hx, h5⟩]; simp)
 refine .sr<|.az rfl<|.ret (blkQ_r (seqQ_r (loopQ_r (blkQ_r (seqQ_r (rq1 rfl ?_))))))
 ·(refine ⟨?_, rfl⟩; rw [hc]; done)
 refine .skip<|blkQ_n<|seqQ_n<|.region<|.mo rfl<|.ia (i + 1) .add<|.ag rfl<|.nil ?_
 ·exact loopQ_i (i + 1) ⟨hlt, by rw [List.take_add_one, hx, List.any_append, hB]; simp; simpa using h5⟩ (by omega) kE.c.c.c.c rH
 have hie : i = no.length := by have := odf h4; omega
 subst hie
 rw [List.take_length] at hB
 refine .exit<|seqQ_x<|loopQ_x<|blkQ_x<|seqQ_n<|.seq<|.sr<|.az rfl<|.block<|.loop (X := Nat) (λ i => i <= cs.length /\ (cs.take i).any (λ c => !isTpl c.t) = false) (λ i => [(0, .slice pm must.length km), (1, .slice pn no.length kn), (2, .slice pv cs.length kc), (9, iN i)]) (λ _ => []) (λ i => cs.length - i) 0 ⟨Nat.zero_le _, by simp⟩ kE.c.c.c.c rH ?_
 rintro i ⟨hi, hD⟩
 refine .seq<|.sr<|.mo rfl<|.mo rfl<|.q (.lenR hC)<|.q .lss<|.zn<|.cond rfl (λ h6 => ?_) λ h6 => ?_
 have hlt : i < cs.length := lt_i h6
 obtain ⟨x, hx⟩ := exg hlt
 refine .kn<|.seq<|.block<|.sr<|.mo rfl<|.mo rfl ?_
 refine .indexR i hC hx (λ p62 => ?_)
 refine .fa rfl<|.q (.loadT rfl)<|.callR (risTpl_spec x.t (fc x (mog hx)) _) (λ v hv => ?_)
 subst hv
 refine .q .not<|.zn<|.cond rfl (λ h7 => ?_) λ h7 => ?_
 have hc : scheck must no cs = 9 := scheck_name hl (by rw [hA, hB, List.any_eq_true.2 ⟨x, mog hx, h7⟩]; simp)
 refine .sr<|.az rfl<|.ret (blkQ_r (seqQ_r (loopQ_r (blkQ_r (seqQ_r (rq1 rfl ?_))))))
 ·(refine ⟨?_, rfl⟩; rw [hc]; done)
 refine .skip<|blkQ_n<|seqQ_n<|.region<|.mo rfl<|.ia (i + 1) .add<|.ag rfl<|.nil ?_
 ·exact loopQ_i (i + 1) ⟨hlt, by rw [List.take_add_one, hx, List.any_append, hD]; simp; simpa using h7⟩ (by omega) kE.c.c.c.c rH
 have hie : i = cs.length := by have := odf h6; omega
 subst hie
 rw [List.take_length] at hD
 have hD2 : ∀ c ∈ cs, isTpl c.t = true := λ c hc => by
  have := List.any_eq_false.1 hD c hc
  simpa using this
 refine .exit<|seqQ_x<|loopQ_x<|blkQ_x<|seqQ_n<|.seq<|.sr<|.az rfl<|.block<|.loop (X := Nat) (λ i => i <= cs.length /\ ((cs.take i).map (·.t)).Nodup) (λ i => [(0, .slice pm must.length km), (1, .slice pn no.length kn), (2, .slice pv cs.length kc), (10, iN i)]) (λ _ => []) (λ i => cs.length - i) 0 ⟨Nat.zero_le _, by simp⟩ kE.c.c.c.c rH ?_
 rintro i ⟨hi, hU⟩
 refine .seq<|.sr<|.mo rfl<|.mo rfl<|.q (.lenR hC)<|.q .lss<|.zn<|.cond rfl (λ h8 => ?_) λ h8 => ?_
 have hlt : i < cs.length := lt_i h8
 obtain ⟨x, hx⟩ := exg hlt
 have htk : (cs.take (i + 1)).map (·.t) = (cs.take i).map (·.t) ++ [x.t] := by rw [List.take_add_one, hx, Option.toList_some, List.map_append]; rfl
 refine .kn<|.seq<|.block<|.sr<|.az rfl<|.block<|.loop (X := Nat) (λ k => k <= i /\ x.t ∉ (cs.take k).map (·.t)) (λ k => [(0, .slice pm must.length km), (1, .slice pn no.length kn), (2, .slice pv cs.length kc), (10, iN i), (11, iN k)]) (λ _ => []) (λ k => i - k) 0 ⟨Nat.zero_le _, by simp⟩ kE.c.c.c.c.c rH ?_
 rintro k ⟨hk, hV⟩
 refine .seq<|.sr<|.mo rfl<|.mo rfl<|.q .lss<|.zn<|.cond rfl (λ h9 => ?_) λ h9 => ?_
 have hlk : k < i := lt_i h9
 obtain ⟨y, hy⟩ : ∃ x, cs[k]? = some x := ⟨_, gge (by omega)⟩
 refine .kn<|.seq<|.block<|.seq<|.region_still mixed (by kernel_rfl)<|.mo rfl<|.mo rfl ?_
 refine .indexR i hC hx (λ p80 => ?_)
 refine .fa rfl<|.q (.loadT rfl) ?_
 refine .mo rfl<|.mo rfl ?_
 refine .indexR k hC hy (λ p85 => ?_)
 refine .fa rfl<|.q (.loadT rfl) ?_
 refine .q (.eqA rfl rfl (Tpl.kinds x.t) (Tpl.kinds y.t)) ?_
 rw [show cellsEq (List.take 7 (List.drop 1 x.enc)) (List.take 7 (List.drop 1 y.enc)) = decide (x.t = y.t) from Tpl.eq x.t y.t]
 refine .zn<|.cond rfl (λ h10 => ?_) λ h10 => ?_
 have hc : scheck must no cs = 2 := by
  rw [scheck_end hl hA hB hD2 true ?_]; rfl
  rw [eq_comm, Bool.not_eq_true', decide_eq_false_iff_not]
  intro hn
  have := List.pairwise_iff_getElem.1 hn k i (by simp; omega) (by simp; omega) hlk
  rw [List.getElem_map, List.getElem_map, (List.getElem?_eq_some_iff.1 hx).2, (List.getElem?_eq_some_iff.1 hy).2] at this
  exact this (odt h10).symm
 refine .sr<|.az rfl<|.ret (blkQ_r (seqQ_r (loopQ_r (blkQ_r (blkQ_r (seqQ_r (loopQ_r (blkQ_r (seqQ_r (rq1 rfl ?_))))))))))
 ·(refine ⟨?_, rfl⟩; rw [hc]; done)
 refine .skip<|blkQ_n<|seqQ_n<|.region<|.mo rfl<|.ia (k + 1) .add<|.ag rfl<|.nil ?_
 ·exact loopQ_i (k + 1) ⟨hlk, by
   rw [List.take_add_one, hy, Option.toList_some, List.map_append, List.mem_append, not_or]
   exact ⟨hV, by simpa using h10⟩⟩ (by omega) kE.c.c.c.c.c rH
 have hke : k = i := by have := odf h9; omega
 subst hke
 refine .exit<|seqQ_x<|loopQ_x<|blkQ_x<|blkQ_n<|seqQ_n<|.region<|.mo rfl<|.ia (k + 1) .add<|.ag rfl<|.nil ?_
 ·exact loopQ_i (k + 1) ⟨hlt, by
   rw [htk, List.nodup_append]
   exact ⟨hU, by simp, λ a ha b hb => by simp only [List.mem_singleton] at hb; subst hb; exact λ e => hV (e ▸ ha)⟩⟩ (by omega) kE.c.c.c.c rH
 have hie : i = cs.length := by have := odf h8; omega
 subst hie
 rw [List.take_length] at hU
 refine .exit<|seqQ_x<|loopQ_x<|blkQ_x<|seqQ_n<|.sr<|.az rfl<|.ret (rq1 rfl ?_)
 ·(refine ⟨?_, rfl⟩; rw [scheck_end hl hA hB hD2 false (by simp [hU])]; rfl)
end
theorem any_take {α : Type} {p : α -> Bool} {l : List α} {i : Nat} {x : α} (h : (l.take i).any p = false) (hx : l[i]? = some x) (hp : p x = false) : (l.take (i + 1)).any p = false := by
 rw [List.take_add_one, hx, List.any_append, h]
 simp [hp]
theorem sfits_must {L : List SRow} {head : Int} {must no : List Tpl} {cs : List Chg} (h : (must.any (λ t => !sthere L t) || no.any (λ t => sthere L t)) = true) : sfits L head must no cs = 13 := by unfold sfits; rw [if_pos h]
theorem sfits_put {L : List SRow} {head : Int} {must no : List Tpl} {cs : List Chg} (h1 : must.any (λ t => !sthere L t) = false) (h2 : no.any (λ t => sthere L t) = false) (h : cs.any (λ c => c.put && sthere L c.t) = true) : sfits L head must no cs = 10 := by unfold sfits; rw [h1, h2, if_neg (by simp), if_pos h]
theorem sfits_del {L : List SRow} {head : Int} {must no : List Tpl} {cs : List Chg} (h1 : must.any (λ t => !sthere L t) = false) (h2 : no.any (λ t => sthere L t) = false) (h3 : cs.any (λ c => c.put && sthere L c.t) = false) (h : cs.any (λ c => !c.put && !sthere L c.t) = true) : sfits L head must no cs = 11 := by unfold sfits; rw [h1, h2, if_neg (by simp), if_neg (by rw [h3]; simp), if_pos h]
theorem sfits_rest {L : List SRow} {head : Int} {must no : List Tpl} {cs : List Chg} (h1 : must.any (λ t => !sthere L t) = false) (h2 : no.any (λ t => sthere L t) = false) (h3 : cs.any (λ c => c.put && sthere L c.t) = false) (h4 : cs.any (λ c => !c.put && !sthere L c.t) = false) : sfits L head must no cs = if 4611686018427387903 <= head \/ 4096 < L.length + sputs cs /\ 0 < sputs cs then 8 else 0 := by unfold sfits; rw [h1, h2, if_neg (by simp), if_neg (by rw [h3]; simp), if_neg (by rw [h4]; simp)]
theorem rfits_spec {R : Rds} {b : Nat} {S : Sto} {vL : Value} {L : List SRow} (h : DV R b S vL L) (hll : L.length <= 5000) (vm vn vc : Value) (must no : List Tpl) (cs : List Chg) (hM : RS R 7 Tpl.enc vm must) (hN : RS R 7 Tpl.enc vn no) (hC : RS R 8 Chg.enc vc cs) (hcl : cs.length <= 1000) :
  Spec prog 124 [pT b, vm, vn, vc] R [] λ u H' => u = .int .i64 (sfits L S.head must no cs) /\ H' = [] := by
 have pc := h.pc
 have ivl := h.rs.oneCell
 obtain ⟨pw, kw_, rfl⟩ := h.rs.val
 have hrs := h.rs
 have lm := hM.le
 have ln := hN.le
 have lc := hC.le
 obtain ⟨pm, km, rfl⟩ := hM.val
 obtain ⟨pn, kn, rfl⟩ := hN.val
 obtain ⟨pv, kc, rfl⟩ := hC.val
 refine Spec.body Tryz.func124 rfl Tryz.results124 Tryz.ntmps124 rfl<|.sr<|.ag rfl<|.zs<|.sr<|.az rfl<|.block<|.loop (X := Nat) (λ i => i <= must.length /\ (must.take i).any (λ t => !sthere L t) = false) (λ i => [(0, pT b), (1, .slice pm must.length km), (2, .slice pn no.length kn), (3, .slice pv cs.length kc), (9, iN i)]) (λ _ => []) (λ i => must.length - i) 0 ⟨Nat.zero_le _, by simp⟩ kE.c.c.c.c.c rH ?_
 rintro i ⟨hi, hA⟩
 refine .seq<|.sr<|.mo rfl<|.mo rfl<|.q (.lenR hM)<|.q .lss<|.zn<|.cond rfl (λ h1 => ?_) λ h1 => ?_
 have hlt : i < must.length := lt_i h1
 obtain ⟨x, hx⟩ := exg hlt
 refine .kn<|.seq<|.block<|.sr<|.mo rfl<|.mo rfl<|.mo rfl ?_
 refine .indexR i hM hx (λ p23 => ?_)
 refine .q (.loadA rfl)<|.callR ((h.mono λ b o hb => .inl hb).find x) (λ v hv => ?_)
 obtain ⟨z, rfl, hz⟩ := hv
 have hzl := hz.lt
 refine .q .lss<|.zn<|.cond rfl (λ h2 => ?_) λ h2 => ?_
 have hc : sfits L S.head must no cs = 13 := sfits_must (by rw [List.any_eq_true.2 ⟨x, mog hx, by rw [<- hzl]; exact h2⟩]; simp)
 refine .sr<|.az rfl<|.ret (blkQ_r (seqQ_r (loopQ_r (blkQ_r (seqQ_r (rq1 rfl ?_))))))
 ·(refine ⟨?_, rfl⟩; rw [hc]; done)
 refine .skip<|blkQ_n<|seqQ_n<|.region<|.mo rfl<|.ia (i + 1) .add<|.ag rfl<|.nil ?_
 ·exact loopQ_i (i + 1) ⟨hlt, any_take hA hx (by rw [<- hzl]; exact h2)⟩ (by omega) kE.c.c.c.c.c (pkH [])
 have hie : i = must.length := by have := odf h1; omega
 subst hie
 rw [List.take_length] at hA
 refine .exit<|seqQ_x<|loopQ_x<|blkQ_x<|seqQ_n<|.seq<|.sr<|.az rfl<|.block<|.loop (X := Nat) (λ i => i <= no.length /\ (no.take i).any (λ t => sthere L t) = false) (λ i => [(0, pT b), (1, .slice pm must.length km), (2, .slice pn no.length kn), (3, .slice pv cs.length kc), (10, iN i)]) (λ _ => []) (λ i => no.length - i) 0 ⟨Nat.zero_le _, by simp⟩ kE.c.c.c.c.c rH ?_
 rintro i ⟨hi, hB⟩
 refine .seq<|.sr<|.mo rfl<|.mo rfl<|.q (.lenR hN)<|.q .lss<|.zn<|.cond rfl (λ h3 => ?_) λ h3 => ?_
 have hlt : i < no.length := lt_i h3
 obtain ⟨x, hx⟩ := exg hlt
 refine .kn<|.seq<|.block<|.sr<|.mo rfl<|.mo rfl<|.mo rfl ?_
 refine .indexR i hN hx (λ p36 => ?_)
 refine .q (.loadA rfl)<|.callR ((h.mono λ b o hb => .inl hb).find x) (λ v hv => ?_)
 obtain ⟨z, rfl, hz⟩ := hv
 have hzl := hz.ge
 refine .q .geq<|.zn<|.cond rfl (λ h4 => ?_) λ h4 => ?_
 have hc : sfits L S.head must no cs = 13 := sfits_must (by rw [hA, List.any_eq_true.2 ⟨x, mog hx, by rw [<- hzl]; exact h4⟩]; rfl)
 refine .sr<|.az rfl<|.ret (blkQ_r (seqQ_r (loopQ_r (blkQ_r (seqQ_r (rq1 rfl ?_))))))
 ·(refine ⟨?_, rfl⟩; rw [hc]; done)
 refine .skip<|blkQ_n<|seqQ_n<|.region<|.mo rfl<|.ia (i + 1) .add<|.ag rfl<|.nil ?_
 ·exact loopQ_i (i + 1) ⟨hlt, any_take hB hx (by rw [<- hzl]; exact h4)⟩ (by omega) kE.c.c.c.c.c (pkH [])
 have hie : i = no.length := by have := odf h3; omega
 subst hie
 rw [List.take_length] at hB
 refine .exit<|seqQ_x<|loopQ_x<|blkQ_x<|seqQ_n<|.seq<|.sr<|.az rfl<|.block<|.loop (X := Nat) (λ i => i <= cs.length /\ (cs.take i).any (λ c => c.put && sthere L c.t) = false) (λ i => [(0, pT b), (1, .slice pm must.length km), (2, .slice pn no.length kn), (3, .slice pv cs.length kc), (11, iN i)]) (λ _ => []) (λ i => cs.length - i) 0 ⟨Nat.zero_le _, by simp⟩ kE.c.c.c.c.c rH ?_
 rintro i ⟨hi, hD⟩
 refine .seq<|.sr<|.mo rfl<|.mo rfl<|.q (.lenR hC)<|.q .lss<|.zn<|.cond rfl (λ h5 => ?_) λ h5 => ?_
 have hlt : i < cs.length := lt_i h5
 obtain ⟨x, hx⟩ := exg hlt
 refine .kn<|.seq<|.block<|.sr<|.mo rfl<|.mo rfl ?_
 refine .indexR i hC hx (λ p48 => ?_)
 refine .fa rfl<|.lo rfl<|.mo rfl<|.split (t := 51) rfl (λ g14_5 => ?_) (λ g14_5 => ?_)
 refine .gT g14_5<|.mo rfl<|.gT g14_5<|.mo rfl<|.gT g14_5<|.mo rfl<|.gT g14_5 ?_
 refine .indexR i hC hx (λ p55 => ?_)
 refine .gT g14_5<|.fa rfl<|.gT g14_5<|.q (.loadT rfl)<|.gT g14_5<|.callR ((h.mono λ b o hb => .inl hb).find x.t) (λ v hv => ?_)
 obtain ⟨z, rfl, hz⟩ := hv
 have hzl := hz.ge
 refine .gT g14_5<|.q .geq<|.q (.pickTh g14_5)<|.zn<|.cond rfl (λ h6 => ?_) λ h6 => ?_
 have hc : sfits L S.head must no cs = 10 := sfits_put hA hB (List.any_eq_true.2 ⟨x, mog hx, by rw [<- hzl, g14_5]; exact h6⟩)
 refine .sr<|.az rfl<|.ret (blkQ_r (seqQ_r (loopQ_r (blkQ_r (seqQ_r (rq1 rfl ?_))))))
 ·(refine ⟨?_, rfl⟩; rw [hc]; done)
 refine .skip<|blkQ_n<|seqQ_n<|.region<|.mo rfl<|.ia (i + 1) .add<|.ag rfl<|.nil ?_
 ·exact loopQ_i (i + 1) ⟨hlt, any_take hD hx (by rw [<- hzl, g14_5]; exact h6)⟩ (by omega) kE.c.c.c.c.c (pkH [])
 refine .gF g14_5<|.gF g14_5<|.gF g14_5<|.gF g14_5<|.gF g14_5<|.gF g14_5<|.gF g14_5<|.gF g14_5<|.q (.pickFh g14_5)<|.zn<|.condF<|.skip<|blkQ_n<|seqQ_n<|.region<|.mo rfl<|.ia (i + 1) .add<|.ag rfl<|.nil ?_
 ·exact loopQ_i (i + 1) ⟨hlt, any_take hD hx (by rw [g14_5]; rfl)⟩ (by omega) kE.c.c.c.c.c (pkH [])
 have hie : i = cs.length := by have := odf h5; omega
 subst hie
 rw [List.take_length] at hD
 refine .exit<|seqQ_x<|loopQ_x<|blkQ_x<|seqQ_n<|.sr<|.mo rfl<|.nc rfl<|.fa rfl<|.lo rfl<|.q (.lenR hrs)<|.ag rfl<|.zs<|.sr<|.az rfl<|.block<|.loop (X := Nat) (λ i => i <= cs.length /\ (cs.take i).any (λ c => !c.put && !sthere L c.t) = false) (λ i => [(0, pT b), (1, .slice pm must.length km), (2, .slice pn no.length kn), (3, .slice pv cs.length kc), (12, .int .i64 ((L.length + sputs (cs.take i) : Nat) : Int)), (13, iN i)]) (λ _ => []) (λ i => cs.length - i) 0 ⟨Nat.zero_le _, by simp⟩ kE.c.c.c.c.c.c rH ?_
 rintro i ⟨hi, hE⟩
 have hsl : sputs (cs.take i) <= 1000 := by unfold sputs; exact Nat.le_trans (List.length_filter_le _ _) (by rw [List.length_take]; omega)
 refine .seq<|.sr<|.mo rfl<|.mo rfl<|.q (.lenR hC)<|.q .lss<|.zn<|.cond rfl (λ h7 => ?_) λ h7 => ?_
 have hlt : i < cs.length := lt_i h7
 obtain ⟨x, hx⟩ := exg hlt
 have hsn := sputs_next hx
 refine .kn<|.seq<|.block<|.seq<|.sr<|.mo rfl<|.mo rfl ?_
 refine .indexR i hC hx (λ p74 => ?_)
 refine .fa rfl<|.lo rfl<|.q .not<|.mo rfl<|.split (t := 78) rfl (λ g20_6 => ?_) (λ g20_6 => ?_)
 refine .gT g20_6<|.mo rfl<|.gT g20_6<|.mo rfl<|.gT g20_6<|.mo rfl<|.gT g20_6 ?_
 refine .indexR i hC hx (λ p82 => ?_)
 refine .gT g20_6<|.fa rfl<|.gT g20_6<|.q (.loadT rfl)<|.gT g20_6<|.callR ((h.mono λ b o hb => .inl hb).find x.t) (λ v hv => ?_)
 obtain ⟨z, rfl, hz⟩ := hv
 have hzl := hz.lt
 refine .gT g20_6<|.q .lss<|.q (.pickTh g20_6)<|.zn<|.cond rfl (λ h8 => ?_) λ h8 => ?_
 have hc : sfits L S.head must no cs = 11 := sfits_del hA hB hD (List.any_eq_true.2 ⟨x, mog hx, by rw [<- hzl, g20_6]; exact h8⟩)
 refine .sr<|.az rfl<|.ret (seqQ_r (blkQ_r (seqQ_r (loopQ_r (blkQ_r (seqQ_r (rq1 rfl ?_)))))))
 ·(refine ⟨?_, rfl⟩; rw [hc]; done)
 refine .kn<|.sr<|.mo rfl<|.mo rfl ?_
 refine .indexR i hC hx (λ p90 => ?_)
 refine .fa rfl<|.lo rfl<|.zn<|.cond rfl (λ h9 => ?_) λ h9 => ?_
 have e12 : L.length + sputs (cs.take (i + 1)) = L.length + sputs (cs.take i) + 1 := by rw [hsn, if_pos h9]; rfl
 refine .region<|.mo rfl<|.ia (L.length + sputs (cs.take i) + 1) .add<|.ag rfl<|.nil<|blkQ_n<|seqQ_n<|.region<|.mo rfl<|.ia (i + 1) .add<|.ag rfl<|.nil ?_
 ·(exfalso; rw [h9] at g20_6; cases g20_6; done)
 have e12 : L.length + sputs (cs.take (i + 1)) = L.length + sputs (cs.take i) := by rw [hsn, if_neg (by rw [h9]; simp)]; rfl
 refine .skip<|blkQ_n<|seqQ_n<|.region<|.mo rfl<|.ia (i + 1) .add<|.ag rfl<|.nil ?_
 ·(refine loopQ_i (i + 1) ⟨hlt, any_take hE hx ?_⟩ (by omega) (by simp only [e12]; exact kE.c.c.c.c.c.c) (pkH []); rw [<- hzl, g20_6]; exact h8)
 refine .gF g20_6<|.gF g20_6<|.gF g20_6<|.gF g20_6<|.gF g20_6<|.gF g20_6<|.gF g20_6<|.gF g20_6<|.q (.pickFh g20_6)<|.zn<|.condF<|.kn<|.sr<|.mo rfl<|.mo rfl ?_
 refine .indexR i hC hx (λ p90 => ?_)
 refine .fa rfl<|.lo rfl<|.zn<|.cond rfl (λ h9 => ?_) λ h9 => ?_
 have e12 : L.length + sputs (cs.take (i + 1)) = L.length + sputs (cs.take i) + 1 := by rw [hsn, if_pos h9]; rfl
 refine .region<|.mo rfl<|.ia (L.length + sputs (cs.take i) + 1) .add<|.ag rfl<|.nil<|blkQ_n<|seqQ_n<|.region<|.mo rfl<|.ia (i + 1) .add<|.ag rfl<|.nil ?_
 ·(refine loopQ_i (i + 1) ⟨hlt, any_take hE hx ?_⟩ (by omega) (by simp only [e12]; exact kE.c.c.c.c.c.c) (pkH []); rw [h9]; rfl)
 have e12 : L.length + sputs (cs.take (i + 1)) = L.length + sputs (cs.take i) := by rw [hsn, if_neg (by rw [h9]; simp)]; rfl
 refine .skip<|blkQ_n<|seqQ_n<|.region<|.mo rfl<|.ia (i + 1) .add<|.ag rfl<|.nil ?_
 ·(exfalso; rw [h9] at g20_6; cases g20_6; done)
 have hie : i = cs.length := by have := odf h7; omega
 subst hie
 rw [List.take_length] at hE
 rw [List.take_length]
 have hrest := sfits_rest (head := S.head) hA hB hD hE
 refine .exit<|seqQ_x<|loopQ_x<|blkQ_x<|seqQ_n<|.seq<|.sr<|.mo rfl<|.nc rfl<|.fa rfl<|.lo rfl<|.q .geq<|.mo rfl<|.split (t := 100) rfl (λ g24_5 => ?_) (λ g24_5 => ?_)
 refine .gF g24_5<|.gF g24_5<|.gF g24_5<|.gfU rfl<|.gfU rfl<|.gfU rfl<|.gfU rfl<|.gfU rfl<|.gfU rfl<|.gfU rfl<|.gF g24_5<|.q (.pickTh g24_5)<|.zn<|.condT<|.sr<|.az rfl<|.ret (seqQ_r (rq1 rfl ?_))
 ·(refine ⟨?_, rfl⟩; rw [hrest]; congr 1; split <;> first | rfl | (exfalso; simp_all; done) | (exfalso; simp_all; omega))
 refine .gT g24_5<|.mo rfl<|.gT g24_5<|.q .gtr<|.gT g24_5<|.mo rfl<|.split (t := 103) rfl (λ g24_8 => ?_) (λ g24_8 => ?_)
 refine .gT g24_8<|.mo rfl<|.gT g24_8<|.mo rfl<|.gT g24_8<|.nc rfl<|.gT g24_8<|.fa rfl<|.gT g24_8<|.lo rfl<|.gT g24_8<|.q (.lenR hrs)<|.gT g24_8<|.q .gtr<|.gT g24_5<|.q (.pickTh g24_8)<|.q (.pickFh g24_5)<|.zn<|.cond rfl (λ h10 => ?_) λ h10 => ?_
 refine .sr<|.az rfl<|.ret (seqQ_r (rq1 rfl ?_))
 ·(refine ⟨?_, rfl⟩; rw [hrest]; congr 1; split <;> first | rfl | (exfalso; simp_all; done) | (exfalso; simp_all; omega))
 refine .kn<|.sr<|.az rfl<|.ret (rq1 rfl ?_)
 ·(refine ⟨?_, rfl⟩; rw [hrest]; congr 1; split <;> first | rfl | (exfalso; simp_all; done) | (exfalso; simp_all; omega))
 refine .gF g24_8<|.gF g24_8<|.gF g24_8<|.gF g24_8<|.gF g24_8<|.gF g24_8<|.gF g24_8<|.gT g24_5<|.q (.pickFh g24_8)<|.q (.pickFh g24_5)<|.zn<|.condF<|.kn<|.sr<|.az rfl<|.ret (rq1 rfl ?_)
 ·(refine ⟨?_, rfl⟩; rw [hrest]; congr 1; split <;> first | rfl | (exfalso; simp_all; done) | (exfalso; simp_all; omega))
def DO (b : Nat) (S : Sto) (T : Seg) : Prop := ∃ vL L TL, T = (b, .cells [vL, .int .u64 S.head, .int .u64 S.hor].toArray 126 (0, 0)) :: TL /\ OS 241 9 SRow.enc vL L TL /\ RL S L
theorem DO.view {b : Nat} {S : Sto} {T : Seg} {R : Rds} (h : DO b S T) (hR : ∀ p ∈ T, R p.1 p.2) : ∃ vL L, DV R b S vL L /\ RL S L := by
 obtain ⟨vL, L, TL, rfl, h1, h2⟩ := h
 exact ⟨vL, L, ⟨PC.of (E := 126) (fr := (0, 0)) (hR (b, _) (by simp)), h1.rs λ p hp => hR p (by simp [hp])⟩, h2⟩
theorem RL.len {S : Sto} (hS : SOK S) {L : List SRow} (h : RL S L) : L.length <= 4096 := by rw [h.pm.length_eq]; exact hS.len
theorem rwrite_spec (b : Nat) (S : Sto) (T : Seg) (h : DO b S T) (hS : SOK S) (vm vn vc : Value) (must no : List Tpl) (cs : List Chg) (R : Rds) (hM : RS R 7 Tpl.enc vm must) (hN : RS R 7 Tpl.enc vn no) (hC : RS R 8 Chg.enc vc cs) (fm : ∀ t ∈ must, t.fits) (fn : ∀ t ∈ no, t.fits) (fc : ∀ c ∈ cs, c.t.fits) (hcl : cs.length <= 1000) :
  Spec prog 69 [pT b, vm, vn, vc] R [T] λ u H' => ∃ T', H' = [T'] /\ u = .tuple [.int .u64 (if scode S must no cs = 0 then S.head + 1 else 0), .int .i64 (scode S must no cs)].toArray /\ DO b (swrite S must no cs) T' := by
 have a0 := hS.h0
 have a1 := hS.h1
 have a2 := hS.h2
 have h0 := h
 obtain ⟨pm, km, rfl⟩ := hM.val
 obtain ⟨pn, kn, rfl⟩ := hN.val
 obtain ⟨pv, kc, rfl⟩ := hC.val
 obtain ⟨vL0, L0, hDV, hRL⟩ := h.view (R := Rx R [T]) λ p hp => .inr (by simp [hp])
 have hl0 := hRL.len hS
 refine Spec.body Tryz.func69 rfl Tryz.results69 Tryz.ntmps69 rfl<|.sr<|.ag rfl<|.ag rfl<|.z<|.mo rfl<|.mo rfl<|.mo rfl<|.callR (rcheck_spec _ _ _ must no cs _ hM.rx hN.rx hC.rx fm fn fc) (λ v hv => ?_)
 subst hv
 refine .ag rfl<|.zs<|.sr<|.mo rfl<|.q .eqI<|.zn ?_
 refine Tri.cut (X := Unit) (λ _ => True) (λ _ => [(0, pT b), (1, .slice pm must.length km), (2, .slice pn no.length kn), (3, .slice pv cs.length kc), (10, .int .i64 (scode S must no cs))]) (λ _ => [T]) ?_ ?_
 refine .cond rfl (λ h1 => ?_) λ h1 => ?_
 have hc0 : scheck must no cs = 0 := by simpa using h1
 have e1 : sfits L0 S.head must no cs = scode S must no cs := by rw [scode_fits hc0, sfits_perm hRL.pm]
 refine .region<|.mo rfl<|.mo rfl<|.mo rfl<|.mo rfl<|.callR (rfits_spec hDV (by omega) _ _ _ must no cs hM.rx hN.rx hC.rx hcl) (λ v hv => ?_)
 subst hv
 refine .ag rfl<|.nil ?_
 ·exact joinQ_n () trivial (by rw [<- e1]; exact kE.c.c.c.c.c) rH
 have hc0 : scheck must no cs ≠ 0 := by simpa using h1
 have e1 : scheck must no cs = scode S must no cs := by rw [scode_check hc0]
 refine .skip ?_
 ·exact joinQ_n () trivial (by rw [<- e1]; exact kE.c.c.c.c.c) rH
 intro x hx
 skip
 refine seqQ_n<|.seq<|.sr<|.mo rfl<|.q .neI<|.zn<|.cond rfl (λ h2 => ?_) λ h2 => ?_
 have hcode : scode S must no cs ≠ 0 := by simpa using h2
 refine .sr<|.mo rfl<|.ag rfl<|.az rfl<|.ret (seqQ_r (retQ_r _ (.two (.tmp rfl) (.tmp rfl)) (.one [0] _) ?_))
 ·exact ⟨T, by simp [take], by rw [if_neg hcode], by rw [swrite_else hcode]; exact h0⟩
 have hcode : scode S must no cs = 0 := by simpa using h2
 have hw := scode_zero hcode
 have hwh := hw.head
 obtain ⟨vL, L, TL, rfl, hO, hL⟩ := h
 have ivl := hO.oneCell
 refine .kn<|.sr<|.sub (H' := [bl b [vL, .int .u64 S.head, .int .u64 S.hor] 126, TL]) (HLe.ofPerm (by simp))<|.mo rfl<|.mo rfl<|.nc rfl<|.fa rfl<|.lo rfl<|.q (.u64 (S.head + 1) .add ⟨rfl, by omega, by omega⟩)<|.nc rfl<|.fa rfl<|.store1 rfl rfl<|.zs<|.sr<|.az rfl<|.block<|.loop (X := Nat × Value × List SRow × Seg) (λ y => y.1 <= cs.length /\ OS 241 9 SRow.enc y.2.1 y.2.2.1 y.2.2.2 /\ RL ⟨(cs.take y.1).foldl (sapply (S.head + 1)) S.rows, S.head + 1, S.hor⟩ y.2.2.1) (λ y => [(0, pT b), (3, .slice pv cs.length kc), (11, iN y.1)]) (λ y => [bl b [y.2.1, .int .u64 (S.head + 1), .int .u64 S.hor] 126, y.2.2.2]) (λ y => cs.length - y.1) (0, vL, L, TL) ⟨Nat.zero_le _, hO, ⟨hL.pm, hL.st⟩⟩ kE.c.c.c rH ?_
 rintro ⟨i, vi, Li, Ti⟩ ⟨hi, hOi, hLi⟩
 simp only at hi hOi hLi ⊢
 have ivi := hOi.oneCell
 have hli := hLi.len (hS.fold (hw.take i))
 have lc := hC.le
 refine .seq<|.sr<|.mo rfl<|.mo rfl<|.q (.lenR hC)<|.q .lss<|.zn<|.cond rfl (λ h3 => ?_) λ h3 => ?_
 have hlt : i < cs.length := lt_i h3
 obtain ⟨c, hc⟩ := exg hlt
 have pxi := hC.pc hc
 obtain ⟨hnx, hdel⟩ := RL.next hS hw hc hLi
 refine .kn<|.seq<|.block<|.sr<|.mo rfl<|.mo rfl ?_
 refine .indexR i hC hc (λ p43 => ?_)
 refine .fa rfl<|.lo rfl<|.zn<|.cond rfl (λ h4 => ?_) λ h4 => ?_
 refine .region_all [18] mixed<|.tO 0 rfl .move<|.tO 1 rfl .move<|.tO 2 rfl (.nilCheck rfl)<|.tO 3 rfl (.fieldAddr rfl)<|.tO 4 rfl (.load1 rfl)<|.tO 5 rfl .move<|.tO 6 rfl .move<|.tO 7 rfl (.indexR i hC hc rfl rfl rfl)<|.tO 8 rfl (.fieldAddr rfl)<|.tO 9 rfl (.loadT rfl)<|.tO 10 rfl .move<|.tO 11 rfl (.nilCheck rfl)<|.tO 12 rfl (.fieldAddr rfl)<|.tO 13 rfl (.load1 rfl)<|.tO 14 rfl .bld<|.sT 15 rfl<|.callN (rins12_spec _ Li ⟨c.t, S.head + 1, 0⟩ _ hOi.rx (by omega)) (λ u Tn hu => ?_)
 have iu := hu.oneCell
 refine .nil<|Next.sub<|.tO 16 rfl (.nilCheck rfl)<|.tO 17 rfl (.fieldAddr rfl)<|.sT 18 rfl<|.store1 rfl rfl<|.nil<|Next.mod rfl<|RA.nil (by kernel_rfl)<|blkQ_n<|seqQ_n<|.region<|.mo rfl<|.ia (i + 1) .add<|.ag rfl<|.nil ?_
 ·exact loopQ_i (i + 1, u, _, Tn) ⟨hlt, by simp only; exact hu, by simp only; unfold rapply at hnx; rw [if_pos h4] at hnx; exact hnx⟩ (by simp only; omega) (((kE.d rfl).d rfl).d rfl) (pkH [1, 0])
 obtain ⟨j, x, hj, hox, hmin, hset⟩ := hdel h4
 refine .sr<|.mo rfl<|.mo rfl<|.mo rfl ?_
 refine .indexR i hC hc (λ p67 => ?_)
 refine .fa rfl<|.q (.loadT rfl)<|.callR (DV.find (S := ⟨[], S.head + 1, S.hor⟩) ⟨PC.of (E := 126) (fr := (0, 0)) (.inr (by simp)), hOi.rx⟩ c.t) (λ v hv => ?_)
 obtain ⟨z, rfl, hz⟩ := hv
 obtain rfl : z = (j : Int) := by
  rcases hz with ⟨k, y, rfl, hy, hoy, hm2⟩ | ⟨_, hno⟩
  ·rcases Nat.lt_trichotomy k j with h9 | h9 | h9
   ·rw [hmin k y h9 hy] at hoy; cases hoy
   ·rw [h9]
   ·rw [hm2 j x h9 hj] at hox; cases hox
  ·unfold sthere at hno
   rw [List.any_eq_true.2 ⟨x, mog hj, hox⟩] at hno
   cases hno
 refine .az rfl<|.region_tail 11 mixed (by kernel_rfl) ?_
 conv => arg 6; dsimp only [List.take]
 refine .mo rfl<|.nc rfl<|.fa rfl<|.lo rfl<|.mo rfl<|.mo rfl<|.nc rfl<|.fa rfl<|.lo rfl ?_
 refine .indexO j hOi hj (λ p80 => ?_)
 refine .fa rfl<|.nil ?_
 refine .storeO_gen (k := 8) (cs := [.int .u64 (S.head + 1)]) (z' := ⟨x.t, x.fr, S.head + 1⟩) j hOi hj rfl rfl rfl rfl rfl (by simp [oneCell]) rfl (by simp) (λ Td hOd => ?_)
 refine .nil<|blkQ_n<|seqQ_n<|.region<|.mo rfl<|.ia (i + 1) .add<|.ag rfl<|.nil ?_
 ·exact loopQ_i (i + 1, vi, _, Td) ⟨hlt, by simp only; exact hOd, by simp only; rw [hset] at hnx; exact hnx⟩ (by simp only; omega) (((kE.d rfl).d rfl).d rfl) (pkH [0, 0])
 refine .exit<|seqQ_x<|loopQ_x<|blkQ_x<|seqQ_n<|.sr<|.mo rfl<|.nc rfl<|.fa rfl<|.lo rfl<|.ag rfl<|.az rfl<|.ret (retQ_r _ (.two (.tmp rfl) (.tmp rfl)) ((HLe.ofPerm (H' := [(b, .cells [vi, .int .u64 (S.head + 1), .int .u64 S.hor].toArray 126 (0, 0)) :: Ti]) (by simp))) ?_)
 ·have hie : i = cs.length := by have := odf h3; omega
  subst hie
  have hfin := hLi.write hcode
  have hsw : (swrite S must no cs).head = S.head + 1 /\ (swrite S must no cs).hor = S.hor := by unfold swrite; rw [if_pos hcode]; exact ⟨rfl, rfl⟩
  exact ⟨_, rfl, by rw [hcode]; rfl, vi, Li, Ti, by rw [hsw.1, hsw.2], hOi, hfin⟩
structure WoM where
 c : CfM
 vw : Value
 calls : List SCall
def WoM.enc (w : WoM) : List Value := [w.c.vs, w.c.vc, w.vw]
structure WoM.is (R : Rds) (w : WoM) : Prop where
 c : w.c.is R
 rs : RS R 12 SCall.enc w.vw w.calls
 all : ∀ d ∈ w.calls, d.is R
theorem write_len {S : Sto} (hS : SOK S) (must no : List Tpl) (cs : List Chg) : (swrite S must no cs).rows.length <= S.rows.length + 32 := by
 by_cases h : scode S must no cs = 0
 ·rw [swrite_rows hS h]
  have hc : scheck must no cs = 0 := by
   unfold scode at h
   split at h
   ·rename_i h2; exact absurd h h2
   ·rename_i h2; simpa using h2
  have hl : cs.length <= 32 := by
   unfold scheck at hc
   split at hc
   ·cases hc
   ·omega
  simp only [List.length_append, List.length_map, news]
  have := List.length_filter_le (λ c : Chg => c.put) cs
  omega
 ·rw [swrite_else h]; omega
theorem SOK.new : SOK ⟨[], 0, 0⟩ := ⟨λ x hx => (by cases hx), List.Pairwise.nil, by simp, Int.le_refl _, Int.le_refl _, by decide⟩
theorem hcode_nil (c : Cf) : hcode [] 0 c = (c.numbers isWord isRef).1 := by
 unfold hcode
 simp only [List.getLast?_nil, Option.map_none, Option.getD_none, Bool.false_eq_true, if_false, List.length_nil]
 by_cases h : (c.numbers isWord isRef).1 = 0
 ·rw [if_neg (by rw [h]; simp), h]; rfl
 ·rw [if_pos h]
def MadeT (R : Rds) (w : WoM) (u : Value) (H : Segs) : Prop := ∃ Tc Th Ts Tx hb g x e S, ∃ c : CfM, H = [Tc, Th, Ts, Tx] /\ u = .tuple [pT hb, pT g, .agg c.enc.toArray, pT x, .bool true].toArray /\
 c.is (λ b o => R b o \/ (b, o) ∈ Tc) /\ c.plain = cfFew w.c.plain /\ ((cfFew w.c.plain).numbers isWord isRef).1 = 0 /\ EnM.rev e = 0 /\ (EnM.c e).plain = cfFew w.c.plain /\ HI hb [e] 0 Th /\ SI g S Ts /\ SOK S /\ DO x S Tx /\ S.rows.length <= 512
theorem made_spec (w : WoM) (R : Rds) (h : w.is R) : Spec prog 19 [.agg w.enc.toArray] R [] λ u H' => MadeT R w u H' \/
  ∃ T c, ∃ x : Nat, H' = [T] /\ u = .tuple [.pointer none, .pointer none, .agg (CfM.enc c).toArray, pT x, .bool false].toArray /\ c.is (λ b o => R b o \/ (b, o) ∈ T) /\ c.plain = cfFew w.c.plain /\ ((cfFew w.c.plain).numbers isWord isRef).1 ≠ 0 := by
 obtain ⟨c, vw, calls⟩ := w
 have hc := h.c
 have hcs := h.rs
 have hca := h.all
 simp only at hc hcs hca ⊢
 have i1 : One c.vs := RS.oneCell hc.ss
 have i2 : One c.vc := RS.oneCell hc.sc
 have i3 := hcs.oneCell
 have hcn := hcode_nil (cfFew c.plain)
 refine Spec.body Tryz.func19 rfl Tryz.results19 Tryz.ntmps19 rfl<|.sr ?_
 refine .boxA rfl (λ b1 => ?_)
 refine .ag rfl<|.ag rfl ?_
 refine .allocA (λ b4 => ?_)
 refine .ag rfl<|.ag rfl<|.z<|.fa rfl<|.q (.loadT rfl)<|.callN ((few16_spec c R hc).weaken rxl) (λ u Tc hu => ?_)
 obtain ⟨c', rfl, hc', hpl⟩ := hu
 have ic : Ones c'.enc := ⟨hc'.ones⟩
 have ic1 : One c'.vs := RS.oneCell hc'.ss
 have ic2 : One c'.vc := RS.oneCell hc'.sc
 refine .allocA (λ b7 => ?_)
 refine .storeA rfl rfl<|.z<|.q (.loadA rfl)<|.callN ((rnumbers_spec c' _ hc').weaken λ b o hb => hb.elim .inl λ hb => .inr (by simp [hb])) (λ u Tn hu => ?_)
 obtain ⟨wn, lln, rfl, hNN, hlln⟩ := hu
 rw [hpl]
 have in1 : One wn := hNN.rs.oneCell
 refine .mo rfl<|.q .extract<|.q .extract<|.ag rfl<|.ag rfl<|.z<|.callN (hnew_spec _) (λ u Th hu => ?_)
 obtain ⟨hb, rfl, hH⟩ := hu
 refine .callN (snew_spec _) (λ u Ts hu => ?_)
 obtain ⟨g, rfl, hSI⟩ := hu
 refine .q .bld ?_
 refine .boxA rfl (λ b26 => ?_)
 refine .ag rfl<|.ag rfl<|.ag rfl<|.zs<|.sr<|.mo rfl<|.q .neI<|.mo rfl<|.split (t := 29) rfl (λ g4_2 => ?_) (λ g4_2 => ?_)
 have hz1 : ((cfFew c.plain).numbers isWord isRef).1 ≠ 0 := by simpa using g4_2
 refine .gF g4_2<|.gF g4_2<|.gF g4_2<|.gF g4_2<|.q (.pickTh g4_2)<|.zn<|.condT<|.seq<|.region_all [4] mixed<|.tO 0 rfl (.loadA rfl)<|.tK 1 rfl .move<|.tO 2 rfl .assign<|.tO 3 rfl .assign<|.sT 4 rfl<|.storeA rfl rfl<|.nil<|Next.mod rfl<|.tK 5 rfl .assign<|.tK 6 rfl .assign<|RA.nil (by kernel_rfl)<|seqQ_n ?_
 refine .ret (seqQ_r (retQ_r _ (.five (.tmp rfl) (.tmp rfl) (.cellA rfl rfl) (.tmp rfl) (.tmp rfl)) (.one [5] _) ?_))
 ·exact .inr ⟨_, c', _, rfl, rfl, hc'.mono λ b o hb => hb.elim .inl λ hb => .inr (by simp [take, dropAt, hb]), hpl, hz1⟩
 have hz0 : ((cfFew c.plain).numbers isWord isRef).1 = 0 := by simpa using g4_2
 refine .gT g4_2<|.mo rfl<|.gT g4_2<|.q (.loadA rfl)<|.gT g4_2<|.callW (hadd_spec hb [] 0 Th hH (by simp) 0 c' _ (hc'.mono λ b o hb => hb.elim .inl λ hb => .inr (by simp [hb]))) (λ u Th2 hu => ?_)
 rw [hpl, hcn] at hu
 obtain ⟨rfl, hA0, hA1⟩ := hu
 refine .gT g4_2<|.q .neI<|.q (.pickFh g4_2)<|.zn<|.cond rfl (λ h1 => ?_) λ h1 => ?_
 refine .seq<|.region_all [4] mixed<|.tO 0 rfl (.loadA rfl)<|.tK 1 rfl .move<|.tO 2 rfl .assign<|.tO 3 rfl .assign<|.sT 4 rfl<|.storeA rfl rfl<|.nil<|Next.mod rfl<|.tK 5 rfl .assign<|.tK 6 rfl .assign<|RA.nil (by kernel_rfl)<|seqQ_n ?_
 refine .ret (seqQ_r (retQ_r _ (.five (.tmp rfl) (.tmp rfl) (.cellA rfl rfl) (.tmp rfl) (.tmp rfl)) (.one [5] _) ?_))
 ·exfalso
  rw [hz0] at h1
  simp at h1
 obtain ⟨e, her, hec, hHI⟩ := hA0 hz0
 rw [List.nil_append] at hHI
 refine .kn<|.sr<|.fa rfl<|.lo rfl<|.callN (few12_spec _ calls 16 (by omega) _ R hcs.rx hca) (λ u T13 hu => ?_)
 obtain ⟨ds, hOd, hds, hdl⟩ := hu
 have i13 := hOd.oneCell
 have hdl16 : ds.length <= 16 := by rw [hdl]; exact Nat.min_le_right _ _
 refine .ag rfl<|.zs<|.sr<|.az rfl<|.block<|.loopS [(4, _), (7, _), (10, _), (11, _), (12, _), (13, _)] (X := Nat × Sto × Seg × Seg) (λ y => y.1 <= ds.length /\ SI g y.2.1 y.2.2.1 /\ SOK y.2.1 /\ DO b26 y.2.1 y.2.2.2 /\ y.2.1.rows.length <= 32 * y.1) (λ y E => (14, iN y.1) :: E) (λ y G => T13 :: y.2.2.2 :: y.2.2.1 :: G) (λ y => ds.length - y.1) (0, ⟨[], 0, 0⟩, Ts, bl b26 [sZ, .int .u64 0, .int .u64 0] 126) ⟨Nat.zero_le _, hSI, SOK.new, ⟨_, [], [], rfl, OS.nil, RL.new⟩, by simp⟩ kE.c.c.c.c.c.c.c rH ?_
 rintro ⟨i, S, Ts, Tx⟩ ⟨hi, hSI, hSOK, hDO, hrl⟩
 simp only at hi hSI hSOK hDO hrl ⊢
 refine .seq<|.sr<|.mo rfl<|.mo rfl<|.q (.lenO hOd)<|.q .lss<|.zn<|.cond rfl (λ h2 => ?_) λ h2 => ?_
 have hlt : i < ds.length := lt_i h2
 obtain ⟨d, hd⟩ := exg hlt
 obtain ⟨hdi, hd1, hd2, hd3⟩ := hds d (mog hd)
 obtain ⟨dk, wm, wn_, wc, df, dr, must, no, cs⟩ := d
 have hwl := write_len hSOK must no cs
 have iw1 : One wm := RS.oneCell hdi.hm
 have iw2 : One wn_ := RS.oneCell hdi.hn
 have iw3 : One wc := RS.oneCell hdi.hc
 refine .kn<|.seq<|.block<|.sr<|.mo rfl<|.mo rfl ?_
 refine .indexO i hOd hd (λ p48 => ?_)
 refine .fa rfl<|.lo rfl<|.q .eqI<|.zn<|.cond rfl (λ h3 => ?_) λ h3 => ?_
 refine .seq<|.region_tail 16 mixed (by kernel_rfl) ?_
 conv => arg 6; dsimp only [List.take]
 refine .mo rfl<|.mo rfl<|.mo rfl ?_
 refine .indexO i hOd hd (λ p55 => ?_)
 refine .fa rfl<|.lo rfl<|.mo rfl<|.mo rfl ?_
 refine .indexO i hOd hd (λ p60 => ?_)
 refine .fa rfl<|.lo rfl<|.mo rfl<|.mo rfl ?_
 refine .indexO i hOd hd (λ p65 => ?_)
 refine .fa rfl<|.lo rfl<|.nil<|.callM (write_spec g S Ts hSI hSOK wm wn_ wc must no cs _ hdi.hm hdi.hn hdi.hc hdi.fm hdi.fn hdi.fc) (λ u Ts2 hu => ?_)
 obtain ⟨rfl, hSI2⟩ := hu
 refine .zn<|.region_tail 16 mixed (by kernel_rfl) ?_
 conv => arg 6; dsimp only [List.take]
 refine .mo rfl<|.mo rfl<|.mo rfl ?_
 refine .indexO i hOd hd (λ p72 => ?_)
 refine .fa rfl<|.lo rfl<|.mo rfl<|.mo rfl ?_
 refine .indexO i hOd hd (λ p77 => ?_)
 refine .fa rfl<|.lo rfl<|.mo rfl<|.mo rfl ?_
 refine .indexO i hOd hd (λ p82 => ?_)
 refine .fa rfl<|.lo rfl<|.nil<|.callM (rwrite_spec b26 S Tx hDO hSOK wm wn_ wc must no cs _ hdi.hm hdi.hn hdi.hc hdi.fm hdi.fn hdi.fc (by have h9 : cs.length <= 34 := hd3; omega)) (λ u Tx2 hu => ?_)
 obtain ⟨rfl, hDO2⟩ := hu
 refine .nil<|blkQ_n<|seqQ_n<|.region<|.mo rfl<|.ia (i + 1) .add<|.ag rfl<|.nil ?_
 ·exact loopQ_i (i + 1, swrite S must no cs, Ts2, Tx2) ⟨hlt, hSI2, hSOK.write must no cs, hDO2, by simp only; omega⟩ (by simp only; omega) kE.c.c.c.c.c.c.c rH
 refine .skip<|blkQ_n<|seqQ_n<|.region<|.mo rfl<|.ia (i + 1) .add<|.ag rfl<|.nil ?_
 ·exact loopQ_i (i + 1, S, Ts, Tx) ⟨hlt, hSI, hSOK, hDO, by simp only; omega⟩ (by simp only; omega) kE.c.c.c.c.c.c.c rH
 refine .exit<|seqQ_x<|loopQ_x<|blkQ_x<|seqQ_n<|.seq<|.region_all [6] mixed<|.tO 0 rfl .move<|.tO 1 rfl .move<|.tO 2 rfl (.loadA rfl)<|.tK 3 rfl .move<|.tO 4 rfl .assign<|.tO 5 rfl .assign<|.sT 6 rfl<|.storeA rfl rfl<|.nil<|Next.mod rfl<|.tK 7 rfl .assign<|.tK 8 rfl .assign<|RA.nil (by kernel_rfl)<|seqQ_n ?_
 refine .ret (retQ_r _ (.five (.tmp rfl) (.tmp rfl) (.cellA rfl rfl) (.tmp rfl) (.tmp rfl)) (pkH [6, 3, 2, 1]) ?_)
 ·exact .inl ⟨Tc, Th2, Ts, Tx, hb, g, b26, e, S, c', rfl, rfl, hc', hpl, hz0, her, hec, hHI, hSI, hSOK, hDO, by omega⟩
abbrev vNt (n : Nat) : Value := iN n
def numM (c : Cf) (num : List Nat) : List (Ty × Nat) := (c.all.map rkey).zip num
theorem numM_get (c : Cf) (num : List Nat) (hl : num.length = c.all.length) (t : Ty) : (mget t (numM c num)).getD 0 = match rfind c.all t with | none => 0 | some i => num.getD i 0 := by
 unfold numM rfind
 generalize c.all = A at *
 induction A generalizing num with
 | nil => simp [mget]
 | cons x A ih =>
  cases num with
  | nil => simp at hl
  | cons n num =>
   have := ih num (by simpa using hl)
   rw [List.map_cons, List.zip_cons_cons, mget, List.findIdx?_cons]
   by_cases e : t = rkey x
   ·subst e; simp
   ·rw [if_neg e, this]
    have e' : decide (rkey x = t) = false := decide_eq_false λ h => e h.symm
    rw [e']
    cases List.findIdx? (λ x => decide (rkey x = t)) A with
    | none => rfl
    | some i => rfl
theorem numbered_spec (c : CfM) (R : Rds) (h : c.is R) (hu : c.plain.uniq) (w : Value) (ll : List NlM) (num : List Nat) (hN : NN R w ll) (hll : ll.map (·.2) = rows c.plain.spaces num) (hlen : num.length = c.plain.all.length) :
  Spec prog 102 [.agg c.enc.toArray, w] R [] λ u H' => ∃ T, H' = [T] /\ MS kTy vNt u (numM c.plain num) T := by
 have hss := h.ss
 have i1 := hss.oneCell
 have i2 : One c.vc := RS.oneCell h.sc
 have hle := hss.le
 have hal := h.all
 have hnr := hN.rs
 have iw := hnr.oneCell
 have hna := hN.all
 have htot := total_all c.plain
 have hspl : c.plain.spaces.length = c.spaces.length := by unfold CfM.plain; simp
 have hpa : ∀ (i : Nat) (s : SpM), c.spaces[i]? = some s -> c.plain.spaces[i]? = some s.plain := λ i s hs => plain_at hs
 have hty := λ (p : Spot) (s : SpM) (r : RlM) => nms_typesC (c := c) (p := p) (s := s) (r := r)
 have hixd : ∀ i k, c.ix (i, k) = offs c.plain.spaces i + k := λ _ _ => rfl
 have hund : (c.plain.all.map rkey).Nodup := hu.2.1
 have hnmd : numM c.plain num = (c.plain.all.map rkey).zip num := rfl
 generalize hA : c.plain.all = A at *
 generalize hQ : numM c.plain num = Q at *
 have hQl : Q.length = A.length := by rw [hnmd]; simp [hlen]
 have hQk : Q.map (·.1) = A.map rkey := by rw [hnmd]; exact List.map_fst_zip (by simp [hlen])
 have hrow : ∀ i s, c.spaces[i]? = some s -> ∃ v, ll[i]? = some (v, (num.drop (offs c.plain.spaces i)).take s.rels.length) := λ i s hs => by
  have h1 := rows_at (n := num) (hpa i s hs)
  rw [<- hll, List.getElem?_map, show s.plain.rels.length = s.rels.length by simp [SpM.plain]] at h1
  obtain ⟨⟨v, r⟩, h2, h3⟩ := Option.map_eq_some_iff.1 h1
  exact ⟨v, by rw [h2]; simp only at h3; rw [h3]⟩
 generalize hO_ : offs c.plain.spaces = of at *
 have hof0 : of 0 = 0 := by rw [<- hO_]; cases c.plain.spaces <;> rfl
 refine Spec.body Tryz.func102 rfl Tryz.results102 Tryz.ntmps102 rfl<|.sr ?_
 refine .boxA rfl (λ b2 => ?_)
 refine .ag rfl<|.z ?_
 refine .makeMap (λ b10 => ?_)
 refine .ag rfl<|.zs<|.sr<|.fa rfl<|.lo rfl<|.q (.lenR hss)<|.mo rfl<|.zn<|.block<|.loopS [(1, _), (5, _), (12, _), (13, _)] (X := Nat × Seg) (λ y => y.1 <= c.spaces.length /\ MS kTy vNt (.map (some b10)) (Q.take (of y.1)) y.2) (λ y E => (14, iN y.1) :: E) (λ y G => y.2 :: G) (λ y => c.spaces.length - y.1) (0, [(b10, .map #[] 0)]) ⟨Nat.zero_le _, by rw [hof0]; exact MS.nil⟩ kE.c.c.c.c.c rH ?_
 rintro ⟨i, T⟩ ⟨hi, hM⟩
 simp only at hi hM ⊢
 refine .sr<|.q .lss<|.zs<|.cond rfl (λ h1 => ?_) λ h1 => ?_
 have hlt : i < c.spaces.length := lt_i h1
 obtain ⟨⟨sn, sv, rls⟩, hs⟩ := exg hlt
 have hsi := hal _ (mog hs)
 have hrs : RS R 3 RlM.enc sv rls := hsi.rs
 have irs := hrs.oneCell
 have hler := hrs.le
 have isp : Ones (SpM.enc ⟨sn, sv, rls⟩) := ⟨hsi.ones⟩
 have hofn := offs_next (hpa i _ hs)
 rw [hO_, show (SpM.plain ⟨sn, sv, rls⟩).rels.length = rls.length by simp [SpM.plain]] at hofn
 obtain ⟨vr, hlr⟩ := hrow i _ hs
 simp only at hlr
 have hrr := hna _ (mog hlr)
 simp only at hrr
 have ivr : One vr := hrr.oneCell
 refine .kn<|.seq<|.block<|.sr<|.mo rfl ?_
 refine .indexR i hss hs (λ p17 => ?_)
 refine .q (.loadA rfl) ?_
 refine .allocA (λ b7 => ?_)
 refine .ag rfl<|.storeA rfl rfl<|.z<|.fa rfl<|.lo rfl<|.q (.lenR hrs)<|.mo rfl<|.zn<|.block<|.loopS [(1, _), (5, _), (6, _), (7, _), (12, _), (13, _), (14, _), (20, _), (21, _)] (X := Nat × Seg) (λ y => y.1 <= rls.length /\ MS kTy vNt (.map (some b10)) (Q.take (of i + y.1)) y.2) (λ y E => (22, iN y.1) :: E) (G := [bl b2 c.enc 25]) (λ y G => bl b7 (SpM.enc ⟨sn, sv, rls⟩) 187 :: y.2 :: G) (λ y => rls.length - y.1) (0, T) ⟨Nat.zero_le _, hM⟩ kE.c.c.c.c.c.c.c.c.c.c rH ?_
 rintro ⟨k, T⟩ ⟨hk, hM⟩
 simp only at hk hM ⊢
 refine .sr<|.q .lss<|.zs<|.cond rfl (λ h2 => ?_) λ h2 => ?_
 have hkt : k < rls.length := lt_i h2
 obtain ⟨⟨vt, vn, r⟩, hr⟩ := exg hkt
 have hri := hsi.all _ (mog hr)
 have irt : One vt := RS.oneCell hri.t
 have ird : One vn := RS.oneCell hri.d
 have hone : Ones (RlM.enc ⟨vt, vn, r⟩) := ⟨hri.ones⟩
 have hax := hty (i, k) _ _ hs hr
 rw [hixd] at hax
 have hil : of i + k < A.length := (List.getElem?_eq_some_iff.1 hax).1
 obtain ⟨n, hn⟩ : ∃ n, num[of i + k]? = some n := ⟨_, gge (by omega)⟩
 have hrk : ((num.drop (of i)).take rls.length)[k]? = some n := by rw [List.getElem?_take_of_lt hkt, List.getElem?_drop]; exact hn
 have hQn : Q[of i + k]? = some (⟨sn, r.name⟩, n) := by
  rw [hnmd, List.getElem?_zip_eq_some]
  exact ⟨by rw [List.getElem?_map, hax]; rfl, hn⟩
 refine .kn<|.seq<|.block<|.sr<|.mo rfl ?_
 refine .indexR k hrs hr (λ p25 => ?_)
 refine .q (.loadA rfl) ?_
 refine .allocA (λ b9 => ?_)
 refine .ag rfl<|.storeA rfl rfl<|.zn<|.region_tail 13 mixed (by kernel_rfl) ?_
 conv => arg 6; dsimp only [List.take]
 refine .mo rfl<|.fa rfl<|.lo rfl<|.fa rfl<|.lo rfl ?_
 refine .q .bld ?_
 refine .mo rfl<|.mo rfl ?_
 refine .indexR i hnr hlr (λ p35 => ?_)
 refine .lo rfl<|.mo rfl ?_
 refine .indexR k hrr hrk (λ p38 => ?_)
 refine .lo rfl<|.nil<|.update (key := (⟨sn, r.name⟩ : Ty)) (u := n) hM rfl rfl rfl (λ T2 hM2 _ => ?_)
 rw [mset_new (λ hm => by
  obtain ⟨q, hq, e⟩ := List.mem_iff_getElem.1 hm
  rw [List.length_map, List.length_take] at hq
  rw [List.getElem_map, List.getElem_take] at e
  have h1 : (Q.map (·.1))[of i + k]? = some ⟨sn, r.name⟩ := by rw [List.getElem?_map, hQn]; rfl
  have h2 : (Q.map (·.1))[q]? = some ⟨sn, r.name⟩ := by rw [List.getElem?_map, gge (by omega), Option.map_some, e]
  exact not_nodup (show q < of i + k by omega) h1 h2 rfl (by rw [hQk]; exact hund)), <- take_next hQn] at hM2
 refine .nil<|blkQ_n<|seqQ_n<|.region<|.ia (k + 1) .add<|.mo rfl<|.nil ?_
 ·exact loopQ_i (k + 1, T2) ⟨hkt, hM2⟩ (by simp only; omega) kE.c.c.c.c.c.c.c.c.c.c (pkH [1, 1, 1])
 have hke : k = rls.length := by have := odf h2; omega
 rw [hke, <- hofn] at hM
 refine .exit<|seqQ_x<|loopQ_x<|blkQ_x<|blkQ_n<|seqQ_n<|.region<|.ia (i + 1) .add<|.mo rfl<|.nil ?_
 ·exact loopQ_i (i + 1, T) ⟨hlt, hM⟩ (by simp only; omega) kE.c.c.c.c.c (pkH [1, 1])
 refine .exit<|seqQ_x<|loopQ_x<|blkQ_x<|seqQ_n<|.sr<|.mo rfl<|.az rfl<|.ret (retQ_r _ (.one (.tmp rfl)) (.one [0] _) ?_)
 ·refine ⟨_, rfl, ?_⟩
  have hie : i = c.spaces.length := by have := odf h1; omega
  have : of i = Q.length := by
   rw [hie, hQl, <- hspl, <- hO_]; exact htot
  rw [this, List.take_length] at hM
  simpa [take] using hM
structure PlM where
 k : Obr
 found : Bool
 vn : Value
 nodes : List Nd
 vu : Value
 users : List ByteArray
 vl : Value
 ll : List NlM
 number : Nat
def PlM.enc (p : PlM) : List Value := [.string p.k.os, .string p.k.oi, .string p.k.rel, .bool p.found, p.vn, p.vu, p.vl, iN p.number]
def PlM.plain (p : PlM) : Plc := ⟨p.k, p.found, p.nodes, p.number, p.users, p.ll.map (·.2)⟩
structure PlM.is (R : Rds) (p : PlM) : Prop where
 n : RS R 5 Nd.enc p.vn p.nodes
 u : RS R 1 encS p.vu p.users
 l : NN R p.vl p.ll
theorem PlM.is.mono {R R' : Rds} {p : PlM} (h : p.is R) (hR : ∀ b o, R b o -> R' b o) : p.is R' := ⟨h.n.mono hR, h.u.mono hR, h.l.mono hR⟩
theorem PlM.is.ones {R : Rds} {p : PlM} (h : p.is R) : ∀ u ∈ p.enc, oneCell u = true := by
 have h1 := h.n.oneCell
 have h2 := h.u.oneCell
 have h3 := h.l.rs.oneCell
 intro u hu
 simp only [PlM.enc, List.mem_cons, List.not_mem_nil, or_false] at hu
 rcases hu with rfl | rfl | rfl | rfl | rfl | rfl | rfl | rfl
 ·rfl
 ·rfl
 ·rfl
 ·rfl
 ·exact h1.h
 ·exact h2.h
 ·exact h3.h
 ·rfl
instance Obr.keyR : KeyT prog 289 (λ k : Obr => .agg k.enc.toArray) := KeyT.agg fQ289 Tryz.underlying289 rfl Obr.kinds Obr.eq
abbrev kOb (k : Obr) : Value := .agg k.enc.toArray
structure XC where
 c : CfM
 num : List Nat
 vn : Value
 g : Nat
 S : Sto
 L : List SRow
 rev : Int
 b : Int
def XC.sub (x : XC) (k : Obr) : List Sub := if scan x.S x.rev then (x.L.filter λ y => y.there x.rev && decide (y.t.obr = k)).map (·.t.sub) else []
structure XC.ok (R : Rds) (x : XC) : Prop where
 c : x.c.is R
 n : RM R kTy vNt x.vn (numM x.c.plain x.num)
 nl : x.num.length = x.c.plain.all.length
 s : ∃ ps vf vr Mf Mr, SV R x.g x.S ps vf vr Mf Mr
 l : RL x.S x.L
 len : x.S.rows.length <= 512
theorem XC.ok.mono {R R' : Rds} {x : XC} (h : x.ok R) (hR : ∀ b o, R b o -> R' b o) : x.ok R' := ⟨h.c.mono hR, h.n.mono hR, h.nl, let ⟨ps, vf, vr, Mf, Mr, h1⟩ := h.s; ⟨ps, vf, vr, Mf, Mr, h1.mono hR⟩, h.l, h.len⟩
def XC.cells (x : XC) (va vp : Value) (e : Nat) : List Value := [x.c.vs, x.c.vc, x.vn, .pointer (some ⟨x.g, 0, none⟩), .int .u64 x.rev, va, vp, iN e, .int .i64 x.b]
abbrev XC.blk (x : XC) (xb : Nat) (va vp : Value) (e : Nat) : Seg := (bl xb (x.cells va vp e) 217)
def AtM (ps : List PlM) (va : Value) (T : Seg) : Prop := ∃ M, MS kOb vNt va M T /\ ∀ k, mget k M = pfind (ps.map PlM.plain) k
theorem over_spec (x : XC) (R : Rds) (h : x.ok R) (xb : Nat) (va vp : Value) (e : Nat) (ps : List PlM) [iv : One va] [pc : PC R (pT xb) (x.cells va vp e)] (hp : RS R 8 PlM.enc vp ps) (he : e <= 1000000000000) (hb : 0 <= x.b /\ x.b <= 9223372036854775807) :
  Spec prog 105 [pT xb] R [] λ u H' => u = .bool (decide (x.b < (ps.length + e : Nat))) /\ H' = [] := by
 have i1 : One x.c.vs := RS.oneCell h.c.ss
 have i2 : One x.c.vc := RS.oneCell h.c.sc
 have i3 := h.n.one
 have ip := hp.oneCell
 have hle := hp.le
 refine Spec.body Tryz.func105 rfl Tryz.results105 Tryz.ntmps105 rfl<|.sr<|.ag rfl<|.zs<|.region_still mixed (by kernel_rfl)<|.mo rfl<|.nc rfl<|.fa rfl<|.fa rfl<|.lo rfl<|.q (.lenR hp) ?_
 refine .mo rfl<|.nc rfl<|.fa rfl<|.lo rfl<|.mo rfl ?_
 refine .nc rfl<|.fa rfl<|.fa rfl<|.lo rfl ?_
 refine .q (.i64 (x.b - e) .sub ⟨by omega, by omega, by omega⟩) ?_
 refine .q .gtr<|.az rfl<|.ret (rq1 rfl ?_)
 ·refine ⟨congrArg _ ?_, rfl⟩
  rw [decide_eq_decide]
  omega
theorem pfind_app {ps : List Plc} {p : Plc} (h : pfind ps p.k = none) (k : Obr) : pfind (ps ++ [p]) k = if k = p.k then some ps.length else pfind ps k := by
 unfold pfind at h ⊢
 rw [List.findIdx?_append]
 by_cases e : k = p.k
 ·subst e
  rw [h, if_pos rfl]
  simp [List.findIdx?_cons]
 ·rw [if_neg e]
  have e' : decide (p.k = k) = false := decide_eq_false λ h => e h.symm
  simp [List.findIdx?_cons, e']
theorem AtM.add {ps : List PlM} {p : PlM} {va : Value} {T : Seg} {M : List (Obr × Nat)} (hM : MS kOb vNt va (mset p.k ps.length M) T) (hA : ∀ k, mget k M = pfind (ps.map PlM.plain) k) (h : pfind (ps.map PlM.plain) p.k = none) : AtM (ps ++ [p]) va T :=
 ⟨_, hM, λ k => by
  rw [mget_mset, hA, List.map_append, List.map_cons, List.map_nil, pfind_app h]
  rw [List.length_map]
  rfl⟩
def PlaceT (x : XC) (R : Rds) (xb : Nat) (ps : List PlM) (e : Nat) (va : Value) (k : Obr) (u : Value) (H' : Segs) : Prop := ∃ ps' vp Ta To, H' = [x.blk xb va vp e, Ta, To] /\ u = .int .i64 ((addK x.c.plain x.num (ps.map PlM.plain) k).2 : Nat) /\ ps'.map PlM.plain = (addK x.c.plain x.num (ps.map PlM.plain) k).1 /\ AtM ps' va Ta /\ OS 123 8 PlM.enc vp ps' To /\ ∃ l, ps' = ps ++ l /\ ∀ p ∈ l, p.is R
theorem place_spec (x : XC) (R : Rds) (h : x.ok R) (xb : Nat) (ps : List PlM) (e : Nat) (va vp : Value) (Ta To : Seg) (hA : AtM ps va Ta) (hO : OS 123 8 PlM.enc vp ps To) (hl : ps.length <= 3000000) (k : Obr) :
  Spec prog 104 [pT xb, .agg [.string k.os, .string k.oi].toArray, .string k.rel] R [x.blk xb va vp e, Ta, To] (PlaceT x R xb ps e va k) := by
 have hdef : ∀ u H', PlaceT x R xb ps e va k u H' ↔ ∃ ps' vp Ta To, H' = [x.blk xb va vp e, Ta, To] /\ u = .int .i64 ((addK x.c.plain x.num (ps.map PlM.plain) k).2 : Nat) /\ ps'.map PlM.plain = (addK x.c.plain x.num (ps.map PlM.plain) k).1 /\ AtM ps' va Ta /\ OS 123 8 PlM.enc vp ps' To /\ ∃ l, ps' = ps ++ l /\ ∀ p ∈ l, p.is R := λ _ _ => Iff.rfl
 have hsf := sfind_spec x.c R h.c k.os k.rel
 have i1 : One x.c.vs := RS.oneCell h.c.ss
 have i2 : One x.c.vc := RS.oneCell h.c.sc
 have i3 := h.n.one
 have hn := h.n
 have hnm := numM_get x.c.plain x.num h.nl
 obtain ⟨M, hM, hMk⟩ := hA
 have iv := hM.one
 have ip := hO.oneCell
 have hkl : ∀ i, pfind (ps.map PlM.plain) k = some i -> addK x.c.plain x.num (ps.map PlM.plain) k = (ps.map PlM.plain, i) := λ i hi => by unfold addK; rw [hi]
 have hkn : pfind (ps.map PlM.plain) k = none -> addK x.c.plain x.num (ps.map PlM.plain) k = (ps.map PlM.plain ++ [one x.c.plain x.num k], ps.length) := λ hi => by unfold addK; rw [hi]; simp
 have hAdd := λ (p : PlM) (T : Seg) => AtM.add (ps := ps) (p := p) (va := va) (T := T) (M := M)
 have hone : one x.c.plain x.num k = match rfind x.c.plain.all ⟨k.os, k.rel⟩ with
  | none => ⟨k, false, [], 0, [], []⟩
  | some i => ⟨k, true, (x.c.plain.all.map (·.2.nodes)).getD i [], x.num.getD i 0, [], []⟩ := rfl
 have hcal := h.c.all
 have hty := λ (p : Spot) (s : SpM) (r : RlM) => nms_typesC (c := x.c) (p := p) (s := s) (r := r)
 obtain ⟨i0, ok, hps, hok⟩ : ∃ (i : Nat) (ok : Bool), [((mget k M).map vNt).getD (vNt 0), Value.bool (mget k M).isSome] = [vNt i, .bool ok] /\ pfind (ps.map PlM.plain) k = if ok then some i else none := by
  rw [hMk k]
  cases pfind (ps.map PlM.plain) k with
  | none => exact ⟨0, false, rfl, rfl⟩
  | some i => exact ⟨i, true, rfl, rfl⟩
 refine Spec.body Tryz.func104 rfl Tryz.results104 Tryz.ntmps104 rfl<|.sr ?_
 refine .boxA rfl (λ b4 => ?_)
 refine .ag rfl<|.z<|.q (.loadA rfl)<|.mo rfl<|.q .bld ?_
 refine .allocA (λ b7 => ?_)
 refine .storeA rfl rfl<|.zs<|.seq<|.region_still mixed (by kernel_rfl)<|.mo rfl<|.nc rfl<|.fa rfl<|.lo rfl<|.q (.loadA rfl)<|.q (.cast (.lookup2 hM.rx rfl rfl) (congrArg (λ l : List Value => Value.tuple l.toArray) hps))<|.mo rfl<|.q .extract<|.q .extract<|.ag rfl<|.ag rfl<|.z<|.mo rfl<|.zn<|.cond rfl (λ h1 => ?_) λ h1 => ?_
 have hot : ok = true := h1
 subst hot
 have hkl' := hkl i0 hok
 refine .sr<|.mo rfl<|.az rfl<|.ret (seqQ_r (retQ_r _ (.one (.tmp rfl)) (pkH [2, 2, 2]) ?_))
 ·refine (hdef _ _).2 ⟨ps, vp, Ta, To, ?_, ?_, ?_, ⟨M, hM, hMk⟩, hO, [], by simp, λ p hp => (by cases hp)⟩
  ·simp [take, dropAt]
  ·rw [hkl']
  ·rw [hkl']
 have hof : ok = false := h1
 subst hof
 have hnone : pfind (ps.map PlM.plain) k = none := hok
 have hkn' := hkn hnone
 refine .kn<|.seq ?_
 refine Tri.cutS [(0, _), (2, _), (4, _), (7, _)] kE.c.c.c.c (X := Nat × RlM × Bool) (λ y => FoundR x.c ⟨k.os, k.rel⟩ y.2.1 y.2.2 /\ Ones y.2.1.enc) (λ y E => (10, .pointer (some ⟨y.1, 0, none⟩)) :: (11, .bool y.2.2) :: E) (λ y => [[(y.1, .cells y.2.1.enc.toArray 207 (0, 0))], bl b7 k.enc 289, bl b4 [.string k.os, .string k.oi] 30, x.blk xb va vp e, Ta, To]) ?_ ?_
 refine .region_all [12] mixed<|.tO 0 rfl .move<|.tO 1 rfl (.nilCheck rfl)<|.tO 2 rfl (.fieldAddr rfl) ?_
 refine .tO 3 rfl (.loadT rfl) ?_
 refine .tO 4 rfl (.fieldAddr rfl)<|.tO 5 rfl (.load1 rfl)<|.tO 6 rfl .move<|RA.step2 7 11 rfl rfl (by kernel_rfl) rfl ?_ ?_
 refine .callR ((hsf.mono λ u H' hu => ⟨hu.2, hu.1⟩).weaken rxl) (λ u hu => ?_)
 obtain ⟨r, fo, rfl, hF⟩ := hu
 have hro : Ones r.enc := by
  unfold FoundR at hF
  cases hf : rfind x.c.plain.all ⟨k.os, k.rel⟩ with
  | none => rw [hf] at hF; obtain ⟨_, rfl⟩ := hF; exact ⟨by simp [RlM.enc, RlM.zero, oneCell]⟩
  | some j => rw [hf] at hF; obtain ⟨_, p, s, hs, hr, hj⟩ := hF; exact ⟨((hcal _ (mog hs)).all _ (mog hr)).ones⟩
 refine .nil<|Next.sub<|.tO 8 rfl .move<|.tO 9 rfl .extract<|.tK 10 rfl .extract<|.sT 11 rfl ?_
 refine .allocA (λ b10 => ?_)
 refine .nil<|Next.sub<|.sT 12 rfl<|.storeA rfl rfl<|.nil<|Next.mod rfl<|.tK 13 rfl .assign<|RA.nil (by kernel_rfl) ?_
 ·exact joinQ_n (b10, r, fo) ⟨hF, hro⟩ kE.c.c.c.c.c.c rH
 refine .allocA (λ b10 => ?_)
 refine .nil<|Next.sub<|.sT 7 rfl<|.callR ((hsf.mono λ u H' hu => ⟨hu.2, hu.1⟩).weaken rxl) (λ u hu => ?_)
 obtain ⟨r, fo, rfl, hF⟩ := hu
 have hro : Ones r.enc := by
  unfold FoundR at hF
  cases hf : rfind x.c.plain.all ⟨k.os, k.rel⟩ with
  | none => rw [hf] at hF; obtain ⟨_, rfl⟩ := hF; exact ⟨by simp [RlM.enc, RlM.zero, oneCell]⟩
  | some j => rw [hf] at hF; obtain ⟨_, p, s, hs, hr, hj⟩ := hF; exact ⟨((hcal _ (mog hs)).all _ (mog hr)).ones⟩
 refine .nil<|Next.sub<|.tO 8 rfl .move<|.tO 9 rfl .extract<|.tK 10 rfl .extract<|.sT 12 rfl<|.storeA rfl rfl<|.nil<|Next.mod rfl<|.tK 13 rfl .assign<|RA.nil (by kernel_rfl) ?_
 ·exact joinQ_n (b10, r, fo) ⟨hF, hro⟩ kE.c.c.c.c.c.c rH
 intro y hy
 obtain ⟨bb, r, fo⟩ := y
 obtain ⟨hF, hro⟩ := hy
 simp only at hF hro ⊢
 obtain ⟨nn, hnn, hlk⟩ : ∃ nn, (mget (⟨k.os, k.rel⟩ : Ty) (numM x.c.plain x.num)).getD 0 = nn /\ ((mget (⟨k.os, k.rel⟩ : Ty) (numM x.c.plain x.num)).map vNt).getD (vNt 0) = vNt nn := by
  cases mget (⟨k.os, k.rel⟩ : Ty) (numM x.c.plain x.num) with
  | none => exact ⟨0, rfl, rfl⟩
  | some i => exact ⟨i, rfl, rfl⟩
 obtain ⟨hone', hnds⟩ : one x.c.plain x.num k = ⟨k, fo, r.r.nodes, nn, [], []⟩ /\ RS R 5 Nd.enc r.vn r.r.nodes := by
  rw [hone, <- hnn, hnm]
  unfold FoundR at hF
  cases hf : rfind x.c.plain.all ⟨k.os, k.rel⟩ with
  | none => rw [hf] at hF; obtain ⟨rfl, rfl⟩ := hF; exact ⟨rfl, RS.nil0⟩
  | some j =>
   rw [hf] at hF
   obtain ⟨rfl, p, s, hs, hr, hj⟩ := hF
   refine ⟨?_, ((hcal _ (mog hs)).all _ (mog hr)).d⟩
   have := hty p s r hs hr
   rw [hj] at this
   simp only [List.getD_eq_getElem?_getD, List.getElem?_map, this]
   rfl
 obtain ⟨vt, vd, r⟩ := r
 simp only at hone' hnds
 have ivd : One vd := hnds.oneCell
 obtain ⟨pd, cd, rfl⟩ := hnds.val
 refine seqQ_n<|.seq<|.region_tail 11 mixed (by kernel_rfl) ?_
 conv => arg 6; dsimp only [List.take]
 refine .mo rfl<|.nc rfl<|.fa rfl<|.lo rfl<|.q (.loadA rfl)<|.mo rfl<|.nc rfl<|.fa rfl<|.fa rfl<|.lo rfl<|.q (.lenO hO)<|.nil ?_
 refine .update (key := k) (u := ps.length) hM rfl rfl rfl (λ Ta2 hM2 _ => ?_)
 refine .zs<|.region_all [22, 26] mixed<|.tK 0 rfl .move<|.tO 1 rfl .move<|.tO 2 rfl (.nilCheck rfl)<|.tO 3 rfl (.fieldAddr rfl)<|.tO 4 rfl (.fieldAddr rfl)<|.tO 5 rfl (.load1 rfl)<|.tO 6 rfl (.loadA rfl)<|.tO 7 rfl .move<|.tO 8 rfl .move<|.tO 9 rfl (.fieldAddr rfl)<|.tO 10 rfl (.load1 rfl)<|.tO 11 rfl .move<|.tO 12 rfl (.nilCheck rfl)<|.tO 13 rfl (.fieldAddr rfl)<|.tO 14 rfl (.load1 rfl)<|.tO 15 rfl (.fieldAddr rfl)<|.tO 16 rfl (.load1 rfl)<|.tO 17 rfl .move<|.tO 18 rfl .bld<|.takeO 19 rfl (.lookupE (hn.mono λ b o hb => .inl hb) rfl rfl (key := (⟨k.os, k.rel⟩ : Ty)) hlk) (by kernel_rfl)<|.tO 20 rfl .bld<|.sT 21 rfl ?_
 refine .buildSlice1A (λ b69 => ?_)
 refine .nil<|Next.sub<|.sT 22 rfl<|.append hO (RS.lits (xs := [(⟨k, fo, .slice pd r.nodes.length cd, r.nodes, sZ, [], sZ, [], nn⟩ : PlM)]) rfl (by simp [PlM.enc]) (by simp [PlM.enc, oneCell])) (by simp only [List.length_singleton]; omega) (λ v5 T5 hv5 => ?_)
 have i5 := hv5.oneCell
 refine .nil<|Next.mod rfl<|.tK 23 rfl (.nilCheckA rfl)<|.tK 24 rfl (.fieldAddrA rfl)<|.tK 25 rfl (.fieldAddrA rfl)<|.sT 26 rfl<|.store1 rfl rfl<|.nil<|Next.mod rfl<|RA.nil (by kernel_rfl)<|seqQ_n<|.seq<|.region_still mixed (by kernel_rfl)<|.mo rfl<|.nc rfl<|.fa rfl<|.lo rfl<|.q (.loadA rfl)<|.q (.lookupE hM2.rx rfl rfl (key := k) rfl)<|.az rfl<|.ret (retQ_r _ (.one (.tmp rfl)) (pkH [4, 4, 4]) ?_)
 ·refine (hdef _ _).2 ⟨_, v5, Ta2, T5, ?_, ?_, ?_, hAdd _ _ hM2 hMk hnone, hv5, _, rfl, λ p hp => ?_⟩
  ·simp [take, dropAt, setL, XC.cells]
  ·rw [hkn', mget_mset, if_pos rfl]; rfl
  ·rw [hkn', hone', List.map_append]; rfl
  ·rw [List.mem_singleton] at hp
   subst hp
   exact ⟨hnds, RS.nil0, NN.nil⟩
def uoF (c : Cf) (k : Obr) (l : List Sub) : List ByteArray := ((l.filter (allowed c k)).filter λ s => !decide (s.us = ⟨#[]⟩)).map (·.us)
def soF (c : Cf) (k : Obr) (l : List Sub) : List Sub := (l.filter (allowed c k)).filter λ s => decide (s.us = ⟨#[]⟩)
theorem uoF_one {c : Cf} {k : Obr} {l : List Sub} {i : Nat} {s : Sub} (h : l[i]? = some s) : uoF c k (l.take (i + 1)) = uoF c k (l.take i) ++ if allowed c k s = true /\ s.us ≠ ⟨#[]⟩ then [s.us] else [] := by
 rw [take_next h]
 unfold uoF
 rw [List.filter_append, List.filter_append, List.map_append]
 congr 1
 by_cases h1 : allowed c k s = true <;> by_cases h2 : s.us = ⟨#[]⟩ <;> simp [h1, h2]
theorem soF_one {c : Cf} {k : Obr} {l : List Sub} {i : Nat} {s : Sub} (h : l[i]? = some s) : soF c k (l.take (i + 1)) = soF c k (l.take i) ++ if allowed c k s = true /\ s.us = ⟨#[]⟩ then [s] else [] := by
 rw [take_next h]
 unfold soF
 rw [List.filter_append, List.filter_append]
 congr 1
 by_cases h1 : allowed c k s = true <;> by_cases h2 : s.us = ⟨#[]⟩ <;> simp [h1, h2]
theorem XC.sub_len {x : XC} {R : Rds} (h : x.ok R) (k : Obr) : (x.sub k).length <= 512 := by
 unfold XC.sub
 split
 ·rw [List.length_map]
  have h1 := List.length_filter_le (λ y : SRow => y.there x.rev && decide (y.t.obr = k)) x.L
  have h2 := h.l.pm.length_eq
  have h3 := h.len
  omega
 ·simp
theorem subjects_spec (x : XC) (R : Rds) (h : x.ok R) (xb : Nat) (va vp : Value) (e : Nat) [iv : One va] [ip : One vp] [pc : PC R (pT xb) (x.cells va vp e)] (k : Obr) :
  Spec prog 165 [pT xb, .agg [.string k.os, .string k.oi].toArray, .string k.rel] R [] λ u H' => ∃ Tu Ts, H' = [Tu, Ts] /\ ∃ wu ws, u = .tuple [wu, ws].toArray /\ OS 9 1 encS wu (usersOf x.c.plain x.sub k) Tu /\ OS 149 4 Sub.enc ws (setsOf x.c.plain x.sub k) Ts := by
 have hal := allowed_spec x.c R h.c
 have i1 : One x.c.vs := RS.oneCell h.c.ss
 have i2 : One x.c.vc := RS.oneCell h.c.sc
 have i3 := h.n.one
 obtain ⟨ps, vf, vr, Mf, Mr, hSV⟩ := h.s
 have hsl := XC.sub_len h k
 have hl := h.l
 have hlen := h.len
 have hU : usersOf x.c.plain x.sub k = uoF x.c.plain k (x.sub k) := rfl
 have hS : setsOf x.c.plain x.sub k = soF x.c.plain k (x.sub k) := rfl
 have hsub : x.sub k = if scan x.S x.rev then (x.L.filter λ y => y.there x.rev && decide (y.t.obr = k)).map (·.t.sub) else [] := rfl
 have hul : ∀ i, (uoF x.c.plain k ((x.sub k).take i)).length <= 512 := λ i => by
  unfold uoF
  rw [List.length_map]
  refine Nat.le_trans (List.length_filter_le _ _) (Nat.le_trans (List.length_filter_le _ _) ?_)
  rw [List.length_take]; omega
 have hol : ∀ i, (soF x.c.plain k ((x.sub k).take i)).length <= 512 := λ i => by
  unfold soF
  refine Nat.le_trans (List.length_filter_le _ _) (Nat.le_trans (List.length_filter_le _ _) ?_)
  rw [List.length_take]; omega
 have hu1 := λ (l : List Sub) (i : Nat) (s : Sub) (h : l[i]? = some s) => uoF_one (c := x.c.plain) (k := k) h
 have hs1 := λ (l : List Sub) (i : Nat) (s : Sub) (h : l[i]? = some s) => soF_one (c := x.c.plain) (k := k) h
 rw [hU, hS]
 generalize hL : x.sub k = l at *
 refine Spec.body Tryz.func165 rfl Tryz.results165 Tryz.ntmps165 rfl<|.sr ?_
 refine .boxA rfl (λ b4 => ?_)
 refine .ag rfl<|.ag rfl<|.z<|.ag rfl<|.z<|.ag rfl<|.zs<|.seq<|.region_all [] mixed<|.tO 0 rfl .move<|.tO 1 rfl (.nilCheck rfl)<|.tO 2 rfl (.fieldAddr rfl)<|.tO 3 rfl (.load1 rfl)<|.tO 4 rfl (.loadA rfl)<|.tO 5 rfl .move<|.tO 6 rfl .move<|.tO 7 rfl (.nilCheck rfl)<|.tO 8 rfl (.fieldAddr rfl)<|.tO 9 rfl (.load1 rfl)<|.tO 12 rfl .move<|.sT 10 rfl<|.callN ((SV.subs (hSV.mono λ b o hb => .inl hb) (by omega) k x.rev hl).weaken λ b o hb => hb) (λ u T10 hu => ?_)
 rw [<- hsub] at hu
 have iu := hu.oneCell
 refine .nil<|Next.sub<|.tO 11 rfl (.lenO hu)<|RA.nil (by kernel_rfl)<|seqQ_n<|.block<|.loopS [(0, _), (2, _), (4, _), (22, _), (23, _)] (X := Nat × Value × Value × Seg × Seg) (λ y => y.1 <= l.length /\ OS 9 1 encS y.2.1 (uoF x.c.plain k (l.take y.1)) y.2.2.2.1 /\ OS 149 4 Sub.enc y.2.2.1 (soF x.c.plain k (l.take y.1)) y.2.2.2.2) (λ y E => (24, iN y.1) :: (8, y.2.1) :: (9, y.2.2.1) :: E) (λ y G => y.2.2.2.1 :: y.2.2.2.2 :: G) (λ y => l.length - y.1) (0, sZ, sZ, [], []) ⟨Nat.zero_le _, OS.nil, OS.nil⟩ kE.c.c.c.c.c.c.c.c HLe.new00 ?_
 rintro ⟨i, vu, vs, Tu, Ts⟩ ⟨hi, hOu, hOs⟩
 simp only at hi hOu hOs ⊢
 have iu1 := hOu.oneCell
 have iu2 := hOs.oneCell
 refine .sr<|.q .lss<|.zs<|.cond rfl (λ h1 => ?_) λ h1 => ?_
 have hlt : i < l.length := lt_i h1
 obtain ⟨s, hs⟩ := exg hlt
 have hul' := hul i
 have hol' := hol i
 have hu1' := hu1 l i s hs
 have hs1' := hs1 l i s hs
 obtain ⟨us, ss, si, sr⟩ := s
 refine .kn<|.seq<|.block<|.sr ?_
 refine .indexO i hu hs (λ p26 => ?_)
 refine .q (.loadA rfl) ?_
 refine .allocA (λ b11 => ?_)
 refine .storeA rfl rfl<|.zn<|.block<|.seq<|.region_tail 8 mixed (by kernel_rfl) ?_
 conv => arg 6; dsimp only [List.take]
 refine .mo rfl<|.nc rfl<|.fa rfl<|.q (.loadT rfl)<|.q (.loadA rfl)<|.mo rfl<|.q (.loadA rfl)<|.q .bld<|.nil<|.callR ((hal ⟨k.os, k.oi, k.rel, us, ss, si, sr⟩).weaken rxl) (λ w hw => ?_)
 subst hw
 refine .q .neI<|.az rfl<|.cond rfl (λ h2 => ?_) λ h2 => ?_
 have hna : allowed x.c.plain k ⟨us, ss, si, sr⟩ = false := by
  cases hq : allowed x.c.plain k ⟨us, ss, si, sr⟩ with
  | false => rfl
  | true =>
   have : allowed x.c.plain (⟨k.os, k.oi, k.rel, us, ss, si, sr⟩ : Tpl).obr (⟨k.os, k.oi, k.rel, us, ss, si, sr⟩ : Tpl).sub = true := hq
   rw [this] at h2; simp at h2
 rw [if_neg (by rw [hna]; simp), List.append_nil] at hu1' hs1'
 refine .skip<|blkQ_n<|blkQ_n<|seqQ_n<|.region<|.ia (i + 1) .add<|.mo rfl<|.nil ?_
 ·exact loopQ_i (i + 1, vu, vs, Tu, Ts) ⟨hlt, by rw [hu1']; exact hOu, by rw [hs1']; exact hOs⟩ (by simp only; omega) kE.c.c.c.c.c.c.c.c (HLe.drop [0] _)
 have hya : allowed x.c.plain k ⟨us, ss, si, sr⟩ = true := by
  cases hq : allowed x.c.plain k ⟨us, ss, si, sr⟩ with
  | true => rfl
  | false =>
   have : allowed x.c.plain (⟨k.os, k.oi, k.rel, us, ss, si, sr⟩ : Tpl).obr (⟨k.os, k.oi, k.rel, us, ss, si, sr⟩ : Tpl).sub = false := hq
   rw [this] at h2; simp at h2
 refine .sr<|.fa rfl<|.lo rfl<|.q .neS<|.az rfl<|.cond rfl (λ h3 => ?_) λ h3 => ?_
 have hun : us ≠ ⟨#[]⟩ := by simpa using h3
 rw [if_pos ⟨hya, hun⟩] at hu1'
 rw [if_neg (λ hh => hun hh.2), List.append_nil] at hs1'
 refine .region<|.mo rfl<|.fa rfl<|.lo rfl ?_
 refine .buildSlice11 (λ b50 => ?_)
 refine .append hOu (RS.lits (xs := [us]) rfl (by simp [encS]) (by simp [encS, oneCell])) (by simp only [List.length_singleton]; omega) (λ v5 T5 hv5 => ?_)
 rw [<- hu1'] at hv5
 refine .ag rfl<|.nil<|blkQ_n<|blkQ_n<|seqQ_n<|.region<|.ia (i + 1) .add<|.mo rfl<|.nil ?_
 ·exact loopQ_i (i + 1, v5, vs, T5, Ts) ⟨hlt, hv5, by rw [hs1']; exact hOs⟩ (by simp only; omega) kE.c.c.c.c.c.c.c.c (HLe.drop [0, 0] _)
 have hun : us = ⟨#[]⟩ := by simpa using h3
 rw [if_neg (λ hh => hh.2 hun), List.append_nil] at hu1'
 rw [if_pos ⟨hya, hun⟩] at hs1'
 refine .region<|.mo rfl<|.q (.loadA rfl) ?_
 refine .buildSlice1A (λ b30 => ?_)
 refine .append hOs (RS.lits (xs := [(⟨us, ss, si, sr⟩ : Sub)]) rfl (by simp [Sub.enc]) (by simp [Sub.enc, oneCell])) (by simp only [List.length_singleton]; omega) (λ v5 T5 hv5 => ?_)
 rw [<- hs1'] at hv5
 refine .ag rfl<|.nil<|blkQ_n<|blkQ_n<|seqQ_n<|.region<|.ia (i + 1) .add<|.mo rfl<|.nil ?_
 ·exact loopQ_i (i + 1, vu, v5, Tu, T5) ⟨hlt, by rw [hu1']; exact hOu, hv5⟩ (by simp only; omega) kE.c.c.c.c.c.c.c.c (HLe.drop [0, 0] _)
 refine .exit<|seqQ_x<|loopQ_x<|blkQ_x<|seqQ_n<|.sr<|.mo rfl<|.mo rfl<|.ag rfl<|.az rfl<|.ret (retQ_r _ (.two (.tmp rfl) (.tmp rfl)) (pkH [0, 0]) ?_)
 ·have hie : i = l.length := by have := odf h1; omega
  subst hie
  rw [List.take_length] at hOu hOs
  exact ⟨Tu, Ts, by simp [take, dropAt], vu, vs, rfl, hOu, hOs⟩
structure LdI (x : XC) (R : Rds) (ps : List PlM) (va : Value) (ks : List Obr) (ps' : List PlM) (vp : Value) (Ta To : Seg) (vo : Value) (Tl : Seg) : Prop where
 l : OS 3 1 encNt vo (addKs x.c.plain x.num (ps.map PlM.plain) ks).2 Tl
 eq : ps'.map PlM.plain = (addKs x.c.plain x.num (ps.map PlM.plain) ks).1
 at_ : AtM ps' va Ta
 o : OS 123 8 PlM.enc vp ps' To
 gr : ∃ l, ps' = ps ++ l /\ ∀ p ∈ l, p.is R
theorem LdI.len {x : XC} {R : Rds} {ps ps' : List PlM} {va vp vo : Value} {ks : List Obr} {Ta To Tl : Seg} (h : LdI x R ps va ks ps' vp Ta To vo Tl) : ps'.length = (addKs x.c.plain x.num (ps.map PlM.plain) ks).1.length := by rw [<- h.eq, List.length_map]
theorem LdI.next {x : XC} {R : Rds} {ps ps1 ps2 : List PlM} {va vp1 vp2 vo vo2 : Value} {ks : List Obr} {i : Nat} {k : Obr} {Ta1 To1 Ta2 To2 Tl Tl2 : Seg} (h : LdI x R ps va (ks.take i) ps1 vp1 Ta1 To1 vo Tl) (hk : ks[i]? = some k)
  (e : ps2.map PlM.plain = (addK x.c.plain x.num (ps1.map PlM.plain) k).1) (a : AtM ps2 va Ta2) (o : OS 123 8 PlM.enc vp2 ps2 To2) (g : ∃ l, ps2 = ps1 ++ l /\ ∀ p ∈ l, p.is R)
  (hv : OS 3 1 encNt vo2 ((addKs x.c.plain x.num (ps.map PlM.plain) (ks.take i)).2 ++ [(addK x.c.plain x.num (ps1.map PlM.plain) k).2]) Tl2) : LdI x R ps va (ks.take (i + 1)) ps2 vp2 Ta2 To2 vo2 Tl2 := by
 have hT := addKs_take (c := x.c.plain) (num := x.num) hk (ps.map PlM.plain)
 rw [h.eq] at e hv
 refine ⟨by rw [hT]; exact hv, by rw [hT]; exact e, a, o, ?_⟩
 obtain ⟨l1, rfl, h1⟩ := h.gr
 obtain ⟨l2, rfl, h2⟩ := g
 refine ⟨l1 ++ l2, by rw [List.append_assoc], λ p hp => ?_⟩
 rcases List.mem_append.1 hp with hp | hp
 ·exact h1 p hp
 ·exact h2 p hp
def LeadsT (x : XC) (R : Rds) (xb : Nat) (ps : List PlM) (e : Nat) (va : Value) (ks : List Obr) (u : Value) (H' : Segs) : Prop := ∃ ps' vp Ta To Tl, H' = [Tl, x.blk xb va vp e, Ta, To] /\ LdI x R ps va ks ps' vp Ta To u Tl
theorem leads_spec (x : XC) (R : Rds) (h : x.ok R) (xb : Nat) (ps : List PlM) (e : Nat) (va vp : Value) (Ta To : Seg) (hA : AtM ps va Ta) (hO : OS 123 8 PlM.enc vp ps To) (k : Obr) (ex : List Value) (n : Nd) [ie : Ones ex]
  (hl : (addKs x.c.plain x.num (ps.map PlM.plain) (aheadK x.c.plain x.sub k n)).1.length <= 3000000) (hex : ex.length = 5) :
  Spec prog 166 [pT xb, .agg (.string k.os :: .string k.oi :: .string k.rel :: ex).toArray, .agg n.enc.toArray] R [x.blk xb va vp e, Ta, To] (LeadsT x R xb ps e va (aheadK x.c.plain x.sub k n)) := by
 obtain ⟨x3, x4, x5, x6, x7, rfl⟩ : ∃ a b c d f, ex = [a, b, c, d, f] := by
  match ex, hex with
  | [a, b, c, d, f], _ => exact ⟨a, b, c, d, f, rfl⟩
 have iall : Ones (Value.string k.os :: .string k.oi :: .string k.rel :: [x3, x4, x5, x6, x7]) := ⟨λ u hu => by
  simp only [List.mem_cons, List.not_mem_nil, or_false] at hu
  rcases hu with rfl | rfl | rfl | hu
  ·rfl
  ·rfl
  ·rfl
  ·exact ie.h u (by simpa using hu)⟩
 have hsp := subjects_spec x
 have hplace := place_spec x R h xb
 have i1 : One x.c.vs := RS.oneCell h.c.ss
 have i2 : One x.c.vc := RS.oneCell h.c.sc
 have i3 := h.n.one
 obtain ⟨M0, hM0, _⟩ := id hA
 have iva := hM0.one
 have ivp := hO.oneCell
 have hdef : ∀ ks u H', LeadsT x R xb ps e va ks u H' ↔ ∃ ps' vp Ta To Tl, H' = [Tl, x.blk xb va vp e, Ta, To] /\ LdI x R ps va ks ps' vp Ta To u Tl := λ _ _ _ => Iff.rfl
 have hk0 : aheadK x.c.plain x.sub k n = if n.kind = 1 then (setsOf x.c.plain x.sub k).map λ s => ⟨s.ss, s.si, s.sr⟩
  else if n.kind = 3 then (setsOf x.c.plain x.sub ⟨k.os, k.oi, n.rel⟩).map λ s => ⟨s.ss, s.si, n.thn⟩
  else if n.kind = 2 then [⟨k.os, k.oi, n.rel⟩]
  else [] := rfl
 generalize hks : aheadK x.c.plain x.sub k n = ks at *
 have hle := λ i => addKs_le (c := x.c.plain) (num := x.num) ks i (ps.map PlM.plain)
 have hge := addKs_ge (c := x.c.plain) (num := x.num) ks (ps.map PlM.plain)
 rw [List.length_map] at hge
 have hln := λ i => addKs_len (c := x.c.plain) (num := x.num) (ks.take i) (ps.map PlM.plain)
 have hset : ∀ k', (setsOf x.c.plain x.sub k').length <= 512 := λ k' => by
  unfold setsOf fitting
  exact Nat.le_trans (List.length_filter_le _ _) (Nat.le_trans (List.length_filter_le _ _) (XC.sub_len h k'))
 have hst : LdI x R ps va (ks.take 0) ps vp Ta To (sZ) [] := ⟨OS.nil, by simp [addKs], hA, hO, [], by simp, by simp⟩
 refine Spec.segs (H' := [[], x.blk xb va vp e, Ta, To]) (by simp)<|Spec.body Tryz.func166 rfl Tryz.results166 Tryz.ntmps166 rfl<|.sr ?_
 refine .boxA rfl (λ b4 => ?_)
 refine .boxA rfl (λ b5 => ?_)
 refine .ag rfl<|.z<|.ag rfl<|.zs<|.sr<|.fa rfl<|.lo rfl<|.zn<|.block<|.sr<|.q .eqI<|.az rfl<|.cond rfl (λ h1 => ?_) λ h1 => ?_
 have hkd : n.kind = 1 := odt h1
 rw [if_pos hkd] at hk0
 have hsl := hset k
 refine .sr<|.mo rfl<|.fa rfl<|.q (.loadT rfl)<|.fa rfl<|.lo rfl<|.call [] (hsp _ (h.mono λ b o hb => .inl hb) xb va vp e (pc := PC.of (E := 217) (fr := (0, 0)) (.inr (by simp [rest]))) k) (λ u H' hu => ?_)
 obtain ⟨Tu, Ts, rfl, wu, ws, rfl, hOu, hOs⟩ := hu
 have iu1 := hOu.oneCell
 have iu2 := hOs.oneCell
 conv => arg 8; simp only [rest, dropAt, List.cons_append, List.nil_append]
 refine .mo rfl<|.q .extract<|.q .extract<|.ag rfl<|.ag rfl<|.z<|.mo rfl<|.q (.lenO hOs)<|.mo rfl<|.zn<|.block<|.loopS [(0, _), (29, _), (30, _)] (X := Nat × List PlM × Value × Seg × Seg × Value × Seg) (λ y => y.1 <= (setsOf x.c.plain x.sub k).length /\ LdI x R ps va (ks.take y.1) y.2.1 y.2.2.1 y.2.2.2.1 y.2.2.2.2.1 y.2.2.2.2.2.1 y.2.2.2.2.2.2) (λ y E => (31, iN y.1) :: (7, y.2.2.2.2.2.1) :: E) (G := [Ts, bl b5 n.enc 168, bl b4 (Value.string k.os :: .string k.oi :: .string k.rel :: [x3, x4, x5, x6, x7]) 123]) (λ y G => y.2.2.2.2.2.2 :: x.blk xb va y.2.2.1 e :: y.2.2.2.1 :: y.2.2.2.2.1 :: G) (λ y => (setsOf x.c.plain x.sub k).length - y.1) (0, ps, vp, Ta, To, sZ, []) ⟨Nat.zero_le _, hst⟩ kE.c.c.c.c.c (pkH [4, 4, 4, 4, 1, 1, 1]) ?_
 rintro ⟨i, ps1, vp1, Ta1, To1, vo, Tl⟩ ⟨hi, hI⟩
 simp only at hi hI ⊢
 have io := hI.l.oneCell
 have ip1 := hI.o.oneCell
 have hlen := hI.len
 have hle' := hle i
 have hln' := hln i
 rw [List.length_take] at hln'
 refine .sr<|.q .lss<|.zs<|.cond rfl (λ h2 => ?_) λ h2 => ?_
 have hlt : i < (setsOf x.c.plain x.sub k).length := by have := odt h2; omega
 obtain ⟨s, hs⟩ := exg hlt
 have hki : ks[i]? = some ⟨s.ss, s.si, s.sr⟩ := by rw [hk0, List.getElem?_map, hs]; rfl
 obtain ⟨us, ss, si, sr⟩ := s
 refine .kn<|.seq<|.block<|.sr ?_
 refine .indexO i hOs hs (λ p33 => ?_)
 refine .q (.loadA rfl) ?_
 refine .allocA (λ b11 => ?_)
 refine .storeA rfl rfl<|.zn<|.region<|.mo rfl<|.mo rfl<|.fa rfl<|.q (.loadT rfl)<|.fa rfl<|.lo rfl<|.call [2, 2, 2] ((hplace ps1 e va vp1 Ta1 To1 hI.at_ hI.o (by omega) ⟨ss, si, sr⟩).weaken rxl) (λ u H' hu => ?_)
 obtain ⟨ps2, vp2, Ta2, To2, rfl, rfl, he2, hA2, hO2, hg2⟩ := hu
 conv => arg 8; simp only [rest, dropAt, List.cons_append, List.nil_append]
 refine .buildSlice11 (λ b42 => ?_)
 refine .append hI.l (RS.lits (xs := [(addK x.c.plain x.num (ps1.map PlM.plain) ⟨ss, si, sr⟩).2]) rfl (by simp [encNt]) (by simp [encNt, oneCell])) (by simp only [List.length_singleton]; omega) (λ v5 T5 hv5 => ?_)
 refine .ag rfl<|.nil<|blkQ_n<|seqQ_n<|.region<|.ia (i + 1) .add<|.mo rfl<|.nil ?_
 ·exact loopQ_i (i + 1, ps2, vp2, Ta2, To2, v5, T5) ⟨hlt, hI.next hki he2 hA2 hO2 hg2 hv5⟩ (by simp only; omega) kE.c.c.c.c.c (pkH [5, 1, 1, 1, 2, 2, 2])
 have hie : i = ks.length := by rw [hk0, List.length_map]; have := odf h2; omega
 rw [hie, List.take_length] at hI
 refine .exit<|seqQ_x<|loopQ_x<|blkQ_x<|blkQ_n<|seqQ_n<|.sr<|.mo rfl<|.az rfl<|.ret (retQ_r _ (.one (.tmp rfl)) (pkH [0, 0, 0, 0]) ?_)
 ·exact (hdef _ _ _).2 ⟨ps1, vp1, Ta1, To1, Tl, by simp [take, dropAt], hI⟩
 refine .sr<|.q .eqI<|.az rfl<|.cond rfl (λ h3 => ?_) λ h3 => ?_
 have hkd : n.kind = 2 := odt h3
 rw [if_neg (by omega), if_neg (by omega), if_pos hkd] at hk0
 have hki : ks[0]? = some ⟨k.os, k.oi, n.rel⟩ := by rw [hk0]; rfl
 have hk1 : ks.take 1 = ks := by rw [hk0]; rfl
 refine .region<|.mo rfl<|.mo rfl<|.fa rfl<|.q (.loadT rfl)<|.fa rfl<|.lo rfl<|.call [3, 3, 3] ((hplace ps e va vp Ta To hA hO (by omega) ⟨k.os, k.oi, n.rel⟩).weaken rxl) (λ u H' hu => ?_)
 obtain ⟨ps2, vp2, Ta2, To2, rfl, rfl, he2, hA2, hO2, hg2⟩ := hu
 conv => arg 8; simp only [rest, dropAt, List.cons_append, List.nil_append]
 refine .buildSlice11 (λ b54 => ?_)
 refine .append hst.l (RS.lits (xs := [(addK x.c.plain x.num (ps.map PlM.plain) ⟨k.os, k.oi, n.rel⟩).2]) rfl (by simp [encNt]) (by simp [encNt, oneCell])) (by simp [addKs]) (λ v5 T5 hv5 => ?_)
 have hI2 := hst.next hki he2 hA2 hO2 hg2 hv5
 rw [show (0 : Nat) + 1 = 1 from rfl, hk1] at hI2
 refine .ag rfl<|.nil<|blkQ_n<|seqQ_n<|.sr<|.mo rfl<|.az rfl<|.ret (retQ_r _ (.one (.tmp rfl)) (pkH [6, 1, 1, 1]) ?_)
 ·exact (hdef _ _ _).2 ⟨ps2, vp2, Ta2, To2, T5, by simp [take, dropAt], hI2⟩
 refine .sr<|.q .eqI<|.az rfl<|.cond rfl (λ h4 => ?_) λ h4 => ?_
 have hkd : n.kind = 3 := odt h4
 rw [if_neg (by omega), if_pos hkd] at hk0
 have hsl := hset ⟨k.os, k.oi, n.rel⟩
 refine .sr<|.mo rfl<|.fa rfl<|.q (.loadT rfl)<|.fa rfl<|.lo rfl<|.call [] (hsp _ (h.mono λ b o hb => .inl hb) xb va vp e (pc := PC.of (E := 217) (fr := (0, 0)) (.inr (by simp [rest]))) ⟨k.os, k.oi, n.rel⟩) (λ u H' hu => ?_)
 obtain ⟨Tu, Ts, rfl, wu, ws, rfl, hOu, hOs⟩ := hu
 have iu1 := hOu.oneCell
 have iu2 := hOs.oneCell
 conv => arg 8; simp only [rest, dropAt, List.cons_append, List.nil_append]
 refine .mo rfl<|.q .extract<|.q .extract<|.ag rfl<|.ag rfl<|.z<|.mo rfl<|.q (.lenO hOs)<|.mo rfl<|.zn<|.block<|.loopS [(0, _), (5, _), (67, _), (68, _)] (X := Nat × List PlM × Value × Seg × Seg × Value × Seg) (λ y => y.1 <= (setsOf x.c.plain x.sub ⟨k.os, k.oi, n.rel⟩).length /\ LdI x R ps va (ks.take y.1) y.2.1 y.2.2.1 y.2.2.2.1 y.2.2.2.2.1 y.2.2.2.2.2.1 y.2.2.2.2.2.2) (λ y E => (69, iN y.1) :: (7, y.2.2.2.2.2.1) :: E) (G := [Ts, bl b5 n.enc 168, bl b4 (Value.string k.os :: .string k.oi :: .string k.rel :: [x3, x4, x5, x6, x7]) 123]) (λ y G => y.2.2.2.2.2.2 :: x.blk xb va y.2.2.1 e :: y.2.2.2.1 :: y.2.2.2.2.1 :: G) (λ y => (setsOf x.c.plain x.sub ⟨k.os, k.oi, n.rel⟩).length - y.1) (0, ps, vp, Ta, To, sZ, []) ⟨Nat.zero_le _, hst⟩ kE.c.c.c.c.c.c (pkH [4, 4, 4, 4, 1, 1, 1]) ?_
 rintro ⟨i, ps1, vp1, Ta1, To1, vo, Tl⟩ ⟨hi, hI⟩
 simp only at hi hI ⊢
 have io := hI.l.oneCell
 have ip1 := hI.o.oneCell
 have hlen := hI.len
 have hle' := hle i
 have hln' := hln i
 rw [List.length_take] at hln'
 refine .sr<|.q .lss<|.zs<|.cond rfl (λ h5 => ?_) λ h5 => ?_
 have hlt : i < (setsOf x.c.plain x.sub ⟨k.os, k.oi, n.rel⟩).length := by have := odt h5; omega
 obtain ⟨s, hs⟩ := exg hlt
 have hki : ks[i]? = some ⟨s.ss, s.si, n.thn⟩ := by rw [hk0, List.getElem?_map, hs]; rfl
 obtain ⟨us, ss, si, sr⟩ := s
 refine .kn<|.seq<|.block<|.sr ?_
 refine .indexO i hOs hs (λ p71 => ?_)
 refine .q (.loadA rfl) ?_
 refine .allocA (λ b15 => ?_)
 refine .storeA rfl rfl<|.zn<|.region<|.mo rfl<|.mo rfl<|.fa rfl<|.q (.loadT rfl)<|.fa rfl<|.lo rfl<|.call [2, 2, 2] ((hplace ps1 e va vp1 Ta1 To1 hI.at_ hI.o (by omega) ⟨ss, si, n.thn⟩).weaken rxl) (λ u H' hu => ?_)
 obtain ⟨ps2, vp2, Ta2, To2, rfl, rfl, he2, hA2, hO2, hg2⟩ := hu
 conv => arg 8; simp only [rest, dropAt, List.cons_append, List.nil_append]
 refine .buildSlice11 (λ b80 => ?_)
 refine .append hI.l (RS.lits (xs := [(addK x.c.plain x.num (ps1.map PlM.plain) ⟨ss, si, n.thn⟩).2]) rfl (by simp [encNt]) (by simp [encNt, oneCell])) (by simp only [List.length_singleton]; omega) (λ v5 T5 hv5 => ?_)
 refine .ag rfl<|.nil<|blkQ_n<|seqQ_n<|.region<|.ia (i + 1) .add<|.mo rfl<|.nil ?_
 ·exact loopQ_i (i + 1, ps2, vp2, Ta2, To2, v5, T5) ⟨hlt, hI.next hki he2 hA2 hO2 hg2 hv5⟩ (by simp only; omega) kE.c.c.c.c.c.c (pkH [5, 1, 1, 1, 2, 2, 2])
 have hie : i = ks.length := by rw [hk0, List.length_map]; have := odf h5; omega
 rw [hie, List.take_length] at hI
 refine .exit<|seqQ_x<|loopQ_x<|blkQ_x<|blkQ_n<|seqQ_n<|.sr<|.mo rfl<|.az rfl<|.ret (retQ_r _ (.one (.tmp rfl)) (pkH [0, 0, 0, 0]) ?_)
 ·exact (hdef _ _ _).2 ⟨ps1, vp1, Ta1, To1, Tl, by simp [take, dropAt], hI⟩
 have hks0 : ks = [] := by
  rw [hk0, if_neg (odf h1), if_neg (odf h4), if_neg (odf h3)]
 refine .skip<|blkQ_n<|seqQ_n<|.sr<|.mo rfl<|.az rfl<|.ret (retQ_r _ (.one (.tmp rfl)) (pkH [2, 2, 2, 2]) ?_)
 ·refine (hdef _ _ _).2 ⟨ps, vp, Ta, To, [], by simp [take, dropAt], ?_⟩
  have := hst
  rw [List.take_zero, <- hks0] at this
  exact this
instance keyIn : KeyT prog 3 (λ s : Int => .int .i64 s) := KeyT.int fU3 fA3
abbrev kI (n : Int) : Value := .int .i64 n
structure OpI (x : XC) (R : Rds) (ps : List PlM) (va : Value) (k : Obr) (ns : List Nd) (mp : Value) (ps1 : List PlM) (vp : Value) (Ta To : Seg) (vL : Value) (L : List NlM) (TL Tr : Seg) (M : List (Int × Bool)) (Tm : Seg) : Prop where
 eq : ps1.map PlM.plain = (addNs x.c.plain x.num x.sub k (ps.map PlM.plain) ns).1
 at_ : AtM ps1 va Ta
 o : OS 123 8 PlM.enc vp ps1 To
 gr : ∃ l, ps1 = ps ++ l /\ ∀ p ∈ l, p.is R
 le : OS 127 1 encV1 vL L TL
 rows : ∀ q ∈ L, RS (sg Tr) 1 encNt q.1 q.2
 ll : L.map (·.2) = (addNs x.c.plain x.num x.sub k (ps.map PlM.plain) ns).2
 ms : MS kI Value.bool mp M Tm
 mks : M.map (·.1) = (seenL [] (addNs x.c.plain x.num x.sub k (ps.map PlM.plain) ns).2.flatten).map λ n : Nat => (n : Int)
theorem mset_keysI {β : Type} {M : List (Int × β)} {l : List Nat} (h : M.map (·.1) = l.map λ n : Nat => (n : Int)) (y : β) (j : Nat) : (mset (j : Int) y M).map (·.1) = (if j ∈ l then l else l ++ [j]).map λ n : Nat => (n : Int) := by
 by_cases hj : j ∈ l
 ·rw [if_pos hj, <- h]
  have hm : (j : Int) ∈ M.map (·.1) := by rw [h]; exact List.mem_map.2 ⟨j, hj, rfl⟩
  clear h
  induction M with
  | nil => simp at hm
  | cons a M ih =>
   obtain ⟨a1, a2⟩ := a
   rw [mset]
   split
   ·rename_i e; simp [e]
   ·rename_i e
    simp only [List.map_cons, List.mem_cons] at hm ⊢
    rw [ih (hm.resolve_left e)]
 ·rw [if_neg hj, mset_new (λ hm => by
   rw [h] at hm
   obtain ⟨n, hn, e⟩ := List.mem_map.1 hm
   have e' : (n : Int) = (j : Int) := e
   have e2 : n = j := by omega
   exact hj (e2 ▸ hn)), List.map_append, List.map_append, h]
  rfl
theorem set_same {α : Type} {l : List α} {i : Nat} {x : α} (h : l[i]? = some x) : l.set i x = l := by
 obtain ⟨hi, e⟩ := List.getElem?_eq_some_iff.1 h
 rw [<- e]
 exact List.set_getElem_self hi
theorem OS.basep {α : Type} {E sz : Nat} {enc : α -> List Value} {v : Value} {xs : List α} {T : Seg} {i : Nat} {z : α} (h : OS E sz enc v xs T) (hz : xs[i]? = some z) : ∃ a, baseP v (i * sz) = .pointer (some a) := by
 rcases h.h with ⟨_, rfl, _⟩ | ⟨b, off, c, cap, rfl, _⟩
 ·simp at hz
 ·exact ⟨_, rfl⟩
theorem pfind_keys {a b : List Plc} (h : a.map (·.k) = b.map (·.k)) (k : Obr) : pfind a k = pfind b k := by
 have key : ∀ l : List Plc, pfind l k = (l.map (·.k)).findIdx? λ y => decide (y = k) := λ l => by
  unfold pfind
  rw [List.findIdx?_map]
  rfl
 rw [key, key, h]
theorem set_keys {ps : List PlM} {i : Nat} {p q : PlM} (hp : ps[i]? = some p) (hk : q.k = p.k) : ((ps.set i q).map PlM.plain).map (·.k) = (ps.map PlM.plain).map (·.k) := by
 rw [List.map_map, List.map_map]
 refine List.ext_getElem? λ j => ?_
 rw [List.getElem?_map, List.getElem?_map, List.getElem?_set]
 split
 ·rename_i e
  subst e
  rw [if_pos (List.getElem?_eq_some_iff.1 hp).1, hp]
  show some q.k = some p.k
  rw [hk]
 ·rfl
theorem AtM.set {ps : List PlM} {i : Nat} {p q : PlM} {va : Value} {T : Seg} (h : AtM ps va T) (hp : ps[i]? = some p) (hk : q.k = p.k) : AtM (ps.set i q) va T := by
 obtain ⟨M, hM, hA⟩ := h
 exact ⟨M, hM, λ k => by rw [hA]; exact pfind_keys (set_keys hp hk).symm k⟩
def OpenT (x : XC) (Rc : Rds) (xb : Nat) (ps : List PlM) (e : Nat) (va : Value) (i : Nat) (p : PlM) (H' : Segs) : Prop := ∃ vp Ta To TL Tr Tu l q,
 H' = [x.blk xb va vp (e + (openP x.c.plain x.num x.sub (ps.map PlM.plain) i).2), Ta, To, TL, Tr, Tu] /\ (∀ p ∈ l, PlM.is Rc p) /\ ((ps ++ l).set i q).map PlM.plain = (openP x.c.plain x.num x.sub (ps.map PlM.plain) i).1 /\ AtM ((ps ++ l).set i q) va Ta /\ OS 123 8 PlM.enc vp ((ps ++ l).set i q) To /\
 (q = p \/ q.vn = p.vn /\ q.nodes = p.nodes /\ RS (sg Tu) 1 encS q.vu q.users /\ RS (sg TL) 1 encV1 q.vl q.ll /\ ∀ y ∈ q.ll, RS (sg Tr) 1 encNt y.1 y.2)
theorem open_spec (x : XC) (Rc R : Rds) (hRc : ∀ b o, Rc b o -> R b o) (h : x.ok Rc) (xb : Nat) (ps : List PlM) (e : Nat) (va vp : Value) (Ta To : Seg) (hA : AtM ps va Ta) (hO : OS 123 8 PlM.enc vp ps To) (i : Nat) (p : PlM) (hp : ps[i]? = some p) (hn : RS R 5 Nd.enc p.vn p.nodes) (hfr : p.plain = one x.c.plain x.num p.k) (hnl : p.nodes.length <= 1000000)
  (hl : (openP x.c.plain x.num x.sub (ps.map PlM.plain) i).1.length <= 3000000) (he : e <= 1000000000000) :
  Spec prog 106 [pT xb, iN i] R [x.blk xb va vp e, Ta, To] λ _ H' => OpenT x Rc xb ps e va i p H' := by
 have hsp := subjects_spec x
 have hleads := leads_spec x Rc h xb
 have i1 : One x.c.vs := RS.oneCell h.c.ss
 have i2 : One x.c.vc := RS.oneCell h.c.sc
 have i3 := h.n.one
 obtain ⟨M0, hM0, _⟩ := id hA
 have iva := hM0.one
 have ivp := hO.oneCell
 have hpm := mog hp
 have ipp : Ones p.enc := ⟨hO.one p hpm⟩
 have hpl : (ps.map PlM.plain)[i]? = some p.plain := by rw [List.getElem?_map, hp]; rfl
 have hil := (List.getElem?_eq_some_iff.1 hp).1
 have hdef : ∀ H', OpenT x Rc xb ps e va i p H' ↔ ∃ vp Ta To TL Tr Tu l q,
  H' = [x.blk xb va vp (e + (openP x.c.plain x.num x.sub (ps.map PlM.plain) i).2), Ta, To, TL, Tr, Tu] /\ (∀ p ∈ l, PlM.is Rc p) /\ ((ps ++ l).set i q).map PlM.plain = (openP x.c.plain x.num x.sub (ps.map PlM.plain) i).1 /\ AtM ((ps ++ l).set i q) va Ta /\ OS 123 8 PlM.enc vp ((ps ++ l).set i q) To /\
  (q = p \/ q.vn = p.vn /\ q.nodes = p.nodes /\ RS (sg Tu) 1 encS q.vu q.users /\ RS (sg TL) 1 encV1 q.vl q.ll /\ ∀ y ∈ q.ll, RS (sg Tr) 1 encNt y.1 y.2) := λ _ => Iff.rfl
 have hopen := openP_eq (c := x.c.plain) (num := x.num) (sub := x.sub) hpl
 have hnf := openP_nf (c := x.c.plain) (num := x.num) (sub := x.sub) hpl hfr
 have hle8 := hn.le
 obtain ⟨k, fo, vn, nds, vu, us, vl, ll, nm⟩ := p
 have hpd : PlM.plain ⟨k, fo, vn, nds, vu, us, vl, ll, nm⟩ = ⟨k, fo, nds, nm, us, ll.map (·.2)⟩ := rfl
 rw [hpd] at hopen hnf hpl hfr
 simp only at hopen hnf hn hfr hle8 hnl
 have hle := λ j => addNs_le (c := x.c.plain) (num := x.num) (sub := x.sub) k nds j (ps.map PlM.plain)
 have hge := addNs_ge (c := x.c.plain) (num := x.num) (sub := x.sub) k nds (ps.map PlM.plain)
 have hlt := addNs_lt (c := x.c.plain) (num := x.num) (sub := x.sub) k nds (ps.map PlM.plain)
 have htk := λ (j : Nat) (n : Nd) (hj : nds[j]? = some n) => addNs_take (c := x.c.plain) (num := x.num) (sub := x.sub) hj k (ps.map PlM.plain)
 have hlt2 := λ j => addNs_lt (c := x.c.plain) (num := x.num) (sub := x.sub) k (nds.take j) (ps.map PlM.plain)
 have hl2 : (addNs x.c.plain x.num x.sub k (ps.map PlM.plain) nds).1.length <= 3000000 := by
  rw [hopen] at hl
  rwa [List.length_set] at hl
 refine Spec.body Tryz.func106 rfl Tryz.results106 Tryz.ntmps106 rfl<|.sr<|.mo rfl<|.nc rfl<|.fa rfl<|.fa rfl<|.lo rfl<|.mo rfl ?_
 refine .indexO i hO hp (λ p20 => ?_)
 refine .q (.loadA rfl) ?_
 refine .allocA (λ b4 => ?_)
 refine .storeA rfl rfl<|.zs<|.sr<|.fa rfl<|.lo rfl<|.q .not<|.zn<|.cond rfl (λ h1 => ?_) λ h1 => ?_
 have hf : fo = false := by simpa using h1
 have hnf' := hnf hf
 refine .ret (seqQ_r (retQ_r _ .none (HLe.new000.trans (pkH [4, 4, 4, 0, 0, 0])) ?_))
 ·refine (hdef _).2 ⟨vp, Ta, To, [], [], [], [], ⟨k, fo, vn, nds, vu, us, vl, ll, nm⟩, ?_, λ q hq => (by cases hq), ?_, ?_, ?_, .inl rfl⟩
  ·rw [hnf']; simp [take, dropAt]
  ·rw [hnf', List.append_nil]
   rw [set_same hp]
  ·rw [List.append_nil]; exact hA.set hp rfl
  ·rw [List.append_nil]
   rw [set_same hp]; exact hO
 have hf : fo = true := by simpa using h1
 refine .kn<|.sr<|.mo rfl<|.fa rfl<|.q (.loadT rfl)<|.fa rfl<|.lo rfl<|.call [] (hsp _ (h.mono λ b o hb => .inl (hRc b o hb)) xb va vp e (pc := PC.of (E := 217) (fr := (0, 0)) (.inr (by simp [rest]))) k) (λ u H' hu => ?_)
 obtain ⟨Tu, Ts, rfl, wu, ws, rfl, hOu, hOs⟩ := hu
 have iu1 := hOu.oneCell
 have iu2 := hOs.oneCell
 conv => arg 8; simp only [rest, dropAt, List.cons_append, List.nil_append]
 refine .mo rfl<|.q .extract<|.q .extract<|.ag rfl<|.ag rfl<|.z<|.ag rfl<|.z ?_
 refine .makeMap (λ b34 => ?_)
 refine .ag rfl<|.zs<|.sr<|.fa rfl<|.lo rfl<|.q (.lenR hn)<|.mo rfl<|.zn<|.block<|.loopS [(0, _), (1, _), (4, _), (5, _), (8, _), (36, _), (37, _)] (X := Nat × List PlM × Value × Seg × Seg × Value × List NlM × Seg × Seg × List (Int × Bool) × Seg) (λ y => y.1 <= nds.length /\ OpI x Rc ps va k (nds.take y.1) (.map (some b34)) y.2.1 y.2.2.1 y.2.2.2.1 y.2.2.2.2.1 y.2.2.2.2.2.1 y.2.2.2.2.2.2.1 y.2.2.2.2.2.2.2.1 y.2.2.2.2.2.2.2.2.1 y.2.2.2.2.2.2.2.2.2.1 y.2.2.2.2.2.2.2.2.2.2) (λ y E => (38, iN y.1) :: (7, y.2.2.2.2.2.1) :: E) (G := [Tu, bl b4 (PlM.enc ⟨k, fo, vn, nds, vu, us, vl, ll, nm⟩) 123]) (λ y G => x.blk xb va y.2.2.1 e :: y.2.2.2.1 :: y.2.2.2.2.1 :: y.2.2.2.2.2.2.2.1 :: y.2.2.2.2.2.2.2.2.1 :: y.2.2.2.2.2.2.2.2.2.2 :: G) (λ y => nds.length - y.1) (0, ps, vp, Ta, To, sZ, [], [], [], [], [(b34, .map #[] 0)]) ⟨Nat.zero_le _, ⟨rfl, hA, hO, ⟨[], by simp, λ q hq => (by cases hq)⟩, OS.nil, λ q hq => (by cases hq), rfl, MS.nil, rfl⟩⟩ kE.c.c.c.c.c.c.c.c.c (HLe.new00.trans (pkH [6, 6, 6, 0, 0, 0, 0, 1])) ?_
 rintro ⟨j, ps1, vp1, Ta1, To1, vL, L, TL, Tr, M, Tm⟩ ⟨hj, hI⟩
 simp only at hj hI ⊢
 have ivL := hI.le.oneCell
 have ip1 := hI.o.oneCell
 have hLl : L.length <= j := by
  have h9 := congrArg List.length hI.ll
  have h8 := (addNs_leads (c := x.c.plain) (num := x.num) (sub := x.sub) k (nds.take j) (ps.map PlM.plain)).1
  rw [List.length_map] at h9
  rw [List.length_take] at h8
  omega
 have h1l : ps1.length = (addNs x.c.plain x.num x.sub k (ps.map PlM.plain) (nds.take j)).1.length := by rw [<- hI.eq, List.length_map]
 have hlej := hle j
 refine .sr<|.q .lss<|.zs<|.cond rfl (λ h2 => ?_) λ h2 => ?_
 have hjt : j < nds.length := lt_i h2
 obtain ⟨n, hn0⟩ := exg hjt
 have htj := htk j n hn0
 have hlej1 := hle (j + 1)
 have hle1 : (addKs x.c.plain x.num (ps1.map PlM.plain) (aheadK x.c.plain x.sub k n)).1.length <= 3000000 := by
  rw [hI.eq]
  rw [htj] at hlej1
  exact Nat.le_trans hlej1 hl2
 refine .kn<|.seq<|.block<|.sr ?_
 refine .indexR j hn hn0 (λ p40 => ?_)
 refine .q (.loadA rfl) ?_
 refine .allocA (λ b10 => ?_)
 refine .storeA rfl rfl<|.z<|.mo rfl<|.q (.loadA rfl)<|.q (.loadA rfl)<|.call [1, 1, 1] ((hleads ps1 e va vp1 Ta1 To1 hI.at_ hI.o k [.bool fo, vn, vu, vl, iN nm] n (ie := ⟨λ u hu => ipp.h u (by simp only [PlM.enc]; simp only [List.mem_cons, List.not_mem_nil, or_false] at hu ⊢; simp [hu])⟩) hle1 rfl).weaken λ b o hb => .inl (hRc b o hb)) (λ u H' hu => ?_)
 obtain ⟨ps2, vp2, Ta2, To2, Tl, rfl, hD⟩ := hu
 have iu := hD.l.oneCell
 have hrow := hD.l
 have h2l := hD.len
 conv => arg 8; simp only [rest, dropAt, List.cons_append, List.nil_append]
 obtain ⟨row, hrw⟩ : ∃ row, row = (addKs x.c.plain x.num (ps1.map PlM.plain) (aheadK x.c.plain x.sub k n)).2 := ⟨_, rfl⟩
 rw [<- hrw] at hrow
 have hrle := hrow.le
 refine .ag rfl<|.zs<|.sr<|.mo rfl<|.q (.lenO hrow)<|.mo rfl<|.zn<|.block<|.loopS [(0, _), (1, _), (4, _), (5, _), (7, _), (8, _), (11, _), (36, _), (37, _), (38, _), (46, _), (47, _)] (X := Nat × List (Int × Bool) × Seg) (λ y => y.1 <= row.length /\ MS kI Value.bool (.map (some b34)) y.2.1 y.2.2 /\ y.2.1.map (·.1) = (seenL (seenL [] (addNs x.c.plain x.num x.sub k (ps.map PlM.plain) (nds.take j)).2.flatten) (row.take y.1)).map λ n : Nat => (n : Int)) (λ y E => (48, iN y.1) :: E) (G := [Tl, x.blk xb va vp2 e, Ta2, To2, bl b10 n.enc 168, TL, Tr, Tu, bl b4 (PlM.enc ⟨k, fo, vn, nds, vu, us, vl, ll, nm⟩) 123]) (λ y G => y.2.2 :: G) (λ y => row.length - y.1) (0, M, Tm) ⟨Nat.zero_le _, hI.ms, hI.mks⟩ kE.c.c.c.c.c.c.c.c.c.c.c.c.c (pkH [7, 0, 0, 0, 0, 0, 0, 0, 0, 0]) ?_
 rintro ⟨m, M2, Tm2⟩ ⟨hm, hM2, hk2⟩
 simp only at hm hM2 hk2 ⊢
 refine .sr<|.q .lss<|.zs<|.cond rfl (λ h3 => ?_) λ h3 => ?_
 have hmt : m < row.length := lt_i h3
 obtain ⟨to, hto⟩ := exg hmt
 have hst := seenL_take hto (seenL [] (addNs x.c.plain x.num x.sub k (ps.map PlM.plain) (nds.take j)).2.flatten)
 refine .kn<|.seq<|.block<|.sr ?_
 refine .indexO m hrow hto (λ p50 => ?_)
 refine .lo rfl<|.az rfl<|.region<|.mo rfl<|.mo rfl<|.update (key := (to : Int)) (u := true) hM2 rfl rfl rfl (λ T2 hM3 _ => ?_)
 have hk3 := mset_keysI hk2 true to
 rw [<- hst] at hk3
 refine .nil<|blkQ_n<|seqQ_n<|.region<|.ia (m + 1) .add<|.mo rfl<|.nil ?_
 ·exact loopQ_i (m + 1, mset (to : Int) true M2, T2) ⟨hmt, hM3, hk3⟩ (by simp only; omega) kE.c.c.c.c.c.c.c.c.c.c.c.c.c rH
 have hme : m = row.length := by have := odf h3; omega
 rw [hme, List.take_length] at hk2
 obtain ⟨pu, cu, rfl, _⟩ := hrow.shape
 refine .exit<|seqQ_x<|loopQ_x<|blkQ_x<|seqQ_n<|.region<|.mo rfl<|.mo rfl ?_
 refine .buildSlice11 (λ b57 => ?_)
 refine .append hI.le (RS.lits (xs := [((.slice pu row.length cu, row) : NlM)]) rfl (by simp [encV1]) (by simp [encV1, oneCell])) (by simp only [List.length_singleton]; omega) (λ v5 T5 hv5 => ?_)
 have i5 := hv5.oneCell
 refine .ag rfl<|.nil<|blkQ_n<|seqQ_n<|.region<|.ia (j + 1) .add<|.mo rfl<|.nil ?_
 ·exact loopQ_i (j + 1, ps2, vp2, Ta2, To2, v5, L ++ [(.slice pu row.length cu, row)], T5, Tl ++ Tr, M2, Tm2) ⟨hjt, ⟨by rw [htj, hD.eq, hI.eq], hD.at_, hD.o, by
   obtain ⟨l1, h11, h12⟩ := hI.gr
   obtain ⟨l2, h21, h22⟩ := hD.gr
   refine ⟨l1 ++ l2, by rw [h21, h11, List.append_assoc], λ q hq => ?_⟩
   rcases List.mem_append.1 hq with hq | hq
   ·exact h12 q hq
   ·exact h22 q hq, hv5, λ q hq => by
   rcases List.mem_append.1 hq with hq | hq
   ·exact (hI.rows q hq).mono λ b o hb => sg_right hb
   ·rw [List.mem_singleton] at hq
    subst hq
    exact hrow.sg.mono λ b o hb => sg_left hb, by rw [htj, List.map_append, hI.ll, hrw, hI.eq]; rfl, hM2, by rw [htj, List.flatten_append, seenL_app, hk2, hrw, hI.eq]; simp⟩⟩ (by simp only; omega) kE.c.c.c.c.c.c.c.c.c ((pkH [3, 3, 3, 4, 2, 3, 1, 2, 2]).trans (HLe.ofPerm (by simp [take, dropAt])))
 have hje : j = nds.length := by have := odf h2; omega
 rw [hje, List.take_length] at hI
 have hq1 : ps1[i]? = some ⟨k, fo, vn, nds, vu, us, vl, ll, nm⟩ := by
  obtain ⟨l, hl9, _⟩ := hI.gr
  rw [hl9, List.getElem?_append_left hil, hp]
 obtain ⟨a9, ha9⟩ := hI.o.basep hq1
 have hMl : M.length = ndiff (addNs x.c.plain x.num x.sub k (ps.map PlM.plain) nds).2.flatten := by
  have := congrArg List.length hI.mks
  rw [List.length_map, List.length_map] at this
  exact this
 have hMle : M.length <= 3000000 := by
  rw [hMl]
  refine Nat.le_trans (ndiff_le (n := (addNs x.c.plain x.num x.sub k (ps.map PlM.plain) nds).1.length) λ y hy => ?_) hl2
  obtain ⟨l, hl9, hy⟩ := List.mem_flatten.1 hy
  exact hlt l hl9 y hy
 refine .exit<|seqQ_x<|loopQ_x<|blkQ_x<|seqQ_n<|.seq<|.region_all [16, 19] mixed<|.tO 0 rfl .move<|.tO 1 rfl (.nilCheck rfl)<|.tO 2 rfl (.fieldAddr rfl)<|.tO 3 rfl (.fieldAddr rfl)<|.tO 4 rfl (.load1 rfl)<|.tO 5 rfl .move<|.tO 6 rfl .move<|.tO 7 rfl (.nilCheck rfl)<|.tO 8 rfl (.fieldAddr rfl)<|.tO 9 rfl (.fieldAddr rfl)<|.tO 10 rfl (.load1 rfl)<|.tK 11 rfl .move<|.tO 12 rfl .move<|.tK 13 rfl .move ?_
 refine RA.indexO 14 rfl i hI.o hq1 rfl rfl rfl (by kernel_rfl) (λ p74 => ?_)
 refine .tO 15 rfl (.fieldAddr rfl)<|.sT 16 rfl<|.storeO_gen (k := 5) (cs := [wu]) (z' := (⟨k, fo, vn, nds, wu, usersOf x.c.plain x.sub k, vl, ll, nm⟩ : PlM)) i hI.o hq1 rfl rfl rfl (cells_one iu1.h) rfl (by simpa using iu1.h) rfl (by simp) (λ Td hOd => ?_)
 have hq2 : (ps1.set i (⟨k, fo, vn, nds, wu, usersOf x.c.plain x.sub k, vl, ll, nm⟩ : PlM))[i]? = some ⟨k, fo, vn, nds, wu, usersOf x.c.plain x.sub k, vl, ll, nm⟩ := by rw [List.getElem?_set_self (List.getElem?_eq_some_iff.1 hq1).1]
 refine .nil (Next.mod rfl ?_)
 refine RA.indexO 17 rfl i hI.o hq1 rfl rfl rfl (by kernel_rfl) (λ p76 => ?_)
 refine .tK 18 rfl (.fieldAddrA rfl ha9)<|.sT 19 rfl<|.storeO_gen (k := 6) (cs := [vL]) (z' := (⟨k, fo, vn, nds, wu, usersOf x.c.plain x.sub k, vL, L, nm⟩ : PlM)) i hOd hq2 rfl rfl rfl (cells_one ivL.h) rfl (by simpa using ivL.h) rfl (by simp) (λ Te hOe => ?_)
 rw [List.set_set] at hOe
 refine .nil<|Next.mod rfl<|RA.nil (by kernel_rfl)<|seqQ_n<|.region_tail 11 mixed (by kernel_rfl) ?_
 conv => arg 6; dsimp only [List.take]
 refine .mo rfl<|.nc rfl<|.fa rfl<|.fa rfl<|.lo rfl<|.mo rfl<|.q (.lenM hI.ms.rx rfl) ?_
 refine .ia (e + M.length) .add ?_
 refine .nc rfl<|.fa rfl<|.fa rfl<|.nil<|.store1 rfl rfl<|.nil<|retQ_n _ .none (pkH [0, 0, 0, 0, 0, 1]) ?_
 ·obtain ⟨l, hl9, hl8⟩ := hI.gr
  refine (hdef _).2 ⟨vp1, Ta1, Te, TL, Tr, Tu, l, ⟨k, fo, vn, nds, wu, usersOf x.c.plain x.sub k, vL, L, nm⟩, ?_, hl8, ?_, ?_, ?_, .inr ⟨rfl, rfl, hOu.sg, hI.le.sg, hI.rows⟩⟩
  ·rw [hopen, <- hMl]; simp [take, dropAt]; rfl
  ·rw [hopen, <- hl9, List.map_set, hI.eq]
   simp only [hf, if_true]
   rw [<- hI.ll]
   rfl
  ·rw [<- hl9]; exact hI.at_.set hq1 rfl
  ·rw [<- hl9]; exact hOe
def DiscT (R : Rds) (out : List Plc × Nat × Int) (u : Value) (H' : Segs) : Prop := ∃ vp ps T, H' = [T] /\ u = .tuple [.agg [vp, iN out.2.1].toArray, .int .i64 out.2.2].toArray /\ RS (λ b o => R b o \/ (b, o) ∈ T) 8 PlM.enc vp ps /\ (∀ p ∈ ps, PlM.is (λ b o => R b o \/ (b, o) ∈ T) p) /\ ps.map PlM.plain = out.1
theorem one_len {W : ByteArray -> Bool} {F : ByteArray -> ByteArray -> Bool} {c : Cf} {num : List Nat} {k : Obr} (hc : c.right W F = true) : (one c num k).nodes.length <= 64 := by
 unfold one
 split
 ·simp
 ·rename_i i hi
  simp only [List.getD_eq_getElem?_getD, List.getElem?_map]
  cases hy : c.all[i]? with
  | none => simp
  | some y =>
   have h1 := (right_rel hc y (mog hy)).2
   unfold muchR at h1
   simp only [Bool.or_eq_false_iff, decide_eq_false_iff_not] at h1
   have h2 := h1.1.2
   simp only [Option.map_some, Option.getD_some]
   omega
theorem opened_here {c : Cf} {num : List Nat} {sub : Obr -> List Sub} {k : Obr} {N i : Nat} (hN : AtEnd c num sub k N) (h : ∀ j, j < i -> j < (opened c num sub k j).1.length) : i <= N := Nat.not_lt.1 λ h9 => by have := h N h9; have := hN.1; omega
theorem discover_spec {R : Rds} {hb : Nat} {vl : Value} {es : List EnM} {gone : Nat} (hV : HV R hb vl es gone) {g : Nat} {S : Sto} {ps0 : List RB} {vf vr : Value} {Mf : List (Obr × (Value × Seg))} {Mr : List (Sub × (Value × Seg))} (hS : SV R g S ps0 vf vr Mf Mr)
    {L : List SRow} (hL : RL S L) (hl : S.rows.length <= 512) (rev : Int) (en : EnM) (hat : atC es rev = some en) (num : List Nat) (hm : Means isWord isRef en.c.plain num) (hnum : en.ll.map (·.2) = rows en.c.plain.spaces num) (hgl : gone <= 1000000 /\ es.length <= 1000000) (hl8 : ∀ e ∈ es, e.ll.length <= 1000000 /\ ∀ q ∈ e.ll, q.2.length <= 1000000)
    (k : Obr) (b : Int) (hb63 : b <= 9223372036854775807) (sub : Obr -> List Sub) (hsub : sub = λ k => if scan S rev then (L.filter λ y => y.there rev && decide (y.t.obr = k)).map (·.t.sub) else [])
    (hlim : ∀ i, (∀ j, j < i -> j < (opened en.c.plain num sub k j).1.length) -> (opened en.c.plain num sub k i).1.length + (opened en.c.plain num sub k i).2 <= 1048576) (N : Nat) (hN : AtEnd en.c.plain num sub k N) :
    Spec prog 47 [pT hb, pT g, .int .u64 rev, .agg [.string k.os, .string k.oi].toArray, .string k.rel, .int .i64 b] R [] (DiscT R (disc en.c.plain num sub k b (scan S rev) N)) := by
  have hatc : ((atC es rev).map λ e => e.c.plain).getD ⟨[], []⟩ = en.c.plain := by rw [hat]; rfl
  have hatn : ((atC es rev).map λ e => e.ll.map (·.2)).getD [] = rows en.c.plain.spaces num := by rw [hat]; exact hnum
  have hdef : ∀ out u H', DiscT R out u H' ↔ ∃ vp ps T, H' = [T] /\ u = .tuple [.agg [vp, iN out.2.1].toArray, .int .i64 out.2.2].toArray /\ RS (λ b o => R b o \/ (b, o) ∈ T) 8 PlM.enc vp ps /\ (∀ p ∈ ps, PlM.is (λ b o => R b o \/ (b, o) ∈ T) p) /\ ps.map PlM.plain = out.1 := λ _ _ _ => Iff.rfl
  have hdisc : disc en.c.plain num sub k b (scan S rev) N = if b < 1 then ([], 0, 2) else if scan S rev = false then ([], 0, 12)
    else if (((opened en.c.plain num sub k N).1.length + (opened en.c.plain num sub k N).2 : Nat) : Int) <= b then ((opened en.c.plain num sub k N).1, (opened en.c.plain num sub k N).2, 0) else ([], 0, 16) := rfl
  generalize hc_ : en.c.plain = cp at *
  refine Spec.body Tryz.func47 rfl Tryz.results47 Tryz.ntmps47 rfl<|.sr ?_
  refine .boxA rfl (λ b9 => ?_)
  refine .allocA (λ b12 => ?_)
  refine .ag rfl<|.z<|.mo rfl<|.fa rfl<|.lo rfl<|.fa rfl<|.lo rfl<|.mo rfl ?_
  refine .q .bld ?_
  refine .mo rfl<|.callN ((read_spec hS (by omega) ⟨k.os, k.oi, k.rel, ⟨#[]⟩, ⟨#[]⟩, ⟨#[]⟩, ⟨#[]⟩⟩ rev).weaken rxl) (λ u T29 hu => ?_)
  obtain ⟨wr, ys, rfl, hOr, _⟩ := hu
  have iwr := hOr.oneCell
  refine .mo rfl<|.q .extract<|.q .extract<|.ag rfl<|.ag rfl<|.zs<|.block<|.sr<|.mo rfl<|.callR ((HV.made hV).weaken rxl) (λ u hu => ?_)
  subst hu
  refine .q .not<|.mo rfl<|.split (t := 36) rfl (λ g2_3 => ?_) (λ g2_3 => ?_)
  · simp at g2_3
  refine .gT g2_3<|.mo rfl<|.gT g2_3<|.q .eqI<|.q (.pickFh g2_3)<|.az rfl<|.cond rfl (λ h1 => ?_) λ h1 => ?_
  · cases hsc : scan S rev <;> simp [hsc] at h1
  refine .sr<|.mo rfl<|.q .lss<|.az rfl<|.cond rfl (λ h2 => ?_) λ h2 => ?_
  have hb1 : b < 1 := odt h2
  refine .sr<|.q .bld<|.storeA rfl rfl<|.az rfl ?_
  refine .ret (blkQ_r (seqQ_r (retQ_r _ (.two (.cellA rfl rfl) (.tmp rfl)) (HLe.one [] _) ?_)))
  · exact (hdef _ _ _).2 ⟨_, [], _, rfl, by rw [hdisc, if_pos hb1]; rfl, RS.nil0, λ p hp => (by cases hp), by rw [hdisc, if_pos hb1]; rfl⟩
  have hb1 : ¬ b < 1 := odf h2
  refine .sr<|.mo rfl<|.q .neI<|.az rfl<|.cond rfl (λ h3 => ?_) λ h3 => ?_
  have hsc : scan S rev = false := by
    cases hsc : scan S rev with
    | false => rfl
    | true => simp [hsc] at h3
  refine .sr<|.q .bld<|.mo rfl<|.storeA rfl rfl<|.az rfl ?_
  refine .ret (blkQ_r (seqQ_r (retQ_r _ (.two (.cellA rfl rfl) (.tmp rfl)) (HLe.one [] _) ?_)))
  · exact (hdef _ _ _).2 ⟨_, [], _, rfl, by rw [hdisc, if_neg hb1, if_pos hsc, hsc]; rfl, RS.nil0, λ p hp => (by cases hp), by rw [hdisc, if_neg hb1, if_pos hsc]; rfl⟩
  have hsc : scan S rev = true := by
    cases hsc : scan S rev with
    | true => rfl
    | false => simp [hsc] at h3
  rw [if_neg hb1, if_neg (by rw [hsc]; simp)] at hdisc
  refine .skip<|blkQ_n<|seqQ_n<|.sr<|.mo rfl<|.mo rfl<|.callN ((hV.at_ rev hgl).weaken rxl) (λ u Tc hu => ?_)
  obtain ⟨c', rfl, hc', hcp⟩ := hu
  rw [hatc] at hcp
  have ice : Ones c'.enc := ⟨hc'.ones⟩
  have ic1 : One c'.vs := RS.oneCell hc'.ss
  have ic2 : One c'.vc := RS.oneCell hc'.sc
  refine .mo rfl<|.q .extract<|.q .extract ?_
  refine .allocA (λ b16 => ?_)
  refine .storeA rfl rfl<|.ag rfl<|.zs ?_
  refine Tri.cutS [(4, _), (9, _), (12, _)] kE.c.c.c (X := Nat × Nat × Value × Seg) (λ y => MS kTy vNt y.2.2.1 (numM cp num) y.2.2.2) (λ y E => (18, .pointer (some ⟨y.1, 0, none⟩)) :: E) (λ y => [XC.blk ⟨c', num, y.2.2.1, g, S, L, rev, b⟩ y.1 (.map (some y.2.1)) (sZ) 0, [(y.2.1, .map #[] 0)], [], [], Tc, y.2.2.2, bl b12 [sZ, .int .i64 0] 55, bl b9 [.string k.os, .string k.oi] 30]) ?_ ?_
  refine .region_all [] mixed<|.tO 0 rfl (.loadA rfl)<|.tO 1 rfl (.loadA rfl)<|.tO 2 rfl .move<|.tO 3 rfl .move<|.tO 6 rfl .move<|.tO 7 rfl .move<|.tO 9 rfl .move<|RA.step2 4 8 rfl rfl (by kernel_rfl) rfl ?_ ?_
  refine .callN ((hV.numbers rev hl8).weaken rxl) (λ u Tn hu => ?_)
  obtain ⟨ll, hNN, hll⟩ := hu
  rw [hatn] at hll
  have inn := hNN.rs.oneCell
  refine .nil<|Next.sub<|RA.step2 5 8 rfl rfl (by kernel_rfl) rfl ?_ ?_
  refine .callN ((numbered_spec c' (λ b o => (b, o) ∈ Tc \/ (b, o) ∈ Tn) (hc'.mono λ b o hb => .inl hb) (by rw [hcp]; exact hm.uniq) _ ll num (hNN.mono λ b o hb => .inr hb) (by rw [hcp]; exact hll) (by rw [hcp]; exact hm.len)).weaken λ b o hb => .inr (by rcases hb with hb | hb <;> simp [hb])) (λ u Tm hu => ?_)
  obtain ⟨mn, rfl⟩ : ∃ m, u = .map (some m) := by obtain ⟨b, _, _, h, _⟩ := hu; exact ⟨b, h⟩
  refine .nil<|Next.sub<|.sT 8 rfl ?_
  refine .makeMap (λ b64 => ?_)
  refine .nil<|Next.sub<|.tO 10 rfl .bld<|.sT 11 rfl ?_
  refine .boxA rfl (λ b67 => ?_)
  refine .nil<|Next.sub<|.tO 12 rfl .assign<|RA.nil (by kernel_rfl) ?_
  · first
      | exact joinQ_n (b67, b64, _, Tm) (by rw [<- hcp]; exact hu) ((((kE.d rfl).d rfl).d rfl).d rfl) (HLe.new00.trans (pkH [2, 2, 0, 0, 3, 0, 3, 3]))
      | exact joinQ_n (b67, b64, _, Tm) (by rw [<- hcp]; exact hu) ((((kE.d rfl).d rfl).d rfl).d rfl) (HLe.new00.trans (pkH [2, 3, 0, 0, 3, 0, 3, 3]))
      | exact joinQ_n (b67, b64, _, Tm) (by rw [<- hcp]; exact hu) ((((kE.d rfl).d rfl).d rfl).d rfl) (HLe.new00.trans (pkH [2, 4, 0, 0, 3, 0, 3, 3]))
  refine .makeMap (λ b64 => ?_)
  refine .nil<|Next.sub<|.sT 5 rfl<|.callN ((numbered_spec c' (λ b o => (b, o) ∈ Tc \/ (b, o) ∈ Tn) (hc'.mono λ b o hb => .inl hb) (by rw [hcp]; exact hm.uniq) _ ll num (hNN.mono λ b o hb => .inr hb) (by rw [hcp]; exact hll) (by rw [hcp]; exact hm.len)).weaken λ b o hb => .inr (by rcases hb with hb | hb <;> simp [hb])) (λ u Tm hu => ?_)
  obtain ⟨mn, rfl⟩ : ∃ m, u = .map (some m) := by obtain ⟨b, _, _, h, _⟩ := hu; exact ⟨b, h⟩
  refine .nil<|Next.sub<|.tO 10 rfl .bld<|.sT 11 rfl ?_
  refine .boxA rfl (λ b67 => ?_)
  refine .nil<|Next.sub<|.tO 12 rfl .assign<|RA.nil (by kernel_rfl) ?_
  · first
      | exact joinQ_n (b67, b64, _, Tm) (by rw [<- hcp]; exact hu) ((((kE.d rfl).d rfl).d rfl).d rfl) (HLe.new00.trans (pkH [2, 2, 0, 0, 3, 0, 3, 3]))
      | exact joinQ_n (b67, b64, _, Tm) (by rw [<- hcp]; exact hu) ((((kE.d rfl).d rfl).d rfl).d rfl) (HLe.new00.trans (pkH [2, 3, 0, 0, 3, 0, 3, 3]))
      | exact joinQ_n (b67, b64, _, Tm) (by rw [<- hcp]; exact hu) ((((kE.d rfl).d rfl).d rfl).d rfl) (HLe.new00.trans (pkH [2, 4, 0, 0, 3, 0, 3, 3]))
  refine .makeMap (λ b64 => ?_)
  refine .nil<|Next.sub<|.sT 4 rfl<|.callN ((hV.numbers rev hl8).weaken rxl) (λ u Tn hu => ?_)
  obtain ⟨ll, hNN, hll⟩ := hu
  rw [hatn] at hll
  have inn := hNN.rs.oneCell
  refine .nil<|Next.sub<|.sT 5 rfl<|.callN ((numbered_spec c' (λ b o => (b, o) ∈ Tc \/ (b, o) ∈ Tn) (hc'.mono λ b o hb => .inl hb) (by rw [hcp]; exact hm.uniq) _ ll num (hNN.mono λ b o hb => .inr hb) (by rw [hcp]; exact hll) (by rw [hcp]; exact hm.len)).weaken λ b o hb => .inr (by rcases hb with hb | hb <;> simp [hb])) (λ u Tm hu => ?_)
  obtain ⟨mn, rfl⟩ : ∃ m, u = .map (some m) := by obtain ⟨b, _, _, h, _⟩ := hu; exact ⟨b, h⟩
  refine .nil<|Next.sub<|.tO 10 rfl .bld<|.sT 11 rfl ?_
  refine .boxA rfl (λ b67 => ?_)
  refine .nil<|Next.sub<|.tO 12 rfl .assign<|RA.nil (by kernel_rfl) ?_
  · first
      | exact joinQ_n (b67, b64, _, Tm) (by rw [<- hcp]; exact hu) ((((kE.d rfl).d rfl).d rfl).d rfl) (HLe.new00.trans (pkH [2, 2, 0, 0, 3, 0, 3, 3]))
      | exact joinQ_n (b67, b64, _, Tm) (by rw [<- hcp]; exact hu) ((((kE.d rfl).d rfl).d rfl).d rfl) (HLe.new00.trans (pkH [2, 3, 0, 0, 3, 0, 3, 3]))
      | exact joinQ_n (b67, b64, _, Tm) (by rw [<- hcp]; exact hu) ((((kE.d rfl).d rfl).d rfl).d rfl) (HLe.new00.trans (pkH [2, 4, 0, 0, 3, 0, 3, 3]))
  intro y hy
  obtain ⟨xb, mb, vn, Tm⟩ := y
  simp only at hy ⊢
  obtain ⟨x, hx9⟩ : ∃ x : XC, x = ⟨c', num, vn, g, S, L, rev, b⟩ := ⟨_, rfl⟩
  have ivn := hy.one
  have hxsub : x.sub = sub := by rw [hsub, hx9]; rfl
  have hxc : x.c.plain = cp := by rw [hx9]; exact hcp
  have hxn : x.num = num := by rw [hx9]
  have hxb : x.b = b := by rw [hx9]
  obtain ⟨Rc, hRc⟩ : ∃ Rc : Rds, Rc = λ b o => R b o \/ (b, o) ∈ Tc \/ (b, o) ∈ Tm := ⟨_, rfl⟩
  have hok : x.ok Rc := by
    rw [hx9, hRc]
    exact ⟨hc'.mono λ b o hb => .inr (.inl hb), by simp only; rw [hcp]; exact hy.rm λ p hp => .inr (.inr hp), by simp only; rw [hcp]; exact hm.len, ⟨ps0, vf, vr, Mf, Mr, hS.mono λ b o hb => .inl hb⟩, hL, hl⟩
  have hplace := place_spec x Rc hok xb
  have hopen := λ R h => open_spec x Rc R h hok xb
  have hover := λ R h => over_spec x R h xb
  rw [<- hx9]
  refine seqQ_n<|.sr<|.mo rfl<|.q (.loadA rfl)<|.mo rfl ?_
  refine .call [0, 0, 0] ((hplace [] 0 (.map (some mb)) (sZ) [(mb, .map #[] 0)] [] ⟨[], MS.nil, λ k => rfl⟩ OS.nil (by simp) k).weaken λ b o hb => by
    rw [hRc] at hb
    rcases hb with hb | hb | hb
    · exact .inl hb
    · exact .inr (by simp [rest, dropAt, hb])
    · exact .inr (by simp [rest, dropAt, hb])) (λ u H' hu => ?_)
  obtain ⟨ps1, vp1, Ta1, To1, rfl, rfl, he1, hA1, hO1, l1, hl1, hp1⟩ := hu
  rw [List.nil_append] at hl1
  subst hl1
  conv => arg 8; simp only [rest, dropAt, List.cons_append, List.nil_append]
  have h0 : ps1.map PlM.plain = (opened cp num sub k 0).1 := by rw [he1, hxc, hxn]; rfl
  refine .zs<|.sr<|.az rfl<|.block<|.loopS [(12, _), (18, _)] (X := Nat × List PlM × Value × Seg × Seg × Seg) (λ y => (∀ j, j < y.1 -> j < (opened cp num sub k j).1.length /\ (((opened cp num sub k j).1.length + (opened cp num sub k j).2 : Nat) : Int) <= b) /\ y.2.1.map PlM.plain = (opened cp num sub k y.1).1 /\ AtM y.2.1 (.map (some mb)) y.2.2.2.1 /\ OS 123 8 PlM.enc y.2.2.1 y.2.1 y.2.2.2.2.1 /\ ∀ q ∈ y.2.1, q.is λ b o => Rc b o \/ (b, o) ∈ y.2.2.2.2.2) (λ y E => (19, iN y.1) :: E) (G := [Tc, Tm, bl b12 [sZ, .int .i64 0] 55, bl b9 [.string k.os, .string k.oi] 30]) (λ y G => x.blk xb (.map (some mb)) y.2.2.1 (opened cp num sub k y.1).2 :: y.2.2.2.1 :: y.2.2.2.2.1 :: y.2.2.2.2.2 :: G) (λ y => N + 1 - y.1) (0, ps1, vp1, Ta1, To1, []) ⟨λ j hj => (by omega), h0, hA1, hO1, λ q hq => (hp1 q hq).mono λ b o hb => .inl hb⟩ kE.c.c.c rH ?_
  rintro ⟨i, ps, vp, Ta, To, Tp⟩ ⟨hj, heq, hA, hO, hP⟩
  simp only at hj heq hA hO hP ⊢
  have ivp := hO.oneCell
  have iog : Ones (List.take 2 (List.drop 6 (x.cells (.map (some mb)) vp (opened cp num sub k i).2))) := ⟨λ u hu => by
    simp [XC.cells] at hu
    rcases hu with rfl | rfl
    · exact ivp.h
    · rfl⟩
  have hj1 : ∀ j, j < i -> j < (opened cp num sub k j).1.length := λ j h9 => (hj j h9).1
  have hiN := opened_here hN hj1
  have hlm := hlim i hj1
  have hpl : ps.length = (opened cp num sub k i).1.length := by rw [<- heq, List.length_map]
  refine .seq<|.sr<|.mo rfl<|.mo rfl<|.nc rfl<|.fa rfl<|.fa rfl<|.lo rfl<|.q (.lenO hO)<|.q .lss<|.mo rfl<|.split (t := 80) rfl (λ g12_8 => ?_) (λ g12_8 => ?_)
  have hil : i < ps.length := by have := odt g12_8; omega
  refine .gT g12_8<|.mo rfl<|.gT g12_8 ?_
  refine .callR (hover _ (hok.mono λ b o hb => by
    rw [hRc] at hb
    rcases hb with hb | hb | hb
    · exact .inl hb
    · exact .inr (by simp [hb])
    · exact .inr (by simp [hb])) (.map (some mb)) vp (opened cp num sub k i).2 ps (pc := PC.of (E := 217) (fr := (0, 0)) (.inr (by simp))) hO.rx (by omega) (by rw [hxb]; omega)) (λ u hu => ?_)
  subst hu
  refine .gT g12_8<|.q .not<|.q (.pickTh g12_8)<|.zn<|.cond rfl (λ h4 => ?_) λ h4 => ?_
  have hnb : (((opened cp num sub k i).1.length + (opened cp num sub k i).2 : Nat) : Int) <= b := by
    have : ¬ x.b < (ps.length + (opened cp num sub k i).2 : Nat) := by simpa using h4
    rw [hxb] at this; omega
  obtain ⟨p, hp⟩ := exg hil
  have hfr : p.plain = one x.c.plain x.num p.k := by
    rw [hxc, hxn]
    exact opened_fresh (c := cp) (num := num) (sub := sub) (k := k) i i p.plain (Nat.le_refl _) (by rw [<- heq, List.getElem?_map, hp]; rfl)
  have hnl : p.nodes.length <= 1000000 := by
    have h9 := one_len (num := num) (k := p.k) hm.right
    rw [hxc, hxn] at hfr
    rw [<- hfr] at h9
    exact Nat.le_trans h9 (by omega)
  have hj2 : ∀ j, j < i + 1 -> j < (opened cp num sub k j).1.length /\ (((opened cp num sub k j).1.length + (opened cp num sub k j).2 : Nat) : Int) <= b := λ j h9 => by
    rcases Nat.lt_or_ge j i with h8 | h8
    · exact hj j h8
    · obtain rfl : j = i := by omega
      exact ⟨by omega, hnb⟩
  have hlm2 := hlim (i + 1) λ j h9 => (hj2 j h9).1
  have hos := opened_succ (c := cp) (num := num) (sub := sub) (k := k) i
  have ho1 : (openP cp num sub (ps.map PlM.plain) i).1 = (opened cp num sub k (i + 1)).1 := by rw [hos, heq]
  have ho2 : (opened cp num sub k i).2 + (openP cp num sub (ps.map PlM.plain) i).2 = (opened cp num sub k (i + 1)).2 := by rw [hos, heq]
  refine .kn<|.seq<|.block<|.region<|.mo rfl<|.mo rfl ?_
  refine .call [0, 0, 0] (hopen _ (λ b o hb => by
    rw [hRc] at hb
    rcases hb with hb | hb | hb
    · exact .inl hb
    · exact .inr (by simp [rest, dropAt, hb])
    · exact .inr (by simp [rest, dropAt, hb])) ps (opened cp num sub k i).2 (.map (some mb)) vp Ta To hA hO i p hp ((hP p (mog hp)).n.mono λ b o hb => by
    rw [hRc] at hb
    rcases hb with (hb | hb | hb) | hb
    · exact .inl hb
    · exact .inr (by simp [rest, dropAt, hb])
    · exact .inr (by simp [rest, dropAt, hb])
    · exact .inr (by simp [rest, dropAt, hb])) hfr hnl (by rw [hxc, hxn, hxsub, ho1]; omega) (by omega)) (λ u H' hu => ?_)
  rw [OpenT, hxc, hxn, hxsub, ho1, ho2] at hu
  obtain ⟨vp2, Ta2, To2, TL, Tr, Tu, l, q, rfl, hl9, he9, hA9, hO9, hq9⟩ := hu
  conv => arg 8; simp only [rest, dropAt, List.cons_append, List.nil_append]
  refine .nil<|blkQ_n<|seqQ_n<|.region<|.mo rfl<|.ia (i + 1) .add<|.ag rfl<|.nil ?_
  · exact loopQ_i (i + 1, (ps ++ l).set i q, vp2, Ta2, To2, TL ++ (Tr ++ (Tu ++ Tp))) ⟨hj2, he9, hA9, hO9, λ z hz => by
      rcases List.mem_or_eq_of_mem_set hz with hz | rfl
      · rcases List.mem_append.1 hz with hz | hz
        · exact (hP z hz).mono λ b o hb => hb.imp id λ hb => List.mem_append_right _ (List.mem_append_right _ (List.mem_append_right _ hb))
        · exact (hl9 z hz).mono λ b o hb => .inl hb
      · rcases hq9 with rfl | ⟨e1, e2, e3, e4, e5⟩
        · exact (hP _ (mog hp)).mono λ b o hb => hb.imp id λ hb => List.mem_append_right _ (List.mem_append_right _ (List.mem_append_right _ hb))
        · refine ⟨?_, e3.mono λ b o hb => .inr (List.mem_append_right _ (List.mem_append_right _ (List.mem_append_left _ hb))), e4.mono λ b o hb => .inr (List.mem_append_left _ hb), λ y hy => (e5 y hy).mono λ b o hb => .inr (List.mem_append_right _ (List.mem_append_left _ hb))⟩
          rw [e1, e2]
          exact (hP p (mog hp)).n.mono λ b o hb => hb.imp id λ hb => List.mem_append_right _ (List.mem_append_right _ (List.mem_append_right _ hb))⟩ (by simp only; omega) kE.c.c.c (HLe.ofPerm (by simp [setL]))
  refine .exit<|seqQ_x<|loopQ_x<|blkQ_x<|seqQ_n<|.seq<|.sr<|.mo rfl ?_
  refine .callR (hover _ (hok.mono λ b o hb => by
    rw [hRc] at hb
    rcases hb with hb | hb | hb
    · exact .inl hb
    · exact .inr (by simp [hb])
    · exact .inr (by simp [hb])) (.map (some mb)) vp (opened cp num sub k i).2 ps (pc := PC.of (E := 217) (fr := (0, 0)) (.inr (by simp))) hO.rx (by omega) (by rw [hxb]; omega)) (λ u hu => ?_)
  subst hu
  refine .zn<|.cond rfl (λ h5 => ?_) λ h5 => ?_
  have hov : b < (((opened cp num sub k i).1.length + (opened cp num sub k i).2 : Nat) : Int) := by
    have : x.b < (ps.length + (opened cp num sub k i).2 : Nat) := by simpa using h5
    rw [hxb] at this; omega
  obtain ⟨hg1, hg2⟩ := opened_mono (c := cp) (num := num) (sub := sub) (k := k) hiN
  rw [if_neg (by omega)] at hdisc
  refine .sr<|.q .bld<|.storeA rfl rfl<|.az rfl ?_
  refine .ret (seqQ_r (retQ_r _ (.two (.cellA rfl rfl) (.tmp rfl)) (HLe.one [2, 2, 2, 2] _) ?_))
  · first
      | exact (hdef _ _ _).2 ⟨_, [], _, rfl, by rw [hdisc]; rfl, RS.nil0, λ p hp => (by cases hp), by rw [hdisc]; rfl⟩
      | exact (hdef _ _ _).2 ⟨vp, ps, _, rfl, by rw [hdisc]; rfl, hO.rs λ p hp => .inr (by simp [take, dropAt, hp]), λ p hp => (hP p hp).mono λ b o hb => (by
          rw [hRc] at hb
          rcases hb with (hb | hb | hb) | hb
          · exact .inl hb
          · exact .inr (by simp [take, dropAt, hb])
          · exact .inr (by simp [take, dropAt, hb])
          · exact .inr (by simp [take, dropAt, hb])), by rw [hdisc]; exact heq⟩
  have hov : (((opened cp num sub k i).1.length + (opened cp num sub k i).2 : Nat) : Int) <= b := by
    have : ¬ x.b < (ps.length + (opened cp num sub k i).2 : Nat) := by simpa using h5
    rw [hxb] at this; omega
  have hiN2 : i = N := by
    refine AtEnd.uniq (c := cp) (num := num) (sub := sub) (k := k) ⟨?_, hj1⟩ hN
    (exfalso
     have : x.b < (ps.length + (opened cp num sub k i).2 : Nat) := by simpa using h4
     rw [hxb] at this
     omega)
  subst hiN2
  rw [if_pos hov] at hdisc
  refine .kn<|.sr<|.mo rfl<|.nc rfl<|.fa rfl<|.q (.loadT rfl)<|.storeA rfl rfl<|.az rfl ?_
  refine .ret (retQ_r _ (.two (.cellA rfl rfl) (.tmp rfl)) (HLe.one [2, 2, 2, 2] _) ?_)
  · first
      | exact (hdef _ _ _).2 ⟨_, [], _, rfl, by rw [hdisc]; rfl, RS.nil0, λ p hp => (by cases hp), by rw [hdisc]; rfl⟩
      | exact (hdef _ _ _).2 ⟨vp, ps, _, rfl, by rw [hdisc]; rfl, hO.rs λ p hp => .inr (by simp [take, dropAt, hp]), λ p hp => (hP p hp).mono λ b o hb => (by
          rw [hRc] at hb
          rcases hb with (hb | hb | hb) | hb
          · exact .inl hb
          · exact .inr (by simp [take, dropAt, hb])
          · exact .inr (by simp [take, dropAt, hb])
          · exact .inr (by simp [take, dropAt, hb])), by rw [hdisc]; exact heq⟩
  have hil : ¬ i < ps.length := by have := odf g12_8; omega
  refine .gF g12_8<|.gF g12_8<|.gF g12_8<|.q (.pickFh g12_8)<|.zn<|.condF<|.exit<|seqQ_x<|loopQ_x<|blkQ_x<|seqQ_n<|.seq<|.sr<|.mo rfl ?_
  refine .callR (hover _ (hok.mono λ b o hb => by
    rw [hRc] at hb
    rcases hb with hb | hb | hb
    · exact .inl hb
    · exact .inr (by simp [hb])
    · exact .inr (by simp [hb])) (.map (some mb)) vp (opened cp num sub k i).2 ps (pc := PC.of (E := 217) (fr := (0, 0)) (.inr (by simp))) hO.rx (by omega) (by rw [hxb]; omega)) (λ u hu => ?_)
  subst hu
  refine .zn<|.cond rfl (λ h5 => ?_) λ h5 => ?_
  have hov : b < (((opened cp num sub k i).1.length + (opened cp num sub k i).2 : Nat) : Int) := by
    have : x.b < (ps.length + (opened cp num sub k i).2 : Nat) := by simpa using h5
    rw [hxb] at this; omega
  obtain ⟨hg1, hg2⟩ := opened_mono (c := cp) (num := num) (sub := sub) (k := k) hiN
  rw [if_neg (by omega)] at hdisc
  refine .sr<|.q .bld<|.storeA rfl rfl<|.az rfl ?_
  refine .ret (seqQ_r (retQ_r _ (.two (.cellA rfl rfl) (.tmp rfl)) (HLe.one [2, 2, 2, 2] _) ?_))
  · first
      | exact (hdef _ _ _).2 ⟨_, [], _, rfl, by rw [hdisc]; rfl, RS.nil0, λ p hp => (by cases hp), by rw [hdisc]; rfl⟩
      | exact (hdef _ _ _).2 ⟨vp, ps, _, rfl, by rw [hdisc]; rfl, hO.rs λ p hp => .inr (by simp [take, dropAt, hp]), λ p hp => (hP p hp).mono λ b o hb => (by
          rw [hRc] at hb
          rcases hb with (hb | hb | hb) | hb
          · exact .inl hb
          · exact .inr (by simp [take, dropAt, hb])
          · exact .inr (by simp [take, dropAt, hb])
          · exact .inr (by simp [take, dropAt, hb])), by rw [hdisc]; exact heq⟩
  have hov : (((opened cp num sub k i).1.length + (opened cp num sub k i).2 : Nat) : Int) <= b := by
    have : ¬ x.b < (ps.length + (opened cp num sub k i).2 : Nat) := by simpa using h5
    rw [hxb] at this; omega
  have hiN2 : i = N := by
    refine AtEnd.uniq (c := cp) (num := num) (sub := sub) (k := k) ⟨?_, hj1⟩ hN
    (rw [<- hpl]; omega)
  subst hiN2
  rw [if_pos hov] at hdisc
  refine .kn<|.sr<|.mo rfl<|.nc rfl<|.fa rfl<|.q (.loadT rfl)<|.storeA rfl rfl<|.az rfl ?_
  refine .ret (retQ_r _ (.two (.cellA rfl rfl) (.tmp rfl)) (HLe.one [2, 2, 2, 2] _) ?_)
  · first
      | exact (hdef _ _ _).2 ⟨_, [], _, rfl, by rw [hdisc]; rfl, RS.nil0, λ p hp => (by cases hp), by rw [hdisc]; rfl⟩
      | exact (hdef _ _ _).2 ⟨vp, ps, _, rfl, by rw [hdisc]; rfl, hO.rs λ p hp => .inr (by simp [take, dropAt, hp]), λ p hp => (hP p hp).mono λ b o hb => (by
          rw [hRc] at hb
          rcases hb with (hb | hb | hb) | hb
          · exact .inl hb
          · exact .inr (by simp [take, dropAt, hb])
          · exact .inr (by simp [take, dropAt, hb])
          · exact .inr (by simp [take, dropAt, hb])), by rw [hdisc]; exact heq⟩
def Itm.enc (x : Itm) : List Value := [iN x.1, iN x.2]
instance Itm.one (x : Itm) : Ones (Itm.enc x) := ⟨by simp [Itm.enc, oneCell]⟩
abbrev slv (sb : Nat) (vp : Value) (e : Nat) (us : ByteArray) (vv vb vw vq : Value) : Seg := (bl sb [vp, iN e, .string us, vv, vb, vw, vq] 228)
abbrev qptr (sb : Nat) : Value := addP (pT sb) 6
def QI (sb : Nat) (vp : Value) (e : Nat) (us : ByteArray) (vv vb vw : Value) (L : List Itm) (T : Seg) : Prop := ∃ vq Tq, T = slv sb vp e us vv vb vw vq ++ Tq /\ OS 301 2 Itm.enc vq L Tq /\ L.length <= 1000000000
theorem solen_spec (v : Value) (L : List Itm) (R : Rds) (h : RS R 2 Itm.enc v L) : Spec Tryz.prog 111 [v] R [] λ u H' => u = .int .i64 L.length /\ H' = [] := by
 have iv := h.oneCell
 refine Spec.body Tryz.func111 rfl Tryz.results111 Tryz.ntmps111 rfl<|.sr<|.ag rfl<|.z<|.mo rfl<|.q (.lenR h)<|.az rfl<|.ret (rq1 rfl ?_)
 ·exact ⟨rfl, rfl⟩
theorem soless_spec (v : Value) (L : List Itm) (R : Rds) (h : RS R 2 Itm.enc v L) (i k : Nat) (x y : Itm) (hx : L[i]? = some x) (hy : L[k]? = some y) : Spec Tryz.prog 309 [v, .int .i64 i, .int .i64 k] R [] λ u H' => u = .bool (itmLt x y) /\ H' = [] := by
 have iv := h.oneCell
 have hd : itmLt x y = (decide (x.1 < y.1) || (decide (x.1 = y.1) && decide (x.2 < y.2))) := rfl
 obtain ⟨a, b⟩ := x
 obtain ⟨c, d⟩ := y
 simp only at hd
 generalize itmLt (a, b) (c, d) = r at *
 refine Spec.body Tryz.func309 rfl Tryz.results309 Tryz.ntmps309 rfl<|.sr<|.ag rfl<|.zs<|.seq<|.region_still mixed (by kernel_rfl)<|.mo rfl<|.mo rfl ?_
 refine .indexR i h hx (λ p9 => ?_)
 refine .fa rfl<|.lo rfl<|.mo rfl<|.mo rfl ?_
 refine .indexR k h hy (λ p14 => ?_)
 refine .fa rfl<|.lo rfl<|.q .neI<|.zn<|.cond rfl (λ h1 => ?_) λ h1 => ?_
 refine .seq<|.region_still mixed (by kernel_rfl)<|.mo rfl<|.mo rfl ?_
 refine .indexR i h hx (λ p20 => ?_)
 refine .fa rfl<|.lo rfl<|.mo rfl<|.mo rfl ?_
 refine .indexR k h hy (λ p25 => ?_)
 refine .fa rfl<|.lo rfl<|.q .lss<|.az rfl<|.ret (seqQ_r (rq1 rfl ?_))
 ·refine ⟨congrArg _ ?_, rfl⟩
  rw [hd]
  grind
 refine .kn<|.seq<|.region_still mixed (by kernel_rfl)<|.mo rfl<|.mo rfl ?_
 refine .indexR i h hx (λ p31 => ?_)
 refine .fa rfl<|.lo rfl<|.mo rfl<|.mo rfl ?_
 refine .indexR k h hy (λ p36 => ?_)
 refine .fa rfl<|.lo rfl<|.q .lss<|.az rfl<|.ret (rq1 rfl ?_)
 ·refine ⟨congrArg _ ?_, rfl⟩
  rw [hd]
  grind
theorem soswap_spec (v : Value) (L : List Itm) (T : Seg) (R : Rds) (hO : OS 301 2 Itm.enc v L T) (i k : Nat) (hi : i < L.length) (hk : k < L.length) : Spec Tryz.prog 310 [v, .int .i64 i, .int .i64 k] R [T] λ _ H' => ∃ T', H' = [T'] /\ OS 301 2 Itm.enc v (swp L i k) T' := by
 have iv := hO.oneCell
 obtain ⟨x, hx⟩ := exg hi
 obtain ⟨y, hy⟩ := exg hk
 refine Spec.body Tryz.func310 rfl Tryz.results310 Tryz.ntmps310 rfl<|.region_all [13, 15] mixed<|.tO 0 rfl .move<|.tO 1 rfl .move<|.tK 2 rfl .move<|.tK 3 rfl .move<|.tO 4 rfl .move<|.tO 5 rfl .move ?_
 refine RA.indexO 6 rfl (k) hO hy rfl rfl rfl (by kernel_rfl) (λ p12 => ?_)
 refine .tO 7 rfl (.loadA rfl)<|.tO 8 rfl .move<|.tO 9 rfl .move ?_
 refine RA.indexO 10 rfl (i) hO hx rfl rfl rfl (by kernel_rfl) (λ p16 => ?_)
 refine .tO 11 rfl (.loadA rfl) ?_
 refine RA.indexO 12 rfl (i) hO hx rfl rfl rfl (by kernel_rfl) (λ p18 => ?_)
 refine .sT 13 rfl<|.storeO (i) hO hx y (λ Tsa hsa => ?_) (hO.one _ (mog hy))
 refine .nil (Next.mod rfl ?_)
 refine RA.indexO 14 rfl (k) hO hy rfl rfl rfl (by kernel_rfl) (λ p19 => ?_)
 refine .sT 15 rfl ?_
 obtain ⟨zz, hzz⟩ : ∃ u, (L.set (i) y)[k]? = some u := ⟨_, gge (by rw [List.length_set]; exact (List.getElem?_eq_some_iff.1 hy).1)⟩
 refine .storeO (k) hsa hzz x (λ Tsw hsw => ?_) (hO.one _ (mog hx))
 rw [<- swp_eq hx hy] at hsw
 refine .nil<|Next.mod rfl<|RA.nil (by kernel_rfl)<|retQ_n _ .none rH ?_
 ·exact ⟨_, rfl, hsw⟩
section
variable (sb : Nat) (vp : Value) (e : Nat) (us : ByteArray) (vv vb vw : Value)
theorem sopush_spec (L : List Itm) (T : Seg) (h : QI sb vp e us vv vb vw L T) (x : Itm) (hl : L.length < 1000000000) (R : Rds) :
  Spec Tryz.prog 312 [qptr sb, .iface 301 (.agg (Itm.enc x).toArray)] R [T] λ v H' => ∃ T', H' = [T'] /\ QI sb vp e us vv vb vw (L ++ [x]) T' := by
 obtain ⟨vq, Tq, rfl, hO, _⟩ := h
 refine Spec.segs (H' := [slv sb vp e us vv vb vw vq, Tq]) (by simp) ?_
 have i1 := hO.oneCell
 refine Spec.body Tryz.func312 rfl Tryz.results312 Tryz.ntmps312 rfl<|.region_all [7, 9] mixed<|.tK 0 rfl .move<|.tO 1 rfl .move<|.tO 2 rfl (.nilCheck rfl)<|.tO 3 rfl (.load1 rfl)<|.tO 4 rfl .move<|.tO 5 rfl (.assertC (ut := ⟨Tryz.underlying301⟩))<|.sT 6 rfl ?_
 refine .buildSlice1A (λ b10 => ?_)
 refine .nil<|Next.sub<|.sT 7 rfl<|.append hO (RS.lits (xs := [x]) rfl (by simp [Itm.enc]) (by simp [Itm.enc, oneCell])) (by simp; omega) (λ v2 T2 hO2 => ?_)
 have i2 := hO2.oneCell
 refine .nil<|Next.mod rfl<|.tK 8 rfl (.nilCheckA rfl)<|.sT 9 rfl<|.store1 rfl rfl<|.nil<|Next.mod rfl<|RA.nil (by kernel_rfl)<|retQ_n _ .none ((pkH [1, 1]).trans (HLe.ofPerm (H' := [slv sb vp e us vv vb vw v2 ++ T2]) (by simp [take, dropAt, setL]))) ?_
 ·exact ⟨_, rfl, v2, T2, rfl, hO2, by simp; omega⟩
theorem sopop_spec (L : List Itm) (x : Itm) (T : Seg) (h : QI sb vp e us vv vb vw (L ++ [x]) T) (R : Rds) :
  Spec Tryz.prog 311 [qptr sb] R [T] λ v H' => ∃ T', H' = [T'] /\ v = .iface 301 (.agg (Itm.enc x).toArray) /\ QI sb vp e us vv vb vw L T' := by
 obtain ⟨vq, Tq, rfl, hO, hl⟩ := h
 simp only [List.length_append, List.length_singleton] at hl
 refine Spec.segs (H' := [slv sb vp e us vv vb vw vq, Tq]) (by simp) ?_
 have i1 := hO.oneCell
 refine Spec.body Tryz.func311 rfl Tryz.results311 Tryz.ntmps311 rfl<|.sr<|.ag rfl<|.z<|.mo rfl<|.nc rfl<|.lo rfl<|.ag rfl<|.z<|.mo rfl<|.mo rfl<|.q (.lenO hO)<|.q (.i64 ((L.length : Nat) : Int) .sub ⟨by simp, by omega, by omega⟩) ?_
 refine .indexO L.length hO (z := x) (by simp) (λ p1 => ?_)
 refine .q (.loadA rfl) ?_
 refine .allocA (λ b4 => ?_)
 refine .storeA rfl rfl<|.z<|.mo rfl<|.mo rfl<|.mo rfl<|.q (.lenO hO)<|.q (.i64 ((L.length : Nat) : Int) .sub ⟨by simp, by omega, by omega⟩)<|.sliceO 0 L.length hO rfl ⟨_, rfl⟩ (by omega) (by simp) (λ v2 hO2 => ?_)
 have i2 := hO2.oneCell
 refine .nc rfl<|.store1 rfl rfl<|.z<|.q (.loadA rfl)<|.q (.makeInterface (ut := ⟨Tryz.underlying301⟩))<|.az rfl<|.ret (retQ_r _ (.one (.tmp rfl)) ((pkH [1, 1]).trans (HLe.ofPerm (H' := [slv sb vp e us vv vb vw v2 ++ Tq]) (by simp [take, dropAt, setL]))) ?_)
 ·exact ⟨_, rfl, rfl, v2, Tq, rfl, by simpa using hO2, by omega⟩
theorem soInfo : ∀ w, (typeInfo 303).run Tryz.prog w = .ok Tryz.t303 w := Tryz.typeInfo303
theorem queue_hi (R : Rds) : HpI Tryz.prog R 303 (qptr sb) itmLt (QI sb vp e us vv vb vw) where
 bnd L T h := by obtain ⟨vq, Tq, rfl, hO, hl⟩ := h; exact hl
 len L T h := by
  obtain ⟨vq, Tq, rfl, hO, hl⟩ := h
  have hr : RS (Rx R [slv sb vp e us vv vb vw vq ++ Tq]) 2 Itm.enc vq L := hO.rs λ p hp => .inr (by simp [hp])
  have hp : PC (Rx R [slv sb vp e us vv vb vw vq ++ Tq]) (pT sb) [vp, iN e, .string us, vv, vb, vw, vq] := PC.of (E := 228) (fr := (0, 0)) (.inr (by simp))
  refine (ISpec.keep (r := vq) (f := 111) (MthAt.val soInfo (by kernel_rfl) inferInstance (by kernel_rfl) inferInstance (hp.add 6)) (solen_spec vq L _ hr)).mono λ u T' hu => ?_
  obtain ⟨rfl, rfl⟩ := hu
  exact ⟨rfl, vq, Tq, rfl, hO, hl⟩
 less L T i k x y h hx hy := by
  obtain ⟨vq, Tq, rfl, hO, hl⟩ := h
  have hr : RS (Rx R [slv sb vp e us vv vb vw vq ++ Tq]) 2 Itm.enc vq L := hO.rs λ p hp => .inr (by simp [hp])
  have hp : PC (Rx R [slv sb vp e us vv vb vw vq ++ Tq]) (pT sb) [vp, iN e, .string us, vv, vb, vw, vq] := PC.of (E := 228) (fr := (0, 0)) (.inr (by simp))
  refine (ISpec.keep (r := vq) (f := 309) (MthAt.val soInfo (by kernel_rfl) inferInstance (by kernel_rfl) inferInstance (hp.add 6)) (soless_spec vq L _ hr i k x y hx hy)).mono λ u T' hu => ?_
  obtain ⟨rfl, rfl⟩ := hu
  exact ⟨rfl, vq, Tq, rfl, hO, hl⟩
 swap L T i k h hi hk := by
  obtain ⟨vq, Tq, rfl, hO, hl⟩ := h
  have hp : PC (Rx R [slv sb vp e us vv vb vw vq ++ Tq]) (pT sb) [vp, iN e, .string us, vv, vb, vw, vq] := PC.of (E := 228) (fr := (0, 0)) (.inr (by simp))
  refine ⟨310, vq, MthAt.val soInfo (by kernel_rfl) inferInstance (by kernel_rfl) inferInstance (hp.add 6), inferInstance, ?_⟩
  refine Spec.segs (H' := [slv sb vp e us vv vb vw vq, Tq]) (by simp)<|Spec.flat ((Spec.lend [1] (soswap_spec vq L Tq _ hO i k hi hk)).mono λ v H' hv => ?_)
  obtain ⟨H1, rfl, Tq', rfl, hO'⟩ := hv
  refine ⟨_, slv sb vp e us vv vb vw vq ++ Tq', rfl, ?_, _, rfl, vq, Tq', rfl, hO', by rw [swp_length]; exact hl⟩
  simp only [rest, dropAt, List.flatten_append, List.flatten_cons, List.flatten_nil, List.append_nil]
  exact List.perm_append_comm
theorem queue_push (L : List Itm) (T : Seg) (h : QI sb vp e us vv vb vw L T) (x : Itm) (hl : L.length < 1000000000) (R : Rds) : ISpec Tryz.prog 303 (qptr sb) "Push" [.iface 301 (.agg (Itm.enc x).toArray)] R T fun _ T' => QI sb vp e us vv vb vw (L ++ [x]) T' :=
 ⟨312, _, MthAt.ptr soInfo (by kernel_rfl) inferInstance (by kernel_rfl), inferInstance, sopush_spec sb vp e us vv vb vw L T h x hl R⟩
theorem queue_pop (L : List Itm) (x : Itm) (T : Seg) (h : QI sb vp e us vv vb vw (L ++ [x]) T) (R : Rds) : ISpec Tryz.prog 303 (qptr sb) "Pop" [] R T fun v T' => v = .iface 301 (.agg (Itm.enc x).toArray) ∧ QI sb vp e us vv vb vw L T' :=
 ⟨311, _, MthAt.ptr soInfo (by kernel_rfl) inferInstance (by kernel_rfl), inferInstance, sopop_spec sb vp e us vv vb vw L x T h R⟩
end
def encBo (b : Bool) : List Value := [.bool b]
structure QW (ps : List Plc) (q : List Bool) (L : List Itm) : Prop where
 p : L.Perm (items ps q)
 h : Heap itmLt L L.length
section
variable (sb : Nat) (vp : Value) (e : Nat) (us : ByteArray) (vv vb vw : Value)
theorem sowait_spec (L : List Itm) (T Tw : Seg) (h : QI sb vp e us vv vb vw L T) (ps : List PlM) (R : Rds) (hps : RS R 8 PlM.enc vp ps) (hpo : ∀ p ∈ ps, ∀ u ∈ p.enc, oneCell u = true) (q : List Bool) (hw : OS 4 1 encBo vw q Tw) (hql : q.length = ps.length) (hQ : QW (ps.map PlM.plain) q L) (i : Nat) (hi : i < ps.length) (hlen : ps.length < 1000000000)
  [ip : One vp] [iv : One vv] [ib : One vb] [iw : One vw] : Spec prog 114 [pT sb, .int .i64 i] R [T, Tw] λ _ H' => ∃ T' Tw' L', H' = [T', Tw'] /\ QI sb vp e us vv vb vw L' T' /\ OS 4 1 encBo vw (q.set i true) Tw' /\ QW (ps.map PlM.plain) (q.set i true) L' := by
 have hQI := h
 obtain ⟨vq, Tq, rfl, hO, hl⟩ := h
 have i1 := hO.oneCell
 have ps1 : PS (slv sb vp e us vv vb vw vq ++ Tq) (pT sb) [vp, iN e, .string us, vv, vb, vw, vq] := PS.of (E := 228) (fr := (0, 0)) (by simp)
 obtain ⟨b, hb⟩ : ∃ b, q[i]? = some b := ⟨_, gge (by omega)⟩
 obtain ⟨p, hp⟩ := exg hi
 have hpi : Ones p.enc := ⟨hpo p (mog hp)⟩
 have hqd : q.getD i false = b := by rw [List.getD_eq_getElem?_getD, hb]; rfl
 have hn : pnum (ps.map PlM.plain) i = p.number := by
  unfold pnum
  rw [List.getElem?_map, hp]
  rfl
 obtain ⟨k0, fo, vn, nds, vu, us0, vl, ll, nm⟩ := p
 simp only at hn
 have hLl := items_len hQ.p
 refine Spec.body Tryz.func114 rfl Tryz.results114 Tryz.ntmps114 rfl<|.sr<|.mo rfl<|.nc rfl<|.fa rfl<|.lo rfl<|.mo rfl ?_
 refine .indexO i hw hb (λ p9 => ?_)
 refine .lo rfl<|.q .not<|.zn<|.cond rfl (λ h1 => ?_) λ h1 => ?_
 have hbf : b = false := by simpa using h1
 subst hbf
 refine .sr<|.mo rfl<|.nc rfl<|.fa rfl<|.lo rfl<|.mo rfl ?_
 refine .indexO i hw hb (λ p17 => ?_)
 refine .storeO1 i hw hb true (λ Tn hOn => ?_)
 refine .zn<|.region_tail 16 mixed (by kernel_rfl) ?_
 conv => arg 6; dsimp only [List.take]
 refine .mo rfl<|.nc rfl<|.fa rfl<|.q .makeInterface<|.mo rfl<|.nc rfl<|.fa rfl<|.fa rfl<|.lo rfl<|.mo rfl ?_
 refine .indexR i hps hp (λ p28 => ?_)
 refine .fa rfl<|.lo rfl<|.mo rfl ?_
 refine .q .bld ?_
 refine .q (.makeInterface (ut := ⟨Tryz.underlying301⟩))<|.nil<|.callM (R := R) (push_spec (queue_hi sb vp e us vv vb vw R) itmLt_so L _ _ (nm, i) (queue_push sb vp e us vv vb vw L _ hQI (nm, i) (by omega) R) hQ.h) (λ u T' hu => ?_)
 obtain ⟨rfl, L', hI', hP', hH'⟩ := hu
 refine .nil<|retQ_n _ .none rH ?_
 ·exact ⟨_, _, L', rfl, hI', hOn, ⟨hP'.trans (by rw [<- hn]; exact (hQ.p.append_right _).trans (items_put (by omega) hqd)), hH'⟩⟩
 have hbt : b = true := by simpa using h1
 subst hbt
 refine .skip<|retQ_n _ .none rH ?_
 ·exact ⟨_, _, L, rfl, hQI, by rw [bset_same hqd (by omega)]; exact hw, by rw [bset_same hqd (by omega)]; exact hQ⟩
theorem sonext_spec (L : List Itm) (T Tw : Seg) (h : QI sb vp e us vv vb vw L T) (R : Rds) (ps : List Plc) (q : List Bool) (hw : OS 4 1 encBo vw q Tw) (hQ : QW ps q L) (x : Itm) (hx : L[0]? = some x) [ip : One vp] [iv : One vv] [ib : One vb] [iw : One vw] :
  Spec prog 112 [pT sb] R [T, Tw] λ u H' => ∃ T' Tw' L', H' = [T', Tw'] /\ u = iN x.2 /\ QI sb vp e us vv vb vw L' T' /\ OS 4 1 encBo vw (q.set x.2 false) Tw' /\ QW ps (q.set x.2 false) L' /\ isNext ps q x.2 /\ x.2 < q.length := by
 have hQI := h
 obtain ⟨vq, Tq, rfl, hO, hl⟩ := h
 have i0 := hO.oneCell
 have ps0 : PS (slv sb vp e us vv vb vw vq ++ Tq) (pT sb) [vp, iN e, .string us, vv, vb, vw, vq] := PS.of (E := 228) (fr := (0, 0)) (by simp)
 obtain ⟨hnx, hx1, hxl⟩ := heap_next hQ.p hQ.h hx
 obtain ⟨a, i⟩ := x
 simp only at hnx hx1 hxl
 obtain ⟨b, hb⟩ := exg hxl
 refine Spec.body Tryz.func112 rfl Tryz.results112 Tryz.ntmps112 rfl<|.sr<|.ag rfl<|.z<|.mo rfl<|.nc rfl<|.fa rfl<|.q .makeInterface<|.callM (R := R) (pop_spec (queue_hi sb vp e us vv vb vw R) itmLt_so L _ hQI (a, i) hx hQ.h (λ x => .iface 301 (.agg (Itm.enc x).toArray)) (QI sb vp e us vv vb vw) (λ L' T' hI hl => queue_pop sb vp e us vv vb vw L' (a, i) T' hI R)) (λ u T' hu => ?_)
 obtain ⟨rfl, L', hI', hP', hH'⟩ := hu
 have hQI' := hI'
 obtain ⟨vq', Tq', rfl, hO', hl'⟩ := hI'
 have i1 := hO'.oneCell
 have ps1 : PS (slv sb vp e us vv vb vw vq' ++ Tq') (pT sb) [vp, iN e, .string us, vv, vb, vw, vq'] := PS.of (E := 228) (fr := (0, 0)) (by simp)
 refine .q (.assertC (ut := ⟨Tryz.underlying301⟩)) ?_
 refine .allocA (λ b3 => ?_)
 refine .storeA rfl rfl<|.zs<|.region_tail 7 mixed (by kernel_rfl) ?_
 conv => arg 6; dsimp only [List.take]
 refine .mo rfl<|.nc rfl<|.fa rfl<|.lo rfl<|.fa rfl<|.lo rfl ?_
 refine .indexO i hw hb (λ p16 => ?_)
 refine .nil ?_
 skip
 refine .storeO1 i hw hb false (λ Tn hOn => ?_)
 refine .z<|.fa rfl<|.lo rfl<|.az rfl<|.ret (retQ_r _ (.one (.tmp rfl)) (pkH [1, 1]) ?_)
 ·exact ⟨_, _, L', rfl, rfl, hQI', hOn, ⟨items_drop hQ.p hxl hnx.1 (by rw [<- hx1]; exact hP'), hH'⟩, hnx, hxl⟩
theorem sohas_spec (vq : Value) [iq : One vq] (v : List Bool) (j : Nat) (b : Bool) (hj : v[j]? = some b) (R : Rds) (hv : RS R 1 encBo vv v) (pc : PC R (pT sb) [vp, iN e, .string us, vv, vb, vw, vq]) [ip : One vp] [iv : One vv] :
  Spec prog 172 [pT sb, .int .i64 j] R [] λ u H' => u = .bool b /\ H' = [] := by
 refine Spec.body Tryz.func172 rfl Tryz.results172 Tryz.ntmps172 rfl<|.sr<|.ag rfl<|.z<|.mo rfl<|.nc rfl<|.fa rfl<|.lo rfl<|.mo rfl ?_
 refine .indexR j hv hj (λ p10 => ?_)
 refine .lo rfl<|.az rfl<|.ret (rq1 rfl ?_)
 ·exact ⟨rfl, rfl⟩
end
namespace LIM
theorem indexM_spec (f : FuncId) (pre : List Value) [e : Ent prog f] (p : Nat -> Bool) (v : Value) (l : List Nat) (R : Rds) (h : RS R 1 encNt v l) (hf : ∀ s ∈ l, ∀ R', (∀ b o, R b o -> R' b o) -> Spec prog f (pre ++ [(λ n : Nat => iN n) s]) R' [] λ u H' => u = .bool (p s) /\ H' = []) :
  Spec prog 217 [v, .func (.func f) pre.toArray #[]] R [] λ u H' => (∃ k : Int, u = .int .i64 k /\ ((∃ (i : Nat) (x : Nat), l[i]? = some x /\ p x = true /\ (∀ j y, j < i -> l[j]? = some y -> p y = false) /\ k = i) \/ ((∀ y ∈ l, p y = false) /\ k = -1))) /\ H' = [] := by
 have hle := h.le
 refine Spec.body Tryz.func217 rfl Tryz.results217 Tryz.ntmps217 rfl<|.sr<|.ag rfl<|.zs<|.sr<|.mo rfl<|.q (.lenR h)<|.mo rfl<|.zn<|.block<|.loop (X := Nat) (λ i => i <= l.length /\ ∀ j z, j < i -> l[j]? = some z -> p z = false) (λ i => [(0, v), (1, .func (.func f) pre.toArray #[]), (7, .int .i64 l.length), (8, iN i)]) (λ _ => []) (λ i => l.length - i) 0 ⟨by omega, by omega⟩ kE.c.c.c.c rH ?_
 rintro i ⟨hi, hn⟩
 refine .sr<|.q .lss<|.zs<|.cond rfl (λ h1 => ?_) λ h1 => ?_
 have hlt : i < l.length := by simp at h1; omega
 obtain ⟨z, hz⟩ := exg hlt
 have hzm := mog hz
 have hzo := (⟨h.one z hzm⟩ : Ones (encNt z))
 refine .kn<|.seq<|.block<|.sr<|.mo rfl<|.ag rfl<|.z<|.mo rfl<|.mo rfl<|.mo rfl ?_
 refine .indexR i h hz (λ pz => ?_)
 refine .lo rfl<|.callRV (first := pre) (captured := []) (vs := [(λ n : Nat => iN n) z]) (by rw [List.append_nil]; exact hf z hzm _ λ b o hb => .inl hb) (λ u hu => ?_)
 subst hu
 refine .zn<|.cond rfl (λ h2 => ?_) λ h2 => ?_
 refine .sr<|.mo rfl<|.az rfl<|.ret (blkQ_r (seqQ_r (loopQ_r (blkQ_r (seqQ_r (rq1 rfl ?_))))))
 ·exact ⟨⟨_, rfl, .inl ⟨i, z, hz, h2, hn, rfl⟩⟩, rfl⟩
 refine .skip<|blkQ_n<|seqQ_n<|.region<|.q (.inc (n := i) (by omega))<|.mo rfl<|.nil ?_
 ·exact loopQ_i (i + 1) ⟨by omega, λ j y hj hy => by
   rcases Nat.lt_or_ge j i with hh | hh
   ·exact hn j y hh hy
   ·obtain rfl : j = i := by omega
    rw [hz] at hy; cases hy; exact h2⟩ (by omega) kE.c.c.c.c rH
 refine .exit<|seqQ_x<|loopQ_x<|blkQ_x<|seqQ_n<|.sr<|.az rfl<|.ret (rq1 rfl ?_)
 ·have he : i = l.length := by simp at h1; omega
  subst he
  refine ⟨⟨_, rfl, .inr ⟨λ y hy => ?_, rfl⟩⟩, rfl⟩
  obtain ⟨j, hj, rfl⟩ := List.mem_iff_getElem.1 hy
  exact hn j _ hj (gge hj)
theorem containsM_spec (f : FuncId) (pre : List Value) [e : Ent prog f] (p : Nat -> Bool) (v : Value) (l : List Nat) (R : Rds) (h : RS R 1 encNt v l) (hf : ∀ s ∈ l, ∀ R', (∀ b o, R b o -> R' b o) -> Spec prog f (pre ++ [(λ n : Nat => iN n) s]) R' [] λ u H' => u = .bool (p s) /\ H' = []) :
  Spec prog 171 [v, .func (.func f) pre.toArray #[]] R [] λ u H' => u = .bool (l.any p) /\ H' = [] := by
 refine Spec.body Tryz.func171 rfl Tryz.results171 Tryz.ntmps171 rfl<|.sr<|.ag rfl<|.z<|.mo rfl<|.mo rfl<|.callR (indexM_spec f pre p v l _ h.rx λ s hs R' hR => hf s hs R' λ b o hb => hR b o (.inl hb)) (λ u hu => ?_)
 obtain ⟨k, rfl, hk⟩ := hu
 have hkk : decide (0 <= k) = l.any p := by
  rcases hk with ⟨i, x, h1, h2, _, rfl⟩ | ⟨h1, rfl⟩
  ·rw [List.any_eq_true.2 ⟨x, mog h1, h2⟩]; simp
  ·rw [List.any_eq_false.2 λ y hy => by rw [h1 y hy]; simp]; rfl
 refine .q .geq<|.az rfl<|.ret (rq1 rfl ?_)
 ·exact ⟨by simp only [hkk], rfl⟩
end LIM
theorem bany_eq {l : List ByteArray} {s : ByteArray} : (l.any λ x => decide (x = s)) = decide (s ∈ l) := by
 rw [Bool.eq_iff_iff, List.any_eq_true, decide_eq_true_eq]
 constructor
 ·rintro ⟨x, hx, h⟩
  exact odt h ▸ hx
 ·exact λ h => ⟨s, h, decide_eq_true rfl⟩
theorem bgrow {w : List Bool} {k j : Nat} (h : j < w.length) : (w ++ List.replicate k false)[j]? = some (w.getD j false) := by
 rw [List.getElem?_append_left h, List.getD_eq_getElem?_getD, gge h]
 rfl
theorem nodeV_at {p : Plc} {us : ByteArray} {vf : Nat -> Bool} {w : List Bool} {n : Nd} (hn : p.nodes[w.length]? = some n) (ht : (tree isWord p.nodes (w.length + 1)).isSome = true) (hw : ∀ e, e < w.length -> w.getD e false = nodeV p us vf (e + 1)) :
  nodeV p us vf (w.length + 1) = (if n.kind = 1 then decide (us ∈ p.users) || (p.leads.getD w.length []).any vf
   else if n.kind = 2 \/ n.kind = 3 then (p.leads.getD w.length []).any vf
   else if n.kind = 4 then w.getD n.a.toNat false || w.getD n.b.toNat false
   else if n.kind = 5 then w.getD n.a.toNat false && w.getD n.b.toNat false
   else if n.kind = 6 then w.getD n.a.toNat false && !w.getD n.b.toNat false
   else false) := by
 have h := rstep_inv (t := none) hn ht hw w.length (by rw [rstep_len]; omega)
 rw [<- h]
 unfold rstep
 rw [getD_app, if_neg (by omega), if_pos rfl, bany_eq]
theorem nd_cases {p : List Nd} {i : Nat} {n : Nd} (hn : p[i]? = some n) (ht : (tree isWord p (i + 1)).isSome = true) : n.kind = 1 \/ n.kind = 2 \/ n.kind = 3 \/ ((n.kind = 4 \/ n.kind = 5 \/ n.kind = 6) /\ 0 <= n.a /\ n.a.toNat < i /\ 0 <= n.b /\ n.b.toNat < i) := by
 obtain ⟨r, hr⟩ := Option.isSome_iff_exists.1 ht
 by_cases ho : n.op = true
 ·obtain ⟨b, x, y, h1, h2, h3, ha, hb, _⟩ := tree_op hn ho hr
  obtain ⟨t1, _, t2, _⟩ := tree_some _ _ h1
  obtain ⟨u1, _, u2, _⟩ := tree_some _ _ h3
  unfold Nd.op at ho
  simp only [Bool.or_eq_true, beq_iff_eq] at ho
  right; right; right
  refine ⟨by omega, by omega, by omega, by omega, by omega⟩
 ·have ho' : n.op = false := by simpa using ho
  rw [tree_leaf hn ho'] at ht
  have hl : n.leaf isWord = true := by
   cases h : n.leaf isWord with
   | true => rfl
   | false => rw [h] at ht; cases ht
  unfold Nd.leaf at hl
  simp only [Bool.and_eq_true] at hl
  by_cases h1 : n.kind = 1
  ·exact .inl h1
  ·by_cases h2 : n.kind = 2
   ·exact .inr (.inl h2)
   ·by_cases h3 : n.kind = 3
    ·exact .inr (.inr (.inl h3))
    ·exfalso
     have h4 := hl.2
     rw [if_neg h1, if_neg h2, if_neg h3] at h4
     cases h4
theorem soreckon_spec (sb : Nat) (vp : Value) (e : Nat) (us : ByteArray) (vv vb vw vq : Value) [ip : One vp] [iv : One vv] [iq : One vq] (p : PlM) (v : List Bool) (R : Rds) (hp : p.is R) (hv : RS R 1 encBo vv v) (pc : PC R (pT sb) [vp, iN e, .string us, vv, vb, vw, vq])
  (hll : p.ll.length = p.nodes.length) (hnl : p.nodes.length <= 1000000) (hjl : ∀ q ∈ p.ll, ∀ j ∈ q.2, j < v.length) (ht : ∀ i, i < p.nodes.length -> (tree isWord p.nodes (i + 1)).isSome = true) :
  Spec prog 113 [pT sb, .agg p.enc.toArray] R [] λ u H' => u = .bool (nodeV p.plain us (λ j => v.getD j false) p.nodes.length) /\ H' = [] := by
 have ip0 : Ones p.enc := ⟨hp.ones⟩
 obtain ⟨k0, fo, vn, nds, vu, us0, vl, ll, nm⟩ := p
 have hnd : RS R 5 Nd.enc vn nds := hp.n
 have hus : RS R 1 encS vu us0 := hp.u
 have hlr : RS R 1 encV1 vl ll := hp.l.rs
 have hla := hp.l.all
 simp only at hll hnl hjl ht hla
 have i2 := hnd.oneCell
 have i3 := hus.oneCell
 have i4 := hlr.oneCell
 have hle := hnd.le
 obtain ⟨vf, hvf⟩ : ∃ vf : Nat -> Bool, vf = λ j => v.getD j false := ⟨_, rfl⟩
 rw [<- hvf]
 have hnv := λ (w : List Bool) (n : Nd) (h1 : nds[w.length]? = some n) h2 h3 => nodeV_at (p := PlM.plain ⟨k0, fo, vn, nds, vu, us0, vl, ll, nm⟩) (us := us) (vf := vf) (w := w) (n := n) h1 h2 h3
 have hn0 : nodeV (PlM.plain ⟨k0, fo, vn, nds, vu, us0, vl, ll, nm⟩) us vf 0 = false := by rw [nodeV]
 have hpn : (PlM.plain ⟨k0, fo, vn, nds, vu, us0, vl, ll, nm⟩).nodes = nds := rfl
 have hpu : (PlM.plain ⟨k0, fo, vn, nds, vu, us0, vl, ll, nm⟩).users = us0 := rfl
 have hplg : ∀ i q, ll[i]? = some q -> (PlM.plain ⟨k0, fo, vn, nds, vu, us0, vl, ll, nm⟩).leads.getD i [] = q.2 := λ i q hq => by
  show ((ll.map (·.2)).getD i []) = q.2
  rw [List.getD_eq_getElem?_getD, List.getElem?_map, hq]; rfl
 generalize PlM.plain ⟨k0, fo, vn, nds, vu, us0, vl, ll, nm⟩ = pl at *
 subst hpu
 rw [hpn] at hnv
 refine Spec.body Tryz.func113 rfl Tryz.results113 Tryz.ntmps113 rfl ?_
 refine .sr ?_
 refine .boxA rfl (λ b3 => ?_)
 refine .ag rfl<|.z<|.fa rfl<|.lo rfl<|.q (.lenR hnd) ?_
 refine .makeSlice (enc := encBo) nds.length false rfl rfl (by decide) (by simp [encBo, oneCell]) rfl rfl (by omega) (by omega) (λ b11 T11 hO11 => ?_)
 refine .ag rfl<|.zs<|.sr<|.fa rfl<|.lo rfl<|.q (.lenR hnd) ?_
 refine .mo rfl<|.zn<|.block ?_
 refine .loopS [(0, _), (3, _), (5, _), (13, _), (14, _)] (X := Nat × List Bool × Seg) (λ y => y.1 <= nds.length /\ y.2.1.length = y.1 /\ OS 4 1 encBo (.slice (some ⟨b11, 0, none⟩) nds.length nds.length) (y.2.1 ++ List.replicate (nds.length - y.1) false) y.2.2 /\ ∀ e, e < y.2.1.length -> y.2.1.getD e false = nodeV pl us vf (e + 1)) (λ y E => (15, iN y.1) :: E) (λ y G => y.2.2 :: G) (λ y => nds.length - y.1) (0, [], T11) ⟨Nat.zero_le _, rfl, by simp only [List.nil_append, Nat.sub_zero]; exact hO11, λ e he => absurd he (by simp)⟩ kE.c.c.c.c.c.c rH ?_
 rintro ⟨i, w, T⟩ ⟨hi, hwl, hO, hW⟩
 simp only at hi hwl hO hW ⊢
 refine .sr<|.q .lss<|.zs ?_
 refine .cond rfl (λ h1 => ?_) λ h1 => ?_
 have hlt : i < nds.length := lt_i h1
 obtain ⟨n, hn⟩ := exg hlt
 obtain ⟨⟨vr, row⟩, hrow⟩ : ∃ q, ll[i]? = some q := ⟨_, gge (by omega)⟩
 have hrm := mog hrow
 have hr : RS R 1 encNt vr row := hla _ hrm
 have hjr := hjl _ hrm
 simp only at hjr
 have i5 := hr.oneCell
 obtain ⟨k, hk⟩ : ∃ k, nds.length - i = k + 1 := ⟨nds.length - i - 1, by omega⟩
 have hk' : nds.length - (i + 1) = k := by omega
 rw [hk] at hO
 have prow : PC R (baseP vl (i * 1)) (encV1 (vr, row)) := hlr.pc hrow
 have hcs := nd_cases hn (ht i hlt)
 have hval := hnv w n (by rw [hwl]; exact hn) (by rw [hwl]; exact ht i hlt) hW
 rw [hwl, hplg i _ hrow] at hval
 simp only at hval
 have hz : (w ++ List.replicate (k + 1) false)[i]? = some false := by
  rw [List.getElem?_append_right (by omega), hwl, Nat.sub_self]; rfl
 have hhas : ∀ j ∈ row, ∀ R', (∀ b o, R b o -> R' b o) -> Spec prog 172 ([pT sb] ++ [iN j]) R' [] λ u H' => u = .bool (vf j) /\ H' = [] := λ j hj R' hR => by
  obtain ⟨b, hb⟩ : ∃ b, v[j]? = some b := ⟨_, gge (hjr j hj)⟩
  have hb2 : vf j = b := by rw [hvf]; simp only; rw [List.getD_eq_getElem?_getD, hb]; rfl
  rw [hb2]
  exact sohas_spec sb vp e us vv vb vw vq v j b hb R' (hv.mono hR) (pc.mono hR)
 refine .kn<|.seq<|.block<|.sr<|.mo rfl ?_
 refine .indexR i hnd hn (λ p18 => ?_)
 refine .q (.loadA rfl) ?_
 refine .allocA (λ b7 => ?_)
 refine .ag rfl<|.storeA rfl rfl<|.z<|.fa rfl<|.lo rfl<|.zn ?_
 refine Tri.cutS [(0, _), (3, _), (5, _), (13, _), (14, _), (15, _)] kE.c.c.c.c.c.c (X := Seg) (λ T => OS 4 1 encBo (.slice (some ⟨b11, 0, none⟩) nds.length nds.length) ((w ++ [nodeV pl us vf (i + 1)]) ++ List.replicate k false) T) (λ _ E => E) (λ T => [T, bl b3 (PlM.enc ⟨k0, fo, vn, nds, vu, pl.users, vl, ll, nm⟩) 123]) ?_ ?_
 refine .block<|.sr<|.q .eqI<|.az rfl ?_
 refine .cond rfl (λ h2 => ?_) λ h2 => ?_
 have hk1 : n.kind = 1 := by simpa using h2
 rw [if_pos hk1] at hval
 refine .region_all [20] mixed ?_
 refine .tO 0 rfl .move<|.tO 1 rfl .move<|.tO 2 rfl (.fieldAddr rfl)<|.tO 3 rfl (.load1 rfl)<|.tO 4 rfl .move<|.tO 5 rfl (.nilCheck rfl)<|.tO 6 rfl (.fieldAddr rfl)<|.tO 7 rfl (.load1 rfl) ?_
 refine .sT 8 rfl ?_
 refine .callR (scontains_spec vu pl.users us _ hus.rx) (λ u hu => ?_)
 subst hu
 refine .nil (Next.sub ?_)
 refine .tO 9 rfl .move ?_
 refine RA.split (t := 33) rfl (λ g7_9 => ?_) (λ g7_9 => ?_)
 refine .takeFh 10 rfl rfl g7_9 rfl (by kernel_rfl) ?_
 refine .takeFh 11 rfl rfl g7_9 rfl (by kernel_rfl) ?_
 refine .takeFh 12 rfl rfl g7_9 rfl (by kernel_rfl) ?_
 refine .takeFh 13 rfl rfl g7_9 rfl (by kernel_rfl) ?_
 refine .takeFh 14 rfl rfl g7_9 rfl (by kernel_rfl) ?_
 refine .takeFh 15 rfl rfl g7_9 rfl (by kernel_rfl) ?_
 refine .takeFh 16 rfl rfl g7_9 rfl (by kernel_rfl) ?_
 refine .sT 17 rfl ?_
 refine .gF g7_9 ?_
 refine .nil (Next.sub ?_)
 refine .tO 18 rfl (.pickTh g7_9) ?_
 refine RA.indexO 19 rfl i hO hz rfl rfl rfl (by kernel_rfl) (λ p43 => ?_)
 refine .sT 20 rfl ?_
 refine .storeO1 i hO hz _ (λ Tn hOn => ?_)
 rw [set_grow hwl] at hOn
 refine .nil (Next.mod rfl ?_)
 refine RA.nil (by kernel_rfl) ?_
 refine blkQ_n ?_
 exact joinQ_n Tn (by
  clear hnv hhas hvf hW hla hjl hjr ht
  rw [hval]
  first
   |exact hOn
   | (simp_all; done)) kE.c.c.c.c.c.c (pkH [1, 1])
 refine .takeGhO 10 rfl rfl g7_9 (.fieldAddr rfl) (by kernel_rfl) ?_
 refine .takeGhO 11 rfl rfl g7_9 (.load1 rfl) (by kernel_rfl) ?_
 refine .takeGhO 12 rfl rfl g7_9 .move (by kernel_rfl) ?_
 refine .takeGhO 13 rfl rfl g7_9 (.indexR i hlr hrow rfl rfl rfl) (by kernel_rfl) ?_
 refine .takeGhO 14 rfl rfl g7_9 (.load1 rfl) (by kernel_rfl) ?_
 refine .takeGhO 15 rfl rfl g7_9 .move (by kernel_rfl) ?_
 refine .takeGhO 16 rfl rfl g7_9 .makeFunc (by kernel_rfl) ?_
 refine .sT 17 rfl ?_
 refine .gT g7_9 ?_
 refine .callR (LIM.containsM_spec 172 [pT sb] vf vr row _ hr.rx λ j hj R' hR => hhas j hj R' λ b o hb => hR b o (.inl hb)) (λ u hu => ?_)
 subst hu
 refine .nil (Next.sub ?_)
 refine .tO 18 rfl (.pickFh g7_9) ?_
 refine RA.indexO 19 rfl i hO hz rfl rfl rfl (by kernel_rfl) (λ p43 => ?_)
 refine .sT 20 rfl ?_
 refine .storeO1 i hO hz _ (λ Tn hOn => ?_)
 rw [set_grow hwl] at hOn
 refine .nil (Next.mod rfl ?_)
 refine RA.nil (by kernel_rfl) ?_
 refine blkQ_n ?_
 exact joinQ_n Tn (by
  clear hnv hhas hvf hW hla hjl hjr ht
  rw [hval]
  first
   |exact hOn
   | (simp_all; done)) kE.c.c.c.c.c.c (pkH [1, 1])
 have hk1 : n.kind ≠ 1 := by simpa using h2
 rw [if_neg hk1] at hval
 refine .seq<|.sr<|.q .eqI<|.az rfl ?_
 refine Tri.cutS [(0, _), (3, _), (5, _), (6, _), (7, _), (13, _), (14, _), (15, _), (21, _)] kE.c.c.c.c.c.c.c.c.c (X := Unit) (λ _ => True) (λ _ E => (44, .bool (decide (n.kind = 2 \/ n.kind = 3))) :: E) (λ _ => [bl b7 n.enc 168, T, bl b3 (PlM.enc ⟨k0, fo, vn, nds, vu, pl.users, vl, ll, nm⟩) 123]) ?_ ?_
 refine .cond rfl (λ h3 => ?_) λ h3 => ?_
 refine .skip ?_
 ·exact joinQ_n () trivial (kE.c.c.c.c.c.c.c.c.c.consB rfl (by clear hval hnv hhas hjl hjr hvf hcs; grind)) rH
 refine .region<|.q .eqI<|.ag rfl<|.nil ?_
 ·exact joinQ_n () trivial (kE.c.c.c.c.c.c.c.c.c.consB rfl (by clear hval hnv hhas hjl hjr hvf hcs; grind)) rH
 intro x hx
 refine seqQ_n ?_
 refine .cond rfl (λ h4 => ?_) λ h4 => ?_
 have hk2 : n.kind = 2 \/ n.kind = 3 := odt h4
 rw [if_pos hk2] at hval
 refine .region<|.mo rfl<|.mo rfl<|.fa rfl<|.lo rfl<|.mo rfl ?_
 refine .indexR i hlr hrow (λ p52 => ?_)
 refine .lo rfl<|.mo rfl<|.q .makeFunc ?_
 refine .callR (LIM.containsM_spec 172 [pT sb] vf vr row _ hr.rx λ j hj R' hR => hhas j hj R' λ b o hb => hR b o (.inl hb)) (λ u hu => ?_)
 subst hu
 refine .indexO i hO hz (λ p57 => ?_)
 refine .storeO1 i hO hz _ (λ Tn hOn => ?_)
 rw [set_grow hwl] at hOn
 refine .nil<|blkQ_n ?_
 exact joinQ_n Tn (by
  clear hnv hhas hvf hW hla hjl hjr ht
  rw [hval]
  first
   |exact hOn
   | (simp_all; done)) kE.c.c.c.c.c.c (pkH [1, 1])
 have hk2 : ¬ (n.kind = 2 \/ n.kind = 3) := odf h4
 rw [if_neg hk2] at hval
 have hab : 0 <= n.a /\ n.a.toNat < i /\ 0 <= n.b /\ n.b.toNat < i := by omega
 obtain ⟨ha0, hai, hb0, hbi⟩ := hab
 have hga := bgrow (w := w) (k := k + 1) (j := n.a.toNat) (by omega)
 have hgb := bgrow (w := w) (k := k + 1) (j := n.b.toNat) (by omega)
 refine .sr<|.q .eqI<|.az rfl ?_
 refine .cond rfl (λ h5 => ?_) λ h5 => ?_
 refine .region<|.mo rfl<|.mo rfl<|.mo rfl<|.fa rfl<|.lo rfl ?_
 refine .indexO n.a.toNat hO hga (λ p65 => ?_) rfl rfl (by omega)
 refine .lo rfl<|.mo rfl ?_
 refine .split (t := 67) rfl (λ g12_7 => ?_) (λ g12_7 => ?_)
 refine .gF g12_7<|.gF g12_7<|.gF g12_7<|.gF g12_7<|.gF g12_7<|.q (.pickTh g12_7) ?_
 refine .indexO i hO hz (λ p74 => ?_)
 refine .storeO1 i hO hz _ (λ Tn hOn => ?_)
 rw [set_grow hwl] at hOn
 refine .nil<|blkQ_n ?_
 exact joinQ_n Tn (by
  clear hnv hhas hvf hW hla hjl hjr ht
  rw [hval]
  first
   |exact hOn
   | (simp_all; done)) kE.c.c.c.c.c.c (pkH [1, 1])
 refine .gT g12_7<|.mo rfl<|.gT g12_7<|.fa rfl<|.gT g12_7<|.lo rfl<|.gT g12_7 ?_
 refine .indexO n.b.toNat hO hgb (λ p71 => ?_) rfl rfl (by omega)
 refine .gT g12_7<|.lo rfl<|.q (.pickFh g12_7) ?_
 refine .indexO i hO hz (λ p74 => ?_)
 refine .storeO1 i hO hz _ (λ Tn hOn => ?_)
 rw [set_grow hwl] at hOn
 refine .nil<|blkQ_n ?_
 exact joinQ_n Tn (by
  clear hnv hhas hvf hW hla hjl hjr ht
  rw [hval]
  first
   |exact hOn
   | (simp_all; done)) kE.c.c.c.c.c.c (pkH [1, 1])
 refine .sr<|.q .eqI<|.az rfl ?_
 refine .cond rfl (λ h6 => ?_) λ h6 => ?_
 refine .region<|.mo rfl<|.mo rfl<|.mo rfl<|.fa rfl<|.lo rfl ?_
 refine .indexO n.a.toNat hO hga (λ p82 => ?_) rfl rfl (by omega)
 refine .lo rfl<|.mo rfl ?_
 refine .split (t := 84) rfl (λ g14_7 => ?_) (λ g14_7 => ?_)
 refine .gT g14_7<|.mo rfl<|.gT g14_7<|.fa rfl<|.gT g14_7<|.lo rfl<|.gT g14_7 ?_
 refine .indexO n.b.toNat hO hgb (λ p88 => ?_) rfl rfl (by omega)
 refine .gT g14_7<|.lo rfl<|.q (.pickTh g14_7) ?_
 refine .indexO i hO hz (λ p91 => ?_)
 refine .storeO1 i hO hz _ (λ Tn hOn => ?_)
 rw [set_grow hwl] at hOn
 refine .nil<|blkQ_n ?_
 exact joinQ_n Tn (by
  clear hnv hhas hvf hW hla hjl hjr ht
  rw [hval]
  first
   |exact hOn
   | (simp_all; done)) kE.c.c.c.c.c.c (pkH [1, 1])
 refine .gF g14_7<|.gF g14_7<|.gF g14_7<|.gF g14_7<|.gF g14_7<|.q (.pickFh g14_7) ?_
 refine .indexO i hO hz (λ p91 => ?_)
 refine .storeO1 i hO hz _ (λ Tn hOn => ?_)
 rw [set_grow hwl] at hOn
 refine .nil<|blkQ_n ?_
 exact joinQ_n Tn (by
  clear hnv hhas hvf hW hla hjl hjr ht
  rw [hval]
  first
   |exact hOn
   | (simp_all; done)) kE.c.c.c.c.c.c (pkH [1, 1])
 refine .sr<|.q .eqI<|.az rfl ?_
 refine .cond rfl (λ h7 => ?_) λ h7 => ?_
 refine .region<|.mo rfl<|.mo rfl<|.mo rfl<|.fa rfl<|.lo rfl ?_
 refine .indexO n.a.toNat hO hga (λ p99 => ?_) rfl rfl (by omega)
 refine .lo rfl<|.mo rfl ?_
 refine .split (t := 101) rfl (λ g16_7 => ?_) (λ g16_7 => ?_)
 refine .gT g16_7<|.mo rfl<|.gT g16_7<|.fa rfl<|.gT g16_7<|.lo rfl<|.gT g16_7 ?_
 refine .indexO n.b.toNat hO hgb (λ p105 => ?_) rfl rfl (by omega)
 refine .gT g16_7<|.lo rfl<|.gT g16_7<|.q .not<|.q (.pickTh g16_7) ?_
 refine .indexO i hO hz (λ p109 => ?_)
 refine .storeO1 i hO hz _ (λ Tn hOn => ?_)
 rw [set_grow hwl] at hOn
 refine .nil<|blkQ_n ?_
 exact joinQ_n Tn (by
  clear hnv hhas hvf hW hla hjl hjr ht
  rw [hval]
  first
   |exact hOn
   | (simp_all; done)) kE.c.c.c.c.c.c (pkH [1, 1])
 refine .gF g16_7<|.gF g16_7<|.gF g16_7<|.gF g16_7<|.gF g16_7<|.gF g16_7<|.q (.pickFh g16_7) ?_
 refine .indexO i hO hz (λ p109 => ?_)
 refine .storeO1 i hO hz _ (λ Tn hOn => ?_)
 rw [set_grow hwl] at hOn
 refine .nil<|blkQ_n ?_
 exact joinQ_n Tn (by
  clear hnv hhas hvf hW hla hjl hjr ht
  rw [hval]
  first
   |exact hOn
   | (simp_all; done)) kE.c.c.c.c.c.c (pkH [1, 1])
 ·exfalso
  clear hval hnv hhas hjl hjr hvf
  simp_all
 intro x hx
 have hx' : OS 4 1 encBo (.slice (some ⟨b11, 0, none⟩) nds.length nds.length) ((w ++ [nodeV pl us vf (i + 1)]) ++ List.replicate k false) x := hx
 refine blkQ_n<|seqQ_n<|.region ?_
 refine .ia (i + 1) .add ?_
 refine .mo rfl<|.nil ?_
 ·exact loopQ_i (i + 1, w ++ [nodeV pl us vf (i + 1)], x) ⟨hlt, by simp [hwl], by simp only; rw [hk']; exact hx', λ e he => by
   simp only at he ⊢
   rw [List.length_append, List.length_singleton] at he
   rw [getD_app]
   split
   ·exact hW e (by assumption)
   ·rw [if_pos (by omega), show e = i by omega]⟩ (by simp only; omega) kE.c.c.c.c.c.c rH
 have hie : i = nds.length := by have := odf h1; omega
 subst hie
 rw [Nat.sub_self] at hO
 simp only [List.replicate_zero, List.append_nil] at hO
 refine .exit<|seqQ_x<|loopQ_x<|blkQ_x<|seqQ_n<|.sr<|.mo rfl<|.q (.lenO hO) ?_
 refine .q .gtr<|.mo rfl ?_
 refine .split (t := 114) rfl (λ g18_3 => ?_) (λ g18_3 => ?_)
 have hn1 : 0 < nds.length := by have := odt g18_3; omega
 have hlast : w[nds.length - 1]? = some (nodeV pl us vf nds.length) := by
  have h1 := hW (nds.length - 1) (by omega)
  rw [List.getD_eq_getElem?_getD, gge (by omega), Option.getD_some, show nds.length - 1 + 1 = nds.length by omega] at h1
  rw [gge (by omega), h1]
 refine .gT g18_3<|.mo rfl<|.gT g18_3<|.mo rfl<|.gT g18_3<|.q (.lenO hO) ?_
 refine .gT g18_3 ?_
 refine .q (.i64 (((nds.length - 1 : Nat)) : Int) .sub ⟨by omega, by omega, by omega⟩) ?_
 refine .gT g18_3 ?_
 refine .indexO (nds.length - 1) hO hlast (λ p119 => ?_)
 refine .gT g18_3<|.lo rfl<|.q (.pickTh g18_3) ?_
 refine .az rfl ?_
 refine .ret (rq1 rfl ?_)
 ·exact ⟨rfl, rfl⟩
 have hn1 : nds.length = 0 := by have := odf g18_3; omega
 refine .gF g18_3<|.gF g18_3<|.gF g18_3<|.gF g18_3<|.gF g18_3<|.gF g18_3<|.q (.pickFh g18_3) ?_
 refine .az rfl ?_
 refine .ret (rq1 rfl ?_)
 ·exact ⟨by rw [hn1, hn0], rfl⟩
end Go.Proofs.YtenilfmlfldogaaGreat
