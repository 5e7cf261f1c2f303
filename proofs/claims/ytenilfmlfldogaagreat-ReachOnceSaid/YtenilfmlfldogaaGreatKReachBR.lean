/- What the law 'ReachB' uses. No condition. -/
import Derived.Carry
import Derived.ChangeShapes
import Derived.Test.YtenilfmlfldogaaGreatKReachBI
import Derived.Test.YtenilfmlfldogaaGreatKReachBO
import Derived.Test.YtenilfmlfldogaaGreatKReachBP
import Derived.Test.YtenilfmlfldogaaGreatKReachBQ
namespace Go.Proofs.YtenilfmlfldogaaGreat
open Tryz (prog)
set_option linter.unusedVariables false
set_option linter.unusedSimpArgs false
set_option maxRecDepth 8000
structure TextOK (t : ByteArray) (L : List LTok) (C : List Sp) : Prop where
 sz : t.size <= 16384
 pl : Pl t
 lx : lexT t = some L
 ok : ∀ x ∈ L, tokOK x
 len : L.length <= 1000000
 cf : pConfig isWord (L.length + 1) [] (L, false) = (C, ([], false))
 much : (⟨C, []⟩ : Cf).much isWord = false
 num : ((⟨C, []⟩ : Cf).numbers isWord isRef).1 = 0
 few : C.length <= 1000 /\ ∀ y ∈ C, y.rels.length <= 1000
def toksOf (t : ByteArray) : List LTok := (lexT t).getD []
def confOf (t : ByteArray) : List Sp := (pConfig isWord ((toksOf t).length + 1) [] (toksOf t, false)).1
theorem TextOK.of {t : ByteArray} (h1 : t.size <= 16384) (h2 : (List.range t.size).all (λ k => decide (byteAt t k ≠ 34) && decide (byteAt t k ≠ 47) && decide (byteAt t k ≠ 45)) = true) (h3 : (lexT t).isSome = true) (h4 : (toksOf t).all (λ x => decide (tokOK x)) = true) (h5 : (toksOf t).length <= 1000000)
  (h6 : (pConfig isWord ((toksOf t).length + 1) [] (toksOf t, false)).2.1.isEmpty = true) (h7 : (pConfig isWord ((toksOf t).length + 1) [] (toksOf t, false)).2.2 = false) (h8 : (⟨confOf t, []⟩ : Cf).much isWord = false) (h9 : ((⟨confOf t, []⟩ : Cf).numbers isWord isRef).1 = 0) (h10 : (decide ((confOf t).length <= 1000) && (confOf t).all λ y => decide (y.rels.length <= 1000)) = true) : TextOK t (toksOf t) (confOf t) := by
 refine ⟨h1, λ k hk => ?_, ?_, λ x hx => odt (List.all_eq_true.1 h4 x hx), h5, ?_, h8, h9, ?_⟩
 ·have := List.all_eq_true.1 h2 k (List.mem_range.2 hk)
  simp only [Bool.and_eq_true, decide_eq_true_eq] at this
  exact ⟨this.1.1, this.1.2, this.2⟩
 ·obtain ⟨l, hl⟩ := Option.isSome_iff_exists.1 h3
  unfold toksOf
  rw [hl]; rfl
 ·refine Prod.ext rfl (Prod.ext ?_ h7)
  exact List.isEmpty_iff.1 h6
 ·simp only [Bool.and_eq_true, decide_eq_true_eq] at h10
  exact ⟨h10.1, λ y hy => odt (List.all_eq_true.1 h10.2 y hy)⟩
def t20 : ByteArray := ⟨#[110, 97, 109, 101, 115, 112, 97, 99, 101, 32, 100, 32, 123, 32, 114, 101, 108, 97, 116, 105, 111, 110, 32, 97, 58, 32, 117, 115, 101, 114, 59, 32, 114, 101, 108, 97, 116, 105, 111, 110, 32, 98, 32, 61, 32, 97, 59, 32, 125]⟩
theorem text20 : TextOK t20 (toksOf t20) (confOf t20) := .of (by decide +kernel) (by decide +kernel) (by decide +kernel) (by decide +kernel) (by decide +kernel) (by decide +kernel) (by decide +kernel) (by decide +kernel) (by decide +kernel) (by decide +kernel)
def k20 : Obr := ⟨⟨#[100]⟩, ⟨#[120]⟩, ⟨#[98]⟩⟩
theorem o20 (num : List Nat) : (opened ⟨confOf t20, []⟩ num (λ _ => []) k20 2).1.length = 2 := by kernel_rfl
theorem e20 (num : List Nat) : (opened ⟨confOf t20, []⟩ num (λ _ => []) k20 2).2 = 1 := by kernel_rfl
theorem o20a (num : List Nat) : (opened ⟨confOf t20, []⟩ num (λ _ => []) k20 1).1.length = 2 := by kernel_rfl
theorem end20 (num : List Nat) : AtEnd ⟨confOf t20, []⟩ num (λ _ => []) k20 2 := ⟨by rw [o20]; exact Nat.le_refl _, λ j hj => by
 rcases j with _ | _ | j
 ·show 0 < (opened ⟨confOf t20, []⟩ num (λ _ => []) k20 0).1.length; simp [opened]
 ·rw [o20a]; decide
 ·omega⟩
theorem few_ll {e : EnM} {num : List Nat} (he : e.ll.map (·.2) = rows e.c.plain.spaces num) (h5 : e.c.plain.spaces.length <= 1000 /\ ∀ y ∈ e.c.plain.spaces, y.rels.length <= 1000) : e.ll.length <= 1000000 /\ ∀ q ∈ e.ll, q.2.length <= 1000000 := by
 have hl0 : e.ll.length = e.c.plain.spaces.length := by rw [<- rows_len e.c.plain.spaces num, <- he, List.length_map]
 refine ⟨by have := h5.1; omega, λ q hq => ?_⟩
 have hq2 : q.2 ∈ rows e.c.plain.spaces num := by rw [<- he]; exact List.mem_map.2 ⟨q, hq, rfl⟩
 obtain ⟨i, hi, e9⟩ := List.mem_iff_getElem.1 hq2
 rw [rows_len] at hi
 have h1 := rows_at (n := num) (gge hi)
 rw [gge (by rw [rows_len]; exact hi), e9] at h1
 have h2 := Option.some.inj h1
 rw [h2, List.length_take]
 have := h5.2 _ (List.getElem_mem hi)
 omega
theorem disc20 (num : List Nat) : disc ⟨confOf t20, []⟩ num (λ _ => []) k20 9 true 2 = ((opened ⟨confOf t20, []⟩ num (λ _ => []) k20 2).1, 1, 0) := by
 unfold disc
 rw [o20, e20]
 rfl
theorem lives20_spec (R : Rds) : Spec prog 49 [] R [] λ u H' => u = .bool true /\ H' = [] := by
 have hx := text20
 have hC := hx.num
 have hfew := hx.few
 obtain ⟨num, hnm, hm⟩ := numbers_means hC
 have hend := end20 num
 have hds := disc20 num
 have hon := o20 num
 have hen := e20 num
 have hmono := λ i (h : i <= 2) => opened_mono (c := ⟨confOf t20, []⟩) (num := num) (sub := λ _ => []) (k := k20) h
 have hparse := λ R => parse_spec (R := R) t20 hx.sz hx.pl (toksOf t20) hx.lx hx.ok hx.len (confOf t20) hx.cf hx.much
 generalize confOf t20 = C at *
 refine Spec.body Tryz.func49 rfl Tryz.results49 Tryz.ntmps49 rfl ?_
 refine .sr<|.ag rfl<|.z ?_
 refine .callN (hparse _) (λ u Tc hu => ?_)
 obtain ⟨c, rfl, hc, hcp⟩ := hu
 have ice : Ones c.enc := ⟨hc.ones⟩
 have ic1 : One c.vs := RS.oneCell hc.ss
 have ic2 : One c.vc := RS.oneCell hc.sc
 refine .mo rfl<|.q .extract<|.q .extract ?_
 refine .allocA (λ b1 => ?_)
 refine .storeA rfl rfl<|.ag rfl<|.z ?_
 refine .callN (hnew_spec _) (λ u Th hu => ?_)
 obtain ⟨hb, rfl, hH⟩ := hu
 obtain ⟨vl0, Te0, Tp0, hTh, _⟩ := id hH
 have psh : PS Th (pT hb) [.bool true, vl0, .int .i64 ((0 : Nat) : Int)] := PS.of (E := 116) (fr := (0, 0)) (by rw [hTh]; simp)
 refine .ag rfl<|.zs<|.sr<|.mo rfl<|.q (.eqNilP rfl rfl) ?_
 refine .mo rfl<|.gt rfl ?_
 refine .mo rfl<|.gt rfl ?_
 refine .q (.loadA rfl)<|.gt rfl ?_
 refine .callW (hadd_spec hb [] 0 Th hH (by simp) 0 c _ (hc.mono λ b o hb => .inr (by have hb' : (b, o) ∈ Tc := hb; simp [hb']))) (λ u Th2 hu => ?_)
 rw [hcp] at hu
 rw [hcode_nil, hC] at hu
 obtain ⟨rfl, hA0, _⟩ := hu
 obtain ⟨e, her, hec, hHI⟩ := hA0 rfl
 rw [List.nil_append] at hHI
 refine .gt rfl ?_
 refine .q .neI<|.q .pickF<|.zn ?_
 refine .cond rfl (λ h1 => ?_) λ h1 => ?_
 ·simp at h1
 refine .kn<|.sr<|.mo rfl ?_
 refine .callN (snew_spec _) (λ u Ts hu => ?_)
 obtain ⟨g, rfl, hSI⟩ := hu
 refine .q .bld ?_
 obtain ⟨vl, hV⟩ := hHI.view (R := λ b o => (b, o) ∈ Th2 \/ (b, o) ∈ Ts) λ p hp => .inl hp
 obtain ⟨ps0, vf, vr, Mf, Mr, hSV⟩ := hSI.view (R := λ b o => (b, o) ∈ Th2 \/ (b, o) ∈ Ts) λ p hp => .inr hp
 have hat : atC [e] 0 = some e := by
  unfold atC
  have : hl [e] 0 1 = some 0 := by
   simp only [hl, List.getElem?_cons_zero, her]
   simp
  rw [show ([e] : List EnM).length = 1 from rfl, this]
  rfl
 have hee := hV.all e (by simp)
 have hll : e.ll.map (·.2) = rows e.c.plain.spaces num := by rw [hee.eq, hec, hnm]
 have hsub : (λ _ => []) = λ k : Obr => if scan (⟨[], 0, 0⟩ : Sto) 0 then (([] : List SRow).filter λ y => y.there 0 && decide (y.t.obr = k)).map (·.t.sub) else [] := by
  funext k; simp
 have hdd := discover_spec hV hSV (L := []) ⟨.refl _, List.Pairwise.nil⟩ (by simp) 0 e hat num (by rw [hec]; exact hm) hll ⟨by omega, by simp⟩ (λ e' h' => by
  rw [List.mem_singleton] at h'
  subst h'
  exact few_ll hll (by rw [hec]; exact hfew)) k20 9 (by omega) _ hsub (λ i hi => by
   rw [hec] at hi ⊢
   have h2 := opened_here hend hi
   have h3 := hmono i h2
   omega) 2 (by rw [hec]; exact hend)
 rw [hec, show scan (⟨[], 0, 0⟩ : Sto) 0 = true by decide, hds] at hdd
 refine .callN ((discN_of hdd).weaken λ b o hb => .inr (by rcases hb with hb | hb <;> simp [hb])) (λ u T6 hu => ?_)
 obtain ⟨vp, ps, rfl, hrs, hall, heq⟩ := hu
 have ivp := hrs.oneCell
 have hpl : ps.length = 2 := by rw [<- List.length_map PlM.plain, heq]; exact hon
 refine .mo rfl<|.q .extract<|.q .extract ?_
 refine .allocA (λ b4 => ?_)
 refine .storeA rfl rfl<|.ag rfl<|.z<|.mo rfl<|.q .eqI<|.mo rfl ?_
 refine .split (t := 28) rfl (λ g6_2 => ?_) (λ g6_2 => ?_)
 refine .gT g6_2<|.fa rfl<|.gT g6_2<|.lo rfl<|.gT g6_2<|.q (.lenR hrs) ?_
 rw [hpl]
 refine .gT g6_2<|.q .eqI<|.q (.pickTh g6_2) ?_
 refine .mo rfl ?_
 refine .split (t := 34) rfl (λ g6_8 => ?_) (λ g6_8 => ?_)
 refine .gT g6_8<|.fa rfl<|.gT g6_8<|.lo rfl<|.gT g6_8<|.q .eqI<|.q (.pickTh g6_8) ?_
 refine .az rfl ?_
 refine .ret (retQ_r _ (.one (.tmp rfl)) (HLe.none _) ?_)
 ·exact ⟨rfl, rfl⟩
 ·simp at g6_8
 ·simp at g6_2
theorem Nd.hasK (n : Nd) : HasK [.i .i64, .s, .s, .i .i64, .i .i64] n.enc := ⟨rfl, trivial, trivial, rfl, rfl, trivial⟩
theorem Nd.same (n : Nd) : cellsEq n.enc n.enc = true := by
 simp [Nd.enc, cellsEq, cellEq]
theorem rplain_spec (p : PlM) (R : Rds) (hp : p.is R) : Spec prog 51 [.agg p.enc.toArray] R [] λ u H' => u = .agg p.enc.toArray /\ H' = [] := by
 have ip0 : Ones p.enc := ⟨hp.ones⟩
 have i1 := hp.n.oneCell
 have i2 := hp.u.oneCell
 have i3 := hp.l.rs.oneCell
 obtain ⟨k0, fo, vn, nds, vu, us0, vl, ll, nm⟩ := p
 simp only at i1 i2 i3
 have n0 : RS R 5 Nd.enc vn nds := hp.n
 have u0 : RS R 1 encS vu us0 := hp.u
 have l0 : RS R 1 encV1 vl ll := hp.l.rs
 obtain ⟨pn, cn, rfl⟩ := n0.val
 obtain ⟨pu, cu, rfl⟩ := u0.val
 obtain ⟨pl, cl, rfl⟩ := l0.val
 refine Spec.body Tryz.func51 rfl Tryz.results51 Tryz.ntmps51 rfl ?_
 refine .sr ?_
 refine .boxA rfl (λ b1 => ?_)
 refine .allocA (λ b2 => ?_)
 refine .z<|.fa rfl<|.q (.loadT rfl) ?_
 refine .fa rfl<|.lo rfl<|.fa rfl<|.lo rfl<|.fa rfl<|.lo rfl<|.fa rfl<|.lo rfl<|.fa rfl<|.lo rfl<|.fa rfl<|.lo rfl ?_
 refine .q .bld ?_
 refine .storeA rfl rfl<|.zn ?_
 refine .ret (retQ_r _ (.one (.cellA rfl rfl)) (HLe.none _) ?_)
 ·exact ⟨rfl, rfl⟩
theorem rsame_spec (p q : PlM) (R : Rds) (hp : p.is R) (hq : q.is R) (he : p.plain = q.plain) : Spec prog 50 [.agg p.enc.toArray, .agg q.enc.toArray] R [] λ u H' => u = .bool true /\ H' = [] := by
 have ip0 : Ones p.enc := ⟨hp.ones⟩
 have iq0 : Ones q.enc := ⟨hq.ones⟩
 obtain ⟨k0, fo, vn, nds, vu, us0, vl, ll, nm⟩ := p
 obtain ⟨k1, fo1, vn1, nds1, vu1, us1, vl1, ll1, nm1⟩ := q
 unfold PlM.plain at he
 simp only [Plc.mk.injEq] at he
 obtain ⟨rfl, rfl, rfl, rfl, rfl, hll⟩ := he
 have n0 : RS R 5 Nd.enc vn nds := hp.n
 have n1 : RS R 5 Nd.enc vn1 nds := hq.n
 have u0 : RS R 1 encS vu us0 := hp.u
 have u1 : RS R 1 encS vu1 us0 := hq.u
 have l0 : RS R 1 encV1 vl ll := hp.l.rs
 have l1 : RS R 1 encV1 vl1 ll1 := hq.l.rs
 have a0 := hp.l.all
 have a1 := hq.l.all
 simp only at a0 a1
 have hln : ll1.length = ll.length := by have := congrArg List.length hll; rw [List.length_map, List.length_map] at this; exact this.symm
 have hrow : ∀ (i : Nat) (v : Value) (r : List Nat), ll[i]? = some (v, r) -> ∃ v1, ll1[i]? = some (v1, r) := λ i v r h => by
  have h1 := congrArg (λ l => l[i]?) hll
  simp only [List.getElem?_map, h, Option.map_some] at h1
  obtain ⟨⟨v1, r1⟩, h2, h3⟩ := Option.map_eq_some_iff.1 h1.symm
  simp only at h3
  subst h3
  exact ⟨v1, h2⟩
 have in0 := n0.oneCell
 have in1 := n1.oneCell
 have iu0 := u0.oneCell
 have iu1 := u1.oneCell
 have il0 := l0.oneCell
 have il1 := l1.oneCell
 have len0 := n0.le
 have leu0 := u0.le
 have lel0 := l0.le
 obtain ⟨os, oi, rl⟩ := k0
 refine Spec.body Tryz.func50 rfl Tryz.results50 Tryz.ntmps50 rfl ?_
 refine .sr ?_
 refine .boxA rfl (λ b2 => ?_)
 refine .boxA rfl (λ b3 => ?_)
 refine .ag rfl<|.zs<|.sr<|.fa rfl<|.q (.loadT rfl) ?_
 refine .fa rfl<|.q (.loadT rfl) ?_
 refine .q (.cast (.neA (xs := [.string os, .string oi]) (ys := [.string os, .string oi]) rfl rfl (Ty.kinds ⟨os, oi⟩) (Ty.kinds ⟨os, oi⟩)) (show _ = Value.bool false by rw [Ref.eqv]; simp)) ?_
 refine .mo rfl ?_
 refine .split (t := 14) rfl (λ g1_5 => ?_) (λ g1_5 => ?_)
 ·cases g1_5
 refine .gT g1_5<|.fa rfl<|.gT g1_5<|.lo rfl<|.gT g1_5<|.fa rfl<|.gT g1_5<|.lo rfl<|.gT g1_5<|.q .neS<|.q (.pickFh g1_5) ?_
 refine .mo rfl ?_
 refine .split (t := 21) rfl (λ g1_12 => ?_) (λ g1_12 => ?_)
 ·simp at g1_12
 refine .gT g1_12<|.fa rfl<|.gT g1_12<|.lo rfl<|.gT g1_12<|.fa rfl<|.gT g1_12<|.lo rfl<|.gT g1_12<|.q .neB<|.q (.pickFh g1_12) ?_
 refine .mo rfl ?_
 refine .split (t := 28) rfl (λ g1_19 => ?_) (λ g1_19 => ?_)
 ·simp at g1_19
 refine .gT g1_19<|.fa rfl<|.gT g1_19<|.lo rfl<|.gT g1_19<|.fa rfl<|.gT g1_19<|.lo rfl<|.gT g1_19<|.q .neI<|.q (.pickFh g1_19) ?_
 refine .mo rfl ?_
 refine .split (t := 35) rfl (λ g1_26 => ?_) (λ g1_26 => ?_)
 ·simp at g1_26
 refine .gT g1_26<|.fa rfl<|.gT g1_26<|.lo rfl<|.gT g1_26<|.q (.lenR n0) ?_
 refine .gT g1_26<|.fa rfl<|.gT g1_26<|.lo rfl<|.gT g1_26<|.q (.lenR n1) ?_
 refine .gT g1_26<|.q .neI<|.q (.pickFh g1_26) ?_
 refine .mo rfl ?_
 refine .split (t := 44) rfl (λ g1_35 => ?_) (λ g1_35 => ?_)
 ·simp at g1_35
 refine .gT g1_35<|.fa rfl<|.gT g1_35<|.lo rfl<|.gT g1_35<|.q (.lenR u0) ?_
 refine .gT g1_35<|.fa rfl<|.gT g1_35<|.lo rfl<|.gT g1_35<|.q (.lenR u1) ?_
 refine .gT g1_35<|.q .neI<|.q (.pickFh g1_35) ?_
 refine .mo rfl ?_
 refine .split (t := 53) rfl (λ g1_44 => ?_) (λ g1_44 => ?_)
 ·simp at g1_44
 refine .gT g1_44<|.fa rfl<|.gT g1_44<|.lo rfl<|.gT g1_44<|.q (.lenR l0) ?_
 refine .gT g1_44<|.fa rfl<|.gT g1_44<|.lo rfl<|.gT g1_44<|.q (.lenR l1) ?_
 rw [hln]
 refine .gT g1_44<|.q .neI<|.q (.pickFh g1_44) ?_
 refine .zn ?_
 refine .cond rfl (λ h1 => ?_) λ h1 => ?_
 ·simp at h1
 refine .kn<|.seq<|.sr<|.az rfl<|.block ?_
 refine .loopS [(2, _), (3, _)] (X := Nat) (λ i => i <= nds.length) (λ i E => (5, iN i) :: E) (λ _ G => G) (λ i => nds.length - i) 0 (Nat.zero_le _) kE.c.c.c rH ?_
 rintro i hi
 refine .seq<|.sr<|.mo rfl<|.fa rfl<|.lo rfl<|.q (.lenR n0) ?_
 refine .q .lss<|.zn ?_
 refine .cond rfl (λ h2 => ?_) λ h2 => ?_
 have hlt : i < nds.length := lt_i h2
 obtain ⟨n, hn⟩ := exg hlt
 refine .kn<|.seq<|.block<|.seq ?_
 refine .region_still mixed (by kernel_rfl) ?_
 refine .fa rfl<|.lo rfl<|.mo rfl ?_
 refine .indexR i n0 hn (λ p72 => ?_)
 refine .q (.loadA rfl)<|.fa rfl<|.lo rfl<|.mo rfl ?_
 refine .indexR i n1 hn (λ p77 => ?_)
 refine .q (.loadA rfl) ?_
 refine .q (.cast (.neA (xs := n.enc) (ys := n.enc) rfl rfl n.hasK n.hasK) (show _ = Value.bool false by rw [Nd.same]; rfl)) ?_
 refine .zn<|.condF<|.skip<|blkQ_n<|seqQ_n<|.region<|.mo rfl ?_
 refine .ia (i + 1) .add ?_
 refine .ag rfl<|.nil ?_
 ·exact loopQ_i (i + 1) hlt (by omega) kE.c.c.c rH
 refine .exit<|seqQ_x<|loopQ_x<|blkQ_x<|seqQ_n<|.seq<|.sr<|.az rfl<|.block ?_
 refine .loopS [(2, _), (3, _)] (X := Nat) (λ i => i <= us0.length) (λ i E => (6, iN i) :: E) (λ _ G => G) (λ i => us0.length - i) 0 (Nat.zero_le _) kE.c.c.c rH ?_
 rintro j hj
 refine .seq<|.sr<|.mo rfl<|.fa rfl<|.lo rfl<|.q (.lenR u0) ?_
 refine .q .lss<|.zn ?_
 refine .cond rfl (λ h4 => ?_) λ h4 => ?_
 have hjt : j < us0.length := lt_i h4
 obtain ⟨s, hs⟩ := exg hjt
 refine .kn<|.seq<|.block<|.seq ?_
 refine .region_still mixed (by kernel_rfl) ?_
 refine .fa rfl<|.lo rfl<|.mo rfl ?_
 refine .indexR j u0 hs (λ p90 => ?_)
 refine .lo rfl<|.fa rfl<|.lo rfl<|.mo rfl ?_
 refine .indexR j u1 hs (λ p95 => ?_)
 refine .lo rfl<|.q .neS<|.zn ?_
 refine .cond rfl (λ h5 => ?_) λ h5 => ?_
 ·simp at h5
 refine .skip<|blkQ_n<|seqQ_n<|.region<|.mo rfl ?_
 refine .ia (j + 1) .add ?_
 refine .ag rfl<|.nil ?_
 ·exact loopQ_i (j + 1) hjt (by omega) kE.c.c.c rH
 refine .exit<|seqQ_x<|loopQ_x<|blkQ_x<|seqQ_n<|.seq<|.sr<|.az rfl<|.block ?_
 refine .loopS [(2, _), (3, _)] (X := Nat) (λ i => i <= ll.length) (λ i E => (7, iN i) :: E) (λ _ G => G) (λ i => ll.length - i) 0 (Nat.zero_le _) kE.c.c.c rH ?_
 rintro m hm
 refine .seq<|.sr<|.mo rfl<|.fa rfl<|.lo rfl<|.q (.lenR l0) ?_
 refine .q .lss<|.zn ?_
 refine .cond rfl (λ h6 => ?_) λ h6 => ?_
 have hmt : m < ll.length := lt_i h6
 obtain ⟨⟨v0, row⟩, hr0⟩ := exg hmt
 obtain ⟨v1, hr1⟩ := hrow m v0 row hr0
 have r0 : RS R 1 encNt v0 row := a0 _ (mog hr0)
 have r1 : RS R 1 encNt v1 row := a1 _ (mog hr1)
 have ir0 := r0.oneCell
 have ir1 := r1.oneCell
 have ler0 := r0.le
 refine .kn<|.seq<|.block<|.seq<|.seq ?_
 refine .region_still mixed (by kernel_rfl) ?_
 refine .fa rfl<|.lo rfl<|.mo rfl ?_
 refine .indexR m l0 hr0 (λ p108 => ?_)
 refine .lo rfl<|.q (.lenR r0) ?_
 refine .fa rfl<|.lo rfl<|.mo rfl ?_
 refine .indexR m l1 hr1 (λ p114 => ?_)
 refine .lo rfl<|.q (.lenR r1) ?_
 refine .q .neI<|.zn ?_
 refine .cond rfl (λ h7 => ?_) λ h7 => ?_
 ·simp at h7
 refine .kn<|.sr<|.az rfl<|.block ?_
 refine .loopS [(2, _), (3, _), (7, _)] (X := Nat) (λ i => i <= row.length) (λ i E => (8, iN i) :: E) (λ _ G => G) (λ i => row.length - i) 0 (Nat.zero_le _) kE.c.c.c.c rH ?_
 rintro z hz
 refine .seq<|.sr<|.mo rfl<|.fa rfl<|.lo rfl<|.mo rfl ?_
 refine .indexR m l0 hr0 (λ p122 => ?_)
 refine .lo rfl<|.q (.lenR r0) ?_
 refine .q .lss<|.zn ?_
 refine .cond rfl (λ h8 => ?_) λ h8 => ?_
 have hzt : z < row.length := lt_i h8
 obtain ⟨x, hx⟩ := exg hzt
 refine .kn<|.seq<|.block<|.seq ?_
 refine .region_still mixed (by kernel_rfl) ?_
 refine .fa rfl<|.lo rfl<|.mo rfl ?_
 refine .indexR m l0 hr0 (λ p131 => ?_)
 refine .lo rfl<|.mo rfl ?_
 refine .indexR z r0 hx (λ p134 => ?_)
 refine .lo rfl<|.fa rfl<|.lo rfl<|.mo rfl ?_
 refine .indexR m l1 hr1 (λ p139 => ?_)
 refine .lo rfl<|.mo rfl ?_
 refine .indexR z r1 hx (λ p142 => ?_)
 refine .lo rfl<|.q .neI<|.zn ?_
 refine .cond rfl (λ h9 => ?_) λ h9 => ?_
 ·simp at h9
 refine .skip<|blkQ_n<|seqQ_n<|.region<|.mo rfl ?_
 refine .ia (z + 1) .add ?_
 refine .ag rfl<|.nil ?_
 ·exact loopQ_i (z + 1) hzt (by omega) kE.c.c.c.c rH
 refine .exit<|seqQ_x<|loopQ_x<|blkQ_x<|blkQ_n<|seqQ_n<|.region<|.mo rfl ?_
 refine .ia (m + 1) .add ?_
 refine .ag rfl<|.nil ?_
 ·exact loopQ_i (m + 1) hmt (by omega) kE.c.c.c rH
 refine .exit<|seqQ_x<|loopQ_x<|blkQ_x<|seqQ_n<|.sr<|.az rfl ?_
 refine .ret (retQ_r _ (.one (.tmp rfl)) (HLe.none _) ?_)
 ·exact ⟨rfl, rfl⟩
def withinI (n a b : Int) : Int := if n < a then a else if b < n then b else n
theorem rwithin_spec (n a b : Int) (R : Rds) : Spec prog 52 [.int .i64 n, .int .i64 a, .int .i64 b] R [] λ u H' => u = .int .i64 (withinI n a b) /\ H' = [] := by
 have hd : withinI n a b = if n < a then a else if b < n then b else n := rfl
 generalize withinI n a b = w at *
 refine Spec.body Tryz.func52 rfl Tryz.results52 Tryz.ntmps52 rfl ?_
 refine .sr<|.ag rfl<|.zs<|.sr<|.mo rfl<|.mo rfl<|.q .lss<|.zn ?_
 refine .cond rfl (λ h1 => ?_) λ h1 => ?_
 rw [if_pos (odt h1)] at hd
 subst hd
 refine .sr<|.mo rfl<|.az rfl ?_
 refine .ret (seqQ_r (rq1 rfl ?_))
 ·exact ⟨rfl, rfl⟩
 rw [if_neg (odf h1)] at hd
 refine .kn<|.seq<|.sr<|.mo rfl<|.mo rfl<|.q .gtr<|.zn ?_
 refine .cond rfl (λ h2 => ?_) λ h2 => ?_
 rw [if_pos (odt h2)] at hd
 subst hd
 refine .sr<|.mo rfl<|.az rfl ?_
 refine .ret (seqQ_r (rq1 rfl ?_))
 ·exact ⟨rfl, rfl⟩
 rw [if_neg (odf h2)] at hd
 subst hd
 refine .kn<|.sr<|.mo rfl<|.az rfl ?_
 refine .ret (rq1 rfl ?_)
 ·exact ⟨rfl, rfl⟩
theorem rx3 {R : Rds} {H : Segs} {A B : Seg} (h : ∀ p : Blk, p ∈ A \/ p ∈ B -> p ∈ H.flatten) {b : Nat} {o : Obj} (hb : (R b o \/ (b, o) ∈ A) \/ (b, o) ∈ B) : Rx R H b o := by
 rcases hb with (hb | hb) | hb
 ·exact .inl hb
 ·exact .inr (h _ (.inl hb))
 ·exact .inr (h _ (.inr hb))
section
variable {R : Rds} {cp : Cf} {c : CfM} {hb g x : Nat} {S : Sto} {num : List Nat} {L : List SRow}
theorem WS.scan (h : WS R cp c hb g x S num L) : Go.Proofs.YtenilfmlfldogaaGreat.scan S S.head = true := by
 unfold Go.Proofs.YtenilfmlfldogaaGreat.scan
 simp [h.sok.h1]
theorem WS.full (h : WS R cp c hb g x S num L) {k : Obr} {N : Nat} (hN : AtEnd cp num (subW S L S.head) k N) (b : Int) : Go.Proofs.YtenilfmlfldogaaGreat.disc cp num (subW S L S.head) k b (Go.Proofs.YtenilfmlfldogaaGreat.scan S S.head) N = if b < 1 then ([], 0, 2) else if (((opened cp num (subW S L S.head) k N).1.length + (opened cp num (subW S L S.head) k N).2 : Nat) : Int) <= b then ((opened cp num (subW S L S.head) k N).1, (opened cp num (subW S L S.head) k N).2, 0) else ([], 0, 16) := by
 unfold Go.Proofs.YtenilfmlfldogaaGreat.disc
 rw [h.scan]
 rfl
theorem WS.max (h : WS R cp c hb g x S num L) {k : Obr} {N : Nat} (hN : AtEnd cp num (subW S L S.head) k N) : Go.Proofs.YtenilfmlfldogaaGreat.disc cp num (subW S L S.head) k 1048576 (Go.Proofs.YtenilfmlfldogaaGreat.scan S S.head) N = ((opened cp num (subW S L S.head) k N).1, (opened cp num (subW S L S.head) k N).2, 0) := by
 have := h.lim S.head k N hN.2
 rw [h.full hN, if_neg (by omega), if_pos (by omega)]
theorem WS.head0 (h : WS R cp c hb g x S num L) : 0 <= S.head := Int.le_trans h.sok.h0 h.sok.h1
end
theorem reachBudget_spec (w : WoM) (R : Rds) (h : w.is R) (k : Obr) (b : Int) :
  Spec prog 9 [.agg w.enc.toArray, .agg [.string k.os, .string k.oi].toArray, .string k.rel, .int .i64 b] R [] λ v H' => v = .bool true /\ H' = [] := by
 have hmade := made_flat w R h
 have i1 : One w.c.vs := RS.oneCell h.c.ss
 have i2 : One w.c.vc := RS.oneCell h.c.sc
 have i3 := h.rs.oneCell
 have iw : Ones w.enc := ⟨λ u hu => by
  simp only [WoM.enc, List.mem_cons, List.not_mem_nil, or_false] at hu
  rcases hu with rfl | rfl | rfl
  ·exact i1.h
  ·exact i2.h
  ·exact i3.h⟩
 refine Spec.body Tryz.func9 rfl Tryz.results9 Tryz.ntmps9 rfl ?_
 refine .sr ?_
 refine .boxA rfl (λ b4 => ?_)
 refine .boxA rfl (λ b5 => ?_)
 refine .ag rfl<|.z<|.q (.loadA rfl) ?_
 refine .callN (hmade.weaken rxl) (λ u Tw hu => ?_)
 obtain ⟨c, p1, p2, p3, ok, rfl, ip1, ip2, ip3, hc, hcp, hok, hW⟩ := hu
 have ic1 : One c.vs := RS.oneCell hc.ss
 have ic2 : One c.vc := RS.oneCell hc.sc
 have ice : Ones c.enc := ⟨hc.ones⟩
 refine .mo rfl<|.q .extract<|.q .extract<|.q .extract<|.q .extract<|.q .extract ?_
 refine .allocA (λ b11 => ?_)
 refine .ag rfl<|.ag rfl<|.storeA rfl rfl<|.ag rfl<|.ag rfl<|.zs<|.sr<|.mo rfl<|.q .not<|.zn ?_
 refine .cond rfl (λ h1 => ?_) λ h1 => ?_
 refine .sr ?_
 refine .callR (lives20_spec _) (λ u hu => ?_)
 subst hu
 refine .az rfl ?_
 refine .ret (seqQ_r (retQ_r _ (.one (.tmp rfl)) (HLe.none _) ?_))
 ·exact ⟨rfl, rfl⟩
 have hot : ok = true := by simpa using h1
 subst hot
 obtain ⟨hb, g, x, S, num, L, rfl, rfl, rfl, hWS⟩ := hW rfl
 obtain ⟨N, hN⟩ := hWS.fin S.head k
 have hlim := hWS.lim S.head k N hN.2
 have hmx := hWS.max hN
 have hfl := λ b => hWS.full hN b
 have hsp := λ b hb => hWS.disc S.head hWS.head0 k b hb hN
 have hsp1 := hsp 1048576 (by omega)
 rw [hmx] at hsp1
 obtain ⟨vL, hDV⟩ := hWS.d
 have pcx := hDV.pc
 have ivL : One vL := hDV.rs.oneCell
 have hpos := opened_pos (cfFew w.c.plain) num (subW S L S.head) k N
 generalize opened (cfFew w.c.plain) num (subW S L S.head) k N = OP at *
 obtain ⟨op, oe⟩ := OP
 simp only at hlim hmx hfl hsp1 hpos
 refine .kn<|.seq ?_
 refine Tri.cutS [(2, _), (3, _), (5, _), (9, _), (10, _), (12, _)] kE.c.c.c.c.c.c (X := Value × List PlM × Seg × Nat) (λ y => RS (λ b o => (R b o \/ (b, o) ∈ Tw) \/ (b, o) ∈ y.2.2.1) 8 PlM.enc y.1 y.2.1 /\ (∀ p ∈ y.2.1, PlM.is (λ b o => (R b o \/ (b, o) ∈ Tw) \/ (b, o) ∈ y.2.2.1) p) /\ y.2.1.map PlM.plain = op) (λ y E => (14, .pointer (some ⟨y.2.2.2, 0, none⟩)) :: (15, .int .i64 0) :: E) (λ y => [[(y.2.2.2, .cells [y.1, iN oe].toArray 55 (0, 0))], y.2.2.1, bl b11 c.enc 25, Tw, bl b5 [.string k.os, .string k.oi] 30, bl b4 w.enc 28]) ?_ ?_
 refine .region_all [13] mixed ?_
 refine .tO 0 rfl .move<|.tO 1 rfl .move<|.tO 2 rfl .move ?_
 refine .tO 3 rfl (.nilCheckA rfl) ?_
 refine .tO 4 rfl (.fieldAddrA rfl) ?_
 refine .takeO 5 rfl (.load1 (rc := ⟨(pcx.add 1).mono λ b o hb => hb.elim .inl λ hb => .inr (by simp [hb])⟩) rfl) (by kernel_rfl) ?_
 refine .tO 6 rfl (.loadA rfl)<|.tO 7 rfl .move ?_
 refine RA.step2 8 12 rfl rfl (by kernel_rfl) rfl ?_ ?_
 refine .callN ((discN_of hsp1).weaken λ b o hb => hb.elim .inl λ hb => .inr (by simp [hb])) (λ u T40 hu => ?_)
 obtain ⟨vp, ps, rfl, hrs, hall, heq⟩ := hu
 have ivp := hrs.oneCell
 refine .nil (Next.sub ?_)
 refine .tO 9 rfl .move<|.tO 10 rfl .extract<|.tK 11 rfl .extract ?_
 refine .sT 12 rfl ?_
 refine .allocA (λ b14 => ?_)
 refine .nil (Next.sub ?_)
 refine .sT 13 rfl ?_
 refine .storeA rfl rfl ?_
 refine .nil (Next.mod rfl ?_)
 refine .tK 14 rfl .assign ?_
 refine RA.nil (by kernel_rfl) ?_
 ·first
   |exact joinQ_n (vp, ps, T40, b14) ⟨hrs, hall, heq⟩ kE.c.c.c.c.c.c.c.c rH
   |exact joinQ_n (vp, ps, T40, b14) ⟨hrs, hall, heq⟩ kE.c.c.c.c.c.c.c.c (pkH [1, 0, 0, 0, 0, 0])
 refine .allocA (λ b14 => ?_)
 refine .nil (Next.sub ?_)
 refine .sT 8 rfl ?_
 refine .callN ((discN_of hsp1).weaken λ b o hb => hb.elim .inl λ hb => .inr (by simp [hb])) (λ u T40 hu => ?_)
 obtain ⟨vp, ps, rfl, hrs, hall, heq⟩ := hu
 have ivp := hrs.oneCell
 refine .nil (Next.sub ?_)
 refine .tO 9 rfl .move<|.tO 10 rfl .extract<|.tK 11 rfl .extract ?_
 refine .sT 13 rfl ?_
 refine .storeA rfl rfl ?_
 refine .nil (Next.mod rfl ?_)
 refine .tK 14 rfl .assign ?_
 refine RA.nil (by kernel_rfl) ?_
 ·first
   |exact joinQ_n (vp, ps, T40, b14) ⟨hrs, hall, heq⟩ kE.c.c.c.c.c.c.c.c rH
   |exact joinQ_n (vp, ps, T40, b14) ⟨hrs, hall, heq⟩ kE.c.c.c.c.c.c.c.c (pkH [1, 0, 0, 0, 0, 0])
 intro y hy
 obtain ⟨vp, ps, T40, b14⟩ := y
 obtain ⟨hrs, hall, heq⟩ := hy
 simp only at hrs hall heq ⊢
 have ivp := hrs.oneCell
 have hpl : ps.length = op.length := by rw [<- heq, List.length_map]
 refine seqQ_n<|.seq<|.sr<|.mo rfl<|.q .neI<|.zn ?_
 refine .cond rfl (λ h2 => ?_) λ h2 => ?_
 ·simp at h2
 refine .kn<|.sr<|.fa rfl<|.lo rfl<|.q (.lenR hrs) ?_
 refine .fa rfl<|.lo rfl ?_
 refine .ia (op.length + oe) .add ?_
 refine .ag rfl<|.z<|.mo rfl<|.mo rfl ?_
 refine .ia (2 * (op.length + oe)) .mul ?_
 obtain ⟨b', hb'⟩ : ∃ b', b' = withinI b 1 ((2 * (op.length + oe) : Nat) : Int) := ⟨_, rfl⟩
 have hb1 : 1 <= b' /\ b' <= 2 * (op.length + oe) := by
  rw [hb']
  unfold withinI
  split
  ·omega
  ·split <;> omega
 obtain ⟨D, hD⟩ : ∃ D, D = disc (cfFew w.c.plain) num (subW S L S.head) k b' (scan S S.head) N := ⟨_, rfl⟩
 have hsp2 := hsp b' (by omega)
 rw [<- hD] at hsp2
 have hD2 := hD.trans (hfl b')
 rw [if_neg (by omega)] at hD2
 refine .callR (rwithin_spec b 1 _ _) (λ u hu => ?_)
 rw [<- hb'] at hu
 subst hu
 refine .ag rfl<|.zs ?_
 refine Tri.cutS [(3, _), (14, _), (16, _)] kE.c.c.c (X := Value × List PlM × Seg × Nat) (λ y => RS (λ b o => (R b o \/ (b, o) ∈ Tw) \/ (b, o) ∈ y.2.2.1) 8 PlM.enc y.1 y.2.1 /\ (∀ p ∈ y.2.1, PlM.is (λ b o => (R b o \/ (b, o) ∈ Tw) \/ (b, o) ∈ y.2.2.1) p) /\ y.2.1.map PlM.plain = D.1) (λ y E => (17, .pointer (some ⟨y.2.2.2, 0, none⟩)) :: (18, .int .i64 D.2.2) :: E) (λ y => [[(y.2.2.2, .cells [y.1, iN D.2.1].toArray 55 (0, 0))], y.2.2.1, bl b14 [vp, iN oe] 55, T40, bl b11 c.enc 25, Tw, bl b5 [.string k.os, .string k.oi] 30, bl b4 w.enc 28]) ?_ ?_
 refine .region_all [14] mixed ?_
 refine .tO 0 rfl .move<|.tO 1 rfl .move<|.tO 2 rfl .move ?_
 refine .tO 3 rfl (.nilCheckA rfl) ?_
 refine .tO 4 rfl (.fieldAddrA rfl) ?_
 refine .takeO 5 rfl (.load1 (rc := ⟨(pcx.add 1).mono λ b o hb => hb.elim .inl λ hb => .inr (by simp [hb])⟩) rfl) (by kernel_rfl) ?_
 refine .tO 6 rfl (.loadA rfl)<|.tO 7 rfl .move<|.tO 8 rfl .move ?_
 refine RA.step2 9 13 rfl rfl (by kernel_rfl) rfl ?_ ?_
 refine .callN ((discN_of hsp2).weaken λ b o hb => hb.elim .inl λ hb => .inr (by simp [hb])) (λ u T50 hu => ?_)
 obtain ⟨vq, qs, rfl, hrs2, hall2, heq2⟩ := hu
 have ivq := hrs2.oneCell
 refine .nil (Next.sub ?_)
 refine .tO 10 rfl .move<|.tO 11 rfl .extract<|.tK 12 rfl .extract ?_
 refine .sT 13 rfl ?_
 refine .allocA (λ b17 => ?_)
 refine .nil (Next.sub ?_)
 refine .sT 14 rfl ?_
 refine .storeA rfl rfl ?_
 refine .nil (Next.mod rfl ?_)
 refine .tK 15 rfl .assign ?_
 refine RA.nil (by kernel_rfl) ?_
 ·first
   |exact joinQ_n (vq, qs, T50, b17) ⟨hrs2, hall2, heq2⟩ kE.c.c.c.c.c rH
   |exact joinQ_n (vq, qs, T50, b17) ⟨hrs2, hall2, heq2⟩ kE.c.c.c.c.c (pkH [1, 0, 0, 0, 0, 0, 0, 0])
 refine .allocA (λ b17 => ?_)
 refine .nil (Next.sub ?_)
 refine .sT 9 rfl ?_
 refine .callN ((discN_of hsp2).weaken λ b o hb => hb.elim .inl λ hb => .inr (by simp [hb])) (λ u T50 hu => ?_)
 obtain ⟨vq, qs, rfl, hrs2, hall2, heq2⟩ := hu
 have ivq := hrs2.oneCell
 refine .nil (Next.sub ?_)
 refine .tO 10 rfl .move<|.tO 11 rfl .extract<|.tK 12 rfl .extract ?_
 refine .sT 14 rfl ?_
 refine .storeA rfl rfl ?_
 refine .nil (Next.mod rfl ?_)
 refine .tK 15 rfl .assign ?_
 refine RA.nil (by kernel_rfl) ?_
 ·first
   |exact joinQ_n (vq, qs, T50, b17) ⟨hrs2, hall2, heq2⟩ kE.c.c.c.c.c rH
   |exact joinQ_n (vq, qs, T50, b17) ⟨hrs2, hall2, heq2⟩ kE.c.c.c.c.c (pkH [1, 0, 0, 0, 0, 0, 0, 0])
 intro y hy
 obtain ⟨vq, qs, T50, b17⟩ := y
 obtain ⟨hrs2, hall2, heq2⟩ := hy
 simp only at hrs2 hall2 heq2 ⊢
 have ivq := hrs2.oneCell
 have hql : qs.length = D.1.length := by rw [<- heq2, List.length_map]
 have hlq := hrs2.le
 have hlp := hrs.le
 refine seqQ_n<|.seq<|.sr<|.mo rfl<|.mo rfl<|.q .lss<|.zn ?_
 refine .cond rfl (λ h3 => ?_) λ h3 => ?_
 have hlt := odt h3
 rw [if_neg (by omega)] at hD2
 rw [hD2] at hql ⊢
 simp only [List.length_nil] at hql ⊢
 refine .sr<|.mo rfl<|.q .eqI<|.mo rfl ?_
 refine .split (t := 73) rfl (λ g11_2 => ?_) (λ g11_2 => ?_)
 refine .gT g11_2<|.fa rfl<|.gT g11_2<|.lo rfl<|.gT g11_2<|.q (.lenR hrs2) ?_
 refine .gT g11_2<|.q .eqI<|.q (.pickTh g11_2) ?_
 refine .mo rfl ?_
 refine .split (t := 79) rfl (λ g11_8 => ?_) (λ g11_8 => ?_)
 refine .gT g11_8<|.fa rfl<|.gT g11_8<|.lo rfl<|.gT g11_8<|.q .eqI<|.q (.pickTh g11_8) ?_
 refine .mo rfl ?_
 refine .split (t := 84) rfl (λ g11_13 => ?_) (λ g11_13 => ?_)
 refine .gT g11_13 ?_
 refine .callR (lives20_spec _) (λ u hu => ?_)
 subst hu
 refine .q (.pickTh g11_13) ?_
 refine .az rfl ?_
 refine .ret (seqQ_r (retQ_r _ (.one (.tmp rfl)) (HLe.none _) ?_))
 ·exact ⟨rfl, rfl⟩
 ·simp at g11_13
 ·simp [hql] at g11_8
 ·simp at g11_2
 have hge := odf h3
 rw [if_pos (by omega)] at hD2
 rw [hD2] at heq2 hql ⊢
 simp only at heq2 hql ⊢
 have hpq : ∀ (i : Nat) (p q : PlM), ps[i]? = some p -> qs[i]? = some q -> p.plain = q.plain := λ i p q hp hq => by
  have h1 := congrArg (λ l => l[i]?) (heq.trans heq2.symm)
  simp only [List.getElem?_map, hp, hq, Option.map_some, Option.some.injEq] at h1
  exact h1
 refine .kn<|.seq<|.sr<|.mo rfl<|.q .neI<|.mo rfl ?_
 refine .split (t := 89) rfl (λ g12_2 => ?_) (λ g12_2 => ?_)
 ·simp at g12_2
 refine .gT g12_2<|.fa rfl<|.gT g12_2<|.lo rfl<|.gT g12_2<|.q (.lenR hrs2) ?_
 refine .gT g12_2<|.fa rfl<|.gT g12_2<|.lo rfl<|.gT g12_2<|.q (.lenR hrs) ?_
 refine .gT g12_2<|.q .neI<|.q (.pickFh g12_2) ?_
 refine .mo rfl ?_
 refine .split (t := 98) rfl (λ g12_11 => ?_) (λ g12_11 => ?_)
 ·rw [hql, hpl] at g12_11; simp at g12_11
 refine .gT g12_11<|.fa rfl<|.gT g12_11<|.lo rfl<|.gT g12_11<|.fa rfl<|.gT g12_11<|.lo rfl<|.gT g12_11<|.q .neI<|.q (.pickFh g12_11) ?_
 refine .zn ?_
 refine .cond rfl (λ h4 => ?_) λ h4 => ?_
 ·simp at h4
 refine .kn<|.seq<|.sr<|.az rfl<|.block ?_
 refine .loopS [(14, _), (17, _)] (X := Nat) (λ i => i <= ps.length) (λ i E => (19, iN i) :: E) (λ _ G => G) (λ i => ps.length - i) 0 (Nat.zero_le _) kE.c.c.c rH ?_
 rintro i hi
 refine .seq<|.sr<|.mo rfl<|.fa rfl<|.lo rfl<|.q (.lenR hrs) ?_
 refine .q .lss<|.zn ?_
 refine .cond rfl (λ h5 => ?_) λ h5 => ?_
 have hlt : i < ps.length := lt_i h5
 obtain ⟨p, hp⟩ := exg hlt
 obtain ⟨q, hq⟩ : ∃ p, qs[i]? = some p := ⟨_, gge (by omega)⟩
 have hpp := hall p (mog hp)
 have hqq := hall2 q (mog hq)
 have hpe := hpq i p q hp hq
 have ip0 : Ones p.enc := ⟨hpp.ones⟩
 have iq0 : Ones q.enc := ⟨hqq.ones⟩
 have pp0 := hrs.pc hp
 have qq0 := hrs2.pc hq
 refine .kn<|.seq<|.block<|.seq<|.region_all [] mixed ?_
 refine .tO 0 rfl (.fieldAddr rfl)<|.tO 1 rfl (.load1 rfl)<|.tO 2 rfl .move ?_
 refine .tO 3 rfl (.indexR i hrs hp rfl rfl rfl) ?_
 refine .takeO 4 rfl (.loadA (rc := ⟨pp0.mono λ b o hb => rx3 (by simp only [List.flatten_cons, List.mem_append]; grind) hb⟩) rfl) (by kernel_rfl) ?_
 refine .tO 6 rfl (.fieldAddr rfl)<|.tO 7 rfl (.load1 rfl)<|.tO 8 rfl .move ?_
 refine .tO 9 rfl (.indexR i hrs2 hq rfl rfl rfl) ?_
 refine .takeO 10 rfl (.loadA (rc := ⟨qq0.mono λ b o hb => rx3 (by simp only [List.flatten_cons, List.mem_append]; grind) hb⟩) rfl) (by kernel_rfl) ?_
 refine .sT 5 rfl ?_
 refine .callR (rplain_spec p _ (hpp.mono λ b o hb => rx3 (by simp only [List.flatten_cons, List.mem_append]; grind) hb)) (λ u hu => ?_)
 subst hu
 refine .nil (Next.sub ?_)
 refine .sT 11 rfl ?_
 refine .callR (rplain_spec q _ (hqq.mono λ b o hb => rx3 (by simp only [List.flatten_cons, List.mem_append]; grind) hb)) (λ u hu => ?_)
 subst hu
 refine .nil (Next.sub ?_)
 refine .sT 12 rfl ?_
 refine .callR (rsame_spec p q _ (hpp.mono λ b o hb => rx3 (by simp only [List.flatten_cons, List.mem_append]; grind) hb) (hqq.mono λ b o hb => rx3 (by simp only [List.flatten_cons, List.mem_append]; grind) hb) hpe) (λ u hu => ?_)
 subst hu
 refine .nil (Next.sub ?_)
 refine .tO 13 rfl .not ?_
 refine RA.nil (by kernel_rfl) ?_
 refine seqQ_n<|.condF<|.skip<|blkQ_n<|seqQ_n<|.region<|.mo rfl ?_
 refine .ia (i + 1) .add ?_
 refine .ag rfl<|.nil ?_
 ·exact loopQ_i (i + 1) hlt (by omega) kE.c.c.c rH
 refine .exit<|seqQ_x<|loopQ_x<|blkQ_x<|seqQ_n<|.sr ?_
 refine .callR (lives20_spec _) (λ u hu => ?_)
 subst hu
 refine .az rfl ?_
 refine .ret (retQ_r _ (.one (.tmp rfl)) (HLe.none _) ?_)
 ·exact ⟨rfl, rfl⟩
structure OnceOK (ps : List PlM) (k : Obr) : Prop where
 first : ∀ p, ps[0]? = some p -> p.k = k
 ln : ∀ p ∈ ps, p.ll.length = p.nodes.length
 nf : ∀ p ∈ ps, p.found = false -> p.ll = [] /\ p.nodes = [] /\ p.users = []
 lt : ∀ p ∈ ps, ∀ q ∈ p.ll, ∀ j ∈ q.2, ∃ y, ps[j]? = some y /\ y.number <= p.number
 nd : ∀ (i j : Nat) (p q : PlM), j < i -> ps[i]? = some p -> ps[j]? = some q -> q.k ≠ p.k
 led : ∀ j, 0 < j -> j < ps.length -> ∃ (i : Nat) (p : PlM), ps[i]? = some p /\ ∃ q ∈ p.ll, j ∈ q.2
 us : ∀ p ∈ ps, p.users.length <= 1000000 /\ p.nodes.length <= 1000000
section
variable {R : Rds} {cp : Cf} {c : CfM} {hb g x : Nat} {S : Sto} {num : List Nat} {L : List SRow}
theorem WS.once (h : WS R cp c hb g x S num L) {rev : Int} {k : Obr} {N : Nat} (hN : AtEnd cp num (subW S L rev) k N) {ps : List PlM} (e : ps.map PlM.plain = (opened cp num (subW S L rev) k N).1) : OnceOK ps k := by
 have hg := hN.gr
 have hok := h.m.ps hN ⟨#[]⟩
 have hlen : (opened cp num (subW S L rev) k N).1.length = ps.length := by rw [<- e, List.length_map]
 have hget : ∀ (i : Nat) (p : PlM), ps[i]? = some p -> (opened cp num (subW S L rev) k N).1[i]? = some p.plain := λ i p hp => by rw [<- e, List.getElem?_map, hp]; rfl
 have hmem : ∀ p ∈ ps, p.plain ∈ (opened cp num (subW S L rev) k N).1 := λ p hp => by rw [<- e]; exact List.mem_map.2 ⟨p, hp, rfl⟩
 have hln : ∀ p ∈ ps, p.ll.length = p.nodes.length := λ p hp => by
  have h1 := hok.ln p.plain (hmem p hp)
  have h2 : p.plain.leads.length = p.ll.length := by unfold PlM.plain; simp
  rw [h2] at h1
  exact h1
 refine ⟨λ p hp => ?_, hln, λ p hp hf => ?_, λ p hp q hq j hj => ?_, λ i j p q hji hp hq e2 => ?_, λ j h0 hj => ?_, λ p hp => ?_⟩
 ·have h1 := opened_first (c := cp) (num := num) (sub := subW S L rev) (k := k) N
  rw [List.getElem?_map, hget 0 p hp] at h1
  exact Option.some.inj h1
 ·have h1 : p.plain.leads = [] := hok.nf p.plain (hmem p hp) hf
  have h2 : p.ll = [] := by
   have : p.ll.map (·.2) = [] := h1
   simpa using this
  have h3 := hln p hp
  rw [h2] at h3
  obtain ⟨i, hi, e9⟩ := List.mem_iff_getElem.1 hp
  have h4 := (hg.op i p.plain (by omega) (hget i p (by rw [gge hi, e9]))).2
  refine ⟨h2, List.eq_nil_of_length_eq_zero (by simpa using h3.symm), ?_⟩
  have h5 : p.plain.found = false := hf
  rw [h5] at h4
  exact h4
 ·have hjl := hok.lt p.plain (hmem p hp) j (List.mem_flatten.2 ⟨q.2, List.mem_map.2 ⟨q, hq, rfl⟩, hj⟩)
  obtain ⟨y, hy⟩ : ∃ y, ps[j]? = some y := ⟨_, gge (by omega)⟩
  refine ⟨y, hy, ?_⟩
  obtain ⟨i, hi, e9⟩ := List.mem_iff_getElem.1 hp
  have hpi := hget i p (by rw [gge hi, e9])
  have hto : (netOf (opened cp num (subW S L rev) k N).1 ⟨#[]⟩).to i j := by
   rw [<- hok.back, mem_backs]
   exact ⟨p.plain, hpi, List.mem_flatten.2 ⟨q.2, List.mem_map.2 ⟨q, hq, rfl⟩, hj⟩⟩
  have hf : (netOf (opened cp num (subW S L rev) k N).1 ⟨#[]⟩).f i = true := (hok.back_found (hok.back.2 hto)).2
  have h1 := hok.ok.dn i (by show i < (opened cp num (subW S L rev) k N).1.length; omega) hf j hto
  have n1 : (netOf (opened cp num (subW S L rev) k N).1 ⟨#[]⟩).num i = p.number := by
   show (((opened cp num (subW S L rev) k N).1[i]?).map (·.number)).getD 0 = _
   rw [hpi]; rfl
  have n2 : (netOf (opened cp num (subW S L rev) k N).1 ⟨#[]⟩).num j = y.number := by
   show (((opened cp num (subW S L rev) k N).1[j]?).map (·.number)).getD 0 = _
   rw [hget j y hy]; rfl
  omega
 ·have hpi : PI cp num (λ _ => True) (opened cp num (subW S L rev) k N).1 := opened_PI (λ _ _ _ _ _ _ => trivial) trivial N
  have h1 := hpi.nd
  rw [<- e, List.map_map] at h1
  have h2 := List.pairwise_iff_getElem.1 h1 j i (by have := (List.getElem?_eq_some_iff.1 hq).1; simpa using this) (by have := (List.getElem?_eq_some_iff.1 hp).1; simpa using this) hji
  have e3 : ps[i]'((List.getElem?_eq_some_iff.1 hp).1) = p := (List.getElem?_eq_some_iff.1 hp).2
  have e4 : ps[j]'((List.getElem?_eq_some_iff.1 hq).1) = q := (List.getElem?_eq_some_iff.1 hq).2
  simp only [List.getElem_map, Function.comp_apply, e3, e4] at h2
  exact h2 e2
 ·obtain ⟨i, y, _, hy, hj2⟩ := opened_led N hN.2 j h0 (by omega)
  rw [<- e, List.getElem?_map] at hy
  obtain ⟨p, hp, rfl⟩ := Option.map_eq_some_iff.1 hy
  obtain ⟨l, hl, hj3⟩ := List.mem_flatten.1 hj2
  obtain ⟨q, hq, rfl⟩ := List.mem_map.1 hl
  exact ⟨i, p, hp, q, hq, hj3⟩
 ·obtain ⟨i, hi, e9⟩ := List.mem_iff_getElem.1 hp
  have h3 : p.users = if p.found then usersOf cp (subW S L rev) p.k else [] := (hg.op i p.plain (by omega) (hget i p (by rw [gge hi, e9]))).2
  refine ⟨?_, ?_⟩
  ·rw [h3]
   split
   ·unfold usersOf
    rw [List.length_map]
    have := Nat.le_trans (List.length_filter_le (λ s : Sub => !decide (s.us = ⟨#[]⟩)) _) (h.sets_le rev p.k)
    omega
   ·simp
  ·have := one_len (num := num) (k := p.k) h.m.right
   have h4 : p.nodes = (one cp num p.k).nodes := (hg.one p.plain (hmem p hp)).2.1
   rw [h4]; omega
end
theorem reachOnce_spec (w : WoM) (R : Rds) (h : w.is R) (k : Obr) :
    Spec prog 8 [.agg w.enc.toArray, .agg [.string k.os, .string k.oi].toArray, .string k.rel] R [] λ v H' => v = .bool true /\ H' = [] := by
  have hmade := made_flat w R h
  have i1 : One w.c.vs := RS.oneCell h.c.ss
  have i2 : One w.c.vc := RS.oneCell h.c.sc
  have i3 := h.rs.oneCell
  have iw : Ones w.enc := ⟨λ u hu => by
    simp only [WoM.enc, List.mem_cons, List.not_mem_nil, or_false] at hu
    rcases hu with rfl | rfl | rfl
    · exact i1.h
    · exact i2.h
    · exact i3.h⟩
  refine Spec.body Tryz.func8 rfl Tryz.results8 Tryz.ntmps8 rfl ?_
  refine .sr ?_
  refine .boxA rfl (λ b3 => ?_)
  refine .boxA rfl (λ b4 => ?_)
  refine .ag rfl<|.z<|.q (.loadA rfl) ?_
  refine .callN (hmade.weaken rxl) (λ u Tw hu => ?_)
  obtain ⟨c, p1, p2, p3, ok, rfl, ip1, ip2, ip3, hc, hcp, hok, hW⟩ := hu
  have ic1 : One c.vs := RS.oneCell hc.ss
  have ic2 : One c.vc := RS.oneCell hc.sc
  have ice : Ones c.enc := ⟨hc.ones⟩
  refine .mo rfl<|.q .extract<|.q .extract<|.q .extract<|.q .extract<|.q .extract ?_
  refine .allocA (λ b9 => ?_)
  refine .ag rfl<|.ag rfl<|.storeA rfl rfl<|.ag rfl<|.ag rfl<|.zs<|.sr<|.mo rfl<|.q .not<|.zn ?_
  refine .cond rfl (λ h1 => ?_) λ h1 => ?_
  refine .sr ?_
  refine .callR (lives20_spec _) (λ u hu => ?_)
  subst hu
  refine .az rfl ?_
  refine .ret (seqQ_r (retQ_r _ (.one (.tmp rfl)) (HLe.none _) ?_))
  · exact ⟨rfl, rfl⟩
  have hot : ok = true := by simpa using h1
  subst hot
  obtain ⟨hb, g, x, S, num, L, rfl, rfl, rfl, hWS⟩ := hW rfl
  obtain ⟨N, hN⟩ := hWS.fin S.head k
  have hlim := hWS.lim S.head k N hN.2
  have hmx := hWS.max hN
  have hsp1 := hWS.disc S.head hWS.head0 k 1048576 (by omega) hN
  rw [hmx] at hsp1
  obtain ⟨vL, hDV⟩ := hWS.d
  have pcx := hDV.pc
  have ivL : One vL := hDV.rs.oneCell
  have honce := λ (ps : List PlM) e => hWS.once hN (ps := ps) e
  have hpos := opened_pos (cfFew w.c.plain) num (subW S L S.head) k N
  generalize opened (cfFew w.c.plain) num (subW S L S.head) k N = OP at *
  obtain ⟨op, oe⟩ := OP
  simp only at hlim hmx hsp1 honce hpos
  refine .kn<|.seq ?_
  refine Tri.cutS [(2, _), (4, _)] kE.c.c (X := Value × List PlM × Seg × Nat) (λ y => RS (λ b o => (R b o \/ (b, o) ∈ Tw) \/ (b, o) ∈ y.2.2.1) 8 PlM.enc y.1 y.2.1 /\ (∀ p ∈ y.2.1, PlM.is (λ b o => (R b o \/ (b, o) ∈ Tw) \/ (b, o) ∈ y.2.2.1) p) /\ y.2.1.map PlM.plain = op) (λ y E => (12, .pointer (some ⟨y.2.2.2, 0, none⟩)) :: (13, .int .i64 0) :: E) (λ y => [[(y.2.2.2, .cells [y.1, iN oe].toArray 55 (0, 0))], y.2.2.1, bl b9 c.enc 25, Tw, bl b4 [.string k.os, .string k.oi] 30, bl b3 w.enc 28]) ?_ ?_
  refine .region_all [13] mixed ?_
  refine .tO 0 rfl .move<|.tO 1 rfl .move<|.tO 2 rfl .move ?_
  refine .tO 3 rfl (.nilCheckA rfl) ?_
  refine .tO 4 rfl (.fieldAddrA rfl) ?_
  refine .takeO 5 rfl (.load1 (rc := ⟨(pcx.add 1).mono λ b o hb => hb.elim .inl λ hb => .inr (by simp [hb])⟩) rfl) (by kernel_rfl) ?_
  refine .tO 6 rfl (.loadA rfl)<|.tO 7 rfl .move ?_
  refine RA.step2 8 12 rfl rfl (by kernel_rfl) rfl ?_ ?_
  refine .callN ((discN_of hsp1).weaken λ b o hb => hb.elim .inl λ hb => .inr (by simp [hb])) (λ u T40 hu => ?_)
  obtain ⟨vp, ps, rfl, hrs, hall, heq⟩ := hu
  have ivp := hrs.oneCell
  refine .nil (Next.sub ?_)
  refine .tO 9 rfl .move<|.tO 10 rfl .extract<|.tK 11 rfl .extract ?_
  refine .sT 12 rfl ?_
  refine .allocA (λ b12 => ?_)
  refine .nil (Next.sub ?_)
  refine .sT 13 rfl ?_
  refine .storeA rfl rfl ?_
  refine .nil (Next.mod rfl ?_)
  refine .tK 14 rfl .assign ?_
  refine RA.nil (by kernel_rfl) ?_
  · first
      | exact joinQ_n (vp, ps, T40, b12) ⟨hrs, hall, heq⟩ kE.c.c.c.c rH
      | exact joinQ_n (vp, ps, T40, b12) ⟨hrs, hall, heq⟩ kE.c.c.c.c (pkH [1, 0, 0, 0, 0, 0])
  refine .allocA (λ b12 => ?_)
  refine .nil (Next.sub ?_)
  refine .sT 8 rfl ?_
  refine .callN ((discN_of hsp1).weaken λ b o hb => hb.elim .inl λ hb => .inr (by simp [hb])) (λ u T40 hu => ?_)
  obtain ⟨vp, ps, rfl, hrs, hall, heq⟩ := hu
  have ivp := hrs.oneCell
  refine .nil (Next.sub ?_)
  refine .tO 9 rfl .move<|.tO 10 rfl .extract<|.tK 11 rfl .extract ?_
  refine .sT 13 rfl ?_
  refine .storeA rfl rfl ?_
  refine .nil (Next.mod rfl ?_)
  refine .tK 14 rfl .assign ?_
  refine RA.nil (by kernel_rfl) ?_
  · first
      | exact joinQ_n (vp, ps, T40, b12) ⟨hrs, hall, heq⟩ kE.c.c.c.c rH
      | exact joinQ_n (vp, ps, T40, b12) ⟨hrs, hall, heq⟩ kE.c.c.c.c (pkH [1, 0, 0, 0, 0, 0])
  intro y hy
  obtain ⟨vp, ps, T40, b12⟩ := y
  obtain ⟨hrs, hall, heq⟩ := hy
  simp only at hrs hall heq ⊢
  have ivp := hrs.oneCell
  have hO := honce ps heq
  have hpl : ps.length = op.length := by rw [<- heq, List.length_map]
  have hle := hrs.le
  have hlt0 : 0 < ps.length := by omega
  obtain ⟨pz, hpz⟩ := exg hlt0
  have hpzk := hO.first pz hpz
  have ppz := hrs.pc hpz
  have ipz : Ones pz.enc := ⟨(hall pz (mog hpz)).ones⟩
  obtain ⟨kz, foz, vnz, ndz, vuz, usz, vlz, llz, nmz⟩ := pz
  simp only at hpzk
  subst hpzk
  obtain ⟨ko, ki, kr⟩ := kz
  refine seqQ_n<|.seq<|.seq ?_
  refine .region_still mixed (by kernel_rfl) ?_
  refine .mo rfl<|.q .neI<|.mo rfl ?_
  refine .split (t := 47) rfl (λ g5_2 => ?_) (λ g5_2 => ?_)
  · simp at g5_2
  refine .gT g5_2<|.fa rfl<|.gT g5_2<|.lo rfl<|.gT g5_2<|.q (.lenR hrs) ?_
  refine .gT g5_2<|.q .eqI<|.q (.pickFh g5_2) ?_
  refine .mo rfl ?_
  refine .split (t := 53) rfl (λ g5_8 => ?_) (λ g5_8 => ?_)
  · have := odt g5_8; omega
  refine .gT g5_8<|.fa rfl<|.gT g5_8<|.lo rfl<|.gT g5_8<|.q (.indexR 0 hrs hpz rfl rfl rfl) ?_
  refine .gT g5_8 ?_
  refine .q (.fieldAddr (rc := ⟨ppz.mono λ b o hb => rx3 (by simp only [List.flatten_cons, List.mem_append]; grind) hb⟩) rfl) ?_
  refine .gT g5_8 ?_
  refine .q (.loadT (rc := ⟨(ppz.add 0).mono λ b o hb => rx3 (by simp only [List.flatten_cons, List.mem_append]; grind) hb⟩) rfl) ?_
  refine .gT g5_8<|.q (.loadA rfl)<|.gT g5_8 ?_
  refine .q (.cast (.neA (xs := [.string ko, .string ki]) (ys := [.string ko, .string ki]) rfl rfl (Ty.kinds ⟨ko, ki⟩) (Ty.kinds ⟨ko, ki⟩)) (show _ = Value.bool false by rw [Ref.eqv]; simp)) ?_
  refine .q (.pickFh g5_8) ?_
  refine .mo rfl ?_
  refine .split (t := 62) rfl (λ g5_17 => ?_) (λ g5_17 => ?_)
  · cases g5_17
  refine .gT g5_17<|.fa rfl<|.gT g5_17<|.lo rfl<|.gT g5_17<|.q (.indexR 0 hrs hpz rfl rfl rfl) ?_
  refine .gT g5_17 ?_
  refine .q (.fieldAddr (rc := ⟨ppz.mono λ b o hb => rx3 (by simp only [List.flatten_cons, List.mem_append]; grind) hb⟩) rfl) ?_
  refine .gT g5_17 ?_
  refine .q (.load1 (rc := ⟨(ppz.add 2).mono λ b o hb => rx3 (by simp only [List.flatten_cons, List.mem_append]; grind) hb⟩) rfl) ?_
  refine .gT g5_17<|.mo rfl<|.gT g5_17<|.q .neS<|.q (.pickFh g5_17) ?_
  refine .zn ?_
  refine .cond rfl (λ h2 => ?_) λ h2 => ?_
  · simp at h2
  refine .kn<|.sr<|.fa rfl<|.lo rfl<|.q (.lenR hrs) ?_
  refine .makeSlice (enc := encBo) ps.length false rfl rfl (by decide) (by simp [encBo, oneCell]) rfl rfl (by omega) (by omega) (λ b14 T14 hO14 => ?_)
  refine .ag rfl<|.zs<|.sr<|.az rfl<|.block ?_
  refine .loopS [(12, _), (14, _)] (X := Nat × List Bool × Seg) (λ y => y.1 <= ps.length /\ OS 4 1 encBo (.slice (some ⟨b14, 0, none⟩) ps.length ps.length) y.2.1 y.2.2 /\ y.2.1.length = ps.length /\ ∀ i p, i < y.1 -> ps[i]? = some p -> ∀ q ∈ p.ll, ∀ j ∈ q.2, y.2.1.getD j false = true) (λ y E => (15, iN y.1) :: E) (λ y G => y.2.2 :: G) (λ y => ps.length - y.1) (0, List.replicate ps.length false, T14) ⟨Nat.zero_le _, hO14, by simp, λ i p hi => absurd hi (Nat.not_lt_zero _)⟩ kE.c.c.c rH ?_
  rintro ⟨i, led, T⟩ ⟨hi, hOl, hll, hL⟩
  simp only at hi hOl hll hL ⊢
  refine .seq<|.sr<|.mo rfl<|.fa rfl<|.lo rfl<|.q (.lenR hrs) ?_
  refine .q .lss<|.zn ?_
  refine .cond rfl (λ h3 => ?_) λ h3 => ?_
  have hlt : i < ps.length := lt_i h3
  obtain ⟨p, hp⟩ := exg hlt
  have hpm := mog hp
  have hpp := hall p hpm
  have ip0 : Ones p.enc := ⟨hpp.ones⟩
  have pp0 := hrs.pc hp
  have hln := hO.ln p hpm
  have hnf := hO.nf p hpm
  have hlt2 := hO.lt p hpm
  have hnd := λ j q hj hq => hO.nd i j p q hj hp hq
  obtain ⟨hus, hnl⟩ := hO.us p hpm
  obtain ⟨kp, fo, vn, nds, vu, us0, vl, ll, nm⟩ := p
  have n0 : RS (λ b o => (R b o \/ (b, o) ∈ Tw) \/ (b, o) ∈ T40) 5 Nd.enc vn nds := hpp.n
  have u0 : RS (λ b o => (R b o \/ (b, o) ∈ Tw) \/ (b, o) ∈ T40) 1 encS vu us0 := hpp.u
  have l0 : RS (λ b o => (R b o \/ (b, o) ∈ Tw) \/ (b, o) ∈ T40) 1 encV1 vl ll := hpp.l.rs
  have la := hpp.l.all
  simp only at hln hnf hlt2 hnd hus hnl la
  have iv1 := n0.oneCell
  have iv2 := u0.oneCell
  have iv3 := l0.oneCell
  obtain ⟨po, pi, pr⟩ := kp
  refine .kn<|.seq<|.block<|.sr<|.fa rfl<|.lo rfl<|.mo rfl<|.q (.indexR i hrs hp rfl rfl rfl) ?_
  refine .q (.loadA (rc := ⟨pp0.mono λ b o hb => rx3 (by simp only [List.flatten_cons, List.mem_append]; grind) hb⟩) rfl) ?_
  refine .allocA (λ b16 => ?_)
  refine .storeA rfl rfl<|.zs<|.seq ?_
  refine Tri.cutS [(12, _), (14, _), (15, _), (16, _)] kE.c.c.c.c (X := Unit) (λ _ => True) (λ _ E => (116, .bool false) :: E) (λ _ => [bl b16 (PlM.enc ⟨⟨po, pi, pr⟩, fo, vn, nds, vu, us0, vl, ll, nm⟩) 123, T, bl b12 [vp, iN oe] 55, T40, bl b9 c.enc 25, Tw, bl b4 [.string ko, .string ki] 30, bl b3 w.enc 28]) ?_ ?_
  refine .region<|.fa rfl<|.lo rfl<|.mo rfl ?_
  refine .split (t := 89) rfl (λ g12_2 => ?_) (λ g12_2 => ?_)
  refine .gT g12_2<|.fa rfl<|.gT g12_2<|.lo rfl<|.gT g12_2<|.q (.lenR l0) ?_
  refine .gT g12_2<|.fa rfl<|.gT g12_2<|.lo rfl<|.gT g12_2<|.q (.lenR n0) ?_
  rw [<- hln]
  refine .gT g12_2<|.q .neI<|.q (.pickTh g12_2) ?_
  refine .mo rfl ?_
  refine .split (t := 98) rfl (λ g12_11 => ?_) (λ g12_11 => ?_)
  refine .gF g12_11<|.gF g12_11<|.gF g12_11<|.gF g12_11<|.gfU rfl ?_
  refine .gfU rfl ?_
  refine .gfU rfl ?_
  refine .gfU rfl ?_
  refine .gfU rfl ?_
  refine .gfU rfl ?_
  refine .gfU rfl ?_
  refine .gfU rfl ?_
  refine .gfU rfl ?_
  refine .gfU rfl ?_
  refine .gfU rfl ?_
  refine .gfU rfl ?_
  refine .gF g12_11<|.q (.pickTh g12_11) ?_
  refine .nil ?_
  · exact joinQ_n () trivial (kE.c.c.c.c.consB rfl (by
      cases fo with
      | true => simp_all
      | false =>
        obtain ⟨rfl, rfl, rfl⟩ := hnf rfl
        simp_all)) rH
  refine .gT g12_11<|.fa rfl<|.gT g12_11<|.lo rfl<|.gT g12_11<|.q .not<|.gT g12_11<|.mo rfl ?_
  refine .split (t := 102) rfl (λ g12_15 => ?_) (λ g12_15 => ?_)
  refine .gT g12_15<|.fa rfl<|.gT g12_15<|.lo rfl<|.gT g12_15<|.q (.lenR l0) ?_
  refine .gT g12_15<|.fa rfl<|.gT g12_15<|.lo rfl<|.gT g12_15<|.q (.lenR n0) ?_
  refine .gT g12_15 ?_
  refine .ia (ll.length + nds.length) .add ?_
  refine .gT g12_15<|.fa rfl<|.gT g12_15<|.lo rfl<|.gT g12_15<|.q (.lenR u0) ?_
  refine .gT g12_15 ?_
  refine .ia (ll.length + nds.length + us0.length) .add ?_
  refine .gT g12_15<|.q .gtr<|.gT g12_11<|.q (.pickTh g12_15) ?_
  refine .q (.pickFh g12_11) ?_
  refine .nil ?_
  · exact joinQ_n () trivial (kE.c.c.c.c.consB rfl (by
      cases fo with
      | true => simp_all
      | false =>
        obtain ⟨rfl, rfl, rfl⟩ := hnf rfl
        simp_all)) rH
  refine .gF g12_15<|.gF g12_15<|.gF g12_15<|.gF g12_15<|.gF g12_15<|.gF g12_15<|.gF g12_15<|.gF g12_15<|.gF g12_15<|.gF g12_15<|.gF g12_15<|.gF g12_15<|.gT g12_11<|.q (.pickFh g12_15) ?_
  refine .q (.pickFh g12_11) ?_
  refine .nil ?_
  · exact joinQ_n () trivial (kE.c.c.c.c.consB rfl (by
      cases fo with
      | true => simp_all
      | false =>
        obtain ⟨rfl, rfl, rfl⟩ := hnf rfl
        simp_all)) rH
  refine .gF g12_2<|.gF g12_2<|.gF g12_2<|.gF g12_2<|.gF g12_2<|.gF g12_2<|.gF g12_2<|.q (.pickFh g12_2) ?_
  refine .mo rfl<|.gt rfl ?_
  refine .fa rfl<|.gt rfl ?_
  refine .lo rfl<|.gt rfl ?_
  refine .q .not<|.gt rfl ?_
  refine .mo rfl ?_
  refine .split (t := 102) rfl (λ g12_15 => ?_) (λ g12_15 => ?_)
  refine .gT g12_15<|.fa rfl<|.gT g12_15<|.lo rfl<|.gT g12_15<|.q (.lenR l0) ?_
  refine .gT g12_15<|.fa rfl<|.gT g12_15<|.lo rfl<|.gT g12_15<|.q (.lenR n0) ?_
  refine .gT g12_15 ?_
  refine .ia (ll.length + nds.length) .add ?_
  refine .gT g12_15<|.fa rfl<|.gT g12_15<|.lo rfl<|.gT g12_15<|.q (.lenR u0) ?_
  refine .gT g12_15 ?_
  refine .ia (ll.length + nds.length + us0.length) .add ?_
  refine .gT g12_15<|.q .gtr<|.gt rfl ?_
  refine .q (.pickTh g12_15) ?_
  refine .q .pickF<|.nil ?_
  · exact joinQ_n () trivial (kE.c.c.c.c.consB rfl (by
      cases fo with
      | true => simp_all
      | false =>
        obtain ⟨rfl, rfl, rfl⟩ := hnf rfl
        simp_all)) rH
  refine .gF g12_15<|.gF g12_15<|.gF g12_15<|.gF g12_15<|.gF g12_15<|.gF g12_15<|.gF g12_15<|.gF g12_15<|.gF g12_15<|.gF g12_15<|.gF g12_15<|.gF g12_15<|.gt rfl ?_
  refine .q (.pickFh g12_15) ?_
  refine .q .pickF<|.nil ?_
  · exact joinQ_n () trivial (kE.c.c.c.c.consB rfl (by
      cases fo with
      | true => simp_all
      | false =>
        obtain ⟨rfl, rfl, rfl⟩ := hnf rfl
        simp_all)) rH
  intro y hy
  refine seqQ_n<|.condF<|.kn<|.seq<|.sr<|.az rfl<|.block ?_
  refine .loopS [(12, _), (14, _), (15, _), (16, _)] (X := Nat × List Bool × Seg) (λ y => y.1 <= ll.length /\ OS 4 1 encBo (.slice (some ⟨b14, 0, none⟩) ps.length ps.length) y.2.1 y.2.2 /\ y.2.1.length = ps.length /\ (∀ i' p, i' < i -> ps[i']? = some p -> ∀ q ∈ p.ll, ∀ j ∈ q.2, y.2.1.getD j false = true) /\ ∀ q ∈ ll.take y.1, ∀ j ∈ q.2, y.2.1.getD j false = true) (λ y E => (17, iN y.1) :: E) (λ y _ => [bl b16 (PlM.enc ⟨⟨po, pi, pr⟩, fo, vn, nds, vu, us0, vl, ll, nm⟩) 123, y.2.2, bl b12 [vp, iN oe] 55, T40, bl b9 c.enc 25, Tw, bl b4 [.string ko, .string ki] 30, bl b3 w.enc 28]) (λ y => ll.length - y.1) (0, led, T) ⟨Nat.zero_le _, hOl, hll, hL, λ q hq => by simp at hq⟩ kE.c.c.c.c.c rH (G := []) ?_
  rintro ⟨m, led, T⟩ ⟨hm, hOl, hll, hL, hM⟩
  simp only at hm hOl hll hL hM ⊢
  have lel := l0.le
  refine .seq<|.sr<|.mo rfl<|.fa rfl<|.lo rfl<|.q (.lenR l0) ?_
  refine .q .lss<|.zn ?_
  refine .cond rfl (λ h5 => ?_) λ h5 => ?_
  have hmt : m < ll.length := lt_i h5
  obtain ⟨⟨vr, row⟩, hrow⟩ := exg hmt
  have hrm := mog hrow
  have r0 : RS (λ b o => (R b o \/ (b, o) ∈ Tw) \/ (b, o) ∈ T40) 1 encNt vr row := la _ hrm
  have hlr := hlt2 _ hrm
  simp only at hlr
  have ivr := r0.oneCell
  have ler := r0.le
  have prow := l0.pc hrow
  refine .kn<|.seq<|.block<|.sr<|.az rfl<|.block ?_
  refine .loopS [(12, _), (14, _), (15, _), (16, _), (17, _)] (X := Nat × List Bool × Seg) (λ y => y.1 <= row.length /\ OS 4 1 encBo (.slice (some ⟨b14, 0, none⟩) ps.length ps.length) y.2.1 y.2.2 /\ y.2.1.length = ps.length /\ (∀ i' p, i' < i -> ps[i']? = some p -> ∀ q ∈ p.ll, ∀ j ∈ q.2, y.2.1.getD j false = true) /\ (∀ q ∈ ll.take m, ∀ j ∈ q.2, y.2.1.getD j false = true) /\ ∀ j ∈ row.take y.1, y.2.1.getD j false = true) (λ y E => (18, iN y.1) :: E) (λ y _ => [bl b16 (PlM.enc ⟨⟨po, pi, pr⟩, fo, vn, nds, vu, us0, vl, ll, nm⟩) 123, y.2.2, bl b12 [vp, iN oe] 55, T40, bl b9 c.enc 25, Tw, bl b4 [.string ko, .string ki] 30, bl b3 w.enc 28]) (λ y => row.length - y.1) (0, led, T) ⟨Nat.zero_le _, hOl, hll, hL, hM, λ q hq => by simp at hq⟩ kE.c.c.c.c.c.c rH (G := []) ?_
  rintro ⟨z, led, T⟩ ⟨hz, hOl, hll, hL, hM, hZ⟩
  simp only at hz hOl hll hL hM hZ ⊢
  refine .seq<|.sr<|.mo rfl<|.fa rfl<|.lo rfl<|.mo rfl<|.q (.indexR m l0 hrow rfl rfl rfl) ?_
  refine .q (.load1 (rc := ⟨prow.mono λ b o hb => rx3 (by simp only [List.flatten_cons, List.mem_append]; grind) hb⟩) rfl) ?_
  refine .q (.lenR r0) ?_
  refine .q .lss<|.zn ?_
  refine .cond rfl (λ h6 => ?_) λ h6 => ?_
  have hzt : z < row.length := lt_i h6
  obtain ⟨to, hto⟩ := exg hzt
  obtain ⟨y, hy, hyn⟩ := hlr to (mog hto)
  have pto := r0.pc hto
  have htl := (List.getElem?_eq_some_iff.1 hy).1
  have py := hrs.pc hy
  obtain ⟨bt, hbt⟩ : ∃ b, led[to]? = some b := ⟨_, gge (by omega)⟩
  obtain ⟨ky, fy, vny, ndy, vuy, usy, vly, lly, nmy⟩ := y
  simp only at hyn
  have hmo : ∀ j, led.getD j false = true -> (led.set to true).getD j false = true := λ j hj => by
    rw [bgetD_set _ _ _ _ (by omega)]
    split
    · rfl
    · exact hj
  refine .kn<|.seq<|.block<|.sr<|.fa rfl<|.lo rfl<|.mo rfl<|.q (.indexR m l0 hrow rfl rfl rfl) ?_
  refine .q (.load1 (rc := ⟨prow.mono λ b o hb => rx3 (by simp only [List.flatten_cons, List.mem_append]; grind) hb⟩) rfl) ?_
  refine .mo rfl<|.q (.indexR z r0 hto rfl rfl rfl) ?_
  refine .q (.load1 (rc := ⟨pto.mono λ b o hb => rx3 (by simp only [List.flatten_cons, List.mem_append]; grind) hb⟩) rfl) ?_
  refine .ag rfl<|.zs<|.seq ?_
  refine .region_still mixed (by kernel_rfl) ?_
  refine .mo rfl<|.q .lss<|.mo rfl ?_
  refine .split (t := 144) rfl (λ g21_2 => ?_) (λ g21_2 => ?_)
  · have := odt g21_2; omega
  refine .gT g21_2<|.mo rfl<|.gT g21_2<|.fa rfl<|.gT g21_2<|.lo rfl<|.gT g21_2<|.q (.lenR hrs) ?_
  refine .gT g21_2<|.q .geq<|.q (.pickFh g21_2) ?_
  refine .mo rfl ?_
  refine .split (t := 151) rfl (λ g21_9 => ?_) (λ g21_9 => ?_)
  · have := odt g21_9; omega
  refine .gT g21_9<|.fa rfl<|.gT g21_9<|.lo rfl<|.gT g21_9<|.mo rfl<|.gT g21_9<|.q (.indexR to hrs hy rfl rfl rfl) ?_
  refine .gT g21_9 ?_
  refine .q (.fieldAddr (rc := ⟨py.mono λ b o hb => rx3 (by simp only [List.flatten_cons, List.mem_append]; grind) hb⟩) rfl) ?_
  refine .gT g21_9 ?_
  refine .q (.load1 (rc := ⟨(py.add 7).mono λ b o hb => rx3 (by simp only [List.flatten_cons, List.mem_append]; grind) hb⟩) rfl) ?_
  refine .gT g21_9<|.fa rfl<|.gT g21_9<|.lo rfl<|.gT g21_9<|.q .gtr<|.q (.pickFh g21_9) ?_
  refine .zn ?_
  refine .cond rfl (λ h7 => ?_) λ h7 => ?_
  · have h8 : (nmy : Int) > (nm : Nat) := odt h7
    omega
  refine .kn<|.region<|.mo rfl<|.mo rfl ?_
  refine .indexO to hOl hbt (λ p164 => ?_)
  refine .storeO1 to hOl hbt true (λ Tn hOn => ?_)
  refine .nil<|blkQ_n<|seqQ_n<|.region<|.mo rfl ?_
  refine .ia (z + 1) .add ?_
  refine .ag rfl<|.nil ?_
  · exact loopQ_i (z + 1, led.set to true, Tn) ⟨hzt, hOn, by simp [hll], λ i' p hi' hp q hq j hj => hmo j (hL i' p hi' hp q hq j hj), λ q hq j hj => hmo j (hM q hq j hj), λ j hj => by
      simp only at hj ⊢
      rw [take_next hto, List.mem_append, List.mem_singleton] at hj
      rcases hj with hj | rfl
      · exact hmo j (hZ j hj)
      · rw [bgetD_set _ _ _ _ (by omega), if_pos rfl]⟩ (by simp only; omega) kE.c.c.c.c.c.c rH
  have hze : row.length <= z := by have := odf h6; omega
  rw [take_end hze] at hZ
  refine .exit<|seqQ_x<|loopQ_x<|blkQ_x<|blkQ_n<|seqQ_n<|.region<|.mo rfl ?_
  refine .ia (m + 1) .add ?_
  refine .ag rfl<|.nil ?_
  · exact loopQ_i (m + 1, led, T) ⟨hmt, hOl, hll, hL, λ q hq j hj => by
      simp only at hq ⊢
      rw [take_next hrow, List.mem_append, List.mem_singleton] at hq
      rcases hq with hq | rfl
      · exact hM q hq j hj
      · exact hZ j hj⟩ (by simp only; omega) kE.c.c.c.c.c rH
  have hme : ll.length <= m := by have := odf h5; omega
  rw [take_end hme] at hM
  refine .exit<|seqQ_x<|loopQ_x<|blkQ_x<|seqQ_n<|.sr<|.az rfl<|.block ?_
  refine .loopS [(12, _), (14, _), (15, _), (16, _)] (X := Nat) (λ j => j <= i) (λ j E => (20, iN j) :: E) (λ _ G => G) (λ j => i - j) 0 (Nat.zero_le _) kE.c.c.c.c.c rH ?_
  rintro j hj
  refine .seq<|.sr<|.mo rfl<|.mo rfl<|.q .lss<|.zn ?_
  refine .cond rfl (λ h8 => ?_) λ h8 => ?_
  have hjt : j < i := lt_i h8
  obtain ⟨y, hy⟩ : ∃ y, ps[j]? = some y := ⟨_, gge (by omega)⟩
  have py := hrs.pc hy
  have hne := hnd j y hjt hy
  obtain ⟨⟨yo, yi, yr⟩, fy, vny, ndy, vuy, usy, vly, lly, nmy⟩ := y
  simp only at hne
  refine .kn<|.seq<|.block<|.seq ?_
  refine .region_still mixed (by kernel_rfl) ?_
  refine .fa rfl<|.lo rfl<|.mo rfl<|.q (.indexR j hrs hy rfl rfl rfl) ?_
  refine .q (.fieldAddr (rc := ⟨py.mono λ b o hb => rx3 (by simp only [List.flatten_cons, List.mem_append]; grind) hb⟩) rfl) ?_
  refine .q (.loadT (rc := ⟨(py.add 0).mono λ b o hb => rx3 (by simp only [List.flatten_cons, List.mem_append]; grind) hb⟩) rfl) ?_
  refine .fa rfl<|.q (.loadT rfl) ?_
  refine .q (.cast (.eqA (xs := [.string yo, .string yi]) (ys := [.string po, .string pi]) rfl rfl (Ty.kinds ⟨yo, yi⟩) (Ty.kinds ⟨po, pi⟩)) (congrArg Value.bool (Ref.eqv yo yi po pi))) ?_
  refine .mo rfl ?_
  refine .split (t := 179) rfl (λ g27_9 => ?_) (λ g27_9 => ?_)
  refine .gT g27_9<|.fa rfl<|.gT g27_9<|.lo rfl<|.gT g27_9<|.mo rfl<|.gT g27_9<|.q (.indexR j hrs hy rfl rfl rfl) ?_
  refine .gT g27_9 ?_
  refine .q (.fieldAddr (rc := ⟨py.mono λ b o hb => rx3 (by simp only [List.flatten_cons, List.mem_append]; grind) hb⟩) rfl) ?_
  refine .gT g27_9 ?_
  refine .q (.load1 (rc := ⟨(py.add 2).mono λ b o hb => rx3 (by simp only [List.flatten_cons, List.mem_append]; grind) hb⟩) rfl) ?_
  refine .gT g27_9<|.fa rfl<|.gT g27_9<|.lo rfl<|.gT g27_9<|.q .eqS<|.q (.pickTh g27_9) ?_
  refine .zn ?_
  refine .cond rfl (λ h9 => ?_) λ h9 => ?_
  · exfalso
    first
      | (have h10 : yo = po /\ yi = pi := odt g27_9
         have h11 : yr = pr := odt h9
         exact hne (by obtain ⟨rfl, rfl⟩ := h10; subst h11; rfl))
      | (simp at h9; done)
  refine .skip<|blkQ_n<|seqQ_n<|.region<|.mo rfl ?_
  refine .ia (j + 1) .add ?_
  refine .ag rfl<|.nil ?_
  · exact loopQ_i (j + 1) hjt (by omega) kE.c.c.c.c.c rH
  refine .gF g27_9<|.gF g27_9<|.gF g27_9<|.gF g27_9<|.gF g27_9<|.gF g27_9<|.gF g27_9<|.gF g27_9<|.gF g27_9<|.q (.pickFh g27_9) ?_
  refine .zn<|.condF<|.skip<|blkQ_n<|seqQ_n<|.region<|.mo rfl ?_
  refine .ia (j + 1) .add ?_
  refine .ag rfl<|.nil ?_
  · exact loopQ_i (j + 1) hjt (by omega) kE.c.c.c.c.c rH
  refine .exit<|seqQ_x<|loopQ_x<|blkQ_x<|blkQ_n<|seqQ_n<|.region<|.mo rfl ?_
  refine .ia (i + 1) .add ?_
  refine .ag rfl<|.nil ?_
  · exact loopQ_i (i + 1, led, T) ⟨hlt, hOl, hll, λ i' p hi' hp' q hq j hj => by
      rcases Nat.lt_or_ge i' i with h10 | h10
      · exact hL i' p h10 hp' q hq j hj
      · have e9 : i' = i := by simp only at hi'; omega
        rw [e9, hp] at hp'
        cases hp'
        exact hM q hq j hj⟩ (by simp only; omega) kE.c.c.c (pkH [1, 1, 1, 1, 1, 1, 1])
  have hie : i = ps.length := by have := odf h3; omega
  have hled : ∀ j, 0 < j -> j < ps.length -> led.getD j false = true := λ j h0 hj => by
    obtain ⟨i', p, hp, q, hq, hjq⟩ := hO.led j h0 hj
    exact hL i' p (by rw [hie]; exact (List.getElem?_eq_some_iff.1 hp).1) hp q hq j hjq
  refine .exit<|seqQ_x<|loopQ_x<|blkQ_x<|seqQ_n<|.seq<|.sr<|.az rfl<|.block ?_
  refine .loopS [(14, _)] (X := Nat) (λ j => 1 <= j /\ j <= ps.length) (λ j E => (21, iN j) :: E) (λ _ G => G) (λ j => ps.length - j) 1 ⟨Nat.le_refl _, hlt0⟩ kE.c.c rH ?_
  rintro j ⟨hj1, hj2⟩
  refine .seq<|.sr<|.mo rfl<|.mo rfl<|.q (.lenO hOl) ?_
  refine .q .lss<|.zn ?_
  refine .cond rfl (λ h10 => ?_) λ h10 => ?_
  have hjt : j < ps.length := by have hj9 := odt h10; omega
  obtain ⟨bt, hbt⟩ : ∃ b, led[j]? = some b := ⟨_, gge (by omega)⟩
  have hbt2 := hled j hj1 hjt
  rw [List.getD_eq_getElem?_getD, hbt] at hbt2
  simp only [Option.getD_some] at hbt2
  subst hbt2
  refine .kn<|.seq<|.block<|.sr<|.mo rfl<|.mo rfl ?_
  refine .indexO j hOl hbt (λ p198 => ?_)
  refine .lo rfl<|.q .not<|.zn ?_
  refine .condF<|.skip<|blkQ_n<|seqQ_n<|.region<|.mo rfl ?_
  refine .ia (j + 1) .add ?_
  refine .ag rfl<|.nil ?_
  · exact loopQ_i (j + 1) ⟨by omega, hjt⟩ (by omega) kE.c.c rH
  refine .exit<|seqQ_x<|loopQ_x<|blkQ_x<|seqQ_n<|.sr ?_
  refine .callR (lives20_spec _) (λ u hu => ?_)
  subst hu
  refine .az rfl ?_
  refine .ret (retQ_r _ (.one (.tmp rfl)) (HLe.none _) ?_)
  · exact ⟨rfl, rfl⟩
end Go.Proofs.YtenilfmlfldogaaGreat
