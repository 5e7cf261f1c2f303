/- What the law 'ReachNobody' uses. No condition. -/
import Derived.Carry
import Derived.ChangeShapes
import Derived.Test.YtenilfmlfldogaaGreatKReachNobodyO
namespace Go.Proofs.YtenilfmlfldogaaGreat
open Tryz (prog)
set_option linter.unusedVariables false
set_option linter.unusedSimpArgs false
set_option maxRecDepth 8000
structure TextOK (t : ByteArray) (L : List LTok) (C : List Sp) : Prop where
 sz : t.size <= 16384
 pl : Pl t
 lx : lexT t = some L
 ok : ∀ x ∈ L, tokOK x
 len : L.length <= 1000000
 cf : pConfig isWord (L.length + 1) [] (L, false) = (C, ([], false))
 much : (⟨C, []⟩ : Cf).much isWord = false
 num : ((⟨C, []⟩ : Cf).numbers isWord isRef).1 = 0
 few : C.length <= 1000 /\ ∀ y ∈ C, y.rels.length <= 1000
def toksOf (t : ByteArray) : List LTok := (lexT t).getD []
def confOf (t : ByteArray) : List Sp := (pConfig isWord ((toksOf t).length + 1) [] (toksOf t, false)).1
theorem TextOK.of {t : ByteArray} (h1 : t.size <= 16384) (h2 : (List.range t.size).all (λ k => decide (byteAt t k ≠ 34) && decide (byteAt t k ≠ 47) && decide (byteAt t k ≠ 45)) = true) (h3 : (lexT t).isSome = true) (h4 : (toksOf t).all (λ x => decide (tokOK x)) = true) (h5 : (toksOf t).length <= 1000000)
  (h6 : (pConfig isWord ((toksOf t).length + 1) [] (toksOf t, false)).2.1.isEmpty = true) (h7 : (pConfig isWord ((toksOf t).length + 1) [] (toksOf t, false)).2.2 = false) (h8 : (⟨confOf t, []⟩ : Cf).much isWord = false) (h9 : ((⟨confOf t, []⟩ : Cf).numbers isWord isRef).1 = 0) (h10 : (decide ((confOf t).length <= 1000) && (confOf t).all λ y => decide (y.rels.length <= 1000)) = true) : TextOK t (toksOf t) (confOf t) := by
 refine ⟨h1, λ k hk => ?_, ?_, λ x hx => odt (List.all_eq_true.1 h4 x hx), h5, ?_, h8, h9, ?_⟩
 ·have := List.all_eq_true.1 h2 k (List.mem_range.2 hk)
  simp only [Bool.and_eq_true, decide_eq_true_eq] at this
  exact ⟨this.1.1, this.1.2, this.2⟩
 ·obtain ⟨l, hl⟩ := Option.isSome_iff_exists.1 h3
  unfold toksOf
  rw [hl]; rfl
 ·refine Prod.ext rfl (Prod.ext ?_ h7)
  exact List.isEmpty_iff.1 h6
 ·simp only [Bool.and_eq_true, decide_eq_true_eq] at h10
  exact ⟨h10.1, λ y hy => odt (List.all_eq_true.1 h10.2 y hy)⟩
def t20 : ByteArray := ⟨#[110, 97, 109, 101, 115, 112, 97, 99, 101, 32, 100, 32, 123, 32, 114, 101, 108, 97, 116, 105, 111, 110, 32, 97, 58, 32, 117, 115, 101, 114, 59, 32, 114, 101, 108, 97, 116, 105, 111, 110, 32, 98, 32, 61, 32, 97, 59, 32, 125]⟩
theorem text20 : TextOK t20 (toksOf t20) (confOf t20) := .of (by decide +kernel) (by decide +kernel) (by decide +kernel) (by decide +kernel) (by decide +kernel) (by decide +kernel) (by decide +kernel) (by decide +kernel) (by decide +kernel) (by decide +kernel)
def k20 : Obr := ⟨⟨#[100]⟩, ⟨#[120]⟩, ⟨#[98]⟩⟩
theorem o20 (num : List Nat) : (opened ⟨confOf t20, []⟩ num (λ _ => []) k20 2).1.length = 2 := by kernel_rfl
theorem e20 (num : List Nat) : (opened ⟨confOf t20, []⟩ num (λ _ => []) k20 2).2 = 1 := by kernel_rfl
theorem o20a (num : List Nat) : (opened ⟨confOf t20, []⟩ num (λ _ => []) k20 1).1.length = 2 := by kernel_rfl
theorem end20 (num : List Nat) : AtEnd ⟨confOf t20, []⟩ num (λ _ => []) k20 2 := ⟨by rw [o20]; exact Nat.le_refl _, λ j hj => by
 rcases j with _ | _ | j
 ·show 0 < (opened ⟨confOf t20, []⟩ num (λ _ => []) k20 0).1.length; simp [opened]
 ·rw [o20a]; decide
 ·omega⟩
theorem few_ll {e : EnM} {num : List Nat} (he : e.ll.map (·.2) = rows e.c.plain.spaces num) (h5 : e.c.plain.spaces.length <= 1000 /\ ∀ y ∈ e.c.plain.spaces, y.rels.length <= 1000) : e.ll.length <= 1000000 /\ ∀ q ∈ e.ll, q.2.length <= 1000000 := by
 have hl0 : e.ll.length = e.c.plain.spaces.length := by rw [<- rows_len e.c.plain.spaces num, <- he, List.length_map]
 refine ⟨by have := h5.1; omega, λ q hq => ?_⟩
 have hq2 : q.2 ∈ rows e.c.plain.spaces num := by rw [<- he]; exact List.mem_map.2 ⟨q, hq, rfl⟩
 obtain ⟨i, hi, e9⟩ := List.mem_iff_getElem.1 hq2
 rw [rows_len] at hi
 have h1 := rows_at (n := num) (gge hi)
 rw [gge (by rw [rows_len]; exact hi), e9] at h1
 have h2 := Option.some.inj h1
 rw [h2, List.length_take]
 have := h5.2 _ (List.getElem_mem hi)
 omega
theorem disc20 (num : List Nat) : disc ⟨confOf t20, []⟩ num (λ _ => []) k20 9 true 2 = ((opened ⟨confOf t20, []⟩ num (λ _ => []) k20 2).1, 1, 0) := by
 unfold disc
 rw [o20, e20]
 rfl
theorem lives20_spec (R : Rds) : Spec prog 49 [] R [] λ u H' => u = .bool true /\ H' = [] := by
 have hx := text20
 have hC := hx.num
 have hfew := hx.few
 obtain ⟨num, hnm, hm⟩ := numbers_means hC
 have hend := end20 num
 have hds := disc20 num
 have hon := o20 num
 have hen := e20 num
 have hmono := λ i (h : i <= 2) => opened_mono (c := ⟨confOf t20, []⟩) (num := num) (sub := λ _ => []) (k := k20) h
 have hparse := λ R => parse_spec (R := R) t20 hx.sz hx.pl (toksOf t20) hx.lx hx.ok hx.len (confOf t20) hx.cf hx.much
 generalize confOf t20 = C at *
 refine Spec.body Tryz.func49 rfl Tryz.results49 Tryz.ntmps49 rfl ?_
 refine .sr<|.ag rfl<|.z ?_
 refine .callN (hparse _) (λ u Tc hu => ?_)
 obtain ⟨c, rfl, hc, hcp⟩ := hu
 have ice : Ones c.enc := ⟨hc.ones⟩
 have ic1 : One c.vs := RS.oneCell hc.ss
 have ic2 : One c.vc := RS.oneCell hc.sc
 refine .mo rfl<|.q .extract<|.q .extract ?_
 refine .allocA (λ b1 => ?_)
 refine .storeA rfl rfl<|.ag rfl<|.z ?_
 refine .callN (hnew_spec _) (λ u Th hu => ?_)
 obtain ⟨hb, rfl, hH⟩ := hu
 obtain ⟨vl0, Te0, Tp0, hTh, _⟩ := id hH
 have psh : PS Th (pT hb) [.bool true, vl0, .int .i64 ((0 : Nat) : Int)] := PS.of (E := 116) (fr := (0, 0)) (by rw [hTh]; simp)
 refine .ag rfl<|.zs<|.sr<|.mo rfl<|.q (.eqNilP rfl rfl) ?_
 refine .mo rfl<|.gt rfl ?_
 refine .mo rfl<|.gt rfl ?_
 refine .q (.loadA rfl)<|.gt rfl ?_
 refine .callW (hadd_spec hb [] 0 Th hH (by simp) 0 c _ (hc.mono λ b o hb => .inr (by have hb' : (b, o) ∈ Tc := hb; simp [hb']))) (λ u Th2 hu => ?_)
 rw [hcp] at hu
 rw [hcode_nil, hC] at hu
 obtain ⟨rfl, hA0, _⟩ := hu
 obtain ⟨e, her, hec, hHI⟩ := hA0 rfl
 rw [List.nil_append] at hHI
 refine .gt rfl ?_
 refine .q .neI<|.q .pickF<|.zn ?_
 refine .cond rfl (λ h1 => ?_) λ h1 => ?_
 ·simp at h1
 refine .kn<|.sr<|.mo rfl ?_
 refine .callN (snew_spec _) (λ u Ts hu => ?_)
 obtain ⟨g, rfl, hSI⟩ := hu
 refine .q .bld ?_
 obtain ⟨vl, hV⟩ := hHI.view (R := λ b o => (b, o) ∈ Th2 \/ (b, o) ∈ Ts) λ p hp => .inl hp
 obtain ⟨ps0, vf, vr, Mf, Mr, hSV⟩ := hSI.view (R := λ b o => (b, o) ∈ Th2 \/ (b, o) ∈ Ts) λ p hp => .inr hp
 have hat : atC [e] 0 = some e := by
  unfold atC
  have : hl [e] 0 1 = some 0 := by
   simp only [hl, List.getElem?_cons_zero, her]
   simp
  rw [show ([e] : List EnM).length = 1 from rfl, this]
  rfl
 have hee := hV.all e (by simp)
 have hll : e.ll.map (·.2) = rows e.c.plain.spaces num := by rw [hee.eq, hec, hnm]
 have hsub : (λ _ => []) = λ k : Obr => if scan (⟨[], 0, 0⟩ : Sto) 0 then (([] : List SRow).filter λ y => y.there 0 && decide (y.t.obr = k)).map (·.t.sub) else [] := by
  funext k; simp
 have hdd := discover_spec hV hSV (L := []) ⟨.refl _, List.Pairwise.nil⟩ (by simp) 0 e hat num (by rw [hec]; exact hm) hll ⟨by omega, by simp⟩ (λ e' h' => by
  rw [List.mem_singleton] at h'
  subst h'
  exact few_ll hll (by rw [hec]; exact hfew)) k20 9 (by omega) _ hsub (λ i hi => by
   rw [hec] at hi ⊢
   have h2 := opened_here hend hi
   have h3 := hmono i h2
   omega) 2 (by rw [hec]; exact hend)
 rw [hec, show scan (⟨[], 0, 0⟩ : Sto) 0 = true by decide, hds] at hdd
 refine .callN ((discN_of hdd).weaken λ b o hb => .inr (by rcases hb with hb | hb <;> simp [hb])) (λ u T6 hu => ?_)
 obtain ⟨vp, ps, rfl, hrs, hall, heq⟩ := hu
 have ivp := hrs.oneCell
 have hpl : ps.length = 2 := by rw [<- List.length_map PlM.plain, heq]; exact hon
 refine .mo rfl<|.q .extract<|.q .extract ?_
 refine .allocA (λ b4 => ?_)
 refine .storeA rfl rfl<|.ag rfl<|.z<|.mo rfl<|.q .eqI<|.mo rfl ?_
 refine .split (t := 28) rfl (λ g6_2 => ?_) (λ g6_2 => ?_)
 refine .gT g6_2<|.fa rfl<|.gT g6_2<|.lo rfl<|.gT g6_2<|.q (.lenR hrs) ?_
 rw [hpl]
 refine .gT g6_2<|.q .eqI<|.q (.pickTh g6_2) ?_
 refine .mo rfl ?_
 refine .split (t := 34) rfl (λ g6_8 => ?_) (λ g6_8 => ?_)
 refine .gT g6_8<|.fa rfl<|.gT g6_8<|.lo rfl<|.gT g6_8<|.q .eqI<|.q (.pickTh g6_8) ?_
 refine .az rfl ?_
 refine .ret (retQ_r _ (.one (.tmp rfl)) (HLe.none _) ?_)
 ·exact ⟨rfl, rfl⟩
 ·simp at g6_8
 ·simp at g6_2
theorem ddA_spec {g : Nat} {S : Sto} {T : Seg} (hSI : SI g S T) (hl : S.rows.length <= 4096) (rev : Int) (k : Obr) (b : Int) (R : Rds) (hr : ∀ p ∈ T, R p.1 p.2) :
  Spec prog 47 [.pointer none, pT g, .int .u64 rev, .agg [.string k.os, .string k.oi].toArray, .string k.rel, .int .i64 b] R [] λ u H' => u = .tuple [.agg [sZ, .int .i64 0].toArray, .int .i64 1].toArray /\ H' = [] :=
 ddisc_spec (.pointer none) (pT g) false (if scan S rev then 0 else 12) rev k b R (λ R' hR => hdmade_spec _ _ (.inl rfl)) (λ R' hR => by
  obtain ⟨ps0, vf, vr, Mf, Mr, hS⟩ := hSI.view (R := R') λ p hp => hR p.1 p.2 (hr p hp)
  refine (read_spec hS hl _ rev).mono λ u H' hu => ?_
  obtain ⟨T, rfl, w, ys, rfl, hO, _⟩ := hu
  exact ⟨T, rfl, w, hO.oneCell, rfl⟩) (.inl rfl)
theorem ddB_spec (ph pst : Value) (i1 : One ph) (mk : Bool) (rev : Int) (k : Obr) (b : Int) (R : Rds) (hm : ∀ R', (∀ b o, R b o -> R' b o) -> Spec prog 91 [ph] R' [] λ u H' => u = .bool mk /\ H' = []) (hd : DeadS R pst) :
  Spec prog 47 [ph, pst, .int .u64 rev, .agg [.string k.os, .string k.oi].toArray, .string k.rel, .int .i64 b] R [] λ u H' => u = .tuple [.agg [sZ, .int .i64 0].toArray, .int .i64 1].toArray /\ H' = [] := by
 have i2 := hd.one
 exact ddisc_spec ph pst mk 1 rev k b R hm (λ R' hR => Spec.flat ((sdRead_spec pst _ rev R' (hd.mono hR)).mono λ u H' hu => by
  obtain ⟨rfl, rfl⟩ := hu
  exact ⟨_, [], rfl, .refl _, [], rfl, _, ⟨rfl⟩, rfl⟩)) (.inr rfl)
theorem reachNobody_spec (k : Obr) (rev : Int) (b : Int) (R : Rds) :
  Spec prog 6 [.agg [.string k.os, .string k.oi].toArray, .string k.rel, .int .u64 rev, .int .i64 b] R [] λ v H' => v = .bool true /\ H' = [] := by
 refine Spec.body Tryz.func6 rfl Tryz.results6 Tryz.ntmps6 rfl ?_
 refine .sr ?_
 refine .boxA rfl (λ b4 => ?_)
 refine .ag rfl<|.zs ?_
 refine Tri.cutS [(1, _), (2, _), (3, _), (4, _)] kE.c.c.c.c (X := Nat) (λ _ => True) (λ b9 E => (9, pT b9) :: (10, .int .i64 1) :: E) (λ b9 => [bl b9 [sZ, .int .i64 0] 55, bl b4 [.string k.os, .string k.oi] 30]) ?_ ?_
 refine .region_all [10] mixed ?_
 refine .tO 1 rfl .move<|.tO 2 rfl (.loadA rfl)<|.tO 3 rfl .move<|.tO 4 rfl .move ?_
 refine RA.step2 0 9 rfl rfl (by kernel_rfl) rfl ?_ ?_
 refine .callN (snew_spec _) (λ u Ts hu => ?_)
 obtain ⟨g, rfl, hSI⟩ := hu
 refine .nil (Next.sub ?_)
 refine RA.step2 5 9 rfl rfl (by kernel_rfl) rfl ?_ ?_
 refine .callR (ddA_spec hSI (by simp) rev k b _ λ p hp => .inr (by simp [hp])) (λ u hu => ?_)
 subst hu
 refine .nil (Next.sub ?_)
 refine .tO 6 rfl .move<|.tO 7 rfl .extract<|.tK 8 rfl .extract ?_
 refine .sT 9 rfl ?_
 refine .allocA (λ b9 => ?_)
 refine .nil (Next.sub ?_)
 refine .sT 10 rfl ?_
 refine .storeA rfl rfl ?_
 refine .nil (Next.mod rfl ?_)
 refine .tK 11 rfl .assign ?_
 refine RA.nil (by kernel_rfl) ?_
 ·first
   |exact joinQ_n b9 trivial kE.c.c.c.c.c.c (pkH [0, 1])
   |exact joinQ_n b9 trivial kE.c.c.c.c.c.c (pkH [1, 1])
 refine .allocA (λ b9 => ?_)
 refine .nil (Next.sub ?_)
 refine .sT 5 rfl ?_
 refine .callR (ddA_spec hSI (by simp) rev k b _ λ p hp => .inr (by simp [hp])) (λ u hu => ?_)
 subst hu
 refine .nil (Next.sub ?_)
 refine .tO 6 rfl .move<|.tO 7 rfl .extract<|.tK 8 rfl .extract ?_
 refine .sT 10 rfl ?_
 refine .storeA rfl rfl ?_
 refine .nil (Next.mod rfl ?_)
 refine .tK 11 rfl .assign ?_
 refine RA.nil (by kernel_rfl) ?_
 ·first
   |exact joinQ_n b9 trivial kE.c.c.c.c.c.c (pkH [0, 1])
   |exact joinQ_n b9 trivial kE.c.c.c.c.c.c (pkH [1, 1])
 refine .allocA (λ b9 => ?_)
 refine .nil (Next.sub ?_)
 refine .sT 0 rfl ?_
 refine .callN (snew_spec _) (λ u Ts hu => ?_)
 obtain ⟨g, rfl, hSI⟩ := hu
 refine .nil (Next.sub ?_)
 refine .sT 5 rfl ?_
 refine .callR (ddA_spec hSI (by simp) rev k b _ λ p hp => .inr (by simp [hp])) (λ u hu => ?_)
 subst hu
 refine .nil (Next.sub ?_)
 refine .tO 6 rfl .move<|.tO 7 rfl .extract<|.tK 8 rfl .extract ?_
 refine .sT 10 rfl ?_
 refine .storeA rfl rfl ?_
 refine .nil (Next.mod rfl ?_)
 refine .tK 11 rfl .assign ?_
 refine RA.nil (by kernel_rfl) ?_
 ·first
   |exact joinQ_n b9 trivial kE.c.c.c.c.c.c (pkH [0, 1])
   |exact joinQ_n b9 trivial kE.c.c.c.c.c.c (pkH [1, 1])
 intro y hy
 refine seqQ_n<|.seq ?_
 refine Tri.cutS [(1, _), (2, _), (3, _), (4, _), (9, _), (10, _)] kE.c.c.c.c.c.c (X := Nat) (λ _ => True) (λ b11 E => (11, pT b11) :: (12, .int .i64 1) :: E) (λ b11 => [bl b11 [sZ, .int .i64 0] 55, bl y [sZ, .int .i64 0] 55, bl b4 [.string k.os, .string k.oi] 30]) ?_ ?_
 refine .region_all [10] mixed ?_
 refine .tO 1 rfl .move<|.tO 2 rfl (.loadA rfl)<|.tO 3 rfl .move<|.tO 4 rfl .move ?_
 refine RA.step2 0 9 rfl rfl (by kernel_rfl) rfl ?_ ?_
 refine .callN (hnew_spec _) (λ u Th hu => ?_)
 obtain ⟨hb, rfl, hH⟩ := hu
 refine .nil (Next.sub ?_)
 refine RA.step2 5 9 rfl rfl (by kernel_rfl) rfl ?_ ?_
 refine .callR (ddB_spec (pT hb) (.pointer none) ⟨rfl⟩ true rev k b _ (λ R' hR => by
  obtain ⟨vl, hV⟩ := hH.view (R := R') λ p hp => hR p.1 p.2 (.inr (by simp [hp]))
  exact hV.made) (.inl rfl)) (λ u hu => ?_)
 subst hu
 refine .nil (Next.sub ?_)
 refine .tO 6 rfl .move<|.tO 7 rfl .extract<|.tK 8 rfl .extract ?_
 refine .sT 9 rfl ?_
 refine .allocA (λ b11 => ?_)
 refine .nil (Next.sub ?_)
 refine .sT 10 rfl ?_
 refine .storeA rfl rfl ?_
 refine .nil (Next.mod rfl ?_)
 refine .tK 11 rfl .assign ?_
 refine RA.nil (by kernel_rfl) ?_
 ·first
   |exact joinQ_n b11 trivial kE.c.c.c.c.c.c.c.c (pkH [0, 1, 1])
   |exact joinQ_n b11 trivial kE.c.c.c.c.c.c.c.c (pkH [1, 1, 1])
 refine .allocA (λ b11 => ?_)
 refine .nil (Next.sub ?_)
 refine .sT 5 rfl ?_
 refine .callR (ddB_spec (pT hb) (.pointer none) ⟨rfl⟩ true rev k b _ (λ R' hR => by
  obtain ⟨vl, hV⟩ := hH.view (R := R') λ p hp => hR p.1 p.2 (.inr (by simp [hp]))
  exact hV.made) (.inl rfl)) (λ u hu => ?_)
 subst hu
 refine .nil (Next.sub ?_)
 refine .tO 6 rfl .move<|.tO 7 rfl .extract<|.tK 8 rfl .extract ?_
 refine .sT 10 rfl ?_
 refine .storeA rfl rfl ?_
 refine .nil (Next.mod rfl ?_)
 refine .tK 11 rfl .assign ?_
 refine RA.nil (by kernel_rfl) ?_
 ·first
   |exact joinQ_n b11 trivial kE.c.c.c.c.c.c.c.c (pkH [0, 1, 1])
   |exact joinQ_n b11 trivial kE.c.c.c.c.c.c.c.c (pkH [1, 1, 1])
 refine .allocA (λ b11 => ?_)
 refine .nil (Next.sub ?_)
 refine .sT 0 rfl ?_
 refine .callN (hnew_spec _) (λ u Th hu => ?_)
 obtain ⟨hb, rfl, hH⟩ := hu
 refine .nil (Next.sub ?_)
 refine .sT 5 rfl ?_
 refine .callR (ddB_spec (pT hb) (.pointer none) ⟨rfl⟩ true rev k b _ (λ R' hR => by
  obtain ⟨vl, hV⟩ := hH.view (R := R') λ p hp => hR p.1 p.2 (.inr (by simp [hp]))
  exact hV.made) (.inl rfl)) (λ u hu => ?_)
 subst hu
 refine .nil (Next.sub ?_)
 refine .tO 6 rfl .move<|.tO 7 rfl .extract<|.tK 8 rfl .extract ?_
 refine .sT 10 rfl ?_
 refine .storeA rfl rfl ?_
 refine .nil (Next.mod rfl ?_)
 refine .tK 11 rfl .assign ?_
 refine RA.nil (by kernel_rfl) ?_
 ·first
   |exact joinQ_n b11 trivial kE.c.c.c.c.c.c.c.c (pkH [0, 1, 1])
   |exact joinQ_n b11 trivial kE.c.c.c.c.c.c.c.c (pkH [1, 1, 1])
 intro y hy
 refine seqQ_n<|.sr ?_
 refine .q .bld ?_
 refine .boxA rfl (λ b35 => ?_)
 refine .q .bld ?_
 refine .boxA rfl (λ b37 => ?_)
 refine .mo rfl<|.q (.loadA rfl)<|.mo rfl<|.mo rfl ?_
 refine .callR (ddB_spec (pT b35) (pT b37) ⟨rfl⟩ false rev k b _ (λ R' hR => hdmade_spec _ _ (.inr ⟨b35, rfl, hR _ _ (.inr (by simp))⟩)) (.inr ⟨b37, rfl, .inr (by simp)⟩)) (λ u hu => ?_)
 subst hu
 refine .mo rfl<|.q .extract<|.q .extract ?_
 refine .allocA (λ b13 => ?_)
 refine .storeA rfl rfl<|.ag rfl<|.z<|.fa rfl<|.lo rfl<|.q (.lenR (RS.nil0 (R := R) (sz := 8) (enc := PlM.enc))) ?_
 refine .fa rfl<|.lo rfl<|.q (.lenR (RS.nil0 (R := R) (sz := 8) (enc := PlM.enc))) ?_
 refine .q (.i64 (0 : Int) .add ⟨rfl, by omega, by omega⟩) ?_
 refine .fa rfl<|.lo rfl<|.q (.lenR (RS.nil0 (R := R) (sz := 8) (enc := PlM.enc))) ?_
 refine .q (.i64 (0 : Int) .add ⟨rfl, by omega, by omega⟩) ?_
 refine .q .eqI<|.mo rfl ?_
 refine .split (t := 57) rfl (λ g4_12 => ?_) (λ g4_12 => ?_)
 refine .gT g4_12<|.mo rfl<|.gT g4_12<|.q .eqI<|.q (.pickTh g4_12) ?_
 refine .mo rfl ?_
 refine .split (t := 61) rfl (λ g4_16 => ?_) (λ g4_16 => ?_)
 refine .gT g4_16<|.mo rfl<|.gT g4_16<|.q .eqI<|.q (.pickTh g4_16) ?_
 refine .mo rfl ?_
 refine .split (t := 65) rfl (λ g4_20 => ?_) (λ g4_20 => ?_)
 refine .gT g4_20<|.mo rfl<|.gT g4_20<|.q .eqI<|.q (.pickTh g4_20) ?_
 refine .mo rfl ?_
 refine .split (t := 69) rfl (λ g4_24 => ?_) (λ g4_24 => ?_)
 refine .gT g4_24 ?_
 refine .callR (lives20_spec _) (λ u hu => ?_)
 subst hu
 refine .q (.pickTh g4_24) ?_
 refine .az rfl ?_
 refine .ret (retQ_r _ (.one (.tmp rfl)) (HLe.none _) ?_)
 ·exact ⟨rfl, rfl⟩
 ·simp at g4_24
 ·simp at g4_20
 ·simp at g4_16
 ·simp at g4_12
end Go.Proofs.YtenilfmlfldogaaGreat
