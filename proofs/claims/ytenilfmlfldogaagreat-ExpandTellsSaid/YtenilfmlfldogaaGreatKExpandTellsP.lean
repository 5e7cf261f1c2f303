/- What the law 'ExpandTells' uses. No condition. -/
import Derived.Test.YtenilfmlfldogaaGreatKExpandTellsE
import Derived.Test.YtenilfmlfldogaaGreatKExpandTellsI
import Derived.Test.YtenilfmlfldogaaGreatKExpandTellsK
import Derived.Test.YtenilfmlfldogaaGreatKExpandTellsM
import Derived.Test.YtenilfmlfldogaaGreatKExpandTellsO
namespace Go.Proofs.YtenilfmlfldogaaGreat
open Tryz (prog)
set_option linter.unusedVariables false
set_option linter.unusedSimpArgs false
set_option maxRecDepth 4000
def PlM.zero (k : Obr) : PlM := ⟨k, false, sZ, [], sZ, [], sZ, [], 0⟩
def PU (R : Rds) (A : List (ByteArray × Rl)) (num : List Nat) (k : Obr) (m : Nat) (p : PlM) : Prop :=
 (p = PlM.zero k /\ ∀ j x, j < m -> A[j]? = some x -> rkey x ≠ ⟨k.os, k.rel⟩) \/
 ∃ j x vn, j < m /\ A[j]? = some x /\ rkey x = ⟨k.os, k.rel⟩ /\ p = ⟨k, true, vn, x.2.nodes, sZ, [], sZ, [], num.getD j 0⟩ /\ RS R 5 Nd.enc vn x.2.nodes
theorem PU.ones {R : Rds} {A : List (ByteArray × Rl)} {num : List Nat} {k : Obr} {m : Nat} {p : PlM} (h : PU R A num k m p) : Ones p.enc := by
 rcases h with ⟨rfl, _⟩ | ⟨j, x, vn, _, _, _, rfl, hr⟩
 ·exact ⟨by simp [PlM.enc, PlM.zero, oneCell]⟩
 ·have := hr.oneCell
  refine ⟨λ u hu => ?_⟩
  simp only [PlM.enc, List.mem_cons, List.not_mem_nil, or_false] at hu
  rcases hu with rfl | rfl | rfl | rfl | rfl | rfl | rfl | rfl
  ·rfl
  ·rfl
  ·rfl
  ·rfl
  ·exact this.h
  ·rfl
  ·rfl
  ·rfl
theorem PU.skip {R : Rds} {A : List (ByteArray × Rl)} {num : List Nat} {k : Obr} {m : Nat} {p : PlM} {x : ByteArray × Rl} (h : PU R A num k m p) (hx : A[m]? = some x) (hn : rkey x ≠ ⟨k.os, k.rel⟩) : PU R A num k (m + 1) p := by
 rcases h with ⟨e, h1⟩ | ⟨j, y, vn, h1, h2⟩
 ·refine .inl ⟨e, λ j y hj hy => ?_⟩
  rcases Nat.lt_or_ge j m with h3 | h3
  ·exact h1 j y h3 hy
  ·obtain rfl : j = m := by omega
   rw [hx] at hy; cases hy; exact hn
 ·exact .inr ⟨j, y, vn, by omega, h2⟩
theorem no_other {A : List (ByteArray × Rl)} (hu : (A.map rkey).Nodup) {i j : Nat} {x y : ByteArray × Rl} {t : Ty} (hx : A[i]? = some x) (hy : A[j]? = some y) (h1 : rkey x = t) (h2 : rkey y = t) : i = j := by
 have hx' : (A.map rkey)[i]? = some t := by rw [List.getElem?_map, hx, <- h1]; rfl
 have hy' : (A.map rkey)[j]? = some t := by rw [List.getElem?_map, hy, <- h2]; rfl
 rcases Nat.lt_trichotomy i j with h | h | h
 ·exact absurd hu (not_nodup h hy' hx' rfl)
 ·exact h
 ·exact absurd hu (not_nodup h hx' hy' rfl)
theorem PU.same {R : Rds} {A : List (ByteArray × Rl)} {num : List Nat} {k : Obr} {m : Nat} {p : PlM} (h : PU R A num k m p) (hm : A.length <= m) (hu : (A.map rkey).Nodup) {c : Cf} (hA : c.all = A) : p.plain = one c num k /\ p.is R := by
 unfold one
 rw [hA]
 rcases h with ⟨rfl, h1⟩ | ⟨j, x, vn, h1, h2, h3, rfl, h4⟩
 ·rw [find_none λ j y hj hy => h1 j y (by omega) hy]
  exact ⟨rfl, RS.nil0, RS.nil0, NN.nil⟩
 ·rw [find_some h2 h3 λ i y hi hy he => by have := no_other hu h2 hy h3 he; omega]
  refine ⟨?_, h4, RS.nil0, NN.nil⟩
  simp only [PlM.plain, List.getD_eq_getElem?_getD, List.getElem?_map, h2]
  rfl
theorem rone_spec (c : CfM) (R : Rds) (h : c.is R) (num : List Nat) (hm : Means isWord isRef c.plain num) (hnm : (c.plain.numbers isWord isRef).2 = rows c.plain.spaces num) (k : Obr) :
  Spec prog 71 [.agg c.enc.toArray, .agg [.string k.os, .string k.oi].toArray, .string k.rel] R [] λ u H' => (∃ p : PlM, u = .agg p.enc.toArray /\ p.plain = one c.plain num k /\ p.is R) /\ H' = [] := by
 have hrn := rnumbers_spec c R h
 have hss := h.ss
 have i1 := hss.oneCell
 have i2 : One c.vc := RS.oneCell h.sc
 have hle := hss.le
 have hal := h.all
 have htot := total_all c.plain
 have hlen := hm.len
 have hund : (c.plain.all.map rkey).Nodup := hm.uniq.2.1
 have hspl : c.plain.spaces.length = c.spaces.length := by unfold CfM.plain; simp
 have hpa : ∀ (i : Nat) (s : SpM), c.spaces[i]? = some s -> c.plain.spaces[i]? = some s.plain := λ i s hs => plain_at hs
 have hty := λ (p : Spot) (s : SpM) (r : RlM) => nms_typesC (c := c) (p := p) (s := s) (r := r)
 have hixd : ∀ i k, c.ix (i, k) = offs c.plain.spaces i + k := λ _ _ => rfl
 have hsame := λ (p : PlM) (m : Nat) (h : PU R c.plain.all num k m p) (hm : c.plain.all.length <= m) => h.same hm hund (c := c.plain) rfl
 rw [hnm] at hrn
 have hrow : ∀ i s, c.spaces[i]? = some s -> (rows c.plain.spaces num)[i]? = some ((num.drop (offs c.plain.spaces i)).take s.rels.length) := λ i s hs => by
  have h1 := rows_at (n := num) (hpa i s hs)
  rwa [show s.plain.rels.length = s.rels.length by simp [SpM.plain]] at h1
 generalize hA : c.plain.all = A at *
 generalize hO_ : offs c.plain.spaces = of at *
 have hof0 : of 0 = 0 := by rw [<- hO_]; cases c.plain.spaces <;> rfl
 refine Spec.body Tryz.func71 rfl Tryz.results71 Tryz.ntmps71 rfl<|.sr ?_
 refine .boxA rfl (λ b3 => ?_)
 refine .boxA rfl (λ b4 => ?_)
 refine .allocA (λ b6 => ?_)
 refine .z<|.q (.loadA rfl)<|.mo rfl<|.q .bld ?_
 refine .allocA (λ b7 => ?_)
 refine .storeA rfl rfl<|.z<|.q (.loadA rfl)<|.callN (hrn.weaken rxl) (λ u T17 hu => ?_)
 obtain ⟨w, ll, rfl, hNN, hll⟩ := hu
 have iw : One w := hNN.rs.oneCell
 refine .mo rfl<|.q .extract<|.q .extract<|.ag rfl<|.ag rfl<|.zs<|.sr<|.az rfl<|.block<|.loopS [(2, _), (3, _), (4, _), (6, _), (7, _), (8, _)] (X := Nat × PlM) (λ y => y.1 <= c.spaces.length /\ PU R A num k (of y.1) y.2) (λ y E => (10, iN y.1) :: E) (G := [T17, bl b6 (PlM.enc ⟨⟨⟨#[]⟩, ⟨#[]⟩, ⟨#[]⟩⟩, false, sZ, [], sZ, [], sZ, [], 0⟩) 121, bl b4 [.string k.os, .string k.oi] 30, bl b3 c.enc 25]) (λ y G => bl b7 y.2.enc 121 :: G) (λ y => c.spaces.length - y.1) (0, PlM.zero k) ⟨Nat.zero_le _, .inl ⟨rfl, λ j x hj => by rw [hof0] at hj; omega⟩⟩ kE.c.c.c.c.c.c.c (pkH [1, 0, 0, 0, 0]) ?_
 rintro ⟨i, p⟩ ⟨hi, hp⟩
 simp only at hi hp ⊢
 have ipp := hp.ones
 refine .seq<|.sr<|.mo rfl<|.fa rfl<|.lo rfl<|.q (.lenR hss)<|.q .lss<|.zn<|.cond rfl (λ h1 => ?_) λ h1 => ?_
 have hlt : i < c.spaces.length := lt_i h1
 obtain ⟨⟨sn, sv, rls⟩, hs⟩ := exg hlt
 have hsi := hal _ (mog hs)
 have hrs : RS R 3 RlM.enc sv rls := hsi.rs
 have irs := hrs.oneCell
 have hler := hrs.le
 have isp : Ones (SpM.enc ⟨sn, sv, rls⟩) := ⟨hsi.ones⟩
 have hp1 := hpa i _ hs
 have hofn := offs_next hp1
 rw [hO_, show (SpM.plain ⟨sn, sv, rls⟩).rels.length = rls.length by simp [SpM.plain]] at hofn
 have hri := hrow i _ hs
 simp only at hri
 rw [<- hll, List.getElem?_map] at hri
 obtain ⟨⟨v, row⟩, hlr, hrw⟩ := Option.map_eq_some_iff.1 hri
 simp only at hrw
 have hrr := hNN.all _ (mog hlr)
 simp only at hrr
 have iv := hrr.oneCell
 have p73 : PS T17 (baseP w (i * 1)) (encV1 (v, row)) := ⟨hNN.rs.pc hlr⟩
 refine .kn<|.seq<|.block<|.sr<|.az rfl<|.block<|.loopS [(2, _), (3, _), (4, _), (6, _), (7, _), (8, _), (10, _)] (X := Nat × PlM) (λ y => y.1 <= rls.length /\ PU R A num k (of i + y.1) y.2) (λ y E => (11, iN y.1) :: E) (G := [T17, bl b6 (PlM.enc ⟨⟨⟨#[]⟩, ⟨#[]⟩, ⟨#[]⟩⟩, false, sZ, [], sZ, [], sZ, [], 0⟩) 121, bl b4 [.string k.os, .string k.oi] 30, bl b3 c.enc 25]) (λ y G => bl b7 y.2.enc 121 :: G) (λ y => rls.length - y.1) (0, p) ⟨Nat.zero_le _, hp⟩ kE.c.c.c.c.c.c.c.c rH ?_
 rintro ⟨q, p2⟩ ⟨hq, hp2⟩
 simp only at hq hp2 ⊢
 have ipp2 := hp2.ones
 refine .seq<|.sr<|.mo rfl<|.fa rfl<|.lo rfl<|.mo rfl ?_
 refine .indexR i hss hs (λ p31 => ?_)
 refine .fa rfl<|.lo rfl<|.q (.lenR hrs)<|.q .lss<|.zn<|.cond rfl (λ h2 => ?_) λ h2 => ?_
 have hqt : q < rls.length := lt_i h2
 obtain ⟨⟨vt, vn, r⟩, hr⟩ := exg hqt
 have hri2 := hsi.all _ (mog hr)
 have hnd : RS R 5 Nd.enc vn r.nodes := hri2.d
 have irt : One vt := RS.oneCell hri2.t
 have ird : One vn := RS.oneCell hri2.d
 have hone : Ones (RlM.enc ⟨vt, vn, r⟩) := ⟨hri2.ones⟩
 have hax := hty (i, q) _ _ hs hr
 rw [hixd] at hax
 have hil : of i + q < A.length := (List.getElem?_eq_some_iff.1 hax).1
 obtain ⟨n, hn⟩ : ∃ n, num[of i + q]? = some n := ⟨_, gge (by omega)⟩
 have hrk : row[q]? = some n := by rw [hrw, List.getElem?_take_of_lt hqt, List.getElem?_drop]; exact hn
 have p76 : PS T17 (baseP v (q * 1)) (encNt n) := ⟨hrr.pc hrk⟩
 have hnD : num.getD (of i + q) 0 = n := by rw [List.getD_eq_getElem?_getD, hn]; rfl
 refine .kn<|.seq<|.block<|.seq ?_
 refine Tri.cutS [(2, _), (3, _), (4, _), (6, _), (7, _), (8, _), (10, _), (11, _)] kE.c.c.c.c.c.c.c.c (X := Unit) (λ _ => True) (λ _ E => (60, .bool (decide (sn = k.os) && decide (r.name = k.rel))) :: E) (λ _ => [bl b7 p2.enc 121, T17, bl b6 (PlM.enc ⟨⟨⟨#[]⟩, ⟨#[]⟩, ⟨#[]⟩⟩, false, sZ, [], sZ, [], sZ, [], 0⟩) 121, bl b4 [.string k.os, .string k.oi] 30, bl b3 c.enc 25]) ?_ ?_
 refine .region_still mixed (by kernel_rfl)<|.fa rfl<|.lo rfl<|.mo rfl ?_
 refine .indexR i hss hs (λ p41 => ?_)
 refine .fa rfl<|.lo rfl<|.fa rfl<|.lo rfl<|.q .eqS<|.mo rfl<|.split (t := 47) rfl (λ g9_9 => ?_) (λ g9_9 => ?_)
 refine .gT g9_9<|.fa rfl<|.gT g9_9<|.lo rfl<|.gT g9_9<|.mo rfl<|.gT g9_9 ?_
 refine .indexR i hss hs (λ p51 => ?_)
 refine .gT g9_9<|.fa rfl<|.gT g9_9<|.lo rfl<|.gT g9_9<|.mo rfl<|.gT g9_9 ?_
 refine .indexR q hrs hr (λ p55 => ?_)
 refine .gT g9_9<|.fa rfl<|.gT g9_9<|.lo rfl<|.gT g9_9<|.mo rfl<|.gT g9_9<|.q .eqS<|.q (.pickTh g9_9)<|.nil ?_
 ·exact joinQ_n () trivial (kE.c.c.c.c.c.c.c.c.consB rfl (by grind)) rH
 refine .gF g9_9<|.gF g9_9<|.gF g9_9<|.gF g9_9<|.gF g9_9<|.gF g9_9<|.gF g9_9<|.gF g9_9<|.gF g9_9<|.gF g9_9<|.gF g9_9<|.gF g9_9<|.q (.pickFh g9_9)<|.nil ?_
 ·exact joinQ_n () trivial (kE.c.c.c.c.c.c.c.c.consB rfl (by grind)) rH
 intro y hy
 refine seqQ_n<|.cond rfl (λ h3 => ?_) λ h3 => ?_
 have h3' : sn = k.os /\ r.name = k.rel := by simpa using h3
 have hkey : rkey (sn, r) = ⟨k.os, k.rel⟩ := by show (⟨sn, r.name⟩ : Ty) = _; rw [h3'.1, h3'.2]
 have hp3 : p2 = PlM.zero k := by
  rcases hp2 with ⟨e, _⟩ | ⟨j, x, v9, g1, g2, g3, _⟩
  ·exact e
  ·have := no_other hund hax g2 hkey g3; omega
 subst hp3
 have p64 : PC R (baseP c.vs (i * 2)) (SpM.enc ⟨sn, sv, rls⟩) := hss.pc hs
 have p68 : PC R (baseP sv (q * 3)) (RlM.enc ⟨vt, vn, r⟩) := hrs.pc hr
 refine .region_any [0] [18, 20, 22] mixed ?_
 conv => arg 3; simp only [take, rest, dropAt, List.getD_cons_zero, List.getD_cons_succ]
 conv => arg 5; simp only [take, rest, dropAt, List.getD_cons_zero, List.getD_cons_succ]
 conv => arg 9; simp only [take, rest, dropAt, List.getD_cons_zero, List.getD_cons_succ]
 refine .tK 0 rfl (.fieldAddrA rfl)<|.tK 1 rfl (.load1 rfl)<|.tK 2 rfl .move<|.tK 3 rfl (.indexR i hss hs rfl rfl rfl)<|.tK 4 rfl (.fieldAddr rfl)<|.tK 5 rfl (.load1 rfl)<|.tK 6 rfl .move<|.tK 7 rfl (.indexR q hrs hr rfl rfl rfl)<|.tK 8 rfl (.fieldAddr rfl)<|.tK 9 rfl (.load1 rfl)<|.tK 10 rfl .move<|.tK 11 rfl .move<|.tK 12 rfl (.indexR i hNN.rs hlr rfl rfl rfl)<|.tK 13 rfl (.load1 rfl)<|.tK 14 rfl .move<|.tK 15 rfl (.indexR q hrr hrk rfl rfl rfl)<|.tK 16 rfl (.load1 rfl)<|.tO 17 rfl (.fieldAddr rfl)<|.sT 18 rfl<|.store1 rfl rfl<|.nil<|Next.mod rfl<|.tK 19 rfl (.fieldAddrA rfl)<|.sT 20 rfl<|.store1 rfl rfl<|.nil<|Next.mod rfl<|.tK 21 rfl (.fieldAddrA rfl)<|.sT 22 rfl<|.store1 rfl rfl<|.nil<|Next.mod rfl<|RA.nil (by kernel_rfl)<|blkQ_n<|seqQ_n<|.region<|.mo rfl<|.ia (q + 1) .add<|.ag rfl<|.nil ?_
 ·exact loopQ_i (q + 1, ⟨k, true, vn, r.nodes, sZ, [], sZ, [], n⟩) ⟨hqt, .inr ⟨of i + q, (sn, r), vn, by simp only; omega, hax, hkey, by rw [hnD], hnd⟩⟩ (by simp only; omega) kE.c.c.c.c.c.c.c.c rH
 have hkey : rkey (sn, r) ≠ ⟨k.os, k.rel⟩ := λ he => by
  injection he with e1 e2
  have e1' : sn = k.os := e1
  have e2' : r.name = k.rel := e2
  simp [e1', e2'] at h3
 refine .skip<|blkQ_n<|seqQ_n<|.region<|.mo rfl<|.ia (q + 1) .add<|.ag rfl<|.nil ?_
 ·exact loopQ_i (q + 1, p2) ⟨hqt, hp2.skip hax hkey⟩ (by simp only; omega) kE.c.c.c.c.c.c.c.c rH
 have hqe : q = rls.length := by have := odf h2; omega
 rw [hqe, <- hofn] at hp2
 refine .exit<|seqQ_x<|loopQ_x<|blkQ_x<|blkQ_n<|seqQ_n<|.region<|.mo rfl<|.ia (i + 1) .add<|.ag rfl<|.nil ?_
 ·exact loopQ_i (i + 1, p2) ⟨hlt, hp2⟩ (by simp only; omega) kE.c.c.c.c.c.c.c rH
 refine .exit<|seqQ_x<|loopQ_x<|blkQ_x<|seqQ_n<|.sr<|.q (.loadA rfl)<|.storeA rfl rfl<|.zn ?_
 refine .ret (retQ_r _ (.one (.cellA rfl rfl)) (HLe.none _) ?_)
 ·have hie : A.length <= of i := by
   have : i = c.spaces.length := by have := odf h1; omega
   rw [this, <- hspl, <- hO_, <- htot]
   exact Nat.le_refl _
  obtain ⟨e1, e2⟩ := hsame p _ hp hie
  exact ⟨⟨p, rfl, e1, e2⟩, rfl⟩
structure RdI (c : Cf) (num : List Nat) (sub : Obr -> List Sub) (R : Rds) (ps : List PlM) (k : Obr) (ns : List Nd) (ps1 : List PlM) (vp : Value) (To : Seg) (vL : Value) (L : List NlM) (TL Tr : Seg) (vS : Value) (sn : List Nat) (TS : Seg) : Prop where
 eq : ps1.map PlM.plain = (addNs c num sub k (ps.map PlM.plain) ns).1
 o : OS 121 8 PlM.enc vp ps1 To
 gr : ∃ l, ps1 = ps ++ l /\ ∀ p ∈ l, p.is R
 le : OS 127 1 encV1 vL L TL
 rows : ∀ q ∈ L, RS (sg Tr) 1 encNt q.1 q.2
 ll : L.map (·.2) = (addNs c num sub k (ps.map PlM.plain) ns).2
 so : OS 3 1 encNt vS sn TS
 sq : sn = seenL [] (addNs c num sub k (ps.map PlM.plain) ns).2.flatten
structure RdJ (c : Cf) (num : List Nat) (R : Rds) (ps1 : List PlM) (ks : List Obr) (sn0 : List Nat) (ps2 : List PlM) (vp : Value) (To : Seg) (vR : Value) (TR : Seg) (vS : Value) (sn : List Nat) (TS : Seg) : Prop where
 eq : ps2.map PlM.plain = (addKs c num (ps1.map PlM.plain) ks).1
 o : OS 121 8 PlM.enc vp ps2 To
 gr : ∃ l, ps2 = ps1 ++ l /\ ∀ p ∈ l, p.is R
 r : OS 3 1 encNt vR (addKs c num (ps1.map PlM.plain) ks).2 TR
 so : OS 3 1 encNt vS sn TS
 sq : sn = seenL sn0 (addKs c num (ps1.map PlM.plain) ks).2
theorem any_take_next {l : List Nat} {i x : Nat} (hx : l[i]? = some x) (t : Nat) : (l.take (i + 1)).any (λ z => decide (z = t)) = ((l.take i).any (λ z => decide (z = t)) || decide (x = t)) := by
 rw [take_next hx, List.any_append]
 simp
theorem rdiscover_spec (c : CfM) (R : Rds) (h : c.is R) (num : List Nat) (hm : Means isWord isRef c.plain num) (hnm : (c.plain.numbers isWord isRef).2 = rows c.plain.spaces num) {g : Nat} {S : Sto} {vl : Value} {L : List SRow} (hD : DV R g S vl L) (hl : L.length <= 512) (rev : Int)
  (k : Obr) (b : Int) (sub : Obr -> List Sub) (hsub : sub = λ k => if scan S rev then (L.filter λ y => y.there rev && decide (y.t.obr = k)).map (·.t.sub) else [])
  (hlim : ∀ i, (∀ j, j < i -> j < (opened c.plain num sub k j).1.length) -> (opened c.plain num sub k i).1.length + (opened c.plain num sub k i).2 <= 1048576) (N : Nat) (hN : AtEnd c.plain num sub k N) :
  Spec prog 22 [.agg c.enc.toArray, pT g, .int .u64 rev, .agg [.string k.os, .string k.oi].toArray, .string k.rel, .int .i64 b] R [] (DiscT R (disc c.plain num sub k b (scan S rev) N)) := by
 have hone := rone_spec c R h num hm hnm
 have hfew := (few_of_right hm.right).1
 have hfit := λ k => rfitting_spec c R h hfew hD hl rev k sub hsub
 have hah := λ k ex n (ie : Ones ex) hex => rahead20_spec c R h hfew hD hl rev sub hsub k ex n hex
 have i1 : One c.vs := RS.oneCell h.ss
 have i2 : One c.vc := RS.oneCell h.sc
 have hsetl : ∀ k, (setsOf c.plain sub k).length <= 512 := λ k => by
  unfold setsOf fitting
  refine Nat.le_trans (List.length_filter_le _ _) (Nat.le_trans (List.length_filter_le _ _) ?_)
  rw [hsub]
  simp only
  split
  ·rw [List.length_map]
   exact Nat.le_trans (List.length_filter_le _ _) hl
  ·simp
 have hahl : ∀ k n, (aheadK c.plain sub k n).length <= 512 := λ k n => by
  unfold aheadK
  split
  ·rw [List.length_map]; exact hsetl _
  ·split
   ·rw [List.length_map]; exact hsetl _
   ·split <;> simp
 have hfl : ∀ k, (fitting c.plain sub k).length <= 512 := λ k => by
  unfold fitting
  refine Nat.le_trans (List.length_filter_le _ _) ?_
  rw [hsub]
  simp only
  split
  ·rw [List.length_map]
   exact Nat.le_trans (List.length_filter_le _ _) hl
  ·simp
 have huse : ∀ k, usersOf c.plain sub k = ((fitting c.plain sub k).filter λ s => !decide (s.us = ⟨#[]⟩)).map (·.us) := λ _ => rfl
 have hdef : ∀ out u H', DiscT R out u H' ↔ ∃ vp ps T, H' = [T] /\ u = .tuple [.agg [vp, iN out.2.1].toArray, .int .i64 out.2.2].toArray /\ RS (λ b o => R b o \/ (b, o) ∈ T) 8 PlM.enc vp ps /\ (∀ p ∈ ps, PlM.is (λ b o => R b o \/ (b, o) ∈ T) p) /\ ps.map PlM.plain = out.1 := λ _ _ _ => Iff.rfl
 have hdisc : disc c.plain num sub k b (scan S rev) N = if b < 1 then ([], 0, 2) else if scan S rev = false then ([], 0, 12)
  else if (((opened c.plain num sub k N).1.length + (opened c.plain num sub k N).2 : Nat) : Int) <= b then ((opened c.plain num sub k N).1, (opened c.plain num sub k N).2, 0) else ([], 0, 16) := rfl
 have hol : ∀ x : Obr, (one c.plain num x).nodes.length <= 64 := λ x => one_len (num := num) (k := x) hm.right
 generalize hcp : c.plain = cp at *
 refine Spec.body Tryz.func22 rfl Tryz.results22 Tryz.ntmps22 rfl ?_
 refine .sr ?_
 refine .boxA rfl (λ b6 => ?_)
 refine .boxA rfl (λ b9 => ?_)
 refine .allocA (λ b12 => ?_)
 refine .ag rfl<|.zs<|.sr<|.mo rfl<|.q .lss<|.zn ?_
 refine .cond rfl (λ h1 => ?_) λ h1 => ?_
 have hb1 : b < 1 := odt h1
 refine .sr ?_
 refine .q .bld ?_
 refine .storeA rfl rfl<|.az rfl ?_
 refine .ret (seqQ_r (retQ_r _ (.two (.cellA rfl rfl) (.tmp rfl)) (HLe.one [] _) ?_))
 ·exact (hdef _ _ _).2 ⟨_, [], _, rfl, by rw [hdisc, if_pos hb1]; rfl, RS.nil0, λ p hp => (by cases hp), by rw [hdisc, if_pos hb1]; rfl⟩
 have hb1 : ¬ b < 1 := odf h1
 refine .kn<|.seq<|.sr<|.mo rfl<|.mo rfl ?_
 refine .callR ((hD.can rev).weaken rxl) (λ u hu => ?_)
 subst hu
 refine .q .not<|.zn ?_
 refine .cond rfl (λ h2 => ?_) λ h2 => ?_
 have hsc : scan S rev = false := by simpa using h2
 refine .sr ?_
 refine .q .bld ?_
 refine .storeA rfl rfl<|.az rfl ?_
 refine .ret (seqQ_r (retQ_r _ (.two (.cellA rfl rfl) (.tmp rfl)) (HLe.one [] _) ?_))
 ·exact (hdef _ _ _).2 ⟨_, [], _, rfl, by rw [hdisc, if_neg hb1, if_pos hsc]; rfl, RS.nil0, λ p hp => (by cases hp), by rw [hdisc, if_neg hb1, if_pos hsc]; rfl⟩
 have hsc : scan S rev = true := by simpa using h2
 rw [if_neg hb1, if_neg (by rw [hsc]; simp)] at hdisc
 refine .kn<|.sr<|.q (.loadA rfl)<|.q (.loadA rfl)<|.mo rfl ?_
 refine .callR ((hone k).weaken rxl) (λ u hu => ?_)
 obtain ⟨p0, rfl, hp0, hp0i⟩ := hu
 have ip0 : Ones p0.enc := ⟨hp0i.ones⟩
 refine .buildSlice1A (λ b42 => ?_)
 refine .q .bld ?_
 refine .allocA (λ b14 => ?_)
 refine .storeA rfl rfl<|.zs<|.sr<|.az rfl<|.block ?_
 refine .loopS [(1, _), (2, _), (5, _), (6, _), (12, _), (14, _)] (X := Nat × List PlM × Value × Seg × Seg) (λ y => (∀ j, j < y.1 -> j < (opened cp num sub k j).1.length) /\ y.2.1.map PlM.plain = (opened cp num sub k y.1).1 /\ OS 121 8 PlM.enc y.2.2.1 y.2.1 y.2.2.2.1 /\ ∀ q ∈ y.2.1, (q.is λ b o => R b o \/ (b, o) ∈ y.2.2.2.2) /\ RS R 5 Nd.enc q.vn q.nodes) (λ y E => (15, iN y.1) :: E) (G := [bl b12 [sZ, .int .i64 0] 47, bl b9 [.string k.os, .string k.oi] 30, bl b6 c.enc 25]) (λ y G => bl b14 [y.2.2.1, .int .i64 ((opened cp num sub k y.1).2 : Nat)] 47 :: y.2.2.2.1 :: y.2.2.2.2 :: G) (λ y => N + 1 - y.1) (0, [p0], .slice (some ⟨b42, 0, none⟩) 1 1, bl b42 p0.enc 121, []) ⟨λ j hj => (by omega), by simp only [List.map_cons, List.map_nil, hp0]; rfl, OS.lits (by simp) (by simp [PlM.enc]) (by simpa using ip0.h), λ q hq => by
  rw [List.mem_singleton] at hq
  subst hq
  exact ⟨hp0i.mono λ b o hb => .inl hb, hp0i.n⟩⟩ kE.c.c.c.c.c.c.c (HLe.new0.trans (pkH [1, 1, 0, 0, 0, 0])) ?_
 rintro ⟨i, ps, vp, To, Tp⟩ ⟨hj1, heq, hO, hP⟩
 simp only at hj1 heq hO hP ⊢
 have ivp := hO.oneCell
 have hiN := opened_here hN hj1
 have hlm := hlim i hj1
 have hpl : ps.length = (opened cp num sub k i).1.length := by rw [<- heq, List.length_map]
 refine .seq<|.sr<|.mo rfl<|.fa rfl<|.lo rfl<|.q (.lenO hO) ?_
 refine .q .lss<|.zn ?_
 refine .cond rfl (λ h3 => ?_) λ h3 => ?_
 have hil : i < ps.length := lt_i h3
 obtain ⟨p, hp⟩ := exg hil
 have hpm := mog hp
 have hpi := (hP p hpm).1
 have hpn := (hP p hpm).2
 have ipp : Ones p.enc := ⟨hpi.ones⟩
 have hfr : p.plain = one cp num p.k := opened_fresh (c := cp) (num := num) (sub := sub) (k := k) i i p.plain (Nat.le_refl _) (by rw [<- heq, List.getElem?_map, hp]; rfl)
 have hnl : p.nodes.length <= 64 := by
  have h9 := hol p.k
  rw [<- hfr] at h9
  exact h9
 have hj2 : ∀ j, j < i + 1 -> j < (opened cp num sub k j).1.length := λ j h9 => by
  rcases Nat.lt_or_ge j i with h8 | h8
  ·exact hj1 j h8
  ·obtain rfl : j = i := by omega
   omega
 have hlm2 := hlim (i + 1) hj2
 have hos := opened_succ (c := cp) (num := num) (sub := sub) (k := k) i
 have hpl2 : (ps.map PlM.plain)[i]? = some p.plain := by rw [List.getElem?_map, hp]; rfl
 have hopen := openP_eq (c := cp) (num := num) (sub := sub) hpl2
 rw [<- heq, hopen] at hos
 obtain ⟨kk, fo, vn, nds, vu0, us, vl0, ll, nm⟩ := p
 have hn : RS R 5 Nd.enc vn nds := hpn
 have hpd : PlM.plain ⟨kk, fo, vn, nds, vu0, us, vl0, ll, nm⟩ = ⟨kk, fo, nds, nm, us, ll.map (·.2)⟩ := rfl
 rw [hpd] at hos
 simp only at hos hnl
 have hivn := hn.oneCell
 have hle := λ j => addNs_le (c := cp) (num := num) (sub := sub) kk nds j (ps.map PlM.plain)
 have htk := λ (j : Nat) (n : Nd) (hj : nds[j]? = some n) => addNs_take (c := cp) (num := num) (sub := sub) hj kk (ps.map PlM.plain)
 have hlt2 := λ j => addNs_lt (c := cp) (num := num) (sub := sub) kk (nds.take j) (ps.map PlM.plain)
 have hl2 : (addNs cp num sub kk (ps.map PlM.plain) nds).1.length <= 1048576 := by
  have h9 := congrArg (λ z : List Plc × Nat => z.1.length) hos
  simp only [List.length_set] at h9
  omega
 refine .kn<|.seq<|.block<|.sr<|.fa rfl<|.lo rfl<|.mo rfl ?_
 refine .indexO i hO hp (λ p54 => ?_)
 refine .q (.loadA rfl) ?_
 refine .allocA (λ b16 => ?_)
 refine .storeA rfl rfl<|.z<|.ag rfl<|.z<|.ag rfl<|.zs ?_
 refine Tri.cutS [(1, _), (2, _), (5, _), (6, _), (12, _), (14, _), (15, _), (16, _), (17, _)] kE.c.c.c.c.c.c.c.c.c (X := Value × Seg) (λ y => OS 9 1 encS y.1 (if fo then usersOf cp sub kk else []) y.2) (λ y E => (18, y.1) :: E) (λ y => [y.2, bl b16 (PlM.enc ⟨kk, fo, vn, nds, vu0, us, vl0, ll, nm⟩) 121, bl b14 [vp, .int .i64 ((opened cp num sub k i).2 : Nat)] 47, To, Tp, bl b12 [sZ, .int .i64 0] 47, bl b9 [.string k.os, .string k.oi] 30, bl b6 c.enc 25]) ?_ ?_
 refine .sr<|.fa rfl<|.lo rfl<|.zn ?_
 refine .cond rfl (λ h4 => ?_) λ h4 => ?_
 have hf : fo = true := h4
 refine .sr<|.q (.loadA rfl)<|.mo rfl<|.mo rfl<|.fa rfl<|.q (.loadT rfl) ?_
 refine .fa rfl<|.lo rfl ?_
 refine .callN ((hfit kk).weaken rxl) (λ u T19 hu => ?_)
 have iu := hu.oneCell
 have hfl' := hfl kk
 have huse' := huse kk
 generalize hfl_ : fitting cp sub kk = fl at *
 have hul : ∀ q, (((fl.take q).filter λ s => !decide (s.us = ⟨#[]⟩)).map (·.us)).length <= 512 := λ q => by
  rw [List.length_map]
  exact Nat.le_trans (List.length_filter_le _ _) (by rw [List.length_take]; omega)
 refine .ag rfl<|.z<|.az rfl<|.block ?_
 refine .loopS [(1, _), (2, _), (5, _), (6, _), (12, _), (14, _), (15, _), (16, _), (17, _), (19, _)] (X := Nat × Value × Seg) (λ y => y.1 <= fl.length /\ OS 9 1 encS y.2.1 (((fl.take y.1).filter λ s => !decide (s.us = ⟨#[]⟩)).map (·.us)) y.2.2) (λ y E => (20, iN y.1) :: (18, y.2.1) :: E) (λ y G => y.2.2 :: G) (λ y => fl.length - y.1) (0, sZ, []) ⟨Nat.zero_le _, OS.nil⟩ kE.c.c.c.c.c.c.c.c.c.c.c.c HLe.new0 ?_
 rintro ⟨q, vo, Tq⟩ ⟨hq, hOq⟩
 simp only at hq hOq ⊢
 have io := hOq.oneCell
 refine .seq<|.sr<|.mo rfl<|.mo rfl<|.q (.lenO hu) ?_
 refine .q .lss<|.zn ?_
 refine .cond rfl (λ h5 => ?_) λ h5 => ?_
 have hqt : q < fl.length := lt_i h5
 obtain ⟨s, hs⟩ := exg hqt
 have hul' := hul q
 have htk9 := take_next hs
 obtain ⟨us9, ss9, si9, sr9⟩ := s
 refine .kn<|.seq<|.block<|.sr<|.mo rfl<|.mo rfl ?_
 refine .indexO q hu hs (λ p74 => ?_)
 refine .fa rfl<|.lo rfl<|.q .neS<|.zn ?_
 refine .cond rfl (λ h6 => ?_) λ h6 => ?_
 have hun : us9 ≠ ⟨#[]⟩ := by simpa using h6
 have hnx : ((fl.take (q + 1)).filter λ s => !decide (s.us = ⟨#[]⟩)).map (·.us) = ((fl.take q).filter λ s => !decide (s.us = ⟨#[]⟩)).map (·.us) ++ [us9] := by rw [htk9, List.filter_append, List.map_append]; simp [hun]
 refine .region<|.mo rfl<|.mo rfl<|.mo rfl ?_
 refine .indexO q hu hs (λ p81 => ?_)
 refine .fa rfl<|.lo rfl ?_
 refine .buildSlice11 (λ b84 => ?_)
 refine .append hOq (RS.lits (xs := [us9]) rfl (by simp [encS]) (by simp [encS, oneCell])) (by simp only [List.length_singleton]; omega) (λ v5 T5 hv5 => ?_)
 rw [<- hnx] at hv5
 refine .ag rfl<|.nil<|blkQ_n<|seqQ_n<|.region<|.mo rfl ?_
 refine .ia (q + 1) .add ?_
 refine .ag rfl<|.nil ?_
 ·exact loopQ_i (q + 1, v5, T5) ⟨hqt, hv5⟩ (by simp only; omega) kE.c.c.c.c.c.c.c.c.c.c.c.c (HLe.drop [0] _)
 have hun : us9 = ⟨#[]⟩ := by simpa using h6
 have hnx : ((fl.take (q + 1)).filter λ s => !decide (s.us = ⟨#[]⟩)).map (·.us) = ((fl.take q).filter λ s => !decide (s.us = ⟨#[]⟩)).map (·.us) := by rw [htk9, List.filter_append]; simp [hun]
 refine .skip<|blkQ_n<|seqQ_n<|.region<|.mo rfl ?_
 refine .ia (q + 1) .add ?_
 refine .ag rfl<|.nil ?_
 ·exact loopQ_i (q + 1, vo, Tq) ⟨hqt, by simp only; rw [hnx]; exact hOq⟩ (by simp only; omega) kE.c.c.c.c.c.c.c.c.c.c.c.c rH
 refine .exit<|seqQ_x<|loopQ_x<|blkQ_x ?_
 ·exact joinQ_n (vo, Tq) (by
   rw [take_end (ge_i h5), <- huse'] at hOq
   simp only [hf, if_true]
   exact hOq) kE.c.c.c.c.c.c.c.c.c.c (pkH [0, 1, 1, 1, 1, 1, 1, 1])
 have hf : fo = false := h4
 refine .skip ?_
 ·exact joinQ_n (sZ, []) (by simp only [hf]; exact OS.nil) kE.c.c.c.c.c.c.c.c.c.c HLe.new0
 intro y hy
 obtain ⟨vu, Tu⟩ := y
 have hu := hy
 simp only at hu ⊢
 have ivu := hu.oneCell
 clear hy
 refine seqQ_n<|.sr<|.ag rfl<|.zs<|.sr<|.az rfl<|.block ?_
 refine .loopS [(1, _), (2, _), (5, _), (6, _), (12, _), (14, _), (15, _), (16, _), (18, _)] (X := Nat × List PlM × Value × Seg × Value × List NlM × Seg × Seg × Value × List Nat × Seg) (λ y => y.1 <= nds.length /\ RdI cp num sub R ps kk (nds.take y.1) y.2.1 y.2.2.1 y.2.2.2.1 y.2.2.2.2.1 y.2.2.2.2.2.1 y.2.2.2.2.2.2.1 y.2.2.2.2.2.2.2.1 y.2.2.2.2.2.2.2.2.1 y.2.2.2.2.2.2.2.2.2.1 y.2.2.2.2.2.2.2.2.2.2) (λ y E => (22, iN y.1) :: (21, y.2.2.2.2.1) :: (17, y.2.2.2.2.2.2.2.2.1) :: E) (G := [Tu, bl b16 (PlM.enc ⟨kk, fo, vn, nds, vu0, us, vl0, ll, nm⟩) 121, Tp, bl b12 [sZ, .int .i64 0] 47, bl b9 [.string k.os, .string k.oi] 30, bl b6 c.enc 25]) (λ y G => bl b14 [y.2.2.1, .int .i64 ((opened cp num sub k i).2 : Nat)] 47 :: y.2.2.2.1 :: y.2.2.2.2.2.2.1 :: y.2.2.2.2.2.2.2.1 :: y.2.2.2.2.2.2.2.2.2.2 :: G) (λ y => nds.length - y.1) (0, ps, vp, To, sZ, [], [], [], sZ, [], []) ⟨Nat.zero_le _, ⟨rfl, hO, ⟨[], by simp, λ q hq => (by cases hq)⟩, OS.nil, λ q hq => (by cases hq), rfl, OS.nil, rfl⟩⟩ kE.c.c.c.c.c.c.c.c.c.c.c.c (HLe.new000.trans (pkH [5, 5, 0, 0, 0, 0, 0, 0, 0, 0, 0])) ?_
 rintro ⟨j, ps1, vp1, To1, vL, L, TL, Tr, vS, sn, TS⟩ ⟨hj, hI⟩
 simp only at hj hI ⊢
 have ivL := hI.le.oneCell
 have ip1 := hI.o.oneCell
 have ivS := hI.so.oneCell
 have hLl : L.length <= j := by
  have h9 := congrArg List.length hI.ll
  have h8 := (addNs_leads (c := cp) (num := num) (sub := sub) kk (nds.take j) (ps.map PlM.plain)).1
  rw [List.length_map] at h9
  rw [List.length_take] at h8
  omega
 have h1l : ps1.length = (addNs cp num sub kk (ps.map PlM.plain) (nds.take j)).1.length := by rw [<- hI.eq, List.length_map]
 have hlej := hle j
 have hsnl : sn.length <= ps1.length := by
  rw [hI.sq, h1l]
  refine seenL_len λ y hy => ?_
  obtain ⟨l, hl9, hy⟩ := List.mem_flatten.1 hy
  exact hlt2 j l hl9 y hy
 refine .seq<|.sr<|.mo rfl<|.fa rfl<|.lo rfl<|.q (.lenR hn) ?_
 refine .q .lss<|.zn ?_
 refine .cond rfl (λ h7 => ?_) λ h7 => ?_
 have hjt : j < nds.length := lt_i h7
 obtain ⟨n, hn0⟩ := exg hjt
 have htj := htk j n hn0
 have hlej1 := hle (j + 1)
 rw [htj, <- hI.eq] at hlej1
 simp only at hlej1
 have hA0 : aheadS cp sub kk n = (aheadK cp sub kk n).map λ x => ⟨⟨#[]⟩, x.os, x.oi, x.rel⟩ := rfl
 have hahl' := hahl kk n
 generalize hks_ : aheadK cp sub kk n = ks at *
 have hlem := λ m => addKs_le (c := cp) (num := num) ks m (ps1.map PlM.plain)
 have hlnm := λ m => addKs_len (c := cp) (num := num) (ks.take m) (ps1.map PlM.plain)
 refine .kn<|.seq<|.block<|.sr<|.ag rfl<|.zs ?_
 refine .region_tail 9 mixed (by kernel_rfl) ?_
 conv => arg 6; dsimp only [List.take]
 refine .q (.loadA rfl)<|.mo rfl<|.mo rfl<|.q (.loadA rfl)<|.fa rfl<|.lo rfl<|.mo rfl ?_
 refine .indexR j hn hn0 (λ p100 => ?_)
 refine .q (.loadA rfl)<|.nil ?_
 refine .callN ((hah kk [.bool fo, vn, vu0, vl0, iN nm] n ⟨λ u hu => ipp.h u (by simp only [PlM.enc]; simp only [List.mem_cons, List.not_mem_nil, or_false] at hu ⊢; simp [hu])⟩ rfl).weaken rxl) (λ u T24 hS => ?_)
 have iuS := hS.oneCell
 rw [hA0] at hS
 refine .ag rfl<|.zs<|.sr<|.az rfl<|.block ?_
 refine .loopS [(1, _), (2, _), (5, _), (6, _), (12, _), (14, _), (15, _), (16, _), (18, _), (21, _), (22, _), (24, _)] (X := Nat × List PlM × Value × Seg × Value × Seg × Value × List Nat × Seg) (λ y => y.1 <= ks.length /\ RdJ cp num R ps1 (ks.take y.1) sn y.2.1 y.2.2.1 y.2.2.2.1 y.2.2.2.2.1 y.2.2.2.2.2.1 y.2.2.2.2.2.2.1 y.2.2.2.2.2.2.2.1 y.2.2.2.2.2.2.2.2) (λ y E => (25, iN y.1) :: (23, y.2.2.2.2.1) :: (17, y.2.2.2.2.2.2.1) :: E) (G := [T24, TL, Tr, Tu, bl b16 (PlM.enc ⟨kk, fo, vn, nds, vu0, us, vl0, ll, nm⟩) 121, Tp, bl b12 [sZ, .int .i64 0] 47, bl b9 [.string k.os, .string k.oi] 30, bl b6 c.enc 25]) (λ y G => bl b14 [y.2.2.1, .int .i64 ((opened cp num sub k i).2 : Nat)] 47 :: y.2.2.2.1 :: y.2.2.2.2.2.1 :: y.2.2.2.2.2.2.2.2 :: G) (λ y => ks.length - y.1) (0, ps1, vp1, To1, sZ, [], vS, sn, TS) ⟨Nat.zero_le _, ⟨rfl, hI.o, ⟨[], by simp, λ q hq => (by cases hq)⟩, OS.nil, hI.so, rfl⟩⟩ kE.c.c.c.c.c.c.c.c.c.c.c.c.c.c.c (HLe.new0.trans (pkH [2, 2, 0, 3, 0, 0, 0, 0, 0, 0, 0, 0, 0])) ?_
 rintro ⟨m, ps2, vp2, To2, vR, TR, vS2, sn2, TS2⟩ ⟨hm9, hJ⟩
 simp only at hm9 hJ ⊢
 have ivR := hJ.r.oneCell
 have ip2 := hJ.o.oneCell
 have ivS2 := hJ.so.oneCell
 have hlem' := hlem m
 have hlnm' := hlnm m
 rw [List.length_take] at hlnm'
 have h2l : ps2.length = (addKs cp num (ps1.map PlM.plain) (ks.take m)).1.length := by rw [<- hJ.eq, List.length_map]
 have hsn2 : sn2.length <= 1048576 := by
  rw [hJ.sq, hI.sq, <- seenL_app]
  refine Nat.le_trans (seenL_len (n := ps2.length) λ y hy => ?_) (by omega)
  rcases List.mem_append.1 hy with hy | hy
  ·obtain ⟨l, hl9, hy⟩ := List.mem_flatten.1 hy
   have h8 := hlt2 j l hl9 y hy
   obtain ⟨l7, hl7, _⟩ := hJ.gr
   rw [hl7, List.length_append]
   omega
  ·have h8 := addKs_lt (c := cp) (num := num) (ks.take m) (ps1.map PlM.plain) y hy
   omega
 refine .seq<|.sr<|.mo rfl<|.mo rfl<|.q (.lenO hS) ?_
 refine .q .lss<|.zn ?_
 refine .cond rfl (λ h8 => ?_) λ h8 => ?_
 have hmt : m < ks.length := by have := odt h8; rw [List.length_map] at this; omega
 obtain ⟨⟨xo, xi, xr⟩, hx⟩ := exg hmt
 have hs : (ks.map λ x => (⟨⟨#[]⟩, x.os, x.oi, x.rel⟩ : Sub))[m]? = some ⟨⟨#[]⟩, xo, xi, xr⟩ := by rw [List.getElem?_map, hx]; rfl
 have htm := addKs_take (c := cp) (num := num) hx (ps1.map PlM.plain)
 rw [<- hJ.eq] at htm
 have hlem2 := hlem (m + 1)
 rw [htm] at hlem2
 simp only at hlem2
 have hkl : ∀ q, pfind (ps2.map PlM.plain) ⟨xo, xi, xr⟩ = some q -> addK cp num (ps2.map PlM.plain) ⟨xo, xi, xr⟩ = (ps2.map PlM.plain, q) := λ q hq => by unfold addK; rw [hq]
 have hkn : pfind (ps2.map PlM.plain) ⟨xo, xi, xr⟩ = none -> addK cp num (ps2.map PlM.plain) ⟨xo, xi, xr⟩ = (ps2.map PlM.plain ++ [one cp num ⟨xo, xi, xr⟩], ps2.length) := λ hq => by unfold addK; rw [hq]; simp
 refine .kn<|.seq<|.block<|.seq ?_
 refine .region_tail 12 mixed (by kernel_rfl) ?_
 conv => arg 6; dsimp only [List.take]
 refine .fa rfl<|.lo rfl<|.mo rfl<|.mo rfl ?_
 refine .indexO m hS hs (λ p113 => ?_)
 refine .fa rfl<|.q (.loadT rfl) ?_
 refine .mo rfl<|.mo rfl ?_
 refine .indexO m hS hs (λ p118 => ?_)
 refine .fa rfl<|.lo rfl<|.nil ?_
 refine .callR (rfind20_spec vp2 ps2 _ hJ.o.rx ⟨xo, xi, xr⟩) (λ w hw => ?_)
 subst hw
 refine .ag rfl<|.zs ?_
 refine Tri.cutS [(1, _), (2, _), (5, _), (6, _), (12, _), (14, _), (15, _), (16, _), (17, _), (18, _), (21, _), (22, _), (23, _), (24, _), (25, _)] kE.c.c.c.c.c.c.c.c.c.c.c.c.c.c.c (X := Nat × List PlM × Value × Seg) (λ y => y.1 = (addK cp num (ps2.map PlM.plain) ⟨xo, xi, xr⟩).2 /\ y.2.1.map PlM.plain = (addK cp num (ps2.map PlM.plain) ⟨xo, xi, xr⟩).1 /\ OS 121 8 PlM.enc y.2.2.1 y.2.1 y.2.2.2 /\ ∃ l, y.2.1 = ps2 ++ l /\ ∀ p ∈ l, PlM.is R p) (λ y E => (26, iN y.1) :: E) (λ y => [bl b14 [y.2.2.1, .int .i64 ((opened cp num sub k i).2 : Nat)] 47, y.2.2.2, TR, TS2, T24, TL, Tr, Tu, bl b16 (PlM.enc ⟨kk, fo, vn, nds, vu0, us, vl0, ll, nm⟩) 121, Tp, bl b12 [sZ, .int .i64 0] 47, bl b9 [.string k.os, .string k.oi] 30, bl b6 c.enc 25]) ?_ ?_
 refine .sr<|.mo rfl<|.q .lss<|.zn ?_
 refine .cond rfl (λ h9 => ?_) λ h9 => ?_
 have hnone : pfind (ps2.map PlM.plain) ⟨xo, xi, xr⟩ = none := by
  cases hh : pfind (ps2.map PlM.plain) ⟨xo, xi, xr⟩ with
  | none => rfl
  | some q => rw [hh] at h9; simp only [fI] at h9; have := odt h9; omega
 have hkn' := hkn hnone
 refine .sr<|.fa rfl<|.lo rfl<|.q (.lenO hJ.o) ?_
 refine .ag rfl<|.z<|.fa rfl<|.lo rfl<|.az rfl<|.region_all [14, 16] mixed ?_
 refine .tO 0 rfl .move<|.tO 1 rfl (.loadA rfl)<|.tO 2 rfl .move<|.tO 3 rfl .move ?_
 refine RA.indexO 4 rfl m hS hs rfl rfl rfl (by kernel_rfl) (λ p133 => ?_)
 refine .tO 5 rfl (.fieldAddr rfl) ?_
 refine .tO 6 rfl (.loadT rfl) ?_
 refine .tO 7 rfl .move<|.tO 8 rfl .move ?_
 refine RA.indexO 9 rfl m hS hs rfl rfl rfl (by kernel_rfl) (λ p138 => ?_)
 refine .tO 10 rfl (.fieldAddr rfl)<|.tO 11 rfl (.load1 rfl) ?_
 refine .sT 12 rfl ?_
 refine .callR ((hone ⟨xo, xi, xr⟩).weaken rxl) (λ u hu9 => ?_)
 obtain ⟨p9, rfl, hp9, hp9i⟩ := hu9
 have ip9 : Ones p9.enc := ⟨hp9i.ones⟩
 refine .nil (Next.sub ?_)
 refine .sT 13 rfl ?_
 refine .buildSlice1A (λ b142 => ?_)
 refine .nil (Next.sub ?_)
 refine .sT 14 rfl ?_
 refine .append hJ.o (RS.lits (xs := [p9]) (by simp) (by simp [PlM.enc]) (by simpa using ip9.h)) (by simp only [List.length_singleton]; omega) (λ v5 T5 hv5 => ?_)
 have iv5 := hv5.oneCell
 refine .nil (Next.mod rfl ?_)
 refine .tK 15 rfl (.fieldAddrA rfl) ?_
 refine .sT 16 rfl ?_
 refine .store1 rfl rfl ?_
 refine .nil (Next.mod rfl ?_)
 refine RA.nil (by kernel_rfl) ?_
 ·exact joinQ_n (ps2.length, ps2 ++ [p9], v5, T5) ⟨by rw [hkn'], by rw [hkn', List.map_append, List.map_cons, List.map_nil, hp9], hv5, _, rfl, λ p hp => by rw [List.mem_singleton] at hp; subst hp; exact hp9i⟩ kE.c.c.c.c.c.c.c.c.c.c.c.c.c.c.c.c (HLe.drop [0] _)
 obtain ⟨q9, hq9⟩ : ∃ q, pfind (ps2.map PlM.plain) ⟨xo, xi, xr⟩ = some q := by
  cases hh : pfind (ps2.map PlM.plain) ⟨xo, xi, xr⟩ with
  | none => rw [hh] at h9; simp [fI] at h9
  | some q => exact ⟨q, rfl⟩
 have hkl' := hkl q9 hq9
 rw [hq9]
 refine .skip ?_
 ·exact joinQ_n (q9, ps2, vp2, To2) ⟨by rw [hkl'], by rw [hkl'], hJ.o, [], by simp, λ p hp => (by cases hp)⟩ kE.c.c.c.c.c.c.c.c.c.c.c.c.c.c.c.c rH
 intro y hy
 obtain ⟨to, ps3, vp3, To3⟩ := y
 obtain ⟨hto, he3, hO3, hg3⟩ := hy
 simp only at hto he3 hO3 hg3 ⊢
 have ip3 := hO3.oneCell
 have htm2 : (addKs cp num (ps1.map PlM.plain) (ks.take (m + 1))).2 = (addKs cp num (ps1.map PlM.plain) (ks.take m)).2 ++ [to] := by rw [htm, hto]
 have htm1 : (addKs cp num (ps1.map PlM.plain) (ks.take (m + 1))).1 = ps3.map PlM.plain := by rw [htm, he3]
 have hsq3 : seenL sn (addKs cp num (ps1.map PlM.plain) (ks.take (m + 1))).2 = if to ∈ sn2 then sn2 else sn2 ++ [to] := by rw [htm2, seenL_app, <- hJ.sq, seenL_one]
 have hgr3 : ∃ l, ps3 = ps1 ++ l /\ ∀ p ∈ l, PlM.is R p := by
  obtain ⟨l1, h11, h12⟩ := hJ.gr
  obtain ⟨l2, h21, h22⟩ := hg3
  refine ⟨l1 ++ l2, by rw [h21, h11, List.append_assoc], λ q hq => ?_⟩
  rcases List.mem_append.1 hq with hq | hq
  ·exact h12 q hq
  ·exact h22 q hq
 refine seqQ_n<|.sr<|.mo rfl<|.mo rfl ?_
 refine .buildSlice11 (λ b147 => ?_)
 refine .append hJ.r (RS.lits (xs := [to]) rfl (by simp [encNt]) (by simp [encNt, oneCell])) (by simp only [List.length_singleton]; omega) (λ v6 T6 hv6 => ?_)
 have iv6 := hv6.oneCell
 rw [<- htm2] at hv6
 refine .ag rfl<|.z<|.ag rfl<|.zs<|.sr<|.az rfl<|.block ?_
 refine .loopS [(1, _), (2, _), (5, _), (6, _), (12, _), (14, _), (15, _), (16, _), (17, _), (18, _), (21, _), (22, _), (23, _), (24, _), (25, _), (26, _)] (X := Nat) (λ q => q <= sn2.length) (λ q E => (29, iN q) :: (28, .bool ((sn2.take q).any λ z => decide (z = to))) :: E) (λ _ G => G) (λ q => sn2.length - q) 0 (Nat.zero_le _) kE.c.c.c.c.c.c.c.c.c.c.c.c.c.c.c.c.c.c rH ?_
 rintro q hq
 refine .seq<|.sr<|.mo rfl<|.mo rfl<|.q (.lenO hJ.so) ?_
 refine .q .lss<|.zn ?_
 refine .cond rfl (λ h10 => ?_) λ h10 => ?_
 have hqt : q < sn2.length := lt_i h10
 obtain ⟨z, hz⟩ := exg hqt
 have hany := any_take_next hz to
 refine .kn<|.seq<|.block ?_
 refine Tri.cutS [(1, _), (2, _), (5, _), (6, _), (12, _), (14, _), (15, _), (16, _), (17, _), (18, _), (21, _), (22, _), (23, _), (24, _), (25, _), (26, _), (29, _)] kE.c.c.c.c.c.c.c.c.c.c.c.c.c.c.c.c.c (X := Unit) (λ _ => True) (λ _ E => (28, .bool ((sn2.take (q + 1)).any λ z => decide (z = to))) :: E) (λ _ => [bl b147 [iN to] 3, bl b14 [vp3, .int .i64 ((opened cp num sub k i).2 : Nat)] 47, To3, T6, TS2, T24, TL, Tr, Tu, bl b16 (PlM.enc ⟨kk, fo, vn, nds, vu0, us, vl0, ll, nm⟩) 121, Tp, bl b12 [sZ, .int .i64 0] 47, bl b9 [.string k.os, .string k.oi] 30, bl b6 c.enc 25]) ?_ ?_
 refine .region<|.mo rfl<|.mo rfl ?_
 refine .split (t := 156) rfl (λ g38_1 => ?_) (λ g38_1 => ?_)
 refine .gF g38_1<|.gF g38_1<|.gF g38_1<|.gF g38_1<|.gF g38_1<|.gF g38_1<|.q (.pickTh g38_1) ?_
 refine .ag rfl<|.nil ?_
 ·exact joinQ_n () trivial (kE.c.c.c.c.c.c.c.c.c.c.c.c.c.c.c.c.c.consB rfl (by rw [hany]; grind)) rH
 refine .gT g38_1<|.mo rfl<|.gT g38_1<|.mo rfl<|.gT g38_1 ?_
 refine .indexO q hJ.so hz (λ p159 => ?_)
 refine .gT g38_1<|.lo rfl<|.gT g38_1<|.mo rfl<|.gT g38_1<|.q .eqI<|.q (.pickFh g38_1) ?_
 refine .ag rfl<|.nil ?_
 ·exact joinQ_n () trivial (kE.c.c.c.c.c.c.c.c.c.c.c.c.c.c.c.c.c.consB rfl (by rw [hany]; grind)) rH
 intro y hy
 refine blkQ_n<|seqQ_n<|.region<|.mo rfl ?_
 refine .ia (q + 1) .add ?_
 refine .ag rfl<|.nil ?_
 ·exact loopQ_i (q + 1) hqt (by omega) kE.c.c.c.c.c.c.c.c.c.c.c.c.c.c.c.c.c.c rH
 have hqe : q = sn2.length := by have := odf h10; omega
 subst hqe
 refine .exit<|seqQ_x<|loopQ_x<|blkQ_x<|seqQ_n<|.sr<|.mo rfl<|.q .not<|.zn ?_
 refine .cond rfl (λ h11 => ?_) λ h11 => ?_
 have hmem : to ∉ sn2 := by
  have : ((sn2.take sn2.length).any λ z => decide (z = to)) = false := by simpa using h11
  rw [List.take_length] at this
  intro hh
  have h8 := List.any_eq_false.1 this to hh
  simp at h8
 rw [if_neg hmem] at hsq3
 refine .region<|.mo rfl<|.mo rfl ?_
 refine .buildSlice11 (λ b168 => ?_)
 refine .append hJ.so (RS.lits (xs := [to]) rfl (by simp [encNt]) (by simp [encNt, oneCell])) (by simp only [List.length_singleton]; omega) (λ v7 T7 hv7 => ?_)
 have iv7 := hv7.oneCell
 refine .ag rfl<|.nil<|blkQ_n<|seqQ_n<|.region<|.mo rfl ?_
 refine .ia (m + 1) .add ?_
 refine .ag rfl<|.nil ?_
 ·exact loopQ_i (m + 1, ps3, vp3, To3, v6, T6, v7, sn2 ++ [to], T7) ⟨hmt, ⟨htm1.symm, hO3, hgr3, hv6, hv7, hsq3.symm⟩⟩ (by simp only; omega) kE.c.c.c.c.c.c.c.c.c.c.c.c.c.c.c (HLe.drop [0, 0] _)
 have hmem : to ∈ sn2 := by
  have : ((sn2.take sn2.length).any λ z => decide (z = to)) = true := by simpa using h11
  rw [List.take_length, List.any_eq_true] at this
  obtain ⟨z, hz, e⟩ := this
  exact (odt e) ▸ hz
 rw [if_pos hmem] at hsq3
 refine .skip<|blkQ_n<|seqQ_n<|.region<|.mo rfl ?_
 refine .ia (m + 1) .add ?_
 refine .ag rfl<|.nil ?_
 ·exact loopQ_i (m + 1, ps3, vp3, To3, v6, T6, vS2, sn2, TS2) ⟨hmt, ⟨htm1.symm, hO3, hgr3, hv6, hJ.so, hsq3.symm⟩⟩ (by simp only; omega) kE.c.c.c.c.c.c.c.c.c.c.c.c.c.c.c (HLe.drop [0] _)
 have hme : m = ks.length := by have := odf h8; rw [List.length_map] at this; omega
 rw [hme, List.take_length] at hJ hlnm'
 obtain ⟨pu, cu, rfl, _⟩ := hJ.r.shape
 refine .exit<|seqQ_x<|loopQ_x<|blkQ_x<|seqQ_n<|.region<|.mo rfl<|.mo rfl ?_
 refine .buildSlice11 (λ b172 => ?_)
 refine .append hI.le (RS.lits (xs := [((.slice pu (addKs cp num (ps1.map PlM.plain) ks).2.length cu, (addKs cp num (ps1.map PlM.plain) ks).2) : NlM)]) rfl (by simp [encV1]) (by simp [encV1, oneCell])) (by simp only [List.length_singleton]; omega) (λ v5 T5 hv5 => ?_)
 have i5 := hv5.oneCell
 refine .ag rfl<|.nil<|blkQ_n<|seqQ_n<|.region<|.mo rfl ?_
 refine .ia (j + 1) .add ?_
 refine .ag rfl<|.nil ?_
 ·exact loopQ_i (j + 1, ps2, vp2, To2, v5, L ++ [(.slice pu (addKs cp num (ps1.map PlM.plain) ks).2.length cu, (addKs cp num (ps1.map PlM.plain) ks).2)], T5, TR ++ Tr, vS2, sn2, TS2) ⟨hjt, ⟨by rw [htj, hJ.eq, hI.eq], hJ.o, by
   obtain ⟨l1, h11, h12⟩ := hI.gr
   obtain ⟨l2, h21, h22⟩ := hJ.gr
   refine ⟨l1 ++ l2, by rw [h21, h11, List.append_assoc], λ q hq => ?_⟩
   rcases List.mem_append.1 hq with hq | hq
   ·exact h12 q hq
   ·exact h22 q hq, hv5, λ q hq => by
   rcases List.mem_append.1 hq with hq | hq
   ·exact (hI.rows q hq).mono λ b o hb => sg_right hb
   ·rw [List.mem_singleton] at hq
    subst hq
    exact hJ.r.sg.mono λ b o hb => sg_left hb, by rw [htj, List.map_append, hI.ll, hI.eq]; rfl, hJ.so, by rw [htj, List.flatten_append, seenL_app, hJ.sq, hI.sq, hI.eq]; simp⟩⟩ (by simp only; omega) kE.c.c.c.c.c.c.c.c.c.c.c.c ((pkH [1, 1, 4, 1, 3, 1, 2, 2, 2, 2, 2, 2]).trans (HLe.ofPerm (by simp [take, dropAt])))
 have hje : j = nds.length := by have := odf h7; omega
 rw [hje, List.take_length] at hI
 have hq1 : ps1[i]? = some ⟨kk, fo, vn, nds, vu0, us, vl0, ll, nm⟩ := by
  obtain ⟨l, hl9, _⟩ := hI.gr
  rw [hl9, List.getElem?_append_left hil, hp]
 obtain ⟨a9, ha9⟩ := hI.o.basep hq1
 have hsnd : sn.length = ndiff (addNs cp num sub kk (ps.map PlM.plain) nds).2.flatten := by rw [hI.sq]; rfl
 refine .exit<|seqQ_x<|loopQ_x<|blkQ_x<|seqQ_n<|.seq<|.region_any [1] [10, 13] mixed ?_
 conv => arg 3; simp only [take, rest, dropAt, List.getD_cons_zero, List.getD_cons_succ]
 conv => arg 5; simp only [take, rest, dropAt, List.getD_cons_zero, List.getD_cons_succ]
 conv => arg 9; simp only [take, rest, dropAt, List.getD_cons_zero, List.getD_cons_succ]
 refine .tO 0 rfl (.fieldAddr rfl)<|.tO 1 rfl (.load1 rfl)<|.tO 2 rfl .move ?_
 refine .tK 3 rfl (.fieldAddrA rfl) ?_
 refine .tK 4 rfl (.load1 rfl)<|.tK 5 rfl .move<|.tO 6 rfl .move<|.tK 7 rfl .move ?_
 refine RA.indexO 8 rfl i hI.o hq1 rfl rfl rfl (by kernel_rfl) (λ p182 => ?_)
 refine .tO 9 rfl (.fieldAddr rfl) ?_
 refine .sT 10 rfl ?_
 refine .storeO_gen (k := 5) (cs := [vu]) (z' := (⟨kk, fo, vn, nds, vu, if fo then usersOf cp sub kk else [], vl0, ll, nm⟩ : PlM)) i hI.o hq1 rfl rfl rfl (cells_one ivu.h) rfl (by simpa using ivu.h) rfl (by simp) (λ Td hOd => ?_)
 have hq2 : (ps1.set i (⟨kk, fo, vn, nds, vu, if fo then usersOf cp sub kk else [], vl0, ll, nm⟩ : PlM))[i]? = some ⟨kk, fo, vn, nds, vu, if fo then usersOf cp sub kk else [], vl0, ll, nm⟩ := by rw [List.getElem?_set_self (List.getElem?_eq_some_iff.1 hq1).1]
 refine .nil (Next.mod rfl ?_)
 refine RA.indexO 11 rfl i hI.o hq1 rfl rfl rfl (by kernel_rfl) (λ p184 => ?_)
 refine .tK 12 rfl (.fieldAddrA rfl ha9) ?_
 refine .sT 13 rfl ?_
 refine .storeO_gen (k := 6) (cs := [vL]) (z' := (⟨kk, fo, vn, nds, vu, if fo then usersOf cp sub kk else [], vL, L, nm⟩ : PlM)) i hOd hq2 rfl rfl rfl (cells_one ivL.h) rfl (by simpa using ivL.h) rfl (by simp) (λ Te hOe => ?_)
 rw [List.set_set] at hOe
 refine .nil (Next.mod rfl ?_)
 refine RA.nil (by kernel_rfl) ?_
 refine seqQ_n<|.region ?_
 conv => arg 8; simp only [rest, dropAt, List.cons_append, List.nil_append]
 refine .fa rfl<|.lo rfl<|.mo rfl<|.q (.lenO hI.so) ?_
 refine .ia ((opened cp num sub k i).2 + sn.length) .add ?_
 refine .fa rfl<|.store1 rfl rfl<|.nil<|blkQ_n<|seqQ_n<|.region<|.mo rfl ?_
 refine .ia (i + 1) .add ?_
 refine .ag rfl<|.nil ?_
 ·exact loopQ_i (i + 1, ps1.set i ⟨kk, fo, vn, nds, vu, if fo then usersOf cp sub kk else [], vL, L, nm⟩, vp1, Te, TL ++ (Tr ++ (Tu ++ Tp))) ⟨hj2, by
   simp only
   rw [hos, List.map_set, hI.eq, <- hI.ll]
   rfl, hOe, λ z hz => by
   rcases List.mem_or_eq_of_mem_set hz with hz | rfl
   ·obtain ⟨l, hl9, hl8⟩ := hI.gr
    rw [hl9] at hz
    rcases List.mem_append.1 hz with hz | hz
    ·exact ⟨(hP z hz).1.mono λ b o hb => hb.imp id λ hb => List.mem_append_right _ (List.mem_append_right _ (List.mem_append_right _ hb)), (hP z hz).2⟩
    ·exact ⟨(hl8 z hz).mono λ b o hb => .inl hb, (hl8 z hz).n⟩
   ·exact ⟨⟨hn.mono λ b o hb => .inl hb, hu.sg.mono λ b o hb => .inr (List.mem_append_right _ (List.mem_append_right _ (List.mem_append_left _ hb))), hI.le.sg.mono λ b o hb => .inr (List.mem_append_left _ hb), λ y hy => (hI.rows y hy).mono λ b o hb => .inr (List.mem_append_right _ (List.mem_append_left _ hb))⟩, hn⟩⟩ (by simp only; omega) kE.c.c.c.c.c.c.c ((pkH [1, 0, 0, 0, 1, 2, 2, 2, 2]).trans (HLe.ofPerm (by simp [take, dropAt, setL, hos, hsnd])))
 have hiN2 : i = N := AtEnd.uniq (c := cp) (num := num) (sub := sub) (k := k) ⟨by have := odf h3; omega, hj1⟩ hN
 subst hiN2
 refine .exit<|seqQ_x<|loopQ_x<|blkQ_x<|seqQ_n<|.seq<|.sr<|.fa rfl<|.lo rfl<|.q (.lenO hO) ?_
 refine .fa rfl<|.lo rfl ?_
 refine .ia (ps.length + (opened cp num sub k i).2) .add ?_
 refine .mo rfl<|.q .gtr<|.zn ?_
 refine .cond rfl (λ h12 => ?_) λ h12 => ?_
 have hov : b < (((opened cp num sub k i).1.length + (opened cp num sub k i).2 : Nat) : Int) := by have := odt h12; omega
 rw [if_neg (by omega)] at hdisc
 refine .sr ?_
 refine .q .bld ?_
 refine .storeA rfl rfl<|.az rfl ?_
 refine .ret (seqQ_r (retQ_r _ (.two (.cellA rfl rfl) (.tmp rfl)) (HLe.one [] _) ?_))
 ·exact (hdef _ _ _).2 ⟨_, [], _, rfl, by rw [hdisc]; rfl, RS.nil0, λ p hp => (by cases hp), by rw [hdisc]; rfl⟩
 have hov : (((opened cp num sub k i).1.length + (opened cp num sub k i).2 : Nat) : Int) <= b := by have := odf h12; omega
 rw [if_pos hov] at hdisc
 refine .kn<|.sr<|.q (.loadA rfl)<|.storeA rfl rfl<|.az rfl ?_
 refine .ret (retQ_r _ (.two (.cellA rfl rfl) (.tmp rfl)) (HLe.one [1, 1] _) ?_)
 ·exact (hdef _ _ _).2 ⟨vp, ps, _, rfl, by rw [hdisc]; rfl, hO.rs λ p hp => .inr (by simp [take, dropAt, hp]), λ p hp => (hP p hp).1.mono λ b o hb => hb.imp id λ hb => by simp [take, dropAt, hb], by rw [hdisc]; exact heq⟩
def subW (S : Sto) (L : List SRow) (rev : Int) (k : Obr) : List Sub := if scan S rev then (L.filter λ y => y.there rev && decide (y.t.obr = k)).map (·.t.sub) else []
structure WS (R : Rds) (cp : Cf) (c : CfM) (hb g x : Nat) (S : Sto) (num : List Nat) (L : List SRow) : Prop where
 ci : c.is R
 pl : c.plain = cp
 h : ∃ vl e, HV R hb vl [e] 0 /\ e.rev = 0 /\ e.c.plain = cp /\ e.ll.map (·.2) = rows cp.spaces num
 s : ∃ ps vf vr Mf Mr, SV R g S ps vf vr Mf Mr
 d : ∃ vL, DV R x S vL L
 rl : RL S L
 sok : SOK S
 len : S.rows.length <= 512
 m : Means isWord isRef cp num
 nm : (cp.numbers isWord isRef).2 = rows cp.spaces num
 six : cp.spaces.length <= 5 /\ ∀ y ∈ cp.spaces, y.rels.length <= 6
theorem WS.mono {R R' : Rds} {cp : Cf} {c : CfM} {hb g x : Nat} {S : Sto} {num : List Nat} {L : List SRow} (h : WS R cp c hb g x S num L) (hR : ∀ b o, R b o -> R' b o) : WS R' cp c hb g x S num L := by
 obtain ⟨vl, e, h1, h2, h3, h4⟩ := h.h
 obtain ⟨ps, vf, vr, Mf, Mr, h5⟩ := h.s
 obtain ⟨vL, h6⟩ := h.d
 exact ⟨h.ci.mono hR, h.pl, ⟨vl, e, h1.mono hR, h2, h3, h4⟩, ⟨ps, vf, vr, Mf, Mr, h5.mono hR⟩, ⟨vL, h6.mono hR⟩, h.rl, h.sok, h.len, h.m, h.nm, h.six⟩
theorem cfFew_six (c : Cf) : (cfFew c).spaces.length <= 5 /\ ∀ y ∈ (cfFew c).spaces, y.rels.length <= 6 := by
 unfold cfFew
 refine ⟨by simp only [List.length_map, List.length_take]; omega, λ y hy => ?_⟩
 simp only at hy
 obtain ⟨s, _, rfl⟩ := List.mem_map.1 hy
 unfold fewS
 simp only [List.length_map, List.length_take]
 omega
section
variable {R : Rds} {cp : Cf} {c : CfM} {hb g x : Nat} {S : Sto} {num : List Nat} {L : List SRow}
theorem WS.row (h : WS R cp c hb g x S num L) : ∀ y ∈ L, isTpl y.t = true := λ y hy => (h.sok.ok y (h.rl.pm.mem_iff.1 hy)).1
theorem WS.ll (h : WS R cp c hb g x S num L) : L.length <= 512 := by rw [h.rl.pm.length_eq]; exact h.len
theorem subW_of (S : Sto) (L : List SRow) (rev : Int) : ∃ M : List (Obr × Sub), M.length <= L.length /\ (∀ y ∈ M, ∃ r ∈ L, y = (r.t.obr, r.t.sub)) /\ subOf M = subW S L rev := by
 refine ⟨if scan S rev then (L.filter λ y => y.there rev).map λ y => (y.t.obr, y.t.sub) else [], ?_, ?_, ?_⟩
 ·split
  ·rw [List.length_map]; exact List.length_filter_le _ _
  ·simp
 ·intro y hy
  split at hy
  ·obtain ⟨r, hr, rfl⟩ := List.mem_map.1 hy
   exact ⟨r, (List.mem_filter.1 hr).1, rfl⟩
  ·cases hy
 ·funext k
  unfold subOf subW
  split
  ·rw [List.filter_map, List.map_map, List.filter_filter]
   have : (λ a : SRow => ((λ x : Obr × Sub => decide (x.1 = k)) ∘ λ y : SRow => (y.t.obr, y.t.sub)) a && a.there rev) = λ y : SRow => y.there rev && decide (y.t.obr = k) := by
    funext y
    simp [Bool.and_comm]
   rw [this]
   rfl
  ·rfl
theorem subW_mem {rev : Int} {k : Obr} {s : Sub} (h : s ∈ subW S L rev k) : ∃ r ∈ L, s = r.t.sub := by
 unfold subW at h
 split at h
 ·obtain ⟨r, hr, rfl⟩ := List.mem_map.1 h
  exact ⟨r, (List.mem_filter.1 hr).1, rfl⟩
 ·cases h
theorem WS.lim (h : WS R cp c hb g x S num L) (rev : Int) (k : Obr) (i : Nat) (hi : ∀ j, j < i -> j < (opened cp num (subW S L rev) k j).1.length) : (opened cp num (subW S L rev) k i).1.length + (opened cp num (subW S L rev) k i).2 <= 1048576 := by
 obtain ⟨M, h1, _, h2⟩ := subW_of S L rev
 rw [<- h2] at hi ⊢
 obtain ⟨E, hE, _⟩ := h.m.ex
 exact total_le hE h.m.right h.m.uniq h.six.2 (Nat.le_trans h1 h.ll) k i hi
theorem WS.fin (h : WS R cp c hb g x S num L) (rev : Int) (k : Obr) : ∃ N, AtEnd cp num (subW S L rev) k N := by
 have hsub : ∀ k, ∀ s ∈ subW S L rev k, s ∈ L.map (·.t.sub) := λ k s hs => by
  obtain ⟨r, hr, rfl⟩ := subW_mem hs
  exact List.mem_map.2 ⟨r, hr, rfl⟩
 exact AtEnd.ex λ i => opened_len (reachU_closed hsub) self_reachU i
theorem WS.small (h : WS R cp c hb g x S num L) (rev : Int) {B : Nat} (hB : 32 <= B) {k : Obr} (hk : smallK B k) (i : Nat) : ∀ p ∈ (opened cp num (subW S L rev) k i).1, smallK B p.k :=
 opened_small h.m.right (λ s hs => Nat.le_trans (isWord_len hs) hB) (λ k s hs => by
  obtain ⟨r, hr, rfl⟩ := subW_mem hs
  have ht := h.row r hr
  unfold isTpl at ht
  simp only [Bool.and_eq_true] at ht
  have ht := ht.2
  unfold isSub at ht
  split at ht
  ·unfold isRef at ht
   simp only [Bool.and_eq_true] at ht
   exact ⟨Nat.le_trans (isWord_len ht.1.1) hB, Nat.le_trans (isID_len ht.1.2) hB, Nat.le_trans (isWord_len ht.2) hB⟩
  ·simp only [Bool.and_eq_true, decide_eq_true_eq] at ht
   rw [ht.2.1.1, ht.2.1.2, ht.2.2]
   exact ⟨Nat.zero_le _, Nat.zero_le _, Nat.zero_le _⟩) hk i
theorem WS.sets_le (h : WS R cp c hb g x S num L) (rev : Int) (k : Obr) : (fitting cp (subW S L rev) k).length <= 512 := by
 unfold fitting
 refine Nat.le_trans (List.length_filter_le _ _) ?_
 unfold subW
 split
 ·rw [List.length_map]
  exact Nat.le_trans (List.length_filter_le _ _) h.ll
 ·simp
theorem WS.ahead_le (h : WS R cp c hb g x S num L) (rev : Int) (k : Obr) (n : Nd) : (aheadK cp (subW S L rev) k n).length <= 512 := by
 have hs : ∀ k, (setsOf cp (subW S L rev) k).length <= 512 := λ k => Nat.le_trans (List.length_filter_le _ _) (h.sets_le rev k)
 unfold aheadK
 split
 ·rw [List.length_map]; exact hs _
 ·split
  ·rw [List.length_map]; exact hs _
  ·split <;> simp
theorem WS.disc (h : WS R cp c hb g x S num L) (rev : Int) (hr : 0 <= rev) (k : Obr) (b : Int) (hb63 : b <= 9223372036854775807) {N : Nat} (hN : AtEnd cp num (subW S L rev) k N) :
  Spec prog 47 [pT hb, pT g, .int .u64 rev, .agg [.string k.os, .string k.oi].toArray, .string k.rel, .int .i64 b] R [] (DiscT R (disc cp num (subW S L rev) k b (scan S rev) N)) := by
 obtain ⟨vl, e, hV, he1, he2, he3⟩ := h.h
 obtain ⟨ps, vf, vr, Mf, Mr, hS⟩ := h.s
 have hat : atC [e] rev = some e := by
  unfold atC
  have : hl [e] rev 1 = some 0 := by
   simp only [hl, List.getElem?_cons_zero, he1]
   simp [hr]
  rw [show ([e] : List EnM).length = 1 from rfl, this]
  rfl
 have hlim := h.lim rev k
 subst he2
 exact discover_spec hV hS h.rl h.len rev e hat num h.m he3 (by simp) (λ e' h' => by
  rw [List.mem_singleton] at h'
  subst h'
  have hl0 : e'.ll.length = e'.c.plain.spaces.length := by rw [<- rows_len e'.c.plain.spaces num, <- he3, List.length_map]
  refine ⟨by have := h.six.1; omega, λ q hq => ?_⟩
  have hq2 : q.2 ∈ rows e'.c.plain.spaces num := by rw [<- he3]; exact List.mem_map.2 ⟨q, hq, rfl⟩
  obtain ⟨i, hi, e9⟩ := List.mem_iff_getElem.1 hq2
  rw [rows_len] at hi
  have h1 := rows_at (n := num) (gge hi)
  rw [gge (by rw [rows_len]; exact hi), e9] at h1
  have h2 := Option.some.inj h1
  rw [h2, List.length_take]
  have := h.six.2 _ (List.getElem_mem hi)
  omega) k b hb63 (subW S L rev) rfl hlim N hN
theorem WS.rdisc (h : WS R cp c hb g x S num L) (rev : Int) (k : Obr) (b : Int) {N : Nat} (hN : AtEnd cp num (subW S L rev) k N) :
  Spec prog 22 [.agg c.enc.toArray, pT x, .int .u64 rev, .agg [.string k.os, .string k.oi].toArray, .string k.rel, .int .i64 b] R [] (DiscT R (Go.Proofs.YtenilfmlfldogaaGreat.disc cp num (subW S L rev) k b (scan S rev) N)) := by
 obtain ⟨vL, hD⟩ := h.d
 have hlim := h.lim rev k
 have hm := h.m
 have hnm := h.nm
 have hcp := h.pl
 subst hcp
 exact rdiscover_spec c R h.ci num hm hnm hD h.ll rev k b (subW S L rev) rfl hlim N hN
end
theorem made_flat (w : WoM) (R : Rds) (h : w.is R) : Spec prog 19 [.agg w.enc.toArray] R [] λ u H' => ∃ T, H' = [T] /\ ∃ (c : CfM) (p1 p2 p3 : Value) (ok : Bool), u = .tuple [p1, p2, .agg c.enc.toArray, p3, .bool ok].toArray /\ One p1 /\ One p2 /\ One p3 /\ c.is (λ b o => R b o \/ (b, o) ∈ T) /\ c.plain = cfFew w.c.plain /\ ok = decide (((cfFew w.c.plain).numbers isWord isRef).1 = 0) /\
  (ok = true -> ∃ hb g x S num L, p1 = pT hb /\ p2 = pT g /\ p3 = pT x /\ WS (λ b o => R b o \/ (b, o) ∈ T) (cfFew w.c.plain) c hb g x S num L) := by
 refine Spec.flat ((made_spec w R h).mono λ u H' hu => ?_)
 rcases hu with hu | ⟨T, c, x, rfl, rfl, hc, hp, hn⟩
 ·obtain ⟨Tc, Th, Ts, Tx, hb, g, x, e, S, c, rfl, rfl, hc, hp, hn, her, hec, hH, hS, hSO, hD, hl⟩ := hu
  obtain ⟨num, hnm, hmn⟩ := numbers_means hn
  refine ⟨_, Tc ++ (Th ++ (Ts ++ Tx)), rfl, by simp, _, rfl, c, _, _, _, true, rfl, ⟨rfl⟩, ⟨rfl⟩, ⟨rfl⟩, hc.mono λ b o hb => hb.imp id λ hb => List.mem_append_left _ hb, hp, by rw [hn]; rfl, λ _ => ?_⟩
  obtain ⟨vl, hV⟩ := hH.view (R := λ b o => R b o \/ (b, o) ∈ Tc ++ (Th ++ (Ts ++ Tx))) λ p hp => .inr (List.mem_append_right _ (List.mem_append_left _ hp))
  obtain ⟨ps, vf, vr, Mf, Mr, hSV⟩ := hS.view (R := λ b o => R b o \/ (b, o) ∈ Tc ++ (Th ++ (Ts ++ Tx))) λ p hp => .inr (List.mem_append_right _ (List.mem_append_right _ (List.mem_append_left _ hp)))
  obtain ⟨vL, L, hDV, hRL⟩ := hD.view (R := λ b o => R b o \/ (b, o) ∈ Tc ++ (Th ++ (Ts ++ Tx))) λ p hp => .inr (List.mem_append_right _ (List.mem_append_right _ (List.mem_append_right _ hp)))
  have he := hV.all e (by simp)
  exact ⟨hb, g, x, S, num, L, rfl, rfl, rfl, hc.mono λ b o hb => hb.imp id λ hb => List.mem_append_left _ hb, hp, ⟨vl, e, hV, her, hec, by rw [he.eq, hec, hnm]⟩, ⟨ps, vf, vr, Mf, Mr, hSV⟩, ⟨vL, hDV⟩, hRL, hSO, hl, hmn, hnm, cfFew_six _⟩
 ·exact ⟨_, T, rfl, by simp, _, rfl, c, _, _, _, false, rfl, ⟨rfl⟩, ⟨rfl⟩, ⟨rfl⟩, hc, hp, (decide_eq_false hn).symm, λ h => (by cases h)⟩
abbrev JV := List Value × J
abbrev encJ (p : JV) : List Value := p.1
def jt (s : ByteArray) : List Value := [.int .i64 3, .bool false, .int .i64 0, .string s, sZ, sZ]
theorem jt_of (R : Rds) (s : ByteArray) : JOf R (jt s) (jtext s) := .mk (l := []) RS.nil0 RS.nil0 λ p hp => (by cases hp)
def jn (n : Int) : List Value := [.int .i64 2, .bool false, .int .i64 n, .string ⟨#[]⟩, sZ, sZ]
theorem jn_of (R : Rds) (n : Int) : JOf R (jn n) (jint n) := .mk (l := []) RS.nil0 RS.nil0 λ p hp => (by cases hp)
def jb (b : Bool) : List Value := [.int .i64 1, .bool b, .int .i64 0, .string ⟨#[]⟩, sZ, sZ]
theorem jb_of (R : Rds) (b : Bool) : JOf R (jb b) (jbool b) := .mk (l := []) RS.nil0 RS.nil0 λ p hp => (by cases hp)
def jz : List Value := [.int .i64 0, .bool false, .int .i64 0, .string ⟨#[]⟩, sZ, sZ]
theorem jz_of (R : Rds) : JOf R jz jnull := .mk (l := []) RS.nil0 RS.nil0 λ p hp => (by cases hp)
instance jt_one (s : ByteArray) : Ones (jt s) := ⟨by simp [jt, oneCell]⟩
instance jn_one (n : Int) : Ones (jn n) := ⟨by simp [jn, oneCell]⟩
instance jb_one (b : Bool) : Ones (jb b) := ⟨by simp [jb, oneCell]⟩
theorem JOf.six {R : Rds} {cs : List Value} {j : J} (h : JOf R cs j) : cs.length = 6 := by cases h; rfl
theorem six_cells {cs : List Value} (h : cs.length = 6) : ∃ a b c d f g, cs = [a, b, c, d, f, g] := by
 match cs, h with
 | [a, b, c, d, f, g], _ => exact ⟨a, b, c, d, f, g, rfl⟩
theorem text_spec (s : ByteArray) (R : Rds) : Spec prog 80 [.string s] R [] λ u H' => u = .agg (jt s).toArray /\ H' = [] := by
 refine Spec.body Tryz.func80 rfl Tryz.results80 Tryz.ntmps80 rfl<|.sr ?_
 refine .allocA (λ b2 => ?_)
 refine .z<|.mo rfl<|.q .bld<|.storeA rfl rfl<|.zn ?_
 refine .ret (retQ_r _ (.one (.cellA rfl rfl)) (.none _) ?_)
 ·exact ⟨rfl, rfl⟩
theorem rtext_spec (s : ByteArray) (R : Rds) : Spec prog 76 [.string s] R [] λ u H' => u = .agg (jt s).toArray /\ H' = [] := by
 refine Spec.body Tryz.func76 rfl Tryz.results76 Tryz.ntmps76 rfl<|.sr ?_
 refine .allocA (λ b2 => ?_)
 refine .z<|.mo rfl<|.q .bld<|.storeA rfl rfl<|.zn ?_
 refine .ret (retQ_r _ (.one (.cellA rfl rfl)) (.none _) ?_)
 ·exact ⟨rfl, rfl⟩
theorem name_spec (k : Obr) (ex : List Value) [ie : Ones ex] (hex : ex.length = 5) (h1_ : k.os.size <= 1000000000000000) (h2_ : k.oi.size <= 1000000000000000) (h3_ : k.rel.size <= 1000000000000000) (R : Rds) : Spec prog 81 [.agg (.string k.os :: .string k.oi :: .string k.rel :: ex).toArray] R [] λ u H' => u = .string (pname k) /\ H' = [] := by
 obtain ⟨x3, x4, x5, x6, x7, rfl⟩ : ∃ a b c d f, ex = [a, b, c, d, f] := by
  match ex, hex with
  | [a, b, c, d, f], _ => exact ⟨a, b, c, d, f, rfl⟩
 have iall : Ones (Value.string k.os :: .string k.oi :: .string k.rel :: [x3, x4, x5, x6, x7]) := ⟨λ u hu => by
  simp only [List.mem_cons, List.not_mem_nil, or_false] at hu
  rcases hu with rfl | rfl | rfl | hu
  ·rfl
  ·rfl
  ·rfl
  ·exact ie.h u (by simpa using hu)⟩
 have z1 : (⟨#[58]⟩ : ByteArray).size = 1 := rfl
 have z2 : (⟨#[35]⟩ : ByteArray).size = 1 := rfl
 refine Spec.body Tryz.func81 rfl Tryz.results81 Tryz.ntmps81 rfl<|.sr ?_
 refine .boxA rfl (λ b1 => ?_)
 refine .ag rfl<|.z<|.fa rfl<|.fa rfl<|.lo rfl ?_
 refine .q (.addS (by omega) rfl rfl) ?_
 refine .fa rfl<|.fa rfl<|.lo rfl ?_
 refine .q (.addS (by simp only [ByteArray.size_append]; omega) rfl rfl)<|.q (.addS (by simp only [ByteArray.size_append]; omega) rfl rfl) ?_
 refine .fa rfl<|.lo rfl ?_
 refine .q (.addS (by simp only [ByteArray.size_append]; omega) rfl rfl)<|.az rfl<|.ret (rq1 rfl ?_)
 ·exact ⟨rfl, rfl⟩
theorem rname_spec (k : Obr) (ex : List Value) [ie : Ones ex] (hex : ex.length = 5) (h1_ : k.os.size <= 1000000000000000) (h2_ : k.oi.size <= 1000000000000000) (h3_ : k.rel.size <= 1000000000000000) (R : Rds) : Spec prog 77 [.agg (.string k.os :: .string k.oi :: .string k.rel :: ex).toArray] R [] λ u H' => u = .string (pname k) /\ H' = [] := by
 obtain ⟨x3, x4, x5, x6, x7, rfl⟩ : ∃ a b c d f, ex = [a, b, c, d, f] := by
  match ex, hex with
  | [a, b, c, d, f], _ => exact ⟨a, b, c, d, f, rfl⟩
 have iall : Ones (Value.string k.os :: .string k.oi :: .string k.rel :: [x3, x4, x5, x6, x7]) := ⟨λ u hu => by
  simp only [List.mem_cons, List.not_mem_nil, or_false] at hu
  rcases hu with rfl | rfl | rfl | hu
  ·rfl
  ·rfl
  ·rfl
  ·exact ie.h u (by simpa using hu)⟩
 have z1 : (⟨#[58]⟩ : ByteArray).size = 1 := rfl
 have z2 : (⟨#[35]⟩ : ByteArray).size = 1 := rfl
 refine Spec.body Tryz.func77 rfl Tryz.results77 Tryz.ntmps77 rfl<|.sr ?_
 refine .boxA rfl (λ b1 => ?_)
 refine .ag rfl<|.z<|.fa rfl<|.fa rfl<|.lo rfl ?_
 refine .q (.addS (by omega) rfl rfl) ?_
 refine .fa rfl<|.fa rfl<|.lo rfl ?_
 refine .q (.addS (by simp only [ByteArray.size_append]; omega) rfl rfl)<|.q (.addS (by simp only [ByteArray.size_append]; omega) rfl rfl) ?_
 refine .fa rfl<|.lo rfl ?_
 refine .q (.addS (by simp only [ByteArray.size_append]; omega) rfl rfl)<|.az rfl<|.ret (rq1 rfl ?_)
 ·exact ⟨rfl, rfl⟩
theorem kword_spec (kd : Int) (R : Rds) : Spec prog 130 [.int .i64 kd] R [] λ u H' => u = .string (kword kd) /\ H' = [] := by
 refine Spec.body Tryz.func130 rfl Tryz.results130 Tryz.ntmps130 rfl<|.sr<|.ag rfl<|.zs<|.sr<|.mo rfl<|.zn<|.block<|.sr<|.q .eqI<|.az rfl<|.cond rfl (λ h1 => ?_) λ h1 => ?_
 refine .sr<|.az rfl<|.ret (blkQ_r (seqQ_r (rq1 rfl ?_)))
 ·refine ⟨congrArg _ ?_, rfl⟩
  unfold kword
  simp_all
 refine .sr<|.q .eqI<|.az rfl<|.cond rfl (λ h2 => ?_) λ h2 => ?_
 refine .sr<|.az rfl<|.ret (blkQ_r (seqQ_r (rq1 rfl ?_)))
 ·refine ⟨congrArg _ ?_, rfl⟩
  unfold kword
  simp_all
 refine .sr<|.q .eqI<|.az rfl<|.cond rfl (λ h3 => ?_) λ h3 => ?_
 refine .sr<|.az rfl<|.ret (blkQ_r (seqQ_r (rq1 rfl ?_)))
 ·refine ⟨congrArg _ ?_, rfl⟩
  unfold kword
  simp_all
 refine .sr<|.q .eqI<|.az rfl<|.cond rfl (λ h4 => ?_) λ h4 => ?_
 refine .sr<|.az rfl<|.ret (blkQ_r (seqQ_r (rq1 rfl ?_)))
 ·refine ⟨congrArg _ ?_, rfl⟩
  unfold kword
  simp_all
 refine .sr<|.q .eqI<|.az rfl<|.cond rfl (λ h5 => ?_) λ h5 => ?_
 refine .sr<|.az rfl<|.ret (blkQ_r (seqQ_r (rq1 rfl ?_)))
 ·refine ⟨congrArg _ ?_, rfl⟩
  unfold kword
  simp_all
 refine .skip<|blkQ_n<|seqQ_n<|.sr<|.az rfl<|.ret (rq1 rfl ?_)
 ·refine ⟨congrArg _ ?_, rfl⟩
  unfold kword
  simp_all
def jtx (s : ByteArray) : JV := (jt s, jtext s)
def jl4 (v : Value) : List Value := [.int .i64 4, .bool false, .int .i64 0, .string ⟨#[]⟩, v, sZ]
instance jl4_one (v : Value) [i : One v] : Ones (jl4 v) := ⟨λ u hu => by
 simp only [jl4, List.mem_cons, List.not_mem_nil, or_false] at hu
 rcases hu with rfl | rfl | rfl | rfl | rfl | rfl
 ·rfl
 ·rfl
 ·rfl
 ·rfl
 ·exact i.h
 ·rfl⟩
theorem jl4_of {R : Rds} {v : Value} {l : List JV} (h : RS R 6 encJ v l) (ha : ∀ p ∈ l, JOf R p.1 p.2) : JOf R (jl4 v) (jlist (l.map (·.2))) := .mk (l := l) h RS.nil0 ha
theorem texts_spec (v : Value) (l : List ByteArray) (R : Rds) (h : RS R 1 encS v l) (hl : l.length <= 100000000) : Spec prog 131 [v] R [] λ u H' => ∃ T, H' = [T] /\ ∃ vo, u = .agg (jl4 vo).toArray /\ OS 41 6 encJ vo (l.map jtx) T := by
 have iv := h.oneCell
 refine Spec.segs (H' := [[]]) (by simp)<|Spec.body Tryz.func131 rfl Tryz.results131 Tryz.ntmps131 rfl<|.sr ?_
 refine .allocA (λ b2 => ?_)
 refine .z<|.q .bld ?_
 refine .allocA (λ b3 => ?_)
 refine .storeA rfl rfl<|.zs<|.sr<|.mo rfl<|.q (.lenR h)<|.mo rfl<|.zn<|.block<|.loopS [(2, _), (3, _), (7, _), (8, _)] (X := Nat × Value × Seg) (λ y => y.1 <= l.length /\ OS 41 6 encJ y.2.1 ((l.take y.1).map jtx) y.2.2) (λ y E => (9, iN y.1) :: E) (G := [bl b2 jz 41]) (λ y G => y.2.2 :: bl b3 (jl4 y.2.1) 41 :: G) (λ y => l.length - y.1) (0, sZ, []) ⟨Nat.zero_le _, OS.nil⟩ kE.c.c.c.c.c (pkH [2, 0, 0]) ?_
 rintro ⟨i, vo, To⟩ ⟨hi, hO⟩
 simp only at hi hO ⊢
 have io := hO.oneCell
 refine .sr<|.q .lss<|.zs<|.cond rfl (λ h1 => ?_) λ h1 => ?_
 have hlt : i < l.length := lt_i h1
 obtain ⟨s, hs⟩ := exg hlt
 have htk := take_next hs
 refine .kn<|.seq<|.block<|.sr ?_
 refine .indexR i h hs (λ p11 => ?_)
 refine .lo rfl<|.az rfl<|.region_all [5, 7] mixed<|.tO 0 rfl (.fieldAddr rfl)<|.tO 1 rfl (.load1 rfl)<|.tO 2 rfl .move<|.sT 3 rfl<|.callR (text_spec s _) (λ u hu => ?_)
 subst hu
 refine .nil<|Next.sub<|.sT 4 rfl ?_
 refine .buildSlice1A (λ b17 => ?_)
 refine .nil<|Next.sub<|.sT 5 rfl<|.append hO (RS.lits (xs := [jtx s]) rfl (by simp [encJ, jtx, jt]) (by simp [encJ, jtx, jt, oneCell])) (by simp only [List.length_singleton, List.length_map, List.length_take]; omega) (λ v5 T5 hv5 => ?_)
 rw [<- List.map_singleton (f := jtx), <- List.map_append, <- htk] at hv5
 have i5 := hv5.oneCell
 refine .nil<|Next.mod rfl<|.tK 6 rfl (.fieldAddrA rfl)<|.sT 7 rfl<|.store1 rfl rfl<|.nil<|Next.mod rfl<|RA.nil (by kernel_rfl)<|blkQ_n<|seqQ_n<|.region<|.ia (i + 1) .add<|.mo rfl<|.nil ?_
 ·exact loopQ_i (i + 1, v5, T5) ⟨hlt, hv5⟩ (by simp only; omega) kE.c.c.c.c.c (pkH [1, 1, 1])
 refine .exit<|seqQ_x<|loopQ_x<|blkQ_x<|seqQ_n<|.sr<|.q (.loadA rfl)<|.storeA rfl rfl<|.zn ?_
 refine .ret (retQ_r _ (.one (.cellA rfl rfl)) (.one [0] _) ?_)
 ·rw [take_end (ge_i h1)] at hO
  exact ⟨To, by simp [take], vo, rfl, hO⟩
theorem rtexts_spec (v : Value) (l : List ByteArray) (R : Rds) (h : RS R 1 encS v l) (hl : l.length <= 100000000) : Spec prog 129 [v] R [] λ u H' => ∃ T, H' = [T] /\ ∃ vo, u = .agg (jl4 vo).toArray /\ OS 41 6 encJ vo (l.map jtx) T := by
 have iv := h.oneCell
 refine Spec.segs (H' := [[]]) (by simp)<|Spec.body Tryz.func129 rfl Tryz.results129 Tryz.ntmps129 rfl<|.sr ?_
 refine .allocA (λ b2 => ?_)
 refine .z<|.q .bld ?_
 refine .allocA (λ b3 => ?_)
 refine .storeA rfl rfl<|.zs<|.sr<|.az rfl<|.block<|.loopS [(0, _), (2, _), (3, _)] (X := Nat × Value × Seg) (λ y => y.1 <= l.length /\ OS 41 6 encJ y.2.1 ((l.take y.1).map jtx) y.2.2) (λ y E => (4, iN y.1) :: E) (G := [bl b2 jz 41]) (λ y G => y.2.2 :: bl b3 (jl4 y.2.1) 41 :: G) (λ y => l.length - y.1) (0, sZ, []) ⟨Nat.zero_le _, OS.nil⟩ kE.c.c.c.c (pkH [2, 0, 0]) ?_
 rintro ⟨i, vo, To⟩ ⟨hi, hO⟩
 simp only at hi hO ⊢
 have io := hO.oneCell
 refine .seq<|.sr<|.mo rfl<|.mo rfl<|.q (.lenR h)<|.q .lss<|.zn<|.cond rfl (λ h1 => ?_) λ h1 => ?_
 have hlt : i < l.length := lt_i h1
 obtain ⟨s, hs⟩ := exg hlt
 have htk := take_next hs
 refine .kn<|.seq<|.block<|.sr<|.fa rfl<|.lo rfl<|.az rfl<|.region<|.mo rfl<|.mo rfl<|.mo rfl ?_
 refine .indexR i h hs (λ p18 => ?_)
 refine .lo rfl<|.callR (rtext_spec s _) (λ u hu => ?_)
 subst hu
 refine .buildSlice1A (λ b21 => ?_)
 refine .append hO (RS.lits (xs := [jtx s]) rfl (by simp [encJ, jtx, jt]) (by simp [encJ, jtx, jt, oneCell])) (by simp only [List.length_singleton, List.length_map, List.length_take]; omega) (λ v5 T5 hv5 => ?_)
 rw [<- List.map_singleton (f := jtx), <- List.map_append, <- htk] at hv5
 have i5 := hv5.oneCell
 refine .fa rfl<|.store1 rfl rfl<|.nil<|blkQ_n<|seqQ_n<|.region<|.mo rfl<|.ia (i + 1) .add<|.ag rfl<|.nil ?_
 ·exact loopQ_i (i + 1, v5, T5) ⟨hlt, hv5⟩ (by simp only; omega) kE.c.c.c.c (pkH [1, 1, 1])
 refine .exit<|seqQ_x<|loopQ_x<|blkQ_x<|seqQ_n<|.sr<|.q (.loadA rfl)<|.storeA rfl rfl<|.zn ?_
 refine .ret (retQ_r _ (.one (.cellA rfl rfl)) (.one [0] _) ?_)
 ·rw [take_end (ge_i h1)] at hO
  exact ⟨To, by simp [take], vo, rfl, hO⟩
abbrev bblk (bb : Nat) (kd : Int) (vl vk : Value) : Seg := (bl bb [.int .i64 kd, .bool false, .int .i64 0, .string ⟨#[]⟩, vl, vk] 175)
theorem set_spec (bb : Nat) (kd : Int) (vl vk : Value) (l : List JV) (ks : List ByteArray) (Tl Tk : Seg) (hL : OS 41 6 encJ vl l Tl) (hK : OS 9 1 encS vk ks Tk) (hl : l.length <= 100000000 /\ ks.length <= 100000000) (key : ByteArray) (cs : List Value) (j : J) [ic : Ones cs] (h6 : cs.length = 6) (R : Rds) :
  Spec prog 79 [pT bb, .string key, .agg cs.toArray] R [bblk bb kd vl vk, Tl, Tk] λ _ H' => ∃ vl' vk' Tl' Tk', H' = [bblk bb 5 vl' vk', Tl', Tk'] /\ OS 41 6 encJ vl' (l ++ [(cs, j)]) Tl' /\ OS 9 1 encS vk' (ks ++ [key]) Tk' := by
 obtain ⟨x1, x2, x3, x4, x5, x6, rfl⟩ : ∃ a b c d f g, cs = [a, b, c, d, f, g] := by
  match cs, h6 with
  | [a, b, c, d, f, g], _ => exact ⟨a, b, c, d, f, g, rfl⟩
 have il := hL.oneCell
 have ik := hK.oneCell
 refine Spec.body Tryz.func79 rfl Tryz.results79 Tryz.ntmps79 rfl<|.sr ?_
 refine .boxA rfl (λ b5 => ?_)
 refine .z<|.mo rfl<|.nc rfl<|.fa rfl<|.fa rfl<|.store1 rfl rfl<|.z<|.mo rfl<|.mo rfl<|.nc rfl<|.fa rfl<|.fa rfl<|.lo rfl<|.mo rfl ?_
 refine .buildSlice11 (λ b17 => ?_)
 refine .append hK (RS.lits (xs := [key]) rfl (by simp [encS]) (by simp [encS, oneCell])) (by simp only [List.length_singleton]; omega) (λ v5 T5 hv5 => ?_)
 have i5 := hv5.oneCell
 refine .nc rfl<|.fa rfl<|.fa rfl<|.store1 rfl rfl<|.zn<|.region_any [2, 2] [8, 10, 14] mixed ?_
 conv => arg 3; simp only [take, rest, dropAt, List.getD_cons_zero, List.getD_cons_succ]
 conv => arg 5; simp only [take, rest, dropAt, List.getD_cons_zero, List.getD_cons_succ]
 conv => arg 9; simp only [take, rest, dropAt, List.getD_cons_zero, List.getD_cons_succ]
 refine .tO 0 rfl .move<|.tO 1 rfl (.nilCheck rfl)<|.tO 2 rfl (.fieldAddr rfl)<|.tO 3 rfl (.fieldAddr rfl)<|.tO 4 rfl (.load1 rfl)<|.tO 5 rfl (.loadA rfl)<|.tO 6 rfl (.lenO hL)<|.sT 7 rfl ?_
 refine .buildSlice1A (λ b29 => ?_)
 refine .nil<|Next.sub<|.sT 8 rfl<|.append hL (RS.lits (xs := [((jz, jnull) : JV)]) rfl (by simp [encJ, jz]) (by simp [encJ, jz, oneCell])) (by simp only [List.length_singleton]; omega) (λ v6 T6 hv6 => ?_)
 have i6 := hv6.oneCell
 have hz : (l ++ [((jz, jnull) : JV)])[l.length]? = some (jz, jnull) := by simp
 refine .nil (Next.mod rfl ?_)
 refine RA.indexO 9 rfl l.length hv6 hz rfl rfl rfl (by kernel_rfl) (λ p31 => ?_)
 refine .tK 11 rfl (.nilCheckA rfl)<|.tK 12 rfl (.fieldAddrA rfl)<|.tK 13 rfl (.fieldAddrA rfl)<|RA.step2 10 14 rfl rfl (by kernel_rfl) rfl ?_ ?_
 refine .storeO (z' := (([x1, x2, x3, x4, x5, x6], j) : JV)) l.length hv6 hz (λ T7 hv7 => ?_) ic.h
 have i7 := hv7.oneCell
 rw [show (l ++ [((jz, jnull) : JV)]).set l.length ([x1, x2, x3, x4, x5, x6], j) = l ++ [([x1, x2, x3, x4, x5, x6], j)] by simp] at hv7
 refine .nil<|Next.mod rfl<|.sT 14 rfl<|.store1 rfl rfl<|.nil<|Next.mod rfl<|RA.nil (by kernel_rfl)<|retQ_n _ .none (pkH [1, 1, 3]) ?_
 ·exact ⟨_, v5, T7, T5, by simp [take, dropAt, rest, setL, bblk], hv7, hv5⟩
 refine .store1 rfl rfl<|.nil<|Next.mod rfl<|.sT 10 rfl<|.storeO (z' := (([x1, x2, x3, x4, x5, x6], j) : JV)) l.length hv6 hz (λ T7 hv7 => ?_) ic.h
 have i7 := hv7.oneCell
 rw [show (l ++ [((jz, jnull) : JV)]).set l.length ([x1, x2, x3, x4, x5, x6], j) = l ++ [([x1, x2, x3, x4, x5, x6], j)] by simp] at hv7
 refine .nil<|Next.mod rfl<|RA.nil (by kernel_rfl)<|retQ_n _ .none (pkH [1, 1, 3]) ?_
 ·exact ⟨_, v5, T7, T5, by simp [take, dropAt, rest, setL, bblk], hv7, hv5⟩
def SameT (j : J) : Prop := ∀ (R1 R2 R : Rds) (a b : List Value), JOf R1 a j -> JOf R2 b j -> (∀ x o, R1 x o -> R x o) -> (∀ x o, R2 x o -> R x o) -> Spec prog 23 [.agg a.toArray, .agg b.toArray] R [] λ u H' => u = .bool true /\ H' = []
theorem same_step {R1 R2 R : Rds} {kind : Int} {bb : Bool} {n : Int} {text : ByteArray} {vl vk vl2 vk2 : Value} {l l2 : List JV} {keys : List ByteArray} (hl : RS R1 6 encJ vl l) (hk : RS R1 1 encS vk keys) (hal : ∀ p ∈ l, JOf R1 p.1 p.2) (hl2 : RS R2 6 encJ vl2 l2) (hk2 : RS R2 1 encS vk2 keys) (hal2 : ∀ p ∈ l2, JOf R2 p.1 p.2) (e5 : l.map (·.2) = l2.map (·.2))
  (hR1 : ∀ x o, R1 x o -> R x o) (hR2 : ∀ x o, R2 x o -> R x o) (ih : ∀ p ∈ l, SameT p.2) : Spec prog 23 [.agg [.int .i64 kind, .bool bb, .int .i64 n, .string text, vl, vk].toArray, .agg [.int .i64 kind, .bool bb, .int .i64 n, .string text, vl2, vk2].toArray] R [] λ u H' => u = .bool true /\ H' = [] := by
 have iv1 : One vl := hl.oneCell
 have iv2 : One vk := hk.oneCell
 have iv3 : One vl2 := hl2.oneCell
 have iv4 : One vk2 := hk2.oneCell
 have hlen : l.length = l2.length := by have := congrArg List.length e5; simpa using this
 have hl' : RS R 6 encJ vl l := hl.mono hR1
 have hl2' : RS R 6 encJ vl2 l2 := hl2.mono hR2
 have hle := hl'.le
 refine Spec.body Tryz.func23 rfl Tryz.results23 Tryz.ntmps23 rfl<|.sr ?_
 refine .boxA rfl (λ b2 => ?_)
 refine .boxA rfl (λ b3 => ?_)
 refine .ag rfl<|.zs<|.sr<|.fa rfl<|.lo rfl<|.fa rfl<|.lo rfl<|.q .neI<|.mo rfl<|.split (t := 11) rfl (λ g1_5 => ?_) (λ g1_5 => ?_)
 ·simp at g1_5
 refine .gT g1_5<|.fa rfl<|.gT g1_5<|.lo rfl<|.gT g1_5<|.fa rfl<|.gT g1_5<|.lo rfl<|.gT g1_5<|.q .neB<|.q (.pickFh g1_5)<|.mo rfl<|.split (t := 18) rfl (λ g1_12 => ?_) (λ g1_12 => ?_)
 ·simp at g1_12
 refine .gT g1_12<|.fa rfl<|.gT g1_12<|.lo rfl<|.gT g1_12<|.fa rfl<|.gT g1_12<|.lo rfl<|.gT g1_12<|.q .neI<|.q (.pickFh g1_12)<|.mo rfl<|.split (t := 25) rfl (λ g1_19 => ?_) (λ g1_19 => ?_)
 ·simp at g1_19
 refine .gT g1_19<|.fa rfl<|.gT g1_19<|.lo rfl<|.gT g1_19<|.fa rfl<|.gT g1_19<|.lo rfl<|.gT g1_19<|.q .neS<|.q (.pickFh g1_19)<|.mo rfl<|.split (t := 32) rfl (λ g1_26 => ?_) (λ g1_26 => ?_)
 ·simp at g1_26
 refine .gT g1_26<|.fa rfl<|.gT g1_26<|.lo rfl<|.gT g1_26<|.fa rfl<|.gT g1_26<|.lo rfl<|.gT g1_26<|.callR (sameTexts_spec vk vk2 keys keys _ (hk.mono λ b o hb => .inl (hR1 b o hb)) (hk2.mono λ b o hb => .inl (hR2 b o hb))) (λ u hu => ?_)
 subst hu
 refine .gT g1_26<|.q .not<|.q (.pickFh g1_26)<|.mo rfl<|.split (t := 40) rfl (λ g1_34 => ?_) (λ g1_34 => ?_)
 ·simp at g1_34
 refine .gT g1_34<|.fa rfl<|.gT g1_34<|.lo rfl<|.gT g1_34<|.q (.lenR hl')<|.gT g1_34<|.fa rfl<|.gT g1_34<|.lo rfl<|.gT g1_34<|.q (.lenR hl2')<|.gT g1_34<|.q .neI<|.q (.pickFh g1_34)<|.zn<|.cond rfl (λ h1 => ?_) λ h1 => ?_
 ·simp_all
 refine .kn<|.seq<|.sr<|.az rfl<|.block<|.loopS [(2, _), (3, _)] (X := Nat) (λ i => i <= l.length) (λ i E => (5, iN i) :: E) (λ _ G => G) (λ i => l.length - i) 0 (Nat.zero_le _) kE.c.c.c rH ?_
 rintro i hi
 refine .seq<|.sr<|.mo rfl<|.fa rfl<|.lo rfl<|.q (.lenR hl')<|.q .lss<|.zn<|.cond rfl (λ h2 => ?_) λ h2 => ?_
 have hlt : i < l.length := lt_i h2
 obtain ⟨x, hx⟩ := exg hlt
 obtain ⟨y, hy⟩ : ∃ y, l2[i]? = some y := ⟨_, gge (by omega)⟩
 have hxy : x.2 = y.2 := by
  have := congrArg (λ z : List J => z[i]?) e5
  simp only [List.getElem?_map, hx, hy, Option.map_some, Option.some.injEq] at this
  exact this
 have hxm := mog hx
 have hym := hal2 y (mog hy)
 rw [<- hxy] at hym
 have ix : Ones x.1 := ⟨(hal x hxm).ones⟩
 have iy : Ones y.1 := ⟨hym.ones⟩
 have sx := (hal x hxm).six
 have sy := hym.six
 have ihx := λ R hR1 hR2 => ih x hxm R1 R2 R x.1 y.1 (hal x hxm) hym hR1 hR2
 obtain ⟨x, xj⟩ := x
 obtain ⟨y, yj⟩ := y
 simp only at ix iy sx sy ihx
 obtain ⟨p1, p2, p3, p4, p5, p6, rfl⟩ : ∃ a b c d f g, x = [a, b, c, d, f, g] := six_cells sx
 obtain ⟨q1, q2, q3, q4, q5, q6, rfl⟩ : ∃ a b c d f g, y = [a, b, c, d, f, g] := six_cells sy
 refine .kn<|.seq<|.block<|.seq<|.region_tail 10 mixed (by kernel_rfl) ?_
 conv => arg 6; dsimp only [List.take]
 refine .fa rfl<|.lo rfl<|.mo rfl ?_
 refine .indexR i hl' hx (λ p59 => ?_)
 refine .q (.loadA rfl)<|.fa rfl<|.lo rfl<|.mo rfl ?_
 refine .indexR i hl2' hy (λ p64 => ?_)
 refine .q (.loadA rfl)<|.nil<|.callR (ihx _ (λ b o hb => .inl (hR1 b o hb)) (λ b o hb => .inl (hR2 b o hb))) (λ u hu => ?_)
 subst hu
 refine .q .not<|.zn<|.condF<|.skip<|blkQ_n<|seqQ_n<|.region<|.mo rfl<|.ia (i + 1) .add<|.ag rfl<|.nil ?_
 ·exact loopQ_i (i + 1) hlt (by omega) kE.c.c.c rH
 refine .exit<|seqQ_x<|loopQ_x<|blkQ_x<|seqQ_n<|.sr<|.az rfl<|.ret (rq1 rfl ?_)
 ·exact ⟨rfl, rfl⟩
theorem same_spec {R0 : Rds} {a0 : List Value} {j : J} (h0 : JOf R0 a0 j) : SameT j := by
 induction h0 with
 | @mk kind bb n text vl vk l keys hl hk hal ih =>
  intro R1 R2 R a b ha hb hR1 hR2
  obtain ⟨kind1, bb1, n1, text1, vl1, vk1, l1, keys1, rfl, hj1, hl1, hk1, hal1⟩ := ha.open
  injection hj1 with e1 e2 e3 e4 e5 e6
  subst e1; subst e2; subst e3; subst e4; subst e6
  obtain ⟨kind2, bb2, n2, text2, vl2, vk2, l2, keys2, rfl, hj, hl2, hk2, hal2⟩ := hb.open
  injection hj with f1 f2 f3 f4 f5 f6
  subst f1; subst f2; subst f3; subst f4; subst f6
  exact same_step hl1 hk1 hal1 hl2 hk2 hal2 (e5.symm.trans f5) hR1 hR2 λ q hq => by
   have : q.2 ∈ l.map (·.2) := by rw [e5]; exact List.mem_map.2 ⟨q, hq, rfl⟩
   obtain ⟨p, hp, e⟩ := List.mem_map.1 this
   rw [<- e]
   exact ih p hp
def kKind : ByteArray := ⟨#[107, 105, 110, 100]⟩
def kA : ByteArray := ⟨#[97]⟩
def kB : ByteArray := ⟨#[98]⟩
def kUsers : ByteArray := ⟨#[117, 115, 101, 114, 115]⟩
def kSets : ByteArray := ⟨#[115, 101, 116, 115]⟩
def kPlace : ByteArray := ⟨#[112, 108, 97, 99, 101]⟩
def kFound : ByteArray := ⟨#[102, 111, 117, 110, 100]⟩
def kNodes : ByteArray := ⟨#[110, 111, 100, 101, 115]⟩
def jname (ps : List Plc) (j : Nat) : ByteArray := ((ps[j]?).map λ p => pname p.k).getD ⟨#[]⟩
def jnodeN (ps : List Plc) (us : List ByteArray) (n : Nd) (row : List Nat) : J :=
 if 3 < n.kind then jmap [kKind, kA, kB] [jtext (kword n.kind), jint n.a, jint n.b]
 else if n.kind = 1 then jmap [kKind, kUsers, kSets] [jtext (kword n.kind), jlist (us.map jtext), jlist ((row.map (jname ps)).map jtext)]
 else jmap [kKind, kSets] [jtext (kword n.kind), jlist ((row.map (jname ps)).map jtext)]
def jnodeI (ps : List Plc) (p : Plc) (i : Nat) : J := jnodeN ps p.users ((p.nodes[i]?).getD ⟨0, ⟨#[]⟩, ⟨#[]⟩, 0, 0⟩) ((p.leads[i]?).getD [])
def jtreeP (ps : List Plc) (p : Plc) : J := jmap [kPlace, kFound, kNodes] [jtext (pname p.k), jbool p.found, jlist ((List.range p.nodes.length).map (jnodeI ps p))]
def jtree : List Plc -> J
 | [] => jnull
 | p :: ps => jtreeP (p :: ps) p
structure GrM (R : Rds) (vp : Value) (ps : List PlM) : Prop where
 rs : RS R 8 PlM.enc vp ps
 all : ∀ p ∈ ps, p.is R
 small : ∀ p ∈ ps, smallK 1000000000000000 p.k
 first : ∀ p, ps[0]? = some p -> p.ll.length = p.nodes.length /\ p.users.length <= 10000000 /\ p.nodes.length <= 10000000 /\ ∀ q ∈ p.ll, q.2.length <= 10000000 /\ ∀ j ∈ q.2, j < ps.length
 kinds : ∀ p ∈ ps, ∀ n ∈ p.nodes, 1 <= n.kind /\ n.kind <= 6
theorem jmap_of {R : Rds} {vl vk : Value} {l : List JV} {ks : List ByteArray} (h : RS R 6 encJ vl l) (hk : RS R 1 encS vk ks) (ha : ∀ p ∈ l, JOf R p.1 p.2) : JOf R [.int .i64 5, .bool false, .int .i64 0, .string ⟨#[]⟩, vl, vk] (jmap ks (l.map (·.2))) := .mk (l := l) h hk ha
theorem jtx_all {R : Rds} {l : List ByteArray} : ∀ p ∈ l.map jtx, JOf R p.1 p.2 := λ p hp => by
 obtain ⟨s, _, rfl⟩ := List.mem_map.1 hp
 exact jt_of R s
theorem jtx_snd (l : List ByteArray) : (l.map jtx).map (·.2) = l.map jtext := by rw [List.map_map]; rfl
theorem node_spec (vp : Value) (e : Int) (ps : List PlM) (R : Rds) (h : GrM R vp ps) (p0 : PlM) (h0 : ps[0]? = some p0) (i : Nat) (n : Nd) (hn : p0.nodes[i]? = some n) :
  Spec prog 78 [.agg [vp, .int .i64 e].toArray, iN i] R [] λ u H' => ∃ T, H' = [T] /\ ∃ cs, u = .agg cs.toArray /\ JOf (sg T) cs (jnodeI (ps.map PlM.plain) p0.plain i) := by
 have hps := h.rs
 have ivp := hps.oneCell
 have hm0 := mog h0
 have hi0 := h.all p0 hm0
 have hsm := h.small
 have hal := h.all
 obtain ⟨hll1, hul, hnl, hrl⟩ := h.first p0 h0
 have ip0 : Ones p0.enc := ⟨hi0.ones⟩
 obtain ⟨k0, fo, vn, nds, vu, us, vl, ll, nm⟩ := p0
 have hnd : RS R 5 Nd.enc vn nds := hi0.n
 have hus : RS R 1 encS vu us := hi0.u
 have hlr : RS R 1 encV1 vl ll := hi0.l.rs
 have hla := hi0.l.all
 simp only at hn hll1 hul hnl hrl hla
 have hil := (List.getElem?_eq_some_iff.1 hn).1
 obtain ⟨⟨v, row⟩, hrow⟩ : ∃ q, ll[i]? = some q := ⟨_, gge (by omega)⟩
 have hrm := mog hrow
 have hr : RS R 1 encNt v row := hla _ hrm
 obtain ⟨hrl1, hrl2⟩ := hrl _ hrm
 simp only at hrl1 hrl2
 have iv1 := hnd.oneCell
 have iv2 := hus.oneCell
 have iv3 := hlr.oneCell
 have iv4 := hr.oneCell
 have hJ : jnodeI (ps.map PlM.plain) (PlM.plain ⟨k0, fo, vn, nds, vu, us, vl, ll, nm⟩) i = jnodeN (ps.map PlM.plain) us n row := by
  unfold jnodeI PlM.plain
  simp only [hn, Option.getD_some, List.getElem?_map, hrow, Option.map_some]
 rw [hJ]
 have hJ2 : jnodeN (ps.map PlM.plain) us n row = if 3 < n.kind then jmap [kKind, kA, kB] [jtext (kword n.kind), jint n.a, jint n.b]
  else if n.kind = 1 then jmap [kKind, kUsers, kSets] [jtext (kword n.kind), jlist (us.map jtext), jlist ((row.map (jname (ps.map PlM.plain))).map jtext)]
  else jmap [kKind, kSets] [jtext (kword n.kind), jlist ((row.map (jname (ps.map PlM.plain))).map jtext)] := rfl
 have hrw : ∀ m, ((row.take m).map (jname (ps.map PlM.plain))).length <= 10000000 := λ m => by rw [List.length_map, List.length_take]; omega
 generalize jnodeN (ps.map PlM.plain) us n row = jj at *
 obtain ⟨w, hw⟩ : ∃ w, w = kword n.kind := ⟨_, rfl⟩
 rw [<- hw] at hJ2
 refine Spec.segs (H' := [[], []]) (by simp)<|Spec.body Tryz.func78 rfl Tryz.results78 Tryz.ntmps78 rfl<|.sr ?_
 refine .boxA rfl (λ b2 => ?_)
 refine .allocA (λ b4 => ?_)
 refine .z<|.fa rfl<|.lo rfl ?_
 refine .indexR 0 hps h0 (λ p13 => ?_)
 refine .q (.loadA rfl) ?_
 refine .allocA (λ b5 => ?_)
 refine .storeA rfl rfl<|.z<|.fa rfl<|.lo rfl<|.mo rfl ?_
 refine .indexR i hnd hn (λ p18 => ?_)
 refine .q (.loadA rfl) ?_
 refine .allocA (λ b6 => ?_)
 refine .storeA rfl rfl<|.z ?_
 refine .allocA (λ b7 => ?_)
 refine .z<|.fa rfl<|.lo rfl<|.callR (kword_spec n.kind _) (λ u hu => ?_)
 subst hu
 rw [<- hw]
 refine .callR (text_spec w _) (λ u hu => ?_)
 subst hu
 refine .call [0, 4, 4] (set_spec b7 0 (sZ) (sZ) [] [] [] [] OS.nil OS.nil (by simp) kKind (jt w) (jtext w) rfl _) (λ u H' hu => ?_)
 obtain ⟨vl1, vk1, Tl1, Tk1, rfl, hL1, hK1⟩ := hu
 have il1 := hL1.oneCell
 have ik1 := hK1.oneCell
 conv => arg 8; simp only [rest, dropAt, List.cons_append, List.nil_append]
 refine .zs<|.sr<|.fa rfl<|.lo rfl<|.q .geq<|.zn<|.cond rfl (λ h1 => ?_) λ h1 => ?_
 have hk4 : 3 < n.kind := by have h8 := odt h1; omega
 rw [if_pos hk4] at hJ2
 refine .sr<|.fa rfl<|.lo rfl ?_
 refine .q .bld ?_
 refine .call [0, 0, 0] (set_spec b7 5 vl1 vk1 _ _ Tl1 Tk1 hL1 hK1 (by simp) kA (jn n.a) (jint n.a) rfl _) (λ u H' hu => ?_)
 obtain ⟨vl2, vk2, Tl2, Tk2, rfl, hL2, hK2⟩ := hu
 have il2 := hL2.oneCell
 have ik2 := hK2.oneCell
 conv => arg 8; simp only [rest, dropAt, List.cons_append, List.nil_append]
 refine .z<|.fa rfl<|.lo rfl ?_
 refine .q .bld ?_
 refine .call [0, 0, 0] (set_spec b7 5 vl2 vk2 _ _ Tl2 Tk2 hL2 hK2 (by simp) kB (jn n.b) (jint n.b) rfl _) (λ u H' hu => ?_)
 obtain ⟨vl3, vk3, Tl3, Tk3, rfl, hL3, hK3⟩ := hu
 have il3 := hL3.oneCell
 have ik3 := hK3.oneCell
 conv => arg 8; simp only [rest, dropAt, List.cons_append, List.nil_append]
 refine .z<|.fa rfl<|.q (.loadT rfl)<|.storeA rfl rfl<|.zn ?_
 refine .ret (seqQ_r (retQ_r _ (.one (.cellA rfl rfl)) (HLe.one [1, 1] _) ?_))
 ·refine ⟨_, rfl, _, rfl, ?_⟩
  rw [hJ2]
  exact jmap_of (l := [(jt w, jtext w), (jn n.a, jint n.a), (jn n.b, jint n.b)]) (ks := [kKind, kA, kB]) (hL3.rs λ p hp => by simp [sg, take, dropAt, hp]) (hK3.rs λ p hp => by simp [sg, take, dropAt, hp]) λ p hp => by
   simp only [List.mem_cons, List.not_mem_nil, or_false] at hp
   rcases hp with rfl | rfl | rfl
   ·exact jt_of _ w
   ·exact jn_of _ n.a
   ·exact jn_of _ n.b
 have hk4 : ¬ 3 < n.kind := by have := odf h1; omega
 rw [if_neg hk4] at hJ2
 refine .kn<|.seq ?_
 refine Tri.cutS [(1, _), (2, _), (4, _), (5, _), (7, _)] kE.c.c.c.c.c (X := List JV × List ByteArray × Value × Value × Seg × Seg × Seg) (λ y => OS 41 6 encJ y.2.2.1 y.1 y.2.2.2.2.1 /\ OS 9 1 encS y.2.2.2.1 y.2.1 y.2.2.2.2.2.1 /\ (∀ p ∈ y.1, JOf (sg y.2.2.2.2.2.2) p.1 p.2) /\ y.1.map (·.2) = (if n.kind = 1 then [jtext w, jlist (us.map jtext)] else [jtext w]) /\ y.2.1 = if n.kind = 1 then [kKind, kUsers] else [kKind]) (λ y E => E) (λ y => [bblk b7 5 y.2.2.1 y.2.2.2.1, y.2.2.2.2.1, y.2.2.2.2.2.1, y.2.2.2.2.2.2, bl b6 n.enc 168, bl b5 (PlM.enc ⟨k0, fo, vn, nds, vu, us, vl, ll, nm⟩) 123, bl b4 jz 41, bl b2 [vp, .int .i64 e] 55]) ?_ ?_
 refine .sr<|.fa rfl<|.lo rfl<|.q .eqI<|.zn<|.cond rfl (λ h2 => ?_) λ h2 => ?_
 have hk1 : n.kind = 1 := by simpa using h2
 refine .region<|.fa rfl<|.lo rfl<|.callN ((texts_spec vu us R hus (by omega)).weaken rxl) (λ u T43 hu => ?_)
 obtain ⟨vo, rfl, hO⟩ := hu
 have ivo := hO.oneCell
 refine .call [1, 1, 1] (set_spec b7 5 vl1 vk1 _ _ Tl1 Tk1 hL1 hK1 (by simp) kUsers (jl4 vo) (jlist ((us.map jtx).map (·.2))) rfl _) (λ u H' hu => ?_)
 obtain ⟨vl2, vk2, Tl2, Tk2, rfl, hL2, hK2⟩ := hu
 have il2 := hL2.oneCell
 have ik2 := hK2.oneCell
 conv => arg 8; simp only [rest, dropAt, List.cons_append, List.nil_append]
 refine .nil ?_
 ·exact joinQ_n (_, _, vl2, vk2, Tl2, Tk2, T43) ⟨hL2, hK2, λ p hp => by
   simp only [List.nil_append, List.cons_append, List.mem_cons, List.not_mem_nil, or_false] at hp
   rcases hp with rfl | rfl
   ·exact jt_of _ w
   ·exact jl4_of hO.sg jtx_all, by rw [if_pos hk1]; simp only [List.nil_append, List.cons_append, List.map_cons, List.map_nil, jtx_snd], by rw [if_pos hk1]; rfl⟩ (((((kE.d rfl).d rfl).d rfl).d rfl).d rfl) rH
 have hk1 : n.kind ≠ 1 := by simpa using h2
 refine .skip ?_
 ·exact joinQ_n (_, _, vl1, vk1, Tl1, Tk1, []) ⟨hL1, hK1, λ p hp => by
   simp only [List.nil_append, List.mem_cons, List.not_mem_nil, or_false] at hp
   subst hp
   exact jt_of _ w, by rw [if_neg hk1]; rfl, by rw [if_neg hk1]; rfl⟩ (((((kE.d rfl).d rfl).d rfl).d rfl).d rfl) (HLe.new0.trans (pkH [1, 1, 1, 0, 0, 0, 0, 0]))
 intro y hy
 obtain ⟨lj, ks, vl2, vk2, Tl2, Tk2, Tx⟩ := y
 obtain ⟨hL2, hK2, hX2, hl2, hks2⟩ := hy
 simp only at hL2 hK2 hX2 hl2 hks2 ⊢
 have il2 := hL2.oneCell
 have ik2 := hK2.oneCell
 have hlj2 : lj.length <= 2 := by
  have := congrArg List.length hl2
  rw [List.length_map] at this
  rw [this]; split <;> simp
 have hks3 : ks.length <= 2 := by rw [hks2]; split <;> simp
 refine seqQ_n<|.sr<|.ag rfl<|.zs<|.sr<|.fa rfl<|.lo rfl<|.mo rfl ?_
 refine .indexR i hlr hrow (λ p48 => ?_)
 refine .lo rfl<|.q (.lenR hr)<|.mo rfl<|.zn<|.block<|.loopS [(2, _), (4, _), (7, _), (49, _), (50, _)] (X := Nat × Value × Seg) (λ y => y.1 <= row.length /\ OS 9 1 encS y.2.1 ((row.take y.1).map (jname (ps.map PlM.plain))) y.2.2) (λ y E => (51, iN y.1) :: (8, y.2.1) :: E) (λ y G => y.2.2 :: G) (λ y => row.length - y.1) (0, sZ, []) ⟨Nat.zero_le _, OS.nil⟩ kE.c.c.c.c.c.c.c HLe.new0 ?_
 rintro ⟨m, vo, To⟩ ⟨hm, hO⟩
 simp only at hm hO ⊢
 have io := hO.oneCell
 refine .sr<|.q .lss<|.zs<|.cond rfl (λ h3 => ?_) λ h3 => ?_
 have hmt : m < row.length := lt_i h3
 obtain ⟨j, hj⟩ := exg hmt
 have hjl := hrl2 j (mog hj)
 obtain ⟨q, hq⟩ := exg hjl
 have hqm := mog hq
 have iq : Ones q.enc := ⟨(hal q hqm).ones⟩
 obtain ⟨s1, s2, s3⟩ := hsm q hqm
 have htk := take_next hj
 have hjn : jname (ps.map PlM.plain) j = pname q.k := by unfold jname; rw [List.getElem?_map, hq]; rfl
 have hrw' := hrw m
 refine .kn<|.seq<|.block<|.sr ?_
 refine .indexR m hr hj (λ p53 => ?_)
 refine .lo rfl<|.az rfl<|.region<|.mo rfl<|.fa rfl<|.lo rfl<|.mo rfl ?_
 refine .indexR j hps hq (λ p59 => ?_)
 refine .q (.loadA rfl)<|.callR (name_spec q.k [.bool q.found, q.vn, q.vu, q.vl, iN q.number] (ie := ⟨λ u hu => iq.h u (by simp only [PlM.enc]; simp only [List.mem_cons, List.not_mem_nil, or_false] at hu ⊢; simp [hu])⟩) rfl s1 s2 s3 _) (λ u hu => ?_)
 subst hu
 rw [<- hjn]
 refine .buildSlice11 (λ b62 => ?_)
 refine .append hO (RS.lits (xs := [jname (ps.map PlM.plain) j]) rfl (by simp [encS]) (by simp [encS, oneCell])) (by simp only [List.length_singleton]; omega) (λ v5 T5 hv5 => ?_)
 rw [<- List.map_singleton (f := jname (ps.map PlM.plain)), <- List.map_append, <- htk] at hv5
 refine .ag rfl<|.nil<|blkQ_n<|seqQ_n<|.region<|.ia (m + 1) .add<|.mo rfl<|.nil ?_
 ·exact loopQ_i (m + 1, v5, T5) ⟨hmt, hv5⟩ (by simp only; omega) kE.c.c.c.c.c.c.c (HLe.drop [0] _)
 rw [take_end (ge_i h3)] at hO
 have hrw0 := hrw row.length
 rw [List.take_length] at hrw0
 refine .exit<|seqQ_x<|loopQ_x<|blkQ_x<|seqQ_n<|.sr<|.mo rfl<|.callN (texts_spec vo _ _ hO.rx (by omega)) (λ u T66 hu => ?_)
 obtain ⟨vs, rfl, hOs⟩ := hu
 have ivs := hOs.oneCell
 refine .call [2, 2, 2] (set_spec b7 5 vl2 vk2 _ _ Tl2 Tk2 hL2 hK2 (by omega) kSets (jl4 vs) (jlist (((row.map (jname (ps.map PlM.plain))).map jtx).map (·.2))) rfl _) (λ u H' hu => ?_)
 obtain ⟨vl3, vk3, Tl3, Tk3, rfl, hL3, hK3⟩ := hu
 have il3 := hL3.oneCell
 have ik3 := hK3.oneCell
 conv => arg 8; simp only [rest, dropAt, List.cons_append, List.nil_append]
 refine .z<|.fa rfl<|.q (.loadT rfl)<|.storeA rfl rfl<|.zn ?_
 refine .ret (retQ_r _ (.one (.cellA rfl rfl)) (HLe.one [1, 1, 1, 2] _) ?_)
 ·refine ⟨_, rfl, _, rfl, ?_⟩
  have hj3 := jmap_of (R := sg (Tl3 ++ (Tk3 ++ (T66 ++ Tx)))) (hL3.rs λ p hp => by simp [sg, hp]) (hK3.rs λ p hp => by simp [sg, hp]) λ p hp => by
   rcases List.mem_append.1 hp with hp | hp
   ·exact (hX2 p hp).mono λ b o hb => by
     have : (b, o) ∈ Tx := hb
     simp [sg, this]
   ·rw [List.mem_singleton] at hp
    subst hp
    exact jl4_of (hOs.rs λ p hp => by simp [sg, hp]) jtx_all
  rw [hJ2]
  rw [List.map_append, hl2, hks2, List.map_singleton, jtx_snd] at hj3
  have hres : jmap ((if n.kind = 1 then [kKind, kUsers] else [kKind]) ++ [kSets]) ((if n.kind = 1 then [jtext w, jlist (us.map jtext)] else [jtext w]) ++ [jlist ((row.map (jname (ps.map PlM.plain))).map jtext)]) = if n.kind = 1 then jmap [kKind, kUsers, kSets] [jtext w, jlist (us.map jtext), jlist ((row.map (jname (ps.map PlM.plain))).map jtext)] else jmap [kKind, kSets] [jtext w, jlist ((row.map (jname (ps.map PlM.plain))).map jtext)] := by
   by_cases hk : n.kind = 1 <;> simp [hk]
  rw [hres] at hj3
  exact hj3.mono λ b o hb => by
   have : (b, o) ∈ Tl3 ++ (Tk3 ++ (T66 ++ Tx)) := hb
   simpa [sg, take, dropAt] using this
theorem tree_spec (vp : Value) (e : Int) (ps : List PlM) (R : Rds) (h : GrM R vp ps) :
  Spec prog 25 [.agg [vp, .int .i64 e].toArray] R [] λ u H' => ∃ T, H' = [T] /\ ∃ cs, u = .agg cs.toArray /\ JOf (sg T) cs (jtree (ps.map PlM.plain)) := by
 have hps := h.rs
 have ivp := hps.oneCell
 have hal := h.all
 have hsm := h.small
 have hfirst := h.first
 have hnode := λ p0 h0 i n hn => node_spec vp e ps R h p0 h0 i n hn
 refine Spec.segs (H' := [[], [], [], []]) (by simp)<|Spec.body Tryz.func25 rfl Tryz.results25 Tryz.ntmps25 rfl<|.sr ?_
 refine .boxA rfl (λ b1 => ?_)
 refine .allocA (λ b2 => ?_)
 refine .zs<|.sr<|.fa rfl<|.lo rfl<|.q (.lenR hps)<|.q .eqI<|.zn<|.cond rfl (λ h1 => ?_) λ h1 => ?_
 have h9 : (ps.length : Int) = 0 := by simpa using h1
 have hnil : ps = [] := List.eq_nil_of_length_eq_zero (by omega)
 subst hnil
 refine .sr<|.q .bld<|.storeA rfl rfl<|.zn ?_
 refine .ret (seqQ_r (retQ_r _ (.one (.cellA rfl rfl)) (HLe.one [] _) ?_))
 ·exact ⟨_, rfl, _, rfl, jz_of _⟩
 have hpos : 0 < ps.length := by
  have : ¬ (ps.length : Int) = 0 := by simpa using h1
  omega
 obtain ⟨p0, h0⟩ := exg hpos
 have hm0 := mog h0
 have hi0 := hal p0 hm0
 obtain ⟨s1, s2, s3⟩ := hsm p0 hm0
 obtain ⟨_, _, hnl, _⟩ := hfirst p0 h0
 have ip0 : Ones p0.enc := ⟨hi0.ones⟩
 have hjt : jtree (ps.map PlM.plain) = jtreeP (ps.map PlM.plain) p0.plain := by
  cases ps with
  | nil => simp at h0
  | cons a l =>
   simp only [List.getElem?_cons_zero, Option.some.injEq] at h0
   subst h0
   rfl
 rw [hjt]
 have hnode' := hnode p0 h0
 obtain ⟨k0, fo, vn, nds, vu, us, vl, ll, nm⟩ := p0
 have hnd : RS R 5 Nd.enc vn nds := hi0.n
 simp only at hnl hnode' s1 s2 s3
 have iv1 := hnd.oneCell
 have hjd : jtreeP (ps.map PlM.plain) (PlM.plain ⟨k0, fo, vn, nds, vu, us, vl, ll, nm⟩) = jmap [kPlace, kFound, kNodes] [jtext (pname k0), jbool fo, jlist ((List.range nds.length).map (jnodeI (ps.map PlM.plain) (PlM.plain ⟨k0, fo, vn, nds, vu, us, vl, ll, nm⟩)))] := rfl
 generalize hfn : jnodeI (ps.map PlM.plain) (PlM.plain ⟨k0, fo, vn, nds, vu, us, vl, ll, nm⟩) = fn at *
 refine .kn<|.sr<|.q .bld ?_
 refine .allocA (λ b3 => ?_)
 refine .storeA rfl rfl<|.zs<|.sr<|.fa rfl<|.lo rfl ?_
 refine .indexR 0 hps h0 (λ p14 => ?_)
 refine .fa rfl<|.lo rfl<|.q (.lenR hnd)<|.mo rfl<|.zn<|.block<|.loopS [(1, _), (2, _), (3, _), (17, _)] (X := Nat × Value × List JV × Seg × Seg) (λ y => y.1 <= nds.length /\ OS 41 6 encJ y.2.1 y.2.2.1 y.2.2.2.1 /\ (∀ p ∈ y.2.2.1, JOf (sg y.2.2.2.2) p.1 p.2) /\ y.2.2.1.map (·.2) = (List.range y.1).map fn) (λ y E => (18, iN y.1) :: E) (G := [bl b2 jz 41, bl b1 [vp, .int .i64 e] 55, [], []]) (λ y G => bl b3 (jl4 y.2.1) 41 :: y.2.2.2.1 :: y.2.2.2.2 :: G) (λ y => nds.length - y.1) (0, sZ, [], [], []) ⟨Nat.zero_le _, OS.nil, λ p hp => (by cases hp), rfl⟩ kE.c.c.c.c.c (pkH [0, 2, 2, 0, 0, 0, 0]) ?_
 rintro ⟨i, vo, lj, To, Tx⟩ ⟨hi, hO, hX, hl⟩
 simp only at hi hO hX hl ⊢
 have io := hO.oneCell
 have hljl : lj.length = i := by have := congrArg List.length hl; simpa using this
 refine .sr<|.q .lss<|.zs<|.cond rfl (λ h2 => ?_) λ h2 => ?_
 have hlt : i < nds.length := lt_i h2
 obtain ⟨n, hn⟩ := exg hlt
 refine .kn<|.seq<|.block<|.sr<|.mo rfl<|.az rfl<|.region_all [6, 8] mixed<|.tO 0 rfl (.fieldAddr rfl)<|.tO 1 rfl (.load1 rfl)<|.tO 2 rfl (.loadA rfl)<|.tO 3 rfl .move<|.sT 4 rfl<|.callN ((hnode' i n hn).weaken rxl) (λ u T25 hu => ?_)
 obtain ⟨cs, rfl, hJ⟩ := hu
 have ics : Ones cs := ⟨hJ.ones⟩
 obtain ⟨x1, x2, x3, x4, x5, x6, rfl⟩ := six_cells hJ.six
 refine .nil<|Next.sub<|.sT 5 rfl ?_
 refine .buildSlice1A (λ b26 => ?_)
 refine .nil<|Next.sub<|.sT 6 rfl<|.append hO (RS.lits (xs := [(([x1, x2, x3, x4, x5, x6], fn i) : JV)]) rfl (by simp [encJ]) (by simpa [encJ] using ics.h)) (by simp only [List.length_singleton]; omega) (λ v5 T5 hv5 => ?_)
 have i5 := hv5.oneCell
 refine .nil<|Next.mod rfl<|.tK 7 rfl (.fieldAddrA rfl)<|.sT 8 rfl<|.store1 rfl rfl<|.nil<|Next.mod rfl<|RA.nil (by kernel_rfl)<|blkQ_n<|seqQ_n<|.region<|.ia (i + 1) .add<|.mo rfl<|.nil ?_
 ·exact loopQ_i (i + 1, v5, lj ++ [([x1, x2, x3, x4, x5, x6], fn i)], T5, T25 ++ Tx) ⟨hlt, hv5, λ p hp => by
   rcases List.mem_append.1 hp with hp | hp
   ·exact (hX p hp).mono λ b o hb => sg_right hb
   ·rw [List.mem_singleton] at hp
    subst hp
    exact hJ.mono λ b o hb => sg_left hb, by simp only; rw [List.map_append, hl, List.range_succ, List.map_append]; rfl⟩ (by simp only; omega) kE.c.c.c.c.c ((pkH [2, 2, 1, 1, 1, 1, 1, 1]).trans (HLe.ofPerm (by simp [take, dropAt, setL, jl4])))
 have hie : i = nds.length := by have := odf h2; omega
 subst hie
 refine .exit<|seqQ_x<|loopQ_x<|blkQ_x<|seqQ_n<|.sr ?_
 refine .allocA (λ b5 => ?_)
 refine .z<|.fa rfl<|.lo rfl ?_
 refine .indexR 0 hps h0 (λ p32 => ?_)
 refine .q (.loadA rfl)<|.callR (name_spec k0 [.bool fo, vn, vu, vl, iN nm] (ie := ⟨λ u hu => ip0.h u (by simp only [PlM.enc]; simp only [List.mem_cons, List.not_mem_nil, or_false] at hu ⊢; simp [hu])⟩) rfl s1 s2 s3 _) (λ u hu => ?_)
 subst hu
 refine .callR (text_spec (pname k0) _) (λ u hu => ?_)
 subst hu
 refine .call [0, 5, 5] (set_spec b5 0 (sZ) (sZ) [] [] [] [] OS.nil OS.nil (by simp) kPlace (jt (pname k0)) (jtext (pname k0)) rfl _) (λ u H' hu => ?_)
 obtain ⟨vl1, vk1, Tl1, Tk1, rfl, hL1, hK1⟩ := hu
 have il1 := hL1.oneCell
 have ik1 := hK1.oneCell
 conv => arg 8; simp only [rest, dropAt, List.cons_append, List.nil_append]
 refine .z<|.fa rfl<|.lo rfl ?_
 refine .indexR 0 hps h0 (λ p39 => ?_)
 refine .fa rfl<|.lo rfl ?_
 refine .q .bld ?_
 refine .call [0, 0, 0] (set_spec b5 5 vl1 vk1 _ _ Tl1 Tk1 hL1 hK1 (by simp) kFound (jb fo) (jbool fo) rfl _) (λ u H' hu => ?_)
 obtain ⟨vl2, vk2, Tl2, Tk2, rfl, hL2, hK2⟩ := hu
 have il2 := hL2.oneCell
 have ik2 := hK2.oneCell
 conv => arg 8; simp only [rest, dropAt, List.cons_append, List.nil_append]
 refine .z<|.q (.loadA rfl)<|.call [0, 0, 0] (set_spec b5 5 vl2 vk2 _ _ Tl2 Tk2 hL2 hK2 (by simp) kNodes (jl4 vo) (jlist (lj.map (·.2))) rfl _) (λ u H' hu => ?_)
 obtain ⟨vl3, vk3, Tl3, Tk3, rfl, hL3, hK3⟩ := hu
 have il3 := hL3.oneCell
 have ik3 := hK3.oneCell
 conv => arg 8; simp only [rest, dropAt, List.cons_append, List.nil_append]
 refine .z<|.fa rfl<|.q (.loadT rfl)<|.storeA rfl rfl<|.zn ?_
 refine .ret (retQ_r _ (.one (.cellA rfl rfl)) (HLe.one [1, 1, 2, 2] _) ?_)
 ·refine ⟨_, rfl, _, rfl, ?_⟩
  have hj3 := jmap_of (R := sg (Tl3 ++ (Tk3 ++ (To ++ Tx)))) (hL3.rs λ p hp => by simp [sg, hp]) (hK3.rs λ p hp => by simp [sg, hp]) λ p hp => by
   simp only [List.nil_append, List.cons_append, List.mem_cons, List.not_mem_nil, or_false] at hp
   rcases hp with rfl | rfl | rfl
   ·exact jt_of _ _
   ·exact jb_of _ _
   ·exact jl4_of (hO.rs λ p hp => by simp [sg, hp]) λ p hp => (hX p hp).mono λ b o hb => by
     have : (b, o) ∈ Tx := hb
     simp [sg, this]
  rw [hjd]
  simp only [List.nil_append, List.cons_append, List.map_cons, List.map_nil, hl] at hj3
  exact hj3.mono λ b o hb => by
   have : (b, o) ∈ Tl3 ++ (Tk3 ++ (To ++ Tx)) := hb
   simpa [sg, take, dropAt] using this
def kwords : List ByteArray := [⟨#[]⟩, ⟨#[116, 104, 105, 115]⟩, ⟨#[114, 101, 108]⟩, ⟨#[97, 114, 114, 111, 119]⟩, ⟨#[111, 114]⟩, ⟨#[97, 110, 100]⟩, ⟨#[98, 117, 116]⟩]
theorem kwords_get {m : Nat} (h1 : 1 <= m) (h2 : m <= 6) : kwords[m]? = some (kword m) := by
 have : m = 1 \/ m = 2 \/ m = 3 \/ m = 4 \/ m = 5 \/ m = 6 := by omega
 rcases this with rfl | rfl | rfl | rfl | rfl | rfl <;> rfl
def jm5 (vl vk : Value) : List Value := [.int .i64 5, .bool false, .int .i64 0, .string ⟨#[]⟩, vl, vk]
theorem jm5_of {R : Rds} {vl vk : Value} {l : List JV} {ks : List ByteArray} (h : RS R 6 encJ vl l) (hk : RS R 1 encS vk ks) (ha : ∀ p ∈ l, JOf R p.1 p.2) : JOf R (jm5 vl vk) (jmap ks (l.map (·.2))) := .mk (l := l) h hk ha
theorem lits3 {b : Nat} (a c d : JV) (ha : ∀ u ∈ a.1, oneCell u = true) (hc : ∀ u ∈ c.1, oneCell u = true) (hd : ∀ u ∈ d.1, oneCell u = true) (h6 : a.1.length = 6) (h7 : c.1.length = 6) (h8 : d.1.length = 6) : OS 41 6 encJ (.slice (some ⟨b, 0, none⟩) 3 3) [a, c, d] [(b, .cells [a.1, c.1, d.1].flatten.toArray 41 (0, 0))] :=
 OS.lits (by simp [encJ]) (λ x hx => by
  simp only [List.mem_cons, List.not_mem_nil, or_false] at hx
  rcases hx with rfl | rfl | rfl <;> assumption) λ x hx => by
  simp only [List.mem_cons, List.not_mem_nil, or_false] at hx
  rcases hx with rfl | rfl | rfl <;> assumption
theorem lits2 {b : Nat} (a c : JV) (ha : ∀ u ∈ a.1, oneCell u = true) (hc : ∀ u ∈ c.1, oneCell u = true) (h6 : a.1.length = 6) (h7 : c.1.length = 6) : OS 41 6 encJ (.slice (some ⟨b, 0, none⟩) 2 2) [a, c] [(b, .cells [a.1, c.1].flatten.toArray 41 (0, 0))] :=
 OS.lits (by simp [encJ]) (λ x hx => by
  simp only [List.mem_cons, List.not_mem_nil, or_false] at hx
  rcases hx with rfl | rfl <;> assumption) λ x hx => by
  simp only [List.mem_cons, List.not_mem_nil, or_false] at hx
  rcases hx with rfl | rfl <;> assumption
theorem litsK {b n : Nat} (ks : List ByteArray) (hn : ks.length = n) (hm : Nat.ble n 9223372036854775807 = true) : OS 9 1 encS (.slice (some ⟨b, 0, none⟩) n n) ks (bl b (ks.map Value.string) 9) :=
 OS.lits (flat_encS ks) (by simp [encS]) (by simp [encS, oneCell]) hn hm
theorem fin3 {b1 b2 : Nat} {w : ByteArray} {us rn : List ByteArray} {vo1 vs : Value} {T1 T2 : Seg} (hO1 : OS 41 6 encJ vo1 (us.map jtx) T1) (hOs : OS 41 6 encJ vs (rn.map jtx) T2) [i1 : One vo1] [i2 : One vs] :
  JOf (sg ((b1, .cells [jt w, jl4 vo1, jl4 vs].flatten.toArray 41 (0, 0)) :: (b2, .cells ([kKind, kUsers, kSets].map Value.string).toArray 9 (0, 0)) :: (T1 ++ T2))) (jm5 (.slice (some ⟨b1, 0, none⟩) 3 3) (.slice (some ⟨b2, 0, none⟩) 3 3)) (jmap [kKind, kUsers, kSets] [jtext w, jlist (us.map jtext), jlist (rn.map jtext)]) := by
 rw [<- jtx_snd us, <- jtx_snd rn]
 refine jm5_of (R := sg ((b1, .cells [jt w, jl4 vo1, jl4 vs].flatten.toArray 41 (0, 0)) :: (b2, .cells ([kKind, kUsers, kSets].map Value.string).toArray 9 (0, 0)) :: (T1 ++ T2))) (l := [(jt w, jtext w), (jl4 vo1, jlist ((us.map jtx).map (·.2))), (jl4 vs, jlist ((rn.map jtx).map (·.2)))]) (ks := [kKind, kUsers, kSets]) ((lits3 (b := b1) _ _ _ (jt_one w).h (jl4_one vo1).h (jl4_one vs).h rfl rfl rfl).rs λ p hp => ?_) ((litsK (b := b2) [kKind, kUsers, kSets] rfl rfl).rs λ p hp => ?_) λ p hp => ?_
 ·rw [List.mem_singleton] at hp
  subst hp
  exact List.mem_cons_self
 ·rw [List.mem_singleton] at hp
  subst hp
  exact List.mem_cons_of_mem _ List.mem_cons_self
 ·simp only [List.mem_cons, List.not_mem_nil, or_false] at hp
  rcases hp with rfl | rfl | rfl
  ·exact jt_of _ w
  ·exact jl4_of (hO1.rs λ p hp => List.mem_cons_of_mem _ (List.mem_cons_of_mem _ (List.mem_append_left _ hp))) jtx_all
  ·exact jl4_of (hOs.rs λ p hp => List.mem_cons_of_mem _ (List.mem_cons_of_mem _ (List.mem_append_right _ hp))) jtx_all
theorem fin2 {b1 b2 : Nat} {w : ByteArray} {rn : List ByteArray} {vs : Value} {T2 : Seg} (hOs : OS 41 6 encJ vs (rn.map jtx) T2) [i2 : One vs] :
  JOf (sg ((b1, .cells [jt w, jl4 vs].flatten.toArray 41 (0, 0)) :: (b2, .cells ([kKind, kSets].map Value.string).toArray 9 (0, 0)) :: T2)) (jm5 (.slice (some ⟨b1, 0, none⟩) 2 2) (.slice (some ⟨b2, 0, none⟩) 2 2)) (jmap [kKind, kSets] [jtext w, jlist (rn.map jtext)]) := by
 rw [<- jtx_snd rn]
 refine jm5_of (R := sg ((b1, .cells [jt w, jl4 vs].flatten.toArray 41 (0, 0)) :: (b2, .cells ([kKind, kSets].map Value.string).toArray 9 (0, 0)) :: T2)) (l := [(jt w, jtext w), (jl4 vs, jlist ((rn.map jtx).map (·.2)))]) (ks := [kKind, kSets]) ((lits2 (b := b1) _ _ (jt_one w).h (jl4_one vs).h rfl rfl).rs λ p hp => ?_) ((litsK (b := b2) [kKind, kSets] rfl rfl).rs λ p hp => ?_) λ p hp => ?_
 ·rw [List.mem_singleton] at hp
  subst hp
  exact List.mem_cons_self
 ·rw [List.mem_singleton] at hp
  subst hp
  exact List.mem_cons_of_mem _ List.mem_cons_self
 ·simp only [List.mem_cons, List.not_mem_nil, or_false] at hp
  rcases hp with rfl | rfl
  ·exact jt_of _ w
  ·exact jl4_of (hOs.rs λ p hp => List.mem_cons_of_mem _ (List.mem_cons_of_mem _ hp)) jtx_all
theorem rnode_spec (vp : Value) (e : Int) (ps : List PlM) (R : Rds) (h : GrM R vp ps) (p0 : PlM) (h0 : ps[0]? = some p0) (i : Nat) (n : Nd) (hn : p0.nodes[i]? = some n) :
  Spec prog 75 [.agg [vp, .int .i64 e].toArray, iN i] R [] λ u H' => ∃ T, H' = [T] /\ ∃ cs, u = .agg cs.toArray /\ JOf (sg T) cs (jnodeI (ps.map PlM.plain) p0.plain i) := by
 have hps := h.rs
 have ivp := hps.oneCell
 have hm0 := mog h0
 have hi0 := h.all p0 hm0
 have hsm := h.small
 have hal := h.all
 have hkn := h.kinds p0 hm0 n (mog hn)
 obtain ⟨hll1, hul, hnl, hrl⟩ := h.first p0 h0
 have ip0 : Ones p0.enc := ⟨hi0.ones⟩
 obtain ⟨k0, fo, vn, nds, vu, us, vl, ll, nm⟩ := p0
 have hnd : RS R 5 Nd.enc vn nds := hi0.n
 have hus : RS R 1 encS vu us := hi0.u
 have hlr : RS R 1 encV1 vl ll := hi0.l.rs
 have hla := hi0.l.all
 simp only at hn hll1 hul hnl hrl hla
 have hil := (List.getElem?_eq_some_iff.1 hn).1
 obtain ⟨⟨v, row⟩, hrow⟩ : ∃ q, ll[i]? = some q := ⟨_, gge (by omega)⟩
 have hrm := mog hrow
 have hr : RS R 1 encNt v row := hla _ hrm
 obtain ⟨hrl1, hrl2⟩ := hrl _ hrm
 simp only at hrl1 hrl2
 have iv1 := hnd.oneCell
 have iv2 := hus.oneCell
 have iv3 := hlr.oneCell
 have iv4 := hr.oneCell
 have hJ : jnodeI (ps.map PlM.plain) (PlM.plain ⟨k0, fo, vn, nds, vu, us, vl, ll, nm⟩) i = jnodeN (ps.map PlM.plain) us n row := by
  unfold jnodeI PlM.plain
  simp only [hn, Option.getD_some, List.getElem?_map, hrow, Option.map_some]
 rw [hJ]
 have hJ2 : jnodeN (ps.map PlM.plain) us n row = if 3 < n.kind then jmap [kKind, kA, kB] [jtext (kword n.kind), jint n.a, jint n.b]
  else if n.kind = 1 then jmap [kKind, kUsers, kSets] [jtext (kword n.kind), jlist (us.map jtext), jlist ((row.map (jname (ps.map PlM.plain))).map jtext)]
  else jmap [kKind, kSets] [jtext (kword n.kind), jlist ((row.map (jname (ps.map PlM.plain))).map jtext)] := rfl
 have hrw : ∀ m, ((row.take m).map (jname (ps.map PlM.plain))).length <= 10000000 := λ m => by rw [List.length_map, List.length_take]; omega
 generalize jnodeN (ps.map PlM.plain) us n row = jj at *
 obtain ⟨nk, nr, nt, na, nb⟩ := n
 simp only at hkn hJ2
 obtain ⟨kd, rfl⟩ : ∃ kd : Nat, nk = kd := ⟨nk.toNat, by omega⟩
 have hkw := kwords_get (m := kd) (by omega) (by omega)
 obtain ⟨w, hw⟩ : ∃ w, w = kword kd := ⟨_, rfl⟩
 rw [<- hw] at hJ2 hkw
 refine Spec.body Tryz.func75 rfl Tryz.results75 Tryz.ntmps75 rfl ?_
 refine .sr ?_
 refine .boxA rfl (λ b2 => ?_)
 refine .allocA (λ b4 => ?_)
 refine .z<|.fa rfl<|.lo rfl ?_
 refine .indexR 0 hps h0 (λ p13 => ?_)
 refine .fa rfl<|.lo rfl<|.mo rfl ?_
 refine .indexR i hnd hn (λ p17 => ?_)
 refine .q (.loadA rfl) ?_
 refine .allocA (λ b5 => ?_)
 refine .storeA rfl rfl<|.z ?_
 refine .buildSliceN1 [_, _, _, _, _, _, _] (λ b19 => ?_)
 refine .ag rfl<|.z ?_
 have hKW : OS 9 1 encS (.slice (some ⟨b19, 0, none⟩) 7 7) kwords (bl b19 [Value.string ⟨#[]⟩, .string ⟨#[116, 104, 105, 115]⟩, .string ⟨#[114, 101, 108]⟩, .string ⟨#[97, 114, 114, 111, 119]⟩, .string ⟨#[111, 114]⟩, .string ⟨#[97, 110, 100]⟩, .string ⟨#[98, 117, 116]⟩] 9) := OS.lits rfl (by simp [encS]) (by simp [encS, oneCell])
 refine .mo rfl<|.fa rfl<|.lo rfl ?_
 refine .indexO kd hKW hkw (λ p23 => ?_)
 refine .lo rfl ?_
 refine .callR (rtext_spec w _) (λ u hu => ?_)
 subst hu
 refine .allocA (λ b7 => ?_)
 refine .storeA rfl rfl<|.zs<|.sr<|.fa rfl<|.lo rfl<|.q .gtr<|.zn ?_
 refine .cond rfl (λ h1 => ?_) λ h1 => ?_
 have hk4 : 3 < (kd : Int) := odt h1
 rw [if_pos hk4] at hJ2
 refine .sr ?_
 refine .buildSliceN1 [_, _, _] (λ b29 => ?_)
 refine .q (.loadA rfl)<|.fa rfl<|.lo rfl ?_
 refine .q .bld ?_
 refine .fa rfl<|.lo rfl ?_
 refine .q .bld ?_
 refine .buildSliceNA [jt w, jn na, jn nb] (λ b37 => ?_) (ho := by simp [jt, jn])
 refine .q .bld ?_
 refine .storeA rfl rfl<|.zn ?_
 refine .ret (seqQ_r (retQ_r _ (.one (.cellA rfl rfl)) (HLe.one [0, 0] _) ?_))
 ·refine ⟨_, rfl, jm5 _ _, rfl, ?_⟩
  rw [hJ2]
  exact jm5_of (l := [(jt w, jtext w), (jn na, jint na), (jn nb, jint nb)]) (ks := [kKind, kA, kB]) ((lits3 (b := b37) _ _ _ (jt_one w).h (jn_one na).h (jn_one nb).h rfl rfl rfl).rs λ p hp => by
   rw [List.mem_singleton] at hp
   subst hp
   exact List.mem_cons_self) ((litsK (b := b29) [kKind, kA, kB] rfl rfl).rs λ p hp => by
   rw [List.mem_singleton] at hp
   subst hp
   exact List.mem_cons_of_mem _ List.mem_cons_self) λ p hp => by
   simp only [List.mem_cons, List.not_mem_nil, or_false] at hp
   rcases hp with rfl | rfl | rfl
   ·exact jt_of _ w
   ·exact jn_of _ na
   ·exact jn_of _ nb
 have hk4 : ¬ 3 < (kd : Int) := odf h1
 rw [if_neg hk4] at hJ2
 refine .kn<|.sr<|.ag rfl<|.z<|.fa rfl<|.lo rfl ?_
 refine .indexR 0 hps h0 (λ p41 => ?_)
 refine .fa rfl<|.lo rfl<|.mo rfl ?_
 refine .indexR i hlr hrow (λ p45 => ?_)
 refine .lo rfl<|.ag rfl<|.zs<|.sr<|.az rfl<|.block ?_
 refine .loopS [(2, _), (4, _), (5, _), (7, _), (9, _)] (X := Nat × Value × Seg) (λ y => y.1 <= row.length /\ OS 9 1 encS y.2.1 ((row.take y.1).map (jname (ps.map PlM.plain))) y.2.2) (λ y E => (10, iN y.1) :: (8, y.2.1) :: E) (λ y G => y.2.2 :: G) (λ y => row.length - y.1) (0, sZ, []) ⟨Nat.zero_le _, OS.nil⟩ kE.c.c.c.c.c.c.c HLe.new0 ?_
 rintro ⟨m, vo, To⟩ ⟨hm, hO⟩
 simp only at hm hO ⊢
 have io := hO.oneCell
 refine .seq<|.sr<|.mo rfl<|.mo rfl<|.q (.lenR hr) ?_
 refine .q .lss<|.zn ?_
 refine .cond rfl (λ h2 => ?_) λ h2 => ?_
 have hmt : m < row.length := lt_i h2
 obtain ⟨j, hj⟩ := exg hmt
 have hjl := hrl2 j (mog hj)
 obtain ⟨q, hq⟩ := exg hjl
 have hqm := mog hq
 have iq : Ones q.enc := ⟨(hal q hqm).ones⟩
 obtain ⟨s1, s2, s3⟩ := hsm q hqm
 have htk := take_next hj
 have hjn : jname (ps.map PlM.plain) j = pname q.k := by unfold jname; rw [List.getElem?_map, hq]; rfl
 have hrw' := hrw m
 have p58 : PC R (baseP v (m * 1)) (encNt j) := hr.pc hj
 have p60 : PC R (baseP vp (j * 8)) q.enc := hps.pc hq
 refine .kn<|.seq<|.block<|.region_all [11] mixed ?_
 refine .tO 0 rfl .move<|.tO 1 rfl (.fieldAddr rfl)<|.tO 2 rfl (.load1 rfl)<|.tO 3 rfl .move<|.tO 4 rfl .move ?_
 refine .tO 5 rfl (.indexR m hr hj rfl rfl rfl) ?_
 refine .tO 6 rfl (.load1 rfl) ?_
 refine .tO 7 rfl (.indexR j hps hq rfl rfl rfl) ?_
 refine .tO 8 rfl (.loadA rfl) ?_
 refine .sT 9 rfl ?_
 refine .callR (rname_spec q.k [.bool q.found, q.vn, q.vu, q.vl, iN q.number] (ie := ⟨λ u hu => iq.h u (by simp only [PlM.enc]; simp only [List.mem_cons, List.not_mem_nil, or_false] at hu ⊢; simp [hu])⟩) rfl s1 s2 s3 _) (λ u hu => ?_)
 subst hu
 rw [<- hjn]
 refine .nil (Next.sub ?_)
 refine .sT 10 rfl ?_
 refine .buildSlice11 (λ b63 => ?_)
 refine .nil (Next.sub ?_)
 refine .sT 11 rfl ?_
 refine .append hO (RS.lits (xs := [jname (ps.map PlM.plain) j]) rfl (by simp [encS]) (by simp [encS, oneCell])) (by simp only [List.length_singleton]; omega) (λ v5 T5 hv5 => ?_)
 rw [<- List.map_singleton (f := jname (ps.map PlM.plain)), <- List.map_append, <- htk] at hv5
 refine .nil (Next.mod rfl ?_)
 refine .tK 12 rfl .assign ?_
 refine RA.nil (by kernel_rfl) ?_
 refine blkQ_n<|seqQ_n<|.region<|.mo rfl ?_
 refine .ia (m + 1) .add ?_
 refine .ag rfl<|.nil ?_
 ·exact loopQ_i (m + 1, v5, T5) ⟨hmt, hv5⟩ (by simp only; omega) kE.c.c.c.c.c.c.c (HLe.drop [0] _)
 rw [take_end (ge_i h2)] at hO
 have hrw0 := hrw row.length
 rw [List.take_length] at hrw0
 refine .exit<|seqQ_x<|loopQ_x<|blkQ_x<|seqQ_n<|.seq<|.sr<|.fa rfl<|.lo rfl<|.q .eqI<|.zn ?_
 refine .cond rfl (λ h3 => ?_) λ h3 => ?_
 have hk1 : (kd : Int) = 1 := by simpa using h3
 rw [if_pos hk1] at hJ2
 refine .seq ?_
 refine Tri.cutS [(4, _)] kE.c (X := Value × Value × Seg) (λ y => JOf (sg y.2.2) (jm5 y.1 y.2.1) jj /\ One y.1 /\ One y.2.1) (λ y E => E) (λ y => [bl b4 (jm5 y.1 y.2.1) 41, y.2.2]) ?_ ?_
 refine .region_all [12] mixed ?_
 refine .tO 1 rfl (.loadA rfl)<|.tO 2 rfl (.fieldAddr rfl)<|.tO 3 rfl (.load1 rfl) ?_
 refine .tO 4 rfl (.indexR 0 hps h0 rfl rfl rfl) ?_
 refine .tO 5 rfl (.fieldAddr rfl)<|.tO 6 rfl (.load1 rfl)<|.tO 8 rfl .move ?_
 refine RA.step2 0 7 rfl rfl (by kernel_rfl) rfl ?_ ?_
 refine .buildSliceN1 [_, _, _] (λ b68 => ?_)
 refine .nil (Next.sub ?_)
 refine .sT 7 rfl ?_
 refine .callN ((rtexts_spec vu us R hus (by omega)).weaken rxl) (λ u T75 hu => ?_)
 obtain ⟨vo1, rfl, hO1⟩ := hu
 have ivo1 := hO1.oneCell
 refine .nil (Next.sub ?_)
 refine .sT 9 rfl ?_
 refine .callN (rtexts_spec vo _ _ hO.rx (by omega)) (λ u T77 hu => ?_)
 obtain ⟨vs, rfl, hOs⟩ := hu
 have ivs := hOs.oneCell
 refine .nil (Next.sub ?_)
 refine .sT 10 rfl ?_
 refine .buildSliceNA [jt w, jl4 vo1, jl4 vs] (λ b78 => ?_) (ho := by simp [jt, jl4])
 refine .nil (Next.sub ?_)
 refine .tO 11 rfl .bld ?_
 refine .sT 12 rfl ?_
 refine .storeA rfl rfl ?_
 refine .nil (Next.mod rfl ?_)
 refine RA.nil (by kernel_rfl) ?_
 ·have hfin := fin3 (b1 := b78) (b2 := b68) (w := w) hO1 hOs
  rw [<- hJ2] at hfin
  (refine joinQ_n (_, _, _) ⟨hfin, ⟨rfl⟩, ⟨rfl⟩⟩ (kE.d rfl) ((pkH [8, 0, 2, 1, 0]).trans (HLe.ofPerm ?_)); simp [take, dropAt, setL, jm5, kKind, kUsers, kSets] <;> fail)
 refine .callN ((rtexts_spec vu us R hus (by omega)).weaken rxl) (λ u T75 hu => ?_)
 obtain ⟨vo1, rfl, hO1⟩ := hu
 have ivo1 := hO1.oneCell
 refine .nil (Next.sub ?_)
 refine RA.step2 0 9 rfl rfl (by kernel_rfl) rfl ?_ ?_
 refine .buildSliceN1 [_, _, _] (λ b68 => ?_)
 refine .nil (Next.sub ?_)
 refine .sT 9 rfl ?_
 refine .callN (rtexts_spec vo _ _ hO.rx (by omega)) (λ u T77 hu => ?_)
 obtain ⟨vs, rfl, hOs⟩ := hu
 have ivs := hOs.oneCell
 refine .nil (Next.sub ?_)
 refine .sT 10 rfl ?_
 refine .buildSliceNA [jt w, jl4 vo1, jl4 vs] (λ b78 => ?_) (ho := by simp [jt, jl4])
 refine .nil (Next.sub ?_)
 refine .tO 11 rfl .bld ?_
 refine .sT 12 rfl ?_
 refine .storeA rfl rfl ?_
 refine .nil (Next.mod rfl ?_)
 refine RA.nil (by kernel_rfl) ?_
 ·have hfin := fin3 (b1 := b78) (b2 := b68) (w := w) hO1 hOs
  rw [<- hJ2] at hfin
  (refine joinQ_n (_, _, _) ⟨hfin, ⟨rfl⟩, ⟨rfl⟩⟩ (kE.d rfl) ((pkH [8, 0, 2, 1, 0]).trans (HLe.ofPerm ?_)); simp [take, dropAt, setL, jm5, kKind, kUsers, kSets] <;> fail)
 refine .callN (rtexts_spec vo _ _ hO.rx (by omega)) (λ u T77 hu => ?_)
 obtain ⟨vs, rfl, hOs⟩ := hu
 have ivs := hOs.oneCell
 refine .nil (Next.sub ?_)
 refine RA.step2 0 10 rfl rfl (by kernel_rfl) rfl ?_ ?_
 refine .buildSliceN1 [_, _, _] (λ b68 => ?_)
 refine .nil (Next.sub ?_)
 refine .sT 10 rfl ?_
 refine .buildSliceNA [jt w, jl4 vo1, jl4 vs] (λ b78 => ?_) (ho := by simp [jt, jl4])
 refine .nil (Next.sub ?_)
 refine .tO 11 rfl .bld ?_
 refine .sT 12 rfl ?_
 refine .storeA rfl rfl ?_
 refine .nil (Next.mod rfl ?_)
 refine RA.nil (by kernel_rfl) ?_
 ·have hfin := fin3 (b1 := b78) (b2 := b68) (w := w) hO1 hOs
  rw [<- hJ2] at hfin
  (refine joinQ_n (_, _, _) ⟨hfin, ⟨rfl⟩, ⟨rfl⟩⟩ (kE.d rfl) ((pkH [8, 0, 0, 1, 0]).trans (HLe.ofPerm ?_)); simp [take, dropAt, setL, jm5, kKind, kUsers, kSets] <;> fail)
 refine .buildSliceNA [jt w, jl4 vo1, jl4 vs] (λ b78 => ?_) (ho := by simp [jt, jl4])
 refine .nil (Next.sub ?_)
 refine .sT 0 rfl ?_
 refine .buildSliceN1 [_, _, _] (λ b68 => ?_)
 refine .nil (Next.sub ?_)
 refine .tO 11 rfl .bld ?_
 refine .sT 12 rfl ?_
 refine .storeA rfl rfl ?_
 refine .nil (Next.mod rfl ?_)
 refine RA.nil (by kernel_rfl) ?_
 ·have hfin := fin3 (b1 := b78) (b2 := b68) (w := w) hO1 hOs
  rw [<- hJ2] at hfin
  (refine joinQ_n (_, _, _) ⟨hfin, ⟨rfl⟩, ⟨rfl⟩⟩ (kE.d rfl) ((pkH [8, 1, 0, 1, 0]).trans (HLe.ofPerm ?_)); simp [take, dropAt, setL, jm5, kKind, kUsers, kSets] <;> fail)
 intro y hy
 obtain ⟨c1, c2, T13⟩ := y
 obtain ⟨hcs, ic1, ic2⟩ := hy
 simp only at hcs ic1 ic2 ⊢
 refine seqQ_n ?_
 refine .ret (seqQ_r (retQ_r _ (.one (.cellA rfl rfl)) (HLe.one [1] _) ?_))
 ·exact ⟨_, rfl, jm5 c1 c2, rfl, by simpa [take, dropAt] using hcs⟩
 have hk1 : (kd : Int) ≠ 1 := by simpa using h3
 rw [if_neg hk1] at hJ2
 refine .kn<|.seq ?_
 refine Tri.cutS [(4, _)] kE.c (X := Value × Value × Seg) (λ y => JOf (sg y.2.2) (jm5 y.1 y.2.1) jj /\ One y.1 /\ One y.2.1) (λ y E => E) (λ y => [bl b4 (jm5 y.1 y.2.1) 41, y.2.2]) ?_ ?_
 refine .region_all [6] mixed ?_
 refine .tO 1 rfl (.loadA rfl)<|.tO 2 rfl .move ?_
 refine RA.step2 0 3 rfl rfl (by kernel_rfl) rfl ?_ ?_
 refine .buildSliceN1 [_, _] (λ b80 => ?_)
 refine .nil (Next.sub ?_)
 refine .sT 3 rfl ?_
 refine .callN (rtexts_spec vo _ _ hO.rx (by omega)) (λ u T77 hu => ?_)
 obtain ⟨vs, rfl, hOs⟩ := hu
 have ivs := hOs.oneCell
 refine .nil (Next.sub ?_)
 refine .sT 4 rfl ?_
 refine .buildSliceNA [jt w, jl4 vs] (λ b84 => ?_) (ho := by simp [jt, jl4])
 refine .nil (Next.sub ?_)
 refine .tO 5 rfl .bld ?_
 refine .sT 6 rfl ?_
 refine .storeA rfl rfl ?_
 refine .nil (Next.mod rfl ?_)
 refine RA.nil (by kernel_rfl) ?_
 ·have hfin := fin2 (b1 := b84) (b2 := b80) (w := w) hOs
  rw [<- hJ2] at hfin
  (refine joinQ_n (_, _, _) ⟨hfin, ⟨rfl⟩, ⟨rfl⟩⟩ (kE.d rfl) ((pkH [7, 0, 1, 0]).trans (HLe.ofPerm ?_)); simp [take, dropAt, setL, jm5, kKind, kSets] <;> fail)
 refine .callN (rtexts_spec vo _ _ hO.rx (by omega)) (λ u T77 hu => ?_)
 obtain ⟨vs, rfl, hOs⟩ := hu
 have ivs := hOs.oneCell
 refine .nil (Next.sub ?_)
 refine RA.step2 0 4 rfl rfl (by kernel_rfl) rfl ?_ ?_
 refine .buildSliceN1 [_, _] (λ b80 => ?_)
 refine .nil (Next.sub ?_)
 refine .sT 4 rfl ?_
 refine .buildSliceNA [jt w, jl4 vs] (λ b84 => ?_) (ho := by simp [jt, jl4])
 refine .nil (Next.sub ?_)
 refine .tO 5 rfl .bld ?_
 refine .sT 6 rfl ?_
 refine .storeA rfl rfl ?_
 refine .nil (Next.mod rfl ?_)
 refine RA.nil (by kernel_rfl) ?_
 ·have hfin := fin2 (b1 := b84) (b2 := b80) (w := w) hOs
  rw [<- hJ2] at hfin
  (refine joinQ_n (_, _, _) ⟨hfin, ⟨rfl⟩, ⟨rfl⟩⟩ (kE.d rfl) ((pkH [7, 0, 1, 0]).trans (HLe.ofPerm ?_)); simp [take, dropAt, setL, jm5, kKind, kSets] <;> fail)
 refine .buildSliceNA [jt w, jl4 vs] (λ b84 => ?_) (ho := by simp [jt, jl4])
 refine .nil (Next.sub ?_)
 refine .sT 0 rfl ?_
 refine .buildSliceN1 [_, _] (λ b80 => ?_)
 refine .nil (Next.sub ?_)
 refine .tO 5 rfl .bld ?_
 refine .sT 6 rfl ?_
 refine .storeA rfl rfl ?_
 refine .nil (Next.mod rfl ?_)
 refine RA.nil (by kernel_rfl) ?_
 ·have hfin := fin2 (b1 := b84) (b2 := b80) (w := w) hOs
  rw [<- hJ2] at hfin
  (refine joinQ_n (_, _, _) ⟨hfin, ⟨rfl⟩, ⟨rfl⟩⟩ (kE.d rfl) ((pkH [7, 1, 0, 0]).trans (HLe.ofPerm ?_)); simp [take, dropAt, setL, jm5, kKind, kSets] <;> fail)
 intro y hy
 obtain ⟨c1, c2, T13⟩ := y
 obtain ⟨hcs, ic1, ic2⟩ := hy
 simp only at hcs ic1 ic2 ⊢
 refine seqQ_n ?_
 refine .ret (retQ_r _ (.one (.cellA rfl rfl)) (HLe.one [1] _) ?_)
 ·exact ⟨_, rfl, jm5 c1 c2, rfl, by simpa [take, dropAt] using hcs⟩
theorem finT {b1 b2 : Nat} {w : ByteArray} {fo : Bool} {vo : Value} {lj : List JV} {To Tx : Seg} (hO : OS 41 6 encJ vo lj To) (hX : ∀ p ∈ lj, JOf (sg Tx) p.1 p.2) [i1 : One vo] :
  JOf (sg ((b1, .cells [jt w, jb fo, jl4 vo].flatten.toArray 41 (0, 0)) :: (b2, .cells ([kPlace, kFound, kNodes].map Value.string).toArray 9 (0, 0)) :: (To ++ Tx))) (jm5 (.slice (some ⟨b1, 0, none⟩) 3 3) (.slice (some ⟨b2, 0, none⟩) 3 3)) (jmap [kPlace, kFound, kNodes] [jtext w, jbool fo, jlist (lj.map (·.2))]) := by
 refine jm5_of (R := sg ((b1, .cells [jt w, jb fo, jl4 vo].flatten.toArray 41 (0, 0)) :: (b2, .cells ([kPlace, kFound, kNodes].map Value.string).toArray 9 (0, 0)) :: (To ++ Tx))) (l := [(jt w, jtext w), (jb fo, jbool fo), (jl4 vo, jlist (lj.map (·.2)))]) (ks := [kPlace, kFound, kNodes]) ((lits3 (b := b1) _ _ _ (jt_one w).h (jb_one fo).h (jl4_one vo).h rfl rfl rfl).rs λ p hp => ?_) ((litsK (b := b2) [kPlace, kFound, kNodes] rfl rfl).rs λ p hp => ?_) λ p hp => ?_
 ·rw [List.mem_singleton] at hp
  subst hp
  exact List.mem_cons_self
 ·rw [List.mem_singleton] at hp
  subst hp
  exact List.mem_cons_of_mem _ List.mem_cons_self
 ·simp only [List.mem_cons, List.not_mem_nil, or_false] at hp
  rcases hp with rfl | rfl | rfl
  ·exact jt_of _ w
  ·exact jb_of _ fo
  ·exact jl4_of (hO.rs λ p hp => List.mem_cons_of_mem _ (List.mem_cons_of_mem _ (List.mem_append_left _ hp))) λ p hp => (hX p hp).mono λ b o hb => List.mem_cons_of_mem _ (List.mem_cons_of_mem _ (List.mem_append_right _ hb))
theorem r22tree_spec (vp : Value) (e : Int) (ps : List PlM) (R : Rds) (h : GrM R vp ps) :
  Spec prog 24 [.agg [vp, .int .i64 e].toArray] R [] λ u H' => ∃ T, H' = [T] /\ ∃ cs, u = .agg cs.toArray /\ JOf (sg T) cs (jtree (ps.map PlM.plain)) := by
 have hps := h.rs
 have ivp := hps.oneCell
 have hal := h.all
 have hsm := h.small
 have hfirst := h.first
 have hnode := λ p0 h0 i n hn => rnode_spec vp e ps R h p0 h0 i n hn
 refine Spec.segs (H' := [[], []]) (by simp)<|Spec.body Tryz.func24 rfl Tryz.results24 Tryz.ntmps24 rfl<|.sr ?_
 refine .boxA rfl (λ b1 => ?_)
 refine .allocA (λ b2 => ?_)
 refine .zs<|.sr<|.fa rfl<|.lo rfl<|.q (.lenR hps)<|.q .eqI<|.zn<|.cond rfl (λ h1 => ?_) λ h1 => ?_
 have h9 : (ps.length : Int) = 0 := by simpa using h1
 have hnil : ps = [] := List.eq_nil_of_length_eq_zero (by omega)
 subst hnil
 refine .sr<|.q .bld<|.storeA rfl rfl<|.zn ?_
 refine .ret (seqQ_r (retQ_r _ (.one (.cellA rfl rfl)) (HLe.one [] _) ?_))
 ·exact ⟨_, rfl, _, rfl, jz_of _⟩
 have hpos : 0 < ps.length := by
  have : ¬ (ps.length : Int) = 0 := by simpa using h1
  omega
 obtain ⟨p0, h0⟩ := exg hpos
 have hm0 := mog h0
 have hi0 := hal p0 hm0
 obtain ⟨s1, s2, s3⟩ := hsm p0 hm0
 obtain ⟨_, _, hnl, _⟩ := hfirst p0 h0
 have ip0 : Ones p0.enc := ⟨hi0.ones⟩
 have hjt : jtree (ps.map PlM.plain) = jtreeP (ps.map PlM.plain) p0.plain := by
  cases ps with
  | nil => simp at h0
  | cons a l =>
   simp only [List.getElem?_cons_zero, Option.some.injEq] at h0
   subst h0
   rfl
 rw [hjt]
 have hnode' := hnode p0 h0
 obtain ⟨k0, fo, vn, nds, vu, us, vl, ll, nm⟩ := p0
 have hnd : RS R 5 Nd.enc vn nds := hi0.n
 simp only at hnl hnode' s1 s2 s3
 have iv1 := hnd.oneCell
 have hjd : jtreeP (ps.map PlM.plain) (PlM.plain ⟨k0, fo, vn, nds, vu, us, vl, ll, nm⟩) = jmap [kPlace, kFound, kNodes] [jtext (pname k0), jbool fo, jlist ((List.range nds.length).map (jnodeI (ps.map PlM.plain) (PlM.plain ⟨k0, fo, vn, nds, vu, us, vl, ll, nm⟩)))] := rfl
 have p000 : PC R (baseP vp (0 * 8)) (PlM.enc ⟨k0, fo, vn, nds, vu, us, vl, ll, nm⟩) := hps.pc h0
 generalize hfn : jnodeI (ps.map PlM.plain) (PlM.plain ⟨k0, fo, vn, nds, vu, us, vl, ll, nm⟩) = fn at *
 refine .kn<|.sr<|.q .bld ?_
 refine .allocA (λ b3 => ?_)
 refine .storeA rfl rfl<|.zs<|.sr<|.az rfl<|.block<|.loopS [(1, _), (2, _), (3, _)] (X := Nat × Value × List JV × Seg × Seg) (λ y => y.1 <= nds.length /\ OS 41 6 encJ y.2.1 y.2.2.1 y.2.2.2.1 /\ (∀ p ∈ y.2.2.1, JOf (sg y.2.2.2.2) p.1 p.2) /\ y.2.2.1.map (·.2) = (List.range y.1).map fn) (λ y E => (4, iN y.1) :: E) (G := [bl b2 jz 41, bl b1 [vp, .int .i64 e] 47]) (λ y G => bl b3 (jl4 y.2.1) 41 :: y.2.2.2.1 :: y.2.2.2.2 :: G) (λ y => nds.length - y.1) (0, sZ, [], [], []) ⟨Nat.zero_le _, OS.nil, λ p hp => (by cases hp), rfl⟩ kE.c.c.c.c (pkH [0, 2, 2, 0, 0]) ?_
 rintro ⟨i, vo, lj, To, Tx⟩ ⟨hi, hO, hX, hl⟩
 simp only at hi hO hX hl ⊢
 have io := hO.oneCell
 have hljl : lj.length = i := by have := congrArg List.length hl; simpa using this
 refine .seq<|.sr<|.mo rfl<|.fa rfl<|.lo rfl ?_
 refine .indexR 0 hps h0 (λ p15 => ?_)
 refine .fa rfl<|.lo rfl<|.q (.lenR hnd)<|.q .lss<|.zn<|.cond rfl (λ h2 => ?_) λ h2 => ?_
 have hlt : i < nds.length := lt_i h2
 obtain ⟨n, hn⟩ := exg hlt
 refine .kn<|.seq<|.block<|.sr<|.fa rfl<|.lo rfl<|.az rfl<|.region<|.mo rfl<|.q (.loadA rfl)<|.mo rfl<|.callN ((hnode' i n hn).weaken rxl) (λ u T25 hu => ?_)
 obtain ⟨cs, rfl, hJ⟩ := hu
 have ics : Ones cs := ⟨hJ.ones⟩
 obtain ⟨x1, x2, x3, x4, x5, x6, rfl⟩ := six_cells hJ.six
 refine .buildSlice1A (λ b28 => ?_)
 refine .append hO (RS.lits (xs := [(([x1, x2, x3, x4, x5, x6], fn i) : JV)]) rfl (by simp [encJ]) (by simpa [encJ] using ics.h)) (by simp only [List.length_singleton]; omega) (λ v5 T5 hv5 => ?_)
 have i5 := hv5.oneCell
 refine .fa rfl<|.store1 rfl rfl<|.nil<|blkQ_n<|seqQ_n<|.region<|.mo rfl<|.ia (i + 1) .add<|.ag rfl<|.nil ?_
 ·exact loopQ_i (i + 1, v5, lj ++ [([x1, x2, x3, x4, x5, x6], fn i)], T5, T25 ++ Tx) ⟨hlt, hv5, λ p hp => by
   rcases List.mem_append.1 hp with hp | hp
   ·exact (hX p hp).mono λ b o hb => sg_right hb
   ·rw [List.mem_singleton] at hp
    subst hp
    exact hJ.mono λ b o hb => sg_left hb, by simp only; rw [List.map_append, hl, List.range_succ, List.map_append]; rfl⟩ (by simp only; omega) kE.c.c.c.c ((pkH [2, 2, 1, 1, 1, 1]).trans (HLe.ofPerm (by simp [take, dropAt, setL, jl4])))
 have hie : i = nds.length := by have := odf h2; omega
 subst hie
 refine .exit<|seqQ_x<|loopQ_x<|blkQ_x<|seqQ_n<|.seq ?_
 refine Tri.cutS [(2, _)] kE.c (X := Value × Value × Seg) (λ y => JOf (sg y.2.2) (jm5 y.1 y.2.1) (jmap [kPlace, kFound, kNodes] [jtext (pname k0), jbool fo, jlist ((List.range nds.length).map fn)]) /\ One y.1 /\ One y.2.1) (λ y E => E) (λ y => [bl b2 (jm5 y.1 y.2.1) 41, y.2.2]) ?_ ?_
 refine .region_all [16] mixed<|.tO 1 rfl (.fieldAddr rfl)<|.tO 2 rfl (.load1 rfl)<|.tO 3 rfl (.indexR 0 hps h0 rfl rfl rfl)<|.tO 4 rfl (.loadA rfl)<|.tO 7 rfl (.fieldAddr rfl)<|.tO 8 rfl (.load1 rfl)<|.tO 9 rfl (.indexR 0 hps h0 rfl rfl rfl)<|.tO 10 rfl (.fieldAddr rfl)<|.tO 11 rfl (.load1 rfl)<|.tO 12 rfl .bld<|.tO 13 rfl (.loadA rfl)<|RA.step2 0 5 rfl rfl (by kernel_rfl) rfl ?_ ?_
 refine .buildSliceN1 [_, _, _] (λ b31 => ?_)
 refine .nil<|Next.sub<|.sT 5 rfl<|.callR (rname_spec k0 [.bool fo, vn, vu, vl, iN nm] (ie := ⟨λ u hu => ip0.h u (by simp only [PlM.enc]; simp only [List.mem_cons, List.not_mem_nil, or_false] at hu ⊢; simp [hu])⟩) rfl s1 s2 s3 _) (λ u hu => ?_)
 subst hu
 refine .nil<|Next.sub<|.sT 6 rfl<|.callR (rtext_spec (pname k0) _) (λ u hu => ?_)
 subst hu
 refine .nil<|Next.sub<|.sT 14 rfl<|.buildSliceNA [jt (pname k0), jb fo, jl4 vo] (λ b45 => ?_) (ho := by simp [jt, jb, jl4])
 refine .nil<|Next.sub<|.tO 15 rfl .bld<|.sT 16 rfl<|.storeA rfl rfl<|.nil<|Next.mod rfl<|RA.nil (by kernel_rfl) ?_
 ·have hfin := finT (b1 := b45) (b2 := b31) (w := pname k0) (fo := fo) hO hX
  rw [hl] at hfin
  (refine joinQ_n (_, _, _) ⟨hfin, ⟨rfl⟩, ⟨rfl⟩⟩ (kE.d rfl) ((pkH [5, 0, 0, 1, 1]).trans (HLe.ofPerm ?_)); simp [take, dropAt, setL, jm5, jz, kPlace, kFound, kNodes] <;> fail)
 refine .callR (rname_spec k0 [.bool fo, vn, vu, vl, iN nm] (ie := ⟨λ u hu => ip0.h u (by simp only [PlM.enc]; simp only [List.mem_cons, List.not_mem_nil, or_false] at hu ⊢; simp [hu])⟩) rfl s1 s2 s3 _) (λ u hu => ?_)
 subst hu
 refine .nil<|Next.sub<|RA.step2 0 6 rfl rfl (by kernel_rfl) rfl ?_ ?_
 refine .buildSliceN1 [_, _, _] (λ b31 => ?_)
 refine .nil<|Next.sub<|.sT 6 rfl<|.callR (rtext_spec (pname k0) _) (λ u hu => ?_)
 subst hu
 refine .nil<|Next.sub<|.sT 14 rfl<|.buildSliceNA [jt (pname k0), jb fo, jl4 vo] (λ b45 => ?_) (ho := by simp [jt, jb, jl4])
 refine .nil<|Next.sub<|.tO 15 rfl .bld<|.sT 16 rfl<|.storeA rfl rfl<|.nil<|Next.mod rfl<|RA.nil (by kernel_rfl) ?_
 ·have hfin := finT (b1 := b45) (b2 := b31) (w := pname k0) (fo := fo) hO hX
  rw [hl] at hfin
  (refine joinQ_n (_, _, _) ⟨hfin, ⟨rfl⟩, ⟨rfl⟩⟩ (kE.d rfl) ((pkH [5, 0, 0, 1, 1]).trans (HLe.ofPerm ?_)); simp [take, dropAt, setL, jm5, jz, kPlace, kFound, kNodes] <;> fail)
 refine .callR (rtext_spec (pname k0) _) (λ u hu => ?_)
 subst hu
 refine .nil<|Next.sub<|RA.step2 0 14 rfl rfl (by kernel_rfl) rfl ?_ ?_
 refine .buildSliceN1 [_, _, _] (λ b31 => ?_)
 refine .nil<|Next.sub<|.sT 14 rfl<|.buildSliceNA [jt (pname k0), jb fo, jl4 vo] (λ b45 => ?_) (ho := by simp [jt, jb, jl4])
 refine .nil<|Next.sub<|.tO 15 rfl .bld<|.sT 16 rfl<|.storeA rfl rfl<|.nil<|Next.mod rfl<|RA.nil (by kernel_rfl) ?_
 ·have hfin := finT (b1 := b45) (b2 := b31) (w := pname k0) (fo := fo) hO hX
  rw [hl] at hfin
  (refine joinQ_n (_, _, _) ⟨hfin, ⟨rfl⟩, ⟨rfl⟩⟩ (kE.d rfl) ((pkH [5, 0, 0, 1, 1]).trans (HLe.ofPerm ?_)); simp [take, dropAt, setL, jm5, jz, kPlace, kFound, kNodes] <;> fail)
 refine .buildSliceNA [jt (pname k0), jb fo, jl4 vo] (λ b45 => ?_) (ho := by simp [jt, jb, jl4])
 refine .nil<|Next.sub<|.sT 0 rfl ?_
 refine .buildSliceN1 [_, _, _] (λ b31 => ?_)
 refine .nil<|Next.sub<|.tO 15 rfl .bld<|.sT 16 rfl<|.storeA rfl rfl<|.nil<|Next.mod rfl<|RA.nil (by kernel_rfl) ?_
 ·have hfin := finT (b1 := b45) (b2 := b31) (w := pname k0) (fo := fo) hO hX
  rw [hl] at hfin
  (refine joinQ_n (_, _, _) ⟨hfin, ⟨rfl⟩, ⟨rfl⟩⟩ (kE.d rfl) ((pkH [5, 1, 0, 1, 1]).trans (HLe.ofPerm ?_)); simp [take, dropAt, setL, jm5, jz, kPlace, kFound, kNodes] <;> fail)
 intro y hy
 obtain ⟨c1, c2, T13⟩ := y
 obtain ⟨hcs, ic1, ic2⟩ := hy
 simp only at hcs ic1 ic2 ⊢
 refine seqQ_n<|.ret (retQ_r _ (.one (.cellA rfl rfl)) (HLe.one [1] _) ?_)
 ·exact ⟨_, rfl, jm5 c1 c2, rfl, by rw [hjd]; simpa [take, dropAt] using hcs⟩
section
variable {R R' : Rds} {cp : Cf} {c : CfM} {hb g x : Nat} {S : Sto} {num : List Nat} {L : List SRow}
theorem WS.grm (h : WS R cp c hb g x S num L) {rev : Int} {k : Obr} (hk : smallK 1000000000000000 k) {N : Nat} (hN : AtEnd cp num (subW S L rev) k N) {vp : Value} {ps : List PlM} (hrs : RS R' 8 PlM.enc vp ps) (hall : ∀ p ∈ ps, p.is R') {b : Int} {can : Bool} (e : ps.map PlM.plain = (Go.Proofs.YtenilfmlfldogaaGreat.disc cp num (subW S L rev) k b can N).1) : GrM R' vp ps := by
 have key : ps = [] \/ ps.map PlM.plain = (opened cp num (subW S L rev) k N).1 := by
  unfold Go.Proofs.YtenilfmlfldogaaGreat.disc at e
  split at e
  ·exact .inl (by simpa using e)
  ·split at e
   ·exact .inl (by simpa using e)
   ·split at e
    ·exact .inr e
    ·exact .inl (by simpa using e)
 rcases key with rfl | key
 ·exact ⟨hrs, hall, λ p hp => (by cases hp), λ p hp => (by simp at hp), λ p hp => (by cases hp)⟩
 ·have hg := hN.gr
  have hPs := h.m.ps hN ⟨#[]⟩
  have hmem : ∀ p ∈ ps, p.plain ∈ (opened cp num (subW S L rev) k N).1 := λ p hp => by rw [<- key]; exact List.mem_map.2 ⟨p, hp, rfl⟩
  have hlen : (opened cp num (subW S L rev) k N).1.length = ps.length := by rw [<- key, List.length_map]
  have hnd : ∀ p ∈ ps, p.nodes = (one cp num p.k).nodes := λ p hp => (hg.one p.plain (hmem p hp)).2.1
  refine ⟨hrs, hall, λ p hp => h.small rev (by omega) hk N p.plain (hmem p hp), λ p hp => ?_, λ p hp n hn => ?_⟩
  ·have hpm := mog hp
   have hil := (List.getElem?_eq_some_iff.1 hp).1
   have hp2 : (opened cp num (subW S L rev) k N).1[0]? = some p.plain := by rw [<- key, List.getElem?_map, hp]; rfl
   obtain ⟨⟨h1, h2⟩, h3⟩ := hg.op 0 p.plain (by omega) hp2
   have h1' : p.ll.length = p.nodes.length := by have : (p.ll.map (·.2)).length = p.nodes.length := h1; rwa [List.length_map] at this
   have h3' : p.users = if p.found then usersOf cp (subW S L rev) p.k else [] := h3
   refine ⟨h1', ?_, ?_, λ q hq => ⟨?_, λ j hj => ?_⟩⟩
   ·rw [h3']
    split
    ·unfold usersOf
     rw [List.length_map]
     have := Nat.le_trans (List.length_filter_le (λ s : Sub => !decide (s.us = ⟨#[]⟩)) _) (h.sets_le rev p.k)
     omega
    ·simp
   ·have := one_len (num := num) (k := p.k) h.m.right
    rw [hnd p hpm]; omega
   ·obtain ⟨i, hi, e9⟩ := List.mem_iff_getElem.1 hq
    have hi' : i < p.nodes.length := by rw [<- h1']; exact hi
    obtain ⟨n, hn⟩ : ∃ n, p.nodes[i]? = some n := ⟨_, gge hi'⟩
    have h4 := h2 i n hn
    have h5 : (p.plain.leads.getD i []) = q.2 := by
     show ((p.ll.map (·.2)).getD i []) = q.2
     rw [List.getD_eq_getElem?_getD, List.getElem?_map, gge hi, e9]; rfl
    rw [h5] at h4
    have h6 := congrArg List.length h4
    rw [List.length_map, List.length_map] at h6
    have := h.ahead_le rev p.plain.k n
    omega
   ·rw [<- hlen]
    exact hPs.lt p.plain (hmem p hpm) j (List.mem_flatten.2 ⟨q.2, List.mem_map.2 ⟨q, hq, rfl⟩, hj⟩)
  ·rw [hnd p hp] at hn
   obtain ⟨h1, h2, _⟩ := one_right (num := num) h.m.right n hn
   exact ⟨h1, h2⟩
def DiscP (R : Rds) (out : List Plc × Nat × Int) (u : Value) (T : Seg) : Prop := ∃ vp ps, u = .tuple [.agg [vp, iN out.2.1].toArray, .int .i64 out.2.2].toArray /\ RS (λ b o => R b o \/ (b, o) ∈ T) 8 PlM.enc vp ps /\ (∀ p ∈ ps, PlM.is (λ b o => R b o \/ (b, o) ∈ T) p) /\ ps.map PlM.plain = out.1
theorem disc_n {P : Program} {f : FuncId} {args : List Value} {R0 : Rds} {H : Segs} {out : List Plc × Nat × Int} (h : Spec P f args R0 H (DiscT R out)) : Spec P f args R0 H λ u H' => ∃ T, H' = [T] /\ DiscP R out u T := h.mono λ u H' hu => by
 obtain ⟨vp, ps, T, h1, h2⟩ := hu
 exact ⟨T, h1, vp, ps, h2⟩
theorem expand_spec (h : WS R cp c hb g x S num L) (rev : Int) (hr : 0 <= rev) (k : Obr) (hk : smallK 1000000000000000 k) (b : Int) (hb63 : b <= 9223372036854775807) {N : Nat} (hN : AtEnd cp num (subW S L rev) k N) (D : List Plc × Nat × Int) (hD : D = Go.Proofs.YtenilfmlfldogaaGreat.disc cp num (subW S L rev) k b (scan S rev) N) :
  Spec prog 21 [pT hb, pT g, .int .u64 rev, .agg [.string k.os, .string k.oi].toArray, .string k.rel, .int .i64 b] R [] λ u H' => ∃ T, H' = [T] /\ ∃ cs, u = .tuple [.agg cs.toArray, .int .i64 D.2.2].toArray /\ JOf (sg T) cs (if D.2.2 = 0 then jtree D.1 else jnull) := by
 have hdc := h.disc rev hr k b hb63 hN
 have hgrm := λ (R' : Rds) (vp : Value) (ps : List PlM) (h1 : RS R' 8 PlM.enc vp ps) (h2 : ∀ p ∈ ps, p.is R') => h.grm (b := b) (can := scan S rev) hk hN h1 h2
 rw [<- hD] at hdc hgrm
 refine Spec.body Tryz.func21 rfl Tryz.results21 Tryz.ntmps21 rfl<|.sr ?_
 refine .boxA rfl (λ b9 => ?_)
 refine .allocA (λ b12 => ?_)
 refine .ag rfl<|.z<|.mo rfl<|.mo rfl<|.mo rfl<|.q (.loadA rfl)<|.mo rfl<|.mo rfl<|.callN ((disc_n hdc).weaken rxl) (λ u T16 hu => ?_)
 obtain ⟨vp, ps, rfl, hrs, hall, heq⟩ := hu
 have ivp := hrs.oneCell
 have hG := hgrm _ vp ps hrs hall heq
 refine .mo rfl<|.q .extract<|.q .extract ?_
 refine .allocA (λ b14 => ?_)
 refine .storeA rfl rfl<|.ag rfl<|.zs<|.sr<|.mo rfl<|.q .neI<|.zn<|.cond rfl (λ h1 => ?_) λ h1 => ?_
 have hne : D.2.2 ≠ 0 := by simpa using h1
 refine .sr<|.q .bld<|.mo rfl<|.storeA rfl rfl<|.az rfl ?_
 refine .ret (seqQ_r (retQ_r _ (.two (.cellA rfl rfl) (.tmp rfl)) (HLe.one [] _) ?_))
 ·exact ⟨_, rfl, jz, rfl, by rw [if_neg hne]; exact jz_of _⟩
 have hz : D.2.2 = 0 := by simpa using h1
 refine .kn<|.sr<|.q (.loadA rfl)<|.callN ((tree_spec vp _ ps _ hG).weaken λ b o hb => hb.elim .inl λ hb => .inr (by simp [hb])) (λ u T31 hu => ?_)
 obtain ⟨cs, rfl, hJ⟩ := hu
 rw [heq] at hJ
 have ics : Ones cs := ⟨hJ.ones⟩
 obtain ⟨x1, x2, x3, x4, x5, x6, rfl⟩ := six_cells hJ.six
 refine .storeA rfl rfl<|.az rfl ?_
 refine .ret (retQ_r _ (.two (.cellA rfl rfl) (.tmp rfl)) (HLe.one [0] _) ?_)
 ·exact ⟨_, rfl, [x1, x2, x3, x4, x5, x6], by rw [hz] <;> rfl, by rw [if_pos hz]; exact hJ.mono λ b o hb => by simpa [sg, take] using hb⟩
end
theorem three_of {α β : Type} {f : α -> β} {a b c : β} {l : List α} (e : [a, b, c] = l.map f) : ∃ x y z, l = [x, y, z] := by
 cases l with
 | nil => simp at e
 | cons x l => cases l with
  | nil => simp at e
  | cons y l => cases l with
   | nil => simp at e
   | cons z l => cases l with
    | nil => exact ⟨x, y, z, rfl⟩
    | cons w l => simp at e
theorem lives22_spec (R : Rds) : Spec prog 20 [] R [] λ u H' => u = .bool true /\ H' = [] := by
 refine Spec.body Tryz.func20 rfl Tryz.results20 Tryz.ntmps20 rfl<|.sr<|.ag rfl<|.z<|.q .bld<|.q .bld ?_
 refine .buildSlice1A (λ b4 => ?_)
 refine .q .bld ?_
 refine .callN (tree_spec _ 0 [(⟨⟨⟨#[100]⟩, ⟨#[120]⟩, ⟨#[97]⟩⟩, false, sZ, [], sZ, [], sZ, [], 0⟩ : PlM)] _ ⟨(OS.lits (E := 123) (b := b4) rfl (by simp [PlM.enc]) (by simp [PlM.enc, oneCell])).rs λ p hp => .inr (by
  rw [List.mem_singleton] at hp
  subst hp
  exact List.mem_cons_self), λ p hp => by
  rw [List.mem_singleton] at hp
  subst hp
  exact ⟨RS.nil0, RS.nil0, NN.nil⟩, λ p hp => by
  rw [List.mem_singleton] at hp
  subst hp
  unfold smallK
  decide, λ p hp => by
  simp only [List.getElem?_cons_zero, Option.some.injEq] at hp
  subst hp
  exact ⟨rfl, by simp, by simp, λ q hq => (by cases hq)⟩, λ p hp n hn => by
  rw [List.mem_singleton] at hp
  subst hp
  cases hn⟩) (λ u T6 hu => ?_)
 obtain ⟨cs, rfl, hJ⟩ := hu
 obtain ⟨kind, bb, nn, text, vl, vk, l, keys, rfl, hj, hl, hk, hal⟩ := hJ.open
 injection hj with e1 e2 e3 e4 e5 e6
 subst e1; subst e2; subst e3; subst e4
 have ivl := hl.oneCell
 have ivk := hk.oneCell
 obtain ⟨p1, p2, p3, rfl⟩ := three_of e5
 have e5' : p1.2 = jtext ⟨#[100, 58, 120, 35, 97]⟩ := by
  simp only [List.map_cons, List.cons.injEq] at e5
  rw [<- e5.1]
  rfl
 have hp1 := hal p1 (by simp)
 rw [e5'] at hp1
 obtain ⟨p1c, p1j⟩ := p1
 simp only at hp1
 obtain ⟨kind, bb, nn, text, vl1, vk1, l1, keys1, rfl, hj1, hl1, hk1, hal1⟩ := hp1.open
 injection hj1 with e1 e2 e3 e4 e5 e6
 subst e1; subst e2; subst e3; subst e4
 have h00 : [((([.int .i64 3, .bool false, .int .i64 0, .string ⟨#[100, 58, 120, 35, 97]⟩, vl1, vk1], p1j) : List Value × J)), p2, p3][0]? = some ([.int .i64 3, .bool false, .int .i64 0, .string ⟨#[100, 58, 120, 35, 97]⟩, vl1, vk1], p1j) := rfl
 have p14 : PS T6 (baseP vl (0 * 6)) [.int .i64 3, .bool false, .int .i64 0, .string ⟨#[100, 58, 120, 35, 97]⟩, vl1, vk1] := ⟨hl.pc h00⟩
 refine .allocA (λ b1 => ?_)
 refine .storeA rfl rfl<|.z<|.fa rfl<|.lo rfl<|.q (.lenR hl)<|.q .eqI<|.mo rfl<|.split (t := 11) rfl (λ g2_4 => ?_) (λ g2_4 => ?_)
 refine .gT g2_4<|.fa rfl<|.gT g2_4<|.lo rfl<|.gT g2_4<|.q (.indexR 0 hl h00 rfl rfl rfl)<|.gT g2_4<|.fa rfl<|.gT g2_4<|.lo rfl<|.gT g2_4<|.q .eqS<|.q (.pickTh g2_4)<|.az rfl<|.ret (rq1 rfl ?_)
 ·exact ⟨rfl, rfl⟩
 ·simp at g2_4
theorem expandTells_spec (w : WoM) (R : Rds) (h : w.is R) (k : Obr) (hk : smallK 1000000000000000 k) (rev : Int) (hr : 0 <= rev) (b : Int) (hb63 : b <= 9223372036854775807) :
  Spec prog 3 [.agg w.enc.toArray, .agg [.string k.os, .string k.oi].toArray, .string k.rel, .int .u64 rev, .int .i64 b] R [] λ v H' => v = .bool true /\ H' = [] := by
 have hmade := made_flat w R h
 have i1 : One w.c.vs := RS.oneCell h.c.ss
 have i2 : One w.c.vc := RS.oneCell h.c.sc
 have i3 := h.rs.oneCell
 have iw : Ones w.enc := ⟨λ u hu => by
  simp only [WoM.enc, List.mem_cons, List.not_mem_nil, or_false] at hu
  rcases hu with rfl | rfl | rfl
  ·exact i1.h
  ·exact i2.h
  ·exact i3.h⟩
 refine Spec.body Tryz.func3 rfl Tryz.results3 Tryz.ntmps3 rfl<|.sr ?_
 refine .boxA rfl (λ b5 => ?_)
 refine .boxA rfl (λ b6 => ?_)
 refine .ag rfl<|.z<|.q (.loadA rfl)<|.callN (hmade.weaken rxl) (λ u Tw hu => ?_)
 obtain ⟨c, p1, p2, p3, ok, rfl, ip1, ip2, ip3, hc, hcp, hok, hW⟩ := hu
 have ic1 : One c.vs := RS.oneCell hc.ss
 have ic2 : One c.vc := RS.oneCell hc.sc
 have ice : Ones c.enc := ⟨hc.ones⟩
 refine .mo rfl<|.q .extract<|.q .extract<|.q .extract<|.q .extract<|.q .extract ?_
 refine .allocA (λ b13 => ?_)
 refine .ag rfl<|.ag rfl<|.storeA rfl rfl<|.ag rfl<|.ag rfl<|.zs<|.sr<|.mo rfl<|.q .not<|.zn<|.cond rfl (λ h1 => ?_) λ h1 => ?_
 refine .sr<|.callR ((lives22_spec R).weaken rxl) (λ u hu => ?_)
 subst hu
 refine .az rfl<|.ret (seqQ_r (rq1 rfl ?_))
 ·exact ⟨rfl, rfl⟩
 have hot : ok = true := by simpa using h1
 subst hot
 obtain ⟨hb, g, x, S, num, L, rfl, rfl, rfl, hWS⟩ := hW rfl
 obtain ⟨N, hN⟩ := hWS.fin rev k
 obtain ⟨D, hD⟩ : ∃ D, D = disc (cfFew w.c.plain) num (subW S L rev) k b (scan S rev) N := ⟨_, rfl⟩
 have hsp := λ R' hR' => expand_spec (hWS.mono (R' := R') hR') rev hr k hk b hb63 hN D hD
 have hrd := λ R' hR' => (hWS.mono (R' := R') hR').rdisc rev k b hN
 have hgrm := λ (R' : Rds) (vp : Value) (ps : List PlM) (h1 : RS R' 8 PlM.enc vp ps) (h2 : ∀ p ∈ ps, p.is R') => hWS.grm (b := b) (can := scan S rev) hk hN h1 h2
 rw [<- hD] at hrd hgrm
 refine .kn<|.sr<|.mo rfl<|.mo rfl<|.mo rfl<|.q (.loadA rfl)<|.mo rfl<|.mo rfl<|.callN (hsp _ λ b o hb => hb.elim .inl λ hb => .inr (by simp [hb])) (λ u T38 hu => ?_)
 obtain ⟨cs, rfl, hJ⟩ := hu
 have ics : Ones cs := ⟨hJ.ones⟩
 obtain ⟨x1, x2, x3, x4, x5, x6, rfl⟩ := six_cells hJ.six
 refine .mo rfl<|.q .extract<|.q .extract ?_
 refine .allocA (λ b16 => ?_)
 refine .storeA rfl rfl<|.ag rfl<|.z<|.q (.loadA rfl)<|.mo rfl<|.mo rfl<|.q (.loadA rfl)<|.mo rfl<|.mo rfl<|.callN (disc_n (hrd _ λ b o hb => hb.elim .inl λ hb => .inr (by simp [hb]))) (λ u T48 hu => ?_)
 obtain ⟨vp, ps, rfl, hrs, hall, heq⟩ := hu
 have ivp := hrs.oneCell
 have hG := hgrm _ vp ps hrs hall heq
 refine .mo rfl<|.q .extract<|.q .extract ?_
 refine .allocA (λ b18 => ?_)
 refine .storeA rfl rfl<|.ag rfl<|.zs<|.sr<|.mo rfl<|.q .neI<|.zn<|.cond rfl (λ h2 => ?_) λ h2 => ?_
 have hne : D.2.2 ≠ 0 := by simpa using h2
 rw [if_neg hne] at hJ
 refine .sr<|.mo rfl<|.mo rfl<|.q .eqI<|.mo rfl<|.split (t := 56) rfl (λ g7_3 => ?_) (λ g7_3 => ?_)
 refine .gT g7_3<|.q (.loadA rfl)<|.gT g7_3<|.q .bld<|.gT g7_3<|.callR (same_spec hJ _ _ _ _ _ hJ (jz_of (sg T38)) (λ b o hb => .inr (by have hb' : (b, o) ∈ T38 := hb; simp [hb'])) (λ b o hb => .inr (by have hb' : (b, o) ∈ T38 := hb; simp [hb']))) (λ u hu => ?_)
 subst hu
 refine .q (.pickTh g7_3)<|.mo rfl<|.split (t := 61) rfl (λ g7_8 => ?_) (λ g7_8 => ?_)
 refine .gT g7_8<|.callR ((lives22_spec R).weaken rxl) (λ u hu => ?_)
 subst hu
 refine .q (.pickTh g7_8)<|.az rfl<|.ret (seqQ_r (rq1 rfl ?_))
 ·exact ⟨rfl, rfl⟩
 ·simp at g7_8
 ·simp at g7_3
 have hz : D.2.2 = 0 := by simpa using h2
 rw [if_pos hz] at hJ
 refine .kn<|.seq<|.region_all [] mixed<|.tO 0 rfl .move<|.tO 1 rfl .eqI<|.tO 2 rfl .move<|RA.split (t := 66) rfl (λ g8_2 => ?_) (λ g8_2 => ?_)
 refine .takeGhO 3 rfl rfl g8_2 (.loadA rfl) (by kernel_rfl)<|.takeGhO 4 rfl rfl g8_2 (.loadA rfl) (by kernel_rfl)<|.sT 5 rfl<|.gT g8_2 ?_
 refine .callN ((r22tree_spec vp _ ps _ hG).weaken λ b o hb => by
  rcases hb with (hb | hb) | hb
  ·exact .inl hb
  ·exact .inr (by rw [List.flatten_cons, List.flatten_cons]; exact List.mem_append_right _ (List.mem_append_right _ hb))
  ·exact .inr (by simp [hb])) (λ u T69 hu => ?_)
 obtain ⟨cs2, rfl, hJ2⟩ := hu
 rw [heq] at hJ2
 have ics2 : Ones cs2 := ⟨hJ2.ones⟩
 obtain ⟨y1, y2, y3, y4, y5, y6, rfl⟩ := six_cells hJ2.six
 refine .nil<|Next.sub<|.sT 6 rfl<|.gT g8_2<|.callR (same_spec hJ _ _ _ _ _ hJ hJ2 (λ b o hb => .inr (by have hb' : (b, o) ∈ T38 := hb; simp [hb'])) (λ b o hb => .inr (by have hb' : (b, o) ∈ T69 := hb; simp [hb']))) (λ u hu => ?_)
 subst hu
 refine .nil<|Next.sub<|.tO 7 rfl (.pickTh g8_2)<|.tO 8 rfl .move<|RA.split (t := 72) rfl (λ g8_8 => ?_) (λ g8_8 => ?_)
 refine .takeGhO 9 rfl rfl g8_8 .bld (by kernel_rfl)<|.takeGhO 11 rfl rfl g8_8 .bld (by kernel_rfl)<|.sT 10 rfl<|.gT g8_8<|.callN (tree_spec (sZ) 0 [] (λ _ _ => False) ⟨RS.nil0, λ p hp => (by cases hp), λ p hp => (by cases hp), λ p hp => (by simp at hp), λ p hp => (by cases hp)⟩ |>.weaken λ b o hb => hb.elim) (λ u T74 hu => ?_)
 obtain ⟨cs3, rfl, hJ3⟩ := hu
 have ics3 : Ones cs3 := ⟨hJ3.ones⟩
 obtain ⟨z1, z2, z3, z4, z5, z6, rfl⟩ := six_cells hJ3.six
 refine .nil<|Next.sub<|.sT 12 rfl<|.gT g8_8<|.callR (same_spec hJ3 _ _ _ _ _ hJ3 (jz_of (sg T74)) (λ b o hb => .inr (by have hb' : (b, o) ∈ T74 := hb; simp [hb'])) (λ b o hb => .inr (by have hb' : (b, o) ∈ T74 := hb; simp [hb']))) (λ u hu => ?_)
 subst hu
 refine .nil<|Next.sub<|.tO 13 rfl (.pickTh g8_8)<|.tO 14 rfl .move<|RA.split (t := 78) rfl (λ g8_14 => ?_) (λ g8_14 => ?_)
 refine .sT 15 rfl<|.gT g8_14<|.callR ((lives22_spec R).weaken rxl) (λ u hu => ?_)
 subst hu
 refine .nil<|Next.sub<|.tO 16 rfl (.pickTh g8_14)<|.tO 17 rfl .assign<|RA.nil (by kernel_rfl)<|seqQ_n<|.ret (rq1 rfl ?_)
 ·exact ⟨rfl, rfl⟩
 ·simp at g8_14
 ·simp at g8_8
 ·simp [hz] at g8_2
theorem ty_of {H : Type} {enc : TypeId × Value -> H} {W : World} {f : Nat} {cs : List Value} {x : DataW H × List MemPlace} (h : DataW.trod enc prog W 0 (λ _ => true) true f 252 cs = some x) : ∃ t : Ty, cs = t.enc /\ t.fits := by
 obtain ⟨hl, hp⟩ := parts_of Tryz.underlying252 h
 have hc : Tryz.prog.cellsOf 252 = 2 := by kernel_rfl
 rw [hc] at hl
 have c9 : Tryz.prog.cellsOf 9 = 1 := by kernel_rfl
 match cs, hl with
 | [a0, a1], _ =>
  obtain ⟨n0, y0, h0⟩ : ∃ n y, DataW.trod enc prog W 0 (λ _ => true) true n 9 (([a0, a1].drop 0).take (Tryz.prog.cellsOf 9)) = some y := hp 0 _ rfl
  obtain ⟨n1, y1, h1⟩ : ∃ n y, DataW.trod enc prog W 0 (λ _ => true) true n 9 (([a0, a1].drop 1).take (Tryz.prog.cellsOf 9)) = some y := hp 1 _ rfl
  simp only [c9, List.drop_zero, List.drop_succ_cons, List.take_succ_cons, List.take_zero] at h0 h1
  obtain ⟨s0, e0, l0⟩ := str_fit h0
  obtain ⟨s1, e1, l1⟩ := str_fit h1
  cases e0; cases e1
  exact ⟨⟨s0, s1⟩, rfl, l0, l1⟩
theorem nd_of {H : Type} {enc : TypeId × Value -> H} {W : World} {f : Nat} {cs : List Value} {x : DataW H × List MemPlace} (h : DataW.trod enc prog W 0 (λ _ => true) true f 168 cs = some x) : ∃ t : Nd, cs = t.enc /\ t.fits := by
 obtain ⟨hl, hp⟩ := parts_of Tryz.underlying168 h
 have hc : Tryz.prog.cellsOf 168 = 5 := by kernel_rfl
 rw [hc] at hl
 have c3 : Tryz.prog.cellsOf 3 = 1 := by kernel_rfl
 have c9 : Tryz.prog.cellsOf 9 = 1 := by kernel_rfl
 match cs, hl with
 | [a0, a1, a2, a3, a4], _ =>
  obtain ⟨n0, y0, h0⟩ : ∃ n y, DataW.trod enc prog W 0 (λ _ => true) true n 3 (([a0, a1, a2, a3, a4].drop 0).take (Tryz.prog.cellsOf 3)) = some y := hp 0 _ rfl
  obtain ⟨n1, y1, h1⟩ : ∃ n y, DataW.trod enc prog W 0 (λ _ => true) true n 9 (([a0, a1, a2, a3, a4].drop 1).take (Tryz.prog.cellsOf 9)) = some y := hp 1 _ rfl
  obtain ⟨n2, y2, h2⟩ : ∃ n y, DataW.trod enc prog W 0 (λ _ => true) true n 9 (([a0, a1, a2, a3, a4].drop 2).take (Tryz.prog.cellsOf 9)) = some y := hp 2 _ rfl
  obtain ⟨n3, y3, h3⟩ : ∃ n y, DataW.trod enc prog W 0 (λ _ => true) true n 3 (([a0, a1, a2, a3, a4].drop 3).take (Tryz.prog.cellsOf 3)) = some y := hp 3 _ rfl
  obtain ⟨n4, y4, h4⟩ : ∃ n y, DataW.trod enc prog W 0 (λ _ => true) true n 3 (([a0, a1, a2, a3, a4].drop 4).take (Tryz.prog.cellsOf 3)) = some y := hp 4 _ rfl
  simp only [c3, c9, List.drop_zero, List.drop_succ_cons, List.take_succ_cons, List.take_zero] at h0 h1 h2 h3 h4
  obtain ⟨z0, e0⟩ := int_of (k := .i64) h0
  obtain ⟨s1, e1, l1⟩ := str_fit h1
  obtain ⟨s2, e2, l2⟩ := str_fit h2
  obtain ⟨z3, e3⟩ := int_of (k := .i64) h3
  obtain ⟨z4, e4⟩ := int_of (k := .i64) h4
  cases e0; cases e1; cases e2; cases e3; cases e4
  exact ⟨⟨z0, s1, s2, z3, z4⟩, rfl, l1, l2⟩
theorem sc_of {H : Type} {enc : TypeId × Value -> H} {W : World} {f : Nat} {cs : List Value} {x : DataW H × List MemPlace} (h : DataW.trod enc prog W 0 (λ _ => true) true f 209 cs = some x) : ∃ t : Sc, cs = t.enc /\ t.fits := by
 obtain ⟨hl, hp⟩ := parts_of Tryz.underlying209 h
 have hc : Tryz.prog.cellsOf 209 = 4 := by kernel_rfl
 rw [hc] at hl
 have c9 : Tryz.prog.cellsOf 9 = 1 := by kernel_rfl
 have c30 : Tryz.prog.cellsOf 30 = 2 := by kernel_rfl
 match cs, hl with
 | [a0, a1, a2, a3], _ =>
  obtain ⟨n0, y0, h0⟩ : ∃ n y, DataW.trod enc prog W 0 (λ _ => true) true n 9 (([a0, a1, a2, a3].drop 0).take (Tryz.prog.cellsOf 9)) = some y := hp 0 _ rfl
  obtain ⟨n1, y1, h1⟩ : ∃ n y, DataW.trod enc prog W 0 (λ _ => true) true n 30 (([a0, a1, a2, a3].drop 1).take (Tryz.prog.cellsOf 30)) = some y := hp 1 _ rfl
  obtain ⟨n2, y2, h2⟩ : ∃ n y, DataW.trod enc prog W 0 (λ _ => true) true n 9 (([a0, a1, a2, a3].drop 3).take (Tryz.prog.cellsOf 9)) = some y := hp 2 _ rfl
  simp only [c9, c30, List.drop_zero, List.drop_succ_cons, List.take_succ_cons, List.take_zero] at h0 h1 h2
  obtain ⟨s0, e0, l0⟩ := str_fit h0
  obtain ⟨s1, s2, e1, l1, l2⟩ := ref_of h1
  obtain ⟨s3, e2, l3⟩ := str_fit h2
  cases e0; cases e1; cases e2
  exact ⟨⟨s0, s1, s2, s3⟩, rfl, l0, l1, l2, l3⟩
theorem tys_of {H : Type} {enc : TypeId × Value -> H} {W : World} {f : Nat} {cs : List Value} {x : DataW H × List MemPlace} (h : DataW.trod enc prog W 0 (λ _ => true) true f 205 cs = some x) : ∃ v l, cs = [v] /\ RS (Rw W) 2 Ty.enc v l /\ ∀ t ∈ l, t.fits :=
 RS.ofCells (D := λ t : Ty => t.fits) (sz := 2) (en := Ty.enc) Tryz.underlying205 (by kernel_rfl) (by omega) h λ n cs x hx => by
  obtain ⟨t, rfl, ht⟩ := ty_of hx
  exact ⟨rfl, (Ty.one t).h, t, rfl, ht⟩
theorem nds_of {H : Type} {enc : TypeId × Value -> H} {W : World} {f : Nat} {cs : List Value} {x : DataW H × List MemPlace} (h : DataW.trod enc prog W 0 (λ _ => true) true f 119 cs = some x) : ∃ v l, cs = [v] /\ RS (Rw W) 5 Nd.enc v l /\ ∀ t ∈ l, t.fits :=
 RS.ofCells (D := λ t : Nd => t.fits) (sz := 5) (en := Nd.enc) Tryz.underlying119 (by kernel_rfl) (by omega) h λ n cs x hx => by
  obtain ⟨t, rfl, ht⟩ := nd_of hx
  exact ⟨rfl, (Nd.one t).h, t, rfl, ht⟩
theorem scs_of {H : Type} {enc : TypeId × Value -> H} {W : World} {f : Nat} {cs : List Value} {x : DataW H × List MemPlace} (h : DataW.trod enc prog W 0 (λ _ => true) true f 23 cs = some x) : ∃ v l, cs = [v] /\ RS (Rw W) 4 Sc.enc v l /\ ∀ t ∈ l, t.fits :=
 RS.ofCells (D := λ t : Sc => t.fits) (sz := 4) (en := Sc.enc) Tryz.underlying23 (by kernel_rfl) (by omega) h λ n cs x hx => by
  obtain ⟨t, rfl, ht⟩ := sc_of hx
  exact ⟨rfl, (Sc.one t).h, t, rfl, ht⟩
theorem rl_of {H : Type} {enc : TypeId × Value -> H} {W : World} {f : Nat} {cs : List Value} {x : DataW H × List MemPlace} (h : DataW.trod enc prog W 0 (λ _ => true) true f 207 cs = some x) : ∃ t : RlM, cs = t.enc /\ t.is (Rw W) := by
 obtain ⟨hl, hp⟩ := parts_of Tryz.underlying207 h
 have hc : Tryz.prog.cellsOf 207 = 3 := by kernel_rfl
 rw [hc] at hl
 have c9 : Tryz.prog.cellsOf 9 = 1 := by kernel_rfl
 have c119 : Tryz.prog.cellsOf 119 = 1 := by kernel_rfl
 have c205 : Tryz.prog.cellsOf 205 = 1 := by kernel_rfl
 match cs, hl with
 | [a0, a1, a2], _ =>
  obtain ⟨n0, y0, h0⟩ : ∃ n y, DataW.trod enc prog W 0 (λ _ => true) true n 9 (([a0, a1, a2].drop 0).take (Tryz.prog.cellsOf 9)) = some y := hp 0 _ rfl
  obtain ⟨n1, y1, h1⟩ : ∃ n y, DataW.trod enc prog W 0 (λ _ => true) true n 205 (([a0, a1, a2].drop 1).take (Tryz.prog.cellsOf 205)) = some y := hp 1 _ rfl
  obtain ⟨n2, y2, h2⟩ : ∃ n y, DataW.trod enc prog W 0 (λ _ => true) true n 119 (([a0, a1, a2].drop 2).take (Tryz.prog.cellsOf 119)) = some y := hp 2 _ rfl
  simp only [c9, c119, c205, List.drop_zero, List.drop_succ_cons, List.take_succ_cons, List.take_zero] at h0 h1 h2
  obtain ⟨s0, e0, l0⟩ := str_fit h0
  obtain ⟨v1, l1, e1, r1, f1⟩ := tys_of h1
  obtain ⟨v2, l2, e2, r2, f2⟩ := nds_of h2
  cases e0; cases e1; cases e2
  exact ⟨⟨_, _, ⟨s0, l1, l2⟩⟩, rfl, l0, r1, r2, f1, f2⟩
theorem rls_of {H : Type} {enc : TypeId × Value -> H} {W : World} {f : Nat} {cs : List Value} {x : DataW H × List MemPlace} (h : DataW.trod enc prog W 0 (λ _ => true) true f 185 cs = some x) : ∃ v l, cs = [v] /\ RS (Rw W) 3 RlM.enc v l /\ ∀ t ∈ l, t.is (Rw W) :=
 RS.ofCells (D := λ t : RlM => t.is (Rw W)) (sz := 3) (en := RlM.enc) Tryz.underlying185 (by kernel_rfl) (by omega) h λ n cs x hx => by
  obtain ⟨t, rfl, ht⟩ := rl_of hx
  exact ⟨rfl, ht.ones, t, rfl, ht⟩
theorem sp_of {H : Type} {enc : TypeId × Value -> H} {W : World} {f : Nat} {cs : List Value} {x : DataW H × List MemPlace} (h : DataW.trod enc prog W 0 (λ _ => true) true f 187 cs = some x) : ∃ t : SpM, cs = t.enc /\ t.is (Rw W) := by
 obtain ⟨hl, hp⟩ := parts_of Tryz.underlying187 h
 have hc : Tryz.prog.cellsOf 187 = 2 := by kernel_rfl
 rw [hc] at hl
 have c9 : Tryz.prog.cellsOf 9 = 1 := by kernel_rfl
 have c185 : Tryz.prog.cellsOf 185 = 1 := by kernel_rfl
 match cs, hl with
 | [a0, a1], _ =>
  obtain ⟨n0, y0, h0⟩ : ∃ n y, DataW.trod enc prog W 0 (λ _ => true) true n 9 (([a0, a1].drop 0).take (Tryz.prog.cellsOf 9)) = some y := hp 0 _ rfl
  obtain ⟨n1, y1, h1⟩ : ∃ n y, DataW.trod enc prog W 0 (λ _ => true) true n 185 (([a0, a1].drop 1).take (Tryz.prog.cellsOf 185)) = some y := hp 1 _ rfl
  simp only [c9, c185, List.drop_zero, List.drop_succ_cons, List.take_succ_cons, List.take_zero] at h0 h1
  obtain ⟨s0, e0, l0⟩ := str_fit h0
  obtain ⟨v1, l1, e1, r1, f1⟩ := rls_of h1
  cases e0; cases e1
  exact ⟨⟨s0, _, l1⟩, rfl, l0, r1, f1⟩
theorem sps_of {H : Type} {enc : TypeId × Value -> H} {W : World} {f : Nat} {cs : List Value} {x : DataW H × List MemPlace} (h : DataW.trod enc prog W 0 (λ _ => true) true f 22 cs = some x) : ∃ v l, cs = [v] /\ RS (Rw W) 2 SpM.enc v l /\ ∀ t ∈ l, t.is (Rw W) :=
 RS.ofCells (D := λ t : SpM => t.is (Rw W)) (sz := 2) (en := SpM.enc) Tryz.underlying22 (by kernel_rfl) (by omega) h λ n cs x hx => by
  obtain ⟨t, rfl, ht⟩ := sp_of hx
  exact ⟨rfl, ht.ones, t, rfl, ht⟩
theorem cf_of {H : Type} {enc : TypeId × Value -> H} {W : World} {f : Nat} {cs : List Value} {x : DataW H × List MemPlace} (h : DataW.trod enc prog W 0 (λ _ => true) true f 25 cs = some x) : ∃ c : CfM, cs = c.enc /\ c.is (Rw W) := by
 obtain ⟨hl, hp⟩ := parts_of Tryz.underlying25 h
 have hc : Tryz.prog.cellsOf 25 = 2 := by kernel_rfl
 rw [hc] at hl
 have c22 : Tryz.prog.cellsOf 22 = 1 := by kernel_rfl
 have c23 : Tryz.prog.cellsOf 23 = 1 := by kernel_rfl
 match cs, hl with
 | [a0, a1], _ =>
  obtain ⟨n0, y0, h0⟩ : ∃ n y, DataW.trod enc prog W 0 (λ _ => true) true n 22 (([a0, a1].drop 0).take (Tryz.prog.cellsOf 22)) = some y := hp 0 _ rfl
  obtain ⟨n1, y1, h1⟩ : ∃ n y, DataW.trod enc prog W 0 (λ _ => true) true n 23 (([a0, a1].drop 1).take (Tryz.prog.cellsOf 23)) = some y := hp 1 _ rfl
  simp only [c22, c23, List.drop_zero, List.drop_succ_cons, List.take_succ_cons, List.take_zero] at h0 h1
  obtain ⟨v0, l0, e0, r0, f0⟩ := sps_of h0
  obtain ⟨v1, l1, e1, r1, f1⟩ := scs_of h1
  cases e0; cases e1
  exact ⟨⟨_, _, l0, l1⟩, rfl, r0, r1, f0, f1⟩
theorem world_of {H : Type} {enc : TypeId × Value -> H} {W : World} {f : Nat} {cs : List Value} {x : DataW H × List MemPlace} (h : DataW.trod enc prog W 0 (λ _ => true) true f 28 cs = some x) : ∃ w : WoM, cs = w.enc /\ w.is (Rw W) := by
 obtain ⟨hl, hp⟩ := parts_of Tryz.underlying28 h
 have hc : Tryz.prog.cellsOf 28 = 3 := by kernel_rfl
 rw [hc] at hl
 have c25 : Tryz.prog.cellsOf 25 = 2 := by kernel_rfl
 have c26 : Tryz.prog.cellsOf 26 = 1 := by kernel_rfl
 match cs, hl with
 | [a0, a1, a2], _ =>
  obtain ⟨n0, y0, h0⟩ : ∃ n y, DataW.trod enc prog W 0 (λ _ => true) true n 25 (([a0, a1, a2].drop 0).take (Tryz.prog.cellsOf 25)) = some y := hp 0 _ rfl
  obtain ⟨n1, y1, h1⟩ : ∃ n y, DataW.trod enc prog W 0 (λ _ => true) true n 26 (([a0, a1, a2].drop 2).take (Tryz.prog.cellsOf 26)) = some y := hp 1 _ rfl
  simp only [c25, c26, List.drop_zero, List.drop_succ_cons, List.take_succ_cons, List.take_zero] at h0 h1
  obtain ⟨c, e0, hc⟩ := cf_of h0
  obtain ⟨v1, l1, e1, r1, f1⟩ := scalls_of h1
  cases e0; cases e1
  exact ⟨⟨c, _, l1⟩, rfl, hc, r1, f1⟩
end Go.Proofs.YtenilfmlfldogaaGreat
