/- What the law 'ReachB' uses. No condition. -/
import Derived.Test.YtenilfmlfldogaaGreatKReachBA
import Derived.Test.YtenilfmlfldogaaGreatKReachBB
import Derived.Test.YtenilfmlfldogaaGreatKReachBF
import Derived.Test.YtenilfmlfldogaaGreatKReachBH
import Derived.Test.YtenilfmlfldogaaGreatKReachBI
import Derived.Test.YtenilfmlfldogaaGreatKReachBO
namespace Go.Proofs.YtenilfmlfldogaaGreat
open Tryz (prog)
set_option linter.unusedVariables false
set_option linter.unusedSimpArgs false
set_option maxRecDepth 4000
theorem few8_of {c : CfM} (h : NmsR c.nms) : c.few8 := λ s hs r hr => h (s.name, r) (List.mem_flatMap.2 ⟨s, hs, List.mem_map.2 ⟨r, hr, rfl⟩⟩)
theorem sall_spec {R : Rds} {xb : Nat} {vm : Value} {c : CfM} (h : IX R xb vm c) (h8 : c.few8) (hf : c.few) :
  Spec prog 158 [pT xb] R [] λ u H' => ∃ T, H' = [T] /\ ∃ w Es ok, u = .tuple [w, .bool ok].toArray /\ OS 342 5 encEs w Es T /\ Es.length <= 131072 /\ EA c ok Es c.plain.edgesC := by
 have hedges := λ p s r hs hr => edges_spec h h8 p s r hs hr
 have hix := h
 have hlook := looked c
 have pc := h.pc
 have om := h.om
 have hss := h.ci.ss
 have hsc := h.ci.sc
 have i1 := hss.oneCell
 have i2 := hsc.oneCell
 have hle := hss.le
 have hlc := hsc.le
 have hal := h.ci.all
 have htot := total_all c.plain
 have hnm := hf.nms
 have hlal : c.plain.all.length = c.nms.length := by rw [<- nms_all, List.length_map]
 have hspl : c.plain.spaces.length = c.spaces.length := by unfold CfM.plain; simp
 have hpa : ∀ (i : Nat) (s : SpM), c.spaces[i]? = some s -> c.plain.spaces[i]? = some s.plain := λ i s hs => plain_at hs
 have hty := λ (p : Spot) (s : SpM) (r : RlM) => nms_typesC (c := c) (p := p) (s := s) (r := r)
 have heC : c.plain.edgesC = if scopesOK c.plain then cat (λ p : Nat × (ByteArray × Rl) => relC c.plain.all p.1 p.2.1 p.2.2) (enum 0 c.plain.all) else none := rfl
 have hscO : scopesOK c.plain = c.scopes.all λ s : Sc => (rfind c.plain.all ⟨s.ospace, s.rel⟩).isSome := rfl
 have hixd : ∀ i k, c.ix (i, k) = offs c.plain.spaces i + k := λ _ _ => rfl
 generalize hA : c.plain.all = A at *
 generalize hO_ : offs c.plain.spaces = of at *
 generalize hg : (λ p : Nat × (ByteArray × Rl) => relC A p.1 p.2.1 p.2.2) = g at *
 have hof0 : of 0 = 0 := by rw [<- hO_]; cases c.plain.spaces <;> rfl
 refine Spec.body Tryz.func158 rfl Tryz.results158 Tryz.ntmps158 rfl<|.sr<|.ag rfl<|.ag rfl<|.z<|.ag rfl<|.zs<|.sr<|.mo rfl<|.nc rfl<|.fa rfl<|.fa rfl<|.lo rfl<|.q (.lenR hss)<|.mo rfl<|.zn<|.block<|.loopS [(0, _), (18, _), (19, _)] (X := Nat × Value × List EdS × Seg) (λ y => y.1 <= c.spaces.length /\ OS 342 5 encEs y.2.1 y.2.2.1 y.2.2.2 /\ y.2.2.1.length <= 512 * of y.1 /\ EA c true y.2.2.1 (cat g (enum 0 (A.take (of y.1))))) (λ y E => (20, iN y.1) :: (4, y.2.1) :: E) (λ y G => y.2.2.2 :: G) (λ y => c.spaces.length - y.1) (0, sZ, [], []) ⟨Nat.zero_le _, OS.nil, by simp, by simp only; rw [hof0]; exact EA.nil⟩ kE.c.c.c.c.c HLe.new0 ?_
 rintro ⟨i, vo, Es, To⟩ ⟨hi, hO, hEl, hE⟩
 simp only at hi hO hEl hE ⊢
 have io := hO.oneCell
 refine .sr<|.q .lss<|.zs<|.cond rfl (λ h1 => ?_) λ h1 => ?_
 have hlt : i < c.spaces.length := lt_i h1
 obtain ⟨⟨sn, sv, rls⟩, hs⟩ := exg hlt
 have hsi := hal _ (mog hs)
 have hrs : RS R 3 RlM.enc sv rls := hsi.rs
 have irs := hrs.oneCell
 have hler := hrs.le
 have isp : Ones (SpM.enc ⟨sn, sv, rls⟩) := ⟨hsi.ones⟩
 have hp1 := hpa i _ hs
 have hofn := offs_next hp1
 have hofl := offs_le hp1
 rw [hO_, show (SpM.plain ⟨sn, sv, rls⟩).rels.length = rls.length by simp [SpM.plain]] at hofn hofl
 rw [htot, hlal] at hofl
 refine .kn<|.seq<|.block<|.sr<|.mo rfl ?_
 refine .indexR i hss hs (λ p23 => ?_)
 refine .q (.loadA rfl) ?_
 refine .allocA (λ b6 => ?_)
 refine .ag rfl<|.storeA rfl rfl<|.z<|.fa rfl<|.lo rfl<|.q (.lenR hrs)<|.mo rfl<|.zn<|.block<|.loopS [(0, _), (5, _), (18, _), (19, _), (20, _), (27, _)] (X := Nat × Value × List EdS × Seg) (λ y => y.1 <= rls.length /\ OS 342 5 encEs y.2.1 y.2.2.1 y.2.2.2 /\ y.2.2.1.length <= 512 * (of i + y.1) /\ EA c true y.2.2.1 (cat g (enum 0 (A.take (of i + y.1))))) (λ y E => (28, iN y.1) :: (4, y.2.1) :: E) (λ y G => bl b6 (SpM.enc ⟨sn, sv, rls⟩) 187 :: y.2.2.2 :: G) (λ y => rls.length - y.1) (0, vo, Es, To) ⟨Nat.zero_le _, hO, hEl, hE⟩ kE.c.c.c.c.c.c.c.c rH ?_
 rintro ⟨k, vo, Es, To⟩ ⟨hk, hO, hEl, hE⟩
 simp only at hk hO hEl hE ⊢
 have io := hO.oneCell
 refine .sr<|.q .lss<|.zs<|.cond rfl (λ h2 => ?_) λ h2 => ?_
 have hkt : k < rls.length := lt_i h2
 obtain ⟨r, hr⟩ := exg hkt
 have hed := hedges (i, k) _ r hs hr
 have hax := hty (i, k) _ r hs hr
 rw [hixd] at hed hax
 have hgx : g (of i + k, (sn, r.r)) = relC A (of i + k) sn r.r := by rw [<- hg]
 have hlk : of i + k < A.length := (List.getElem?_eq_some_iff.1 hax).1
 refine .kn<|.seq<|.block<|.sr<|.mo rfl<|.ag rfl<|.z<|.mo rfl<|.mo rfl<|.mo rfl<|.q .bld<|.callN (hed.weaken rxl) (λ u T4 hu4 => ?_)
 obtain ⟨w4, Fs, ok, rfl, hO4, hF512, hEA⟩ := hu4
 have i4 := hO4.oneCell
 refine .mo rfl<|.q .extract<|.q .extract<|.ag rfl<|.ag rfl<|.zs<|.sr<|.mo rfl<|.q .not<|.zn<|.cond rfl (λ h3 => ?_) λ h3 => ?_
 refine .sr<|.ag rfl<|.az rfl<|.ret (seqQ_r (blkQ_r (seqQ_r (loopQ_r (blkQ_r (blkQ_r (seqQ_r (loopQ_r (blkQ_r (seqQ_r (retQ_r _ (.two (.tmp rfl) (.tmp rfl)) HLe.nil1 ?_)))))))))))
 ·refine ⟨[], rfl, _, [], false, rfl, OS.nil, by simp, ?_⟩
  have hokf : ok = false := by simpa using h3
  rw [heC]
  split
  ·rw [cat_none (x := (of i + k, (sn, r.r))) (by have := enum_get (i := 0) hax; rwa [Nat.zero_add] at this) (by
    rw [hgx]
    cases hrc : relC A (of i + k) sn r.r with
    | none => rfl
    | some o => rw [show relC A (of i + k) (⟨sn, sv, rls⟩ : SpM).name r.r = some o from hrc] at hEA; rw [hEA.1] at hokf; cases hokf)]
   rfl
  ·rfl
 have hokt : ok = true := by simpa using h3
 subst hokt
 refine .kn<|.region<|.mo rfl<|.mo rfl<|.append hO hO4.rx (by omega) (λ v1 T1 hv1 => ?_)
 have iv1 := hv1.oneCell
 refine .ag rfl<|.nil<|blkQ_n<|seqQ_n<|.region<|.ia (k + 1) .add<|.mo rfl<|.nil ?_
 ·exact loopQ_i (k + 1, v1, Es ++ Fs, T1) ⟨hkt, hv1, by simp only [List.length_append]; omega, by
   simp only
   rw [show of i + (k + 1) = of i + k + 1 by omega, enum_app hax, cat_append]
   refine hE.app ?_
   rw [cat, Nat.zero_add, show g (of i + k, (⟨sn, sv, rls⟩ : SpM).name, r.r) = relC A (of i + k) sn r.r from hgx]
   revert hEA
   generalize relC A (of i + k) (⟨sn, sv, rls⟩ : SpM).name r.r = o
   intro hEA
   cases o with
   | none => exact hEA
   | some o => simpa [cat] using hEA⟩ (by simp only; omega) kE.c.c.c.c.c.c.c.c (pkH [1, 1, 1])
 have hke : k = rls.length := by have := odf h2; omega
 rw [hke, <- hofn] at hEl hE
 refine .exit<|seqQ_x<|loopQ_x<|blkQ_x<|blkQ_n<|seqQ_n<|.region<|.ia (i + 1) .add<|.mo rfl<|.nil ?_
 ·exact loopQ_i (i + 1, vo, Es, To) ⟨hlt, hO, hEl, hE⟩ (by simp only; omega) kE.c.c.c.c.c (pkH [1])
 have hie : i = c.spaces.length := by have := odf h1; omega
 have hofe : of i = A.length := by rw [hie, <- hspl, <- hO_, <- htot]; rfl
 rw [hofe, List.take_length] at hE
 refine .exit<|seqQ_x<|loopQ_x<|blkQ_x<|seqQ_n<|.seq<|.sr<|.mo rfl<|.nc rfl<|.fa rfl<|.fa rfl<|.lo rfl<|.q (.lenR hsc)<|.mo rfl<|.zn<|.block<|.loopS [(0, _), (4, _), (50, _), (51, _)] (X := Nat) (λ j => j <= c.scopes.length /\ (c.scopes.take j).all (λ s : Sc => (rfind A ⟨s.ospace, s.rel⟩).isSome) = true) (λ j E => (52, iN j) :: E) (λ _ G => G) (λ j => c.scopes.length - j) 0 ⟨Nat.zero_le _, rfl⟩ kE.c.c.c.c.c rH ?_
 rintro j ⟨hj, hqj⟩
 refine .sr<|.q .lss<|.zs<|.cond rfl (λ h4 => ?_) λ h4 => ?_
 have hjt : j < c.scopes.length := lt_i h4
 obtain ⟨s, hs⟩ := exg hjt
 obtain ⟨ps, ok, hps, hok⟩ := hlook (⟨s.ospace, s.rel⟩ : Ty)
 unfold Looked at hok
 rw [hA] at hok
 refine .kn<|.seq<|.block<|.sr ?_
 refine .indexR j hsc hs (λ p54 => ?_)
 refine .q (.loadA rfl) ?_
 refine .allocA (λ b11 => ?_)
 refine .storeA rfl rfl<|.zs<|.region_all [15] mixed<|.tO 0 rfl .move<|.tO 1 rfl (.nilCheck rfl)<|.tO 2 rfl (.fieldAddr rfl)<|.tO 3 rfl (.load1 rfl)<|.tO 4 rfl (.fieldAddr rfl)<|.tO 5 rfl (.fieldAddr rfl)<|.tO 6 rfl (.load1 rfl)<|.tO 7 rfl (.fieldAddr rfl)<|.tO 8 rfl (.load1 rfl)<|.tO 9 rfl .bld<|.takeO 10 rfl (.cast (.lookup2 (hix.rm.mono' λ b o hb => .inl hb) rfl rfl) (congrArg (λ l : List Value => Value.tuple l.toArray) hps)) (by kernel_rfl)<|.tO 11 rfl .move<|.tO 12 rfl .extract<|.tK 13 rfl .extract<|.sT 14 rfl ?_
 refine .allocA (λ b12 => ?_)
 refine .nil<|Next.sub<|.sT 15 rfl<|.storeA rfl rfl<|.nil<|Next.mod rfl<|.tK 16 rfl .assign<|RA.nil (by kernel_rfl)<|seqQ_n<|.sr<|.mo rfl<|.q .not<|.zn<|.cond rfl (λ h5 => ?_) λ h5 => ?_
 refine .sr<|.ag rfl<|.az rfl<|.ret (blkQ_r (seqQ_r (loopQ_r (blkQ_r (seqQ_r (retQ_r _ (.two (.tmp rfl) (.tmp rfl)) HLe.nil1 ?_))))))
 ·refine ⟨[], rfl, _, [], false, rfl, OS.nil, by simp, ?_⟩
  have hokf : ok = false := by simpa using h5
  have hj : rfind A ⟨s.ospace, s.rel⟩ = none := by
   cases hf : rfind A ⟨s.ospace, s.rel⟩ with
   | none => rfl
   | some j => rw [hf] at hok; rw [hok.1] at hokf; cases hokf
  rw [heC, hscO, all_miss hs (by rw [hj]; rfl)]
  rfl
 have hf : (rfind A ⟨s.ospace, s.rel⟩).isSome = true := by
  have hokt : ok = true := by simpa using h5
  cases hf : rfind A ⟨s.ospace, s.rel⟩ with
  | none => rw [hf] at hok; rw [hok] at hokt; cases hokt
  | some j => rfl
 refine .skip<|blkQ_n<|seqQ_n<|.region<|.ia (j + 1) .add<|.mo rfl<|.nil ?_
 ·exact loopQ_i (j + 1) ⟨hjt, all_next hs hqj hf⟩ (by omega) kE.c.c.c.c.c (pkH [2])
 refine .exit<|seqQ_x<|loopQ_x<|blkQ_x<|seqQ_n<|.sr<|.mo rfl<|.ag rfl<|.az rfl<|.ret (retQ_r _ (.two (.tmp rfl) (.tmp rfl)) (.one [0] _) ?_)
 ·refine ⟨To, by simp [take], vo, Es, true, rfl, hO, Nat.le_trans hEl (Nat.mul_le_mul_left 512 (show of i <= 256 by omega)), ?_⟩
  rw [take_end (ge_i h4)] at hqj
  rw [heC, hscO, hqj, if_pos rfl]
  exact hE
abbrev RwM := NlM × Seg
def RWs (w : Value) (LL : List RwM) (To : Seg) : Prop := OS 127 1 encV1 w (LL.map (·.1)) To /\ ∀ q ∈ LL, OS 3 1 encNt q.1.1 q.1.2 q.2
def RWo (w : Value) (LL : List RwM) (T : Seg) : Prop := ∃ To, T = To ++ LL.flatMap (·.2) /\ RWs w LL To
theorem list_split {α : Type} {l : List α} {i : Nat} {x : α} (h : l[i]? = some x) : ∃ A B, l = A ++ x :: B /\ A.length = i /\ ∀ y, l.set i y = A ++ y :: B := by
 refine ⟨l.take i, l.drop (i + 1), ?_, ?_, λ y => ?_⟩
 ·have := drop_at h
  rw [<- this, List.take_append_drop]
 ·rw [List.length_take]; have := (List.getElem?_eq_some_iff.1 h).1; omega
 ·exact List.set_eq_take_append_cons_drop.trans (if_pos (List.getElem?_eq_some_iff.1 h).1)
theorem rise_spec (w : Value) (LL : List RwM) (T : Seg) (h : RWo w LL T) (e : EdS) (a b : Nat) (qf qt : RwM) (hqf : LL[e.1.1]? = some qf) (hqt : LL[e.2.1.1]? = some qt) (ha : qf.1.2[e.1.2]? = some a) (hb : qt.1.2[e.2.1.2]? = some b) (hb9 : b <= 1000000000) (R : Rds) :
  Spec prog 201 [w, .agg (encEs e).toArray] R [T] λ u H' => ∃ T', H' = [T'] /\ ((u = .bool false /\ b + (if e.2.2 then 1 else 0) <= a /\ RWo w LL T') \/ (u = .bool true /\ a < b + (if e.2.2 then 1 else 0) /\ ∃ Tn, RWo w (LL.set e.1.1 ((qf.1.1, qf.1.2.set e.1.2 (b + (if e.2.2 then 1 else 0))), Tn)) T')) := by
 obtain ⟨To, rfl, hO, hI⟩ := h
 obtain ⟨⟨f1, f2⟩, ⟨t1, t2⟩, ab⟩ := e
 obtain ⟨⟨vf, rf⟩, Tf⟩ := qf
 obtain ⟨⟨vt, rt⟩, Tt⟩ := qt
 simp only at hqf hqt ha hb ⊢
 have hOf := hI _ (mog hqf)
 have hOt := hI _ (mog hqt)
 simp only at hOf hOt
 have iw := hO.oneCell
 have ivf : One vf := hOf.oneCell
 have ivt : One vt := hOt.oneCell
 have hqf' : (LL.map (·.1))[f1]? = some (vf, rf) := by rw [List.getElem?_map, hqf]; rfl
 have hqt' : (LL.map (·.1))[t1]? = some (vt, rt) := by rw [List.getElem?_map, hqt]; rfl
 have hmem : ∀ (q : RwM), q ∈ LL -> ∀ p ∈ q.2, p ∈ LL.flatMap (·.2) := λ q hq p hp => List.mem_flatMap.2 ⟨q, hq, hp⟩
 obtain ⟨L1, L2, hLL, hL1, hset⟩ := list_split hqf
 have hrf : RC R [To, LL.flatMap (·.2)] (baseP vf (f2 * 1)) (encNt a) := ⟨(hOf.pc ha).mono λ b o hb => .inr (by have := hmem _ (mog hqf) _ hb; simp [this])⟩
 have hrt : RC R [To, LL.flatMap (·.2)] (baseP vt (t2 * 1)) (encNt b) := ⟨(hOt.pc hb).mono λ b o hb => .inr (by have := hmem _ (mog hqt) _ hb; simp [this])⟩
 have pof : PS To (baseP w (f1 * 1)) (encV1 (vf, rf)) := ⟨hO.pc hqf'⟩
 have pot : PS To (baseP w (t1 * 1)) (encV1 (vt, rt)) := ⟨hO.pc hqt'⟩
 refine Spec.segs (H' := [To, LL.flatMap (·.2)]) (by simp)<|Spec.body Tryz.func201 rfl Tryz.results201 Tryz.ntmps201 rfl<|.sr ?_
 refine .boxA rfl (λ b3 => ?_)
 refine .ag rfl<|.zs<|.region_still mixed (by kernel_rfl)<|.mo rfl<|.fa rfl<|.fa rfl<|.lo rfl<|.q (.indexR t1 hO.sg hqt' rfl rfl rfl)<|.lo rfl<|.fa rfl<|.fa rfl<|.lo rfl<|.q (.indexR t2 hOt.sg hb rfl rfl rfl)<|.lo rfl<|.ag rfl<|.zs<|.sr<|.fa rfl<|.lo rfl<|.zn ?_
 refine Tri.cutS [(0, _), (3, _)] kE.c.c (X := Unit) (λ _ => True) (λ _ E => (5, .int .i64 ((b + (if ab then 1 else 0) : Nat) : Int)) :: E) (λ _ => [bl b3 (encEs ((f1, f2), (t1, t2), ab)) 342, To, LL.flatMap (·.2)]) ?_ ?_
 refine .cond rfl (λ h1 => ?_) λ h1 => ?_
 refine .region<|.mo rfl<|.ia (b + 1) .add<|.ag rfl<|.nil ?_
 ·exact joinQ_n () trivial (kE.c.c.consI rfl (by have h : ab = _ := h1; simp [h])) rH
 refine .skip ?_
 ·exact joinQ_n () trivial (kE.c.c.consI rfl (by have h : ab = _ := h1; simp [h])) rH
 intro x hx
 refine seqQ_n<|.seq<|.seq<|.region_still mixed (by kernel_rfl)<|.mo rfl<|.fa rfl<|.fa rfl<|.lo rfl<|.q (.indexR f1 hO.sg hqf' rfl rfl rfl)<|.lo rfl<|.fa rfl<|.fa rfl<|.lo rfl<|.q (.indexR f2 hOf.sg ha rfl rfl rfl)<|.lo rfl<|.mo rfl<|.q .geq<|.zn<|.cond rfl (λ h2 => ?_) λ h2 => ?_
 refine .sr<|.az rfl<|.ret (seqQ_r (retQ_r _ (.one (.tmp rfl)) (.one [1, 1] _) ?_))
 ·refine ⟨_, rfl, .inl ⟨rfl, by have := odt h2; omega, To, by simp [take, dropAt], hO, hI⟩⟩
 refine .kn<|.seq<|.region_tail 11 mixed (by kernel_rfl) ?_
 conv => arg 6; dsimp only [List.take]
 refine .mo rfl<|.fa rfl<|.fa rfl<|.lo rfl<|.q (.indexR f1 hO.sg hqf' rfl rfl rfl)<|.lo rfl<|.fa rfl<|.fa rfl<|.lo rfl<|.mo rfl<|.q (.indexR f2 hOf.sg ha rfl rfl rfl)<|.nil ?_
 refine .sub (H' := [bl b3 (encEs ((f1, f2), (t1, t2), ab)) 342, To, Tf, L1.flatMap (·.2) ++ L2.flatMap (·.2)]) (HLe.ofPerm (by
  rw [hLL]
  simp only [List.flatMap_append, List.flatMap_cons, List.flatten_cons, List.flatten_nil, List.append_nil]
  refine .append_left _ (.append_left _ ?_)
  rw [<- List.append_assoc, <- List.append_assoc]
  exact List.perm_append_comm.append_right _)) ?_
 refine .storeO1 f2 hOf ha (b + (if ab then 1 else 0)) (λ Tn hOn => ?_)
 refine .z<|.az rfl<|.ret (retQ_r _ (.one (.tmp rfl)) ((pkH [1, 1, 1]).trans (HLe.ofPerm (H' := [To ++ (L1.flatMap (·.2) ++ (Tn ++ L2.flatMap (·.2)))]) (by simp only [take, dropAt, List.getD_cons_zero, List.getD_cons_succ, List.flatten_cons, List.flatten_nil, List.append_nil]; refine .append_left _ ?_; rw [<- List.append_assoc, <- List.append_assoc]; exact List.perm_append_comm.append_right _))) ?_)
 ·refine ⟨_, rfl, .inr ⟨rfl, by have := odf h2; omega, Tn, To, ?_, ?_, λ q hq => ?_⟩⟩
  ·rw [hset]; simp
  ·refine hO.congr ?_
   rw [hset, hLL]
   simp [encV1]
  ·rw [hset] at hq
   rcases List.mem_append.1 hq with hq | hq
   ·exact hI q (by rw [hLL]; exact List.mem_append_left _ hq)
   ·rcases List.mem_cons.1 hq with rfl | hq
    ·exact hOn
    ·exact hI q (by rw [hLL]; exact List.mem_append_right _ (List.mem_cons_of_mem _ hq))
theorem rows_rel {c : CfM} {X : List Nat} {p : Spot} (hv : c.valid p) (hX : X.length = total c.plain.spaces) : ∃ s : Sp, c.plain.spaces[p.1]? = some s /\ p.2 < s.rels.length /\ (rows c.plain.spaces X)[p.1]? = some ((X.drop (offs c.plain.spaces p.1)).take s.rels.length) /\ c.ix p < X.length /\
  ((X.drop (offs c.plain.spaces p.1)).take s.rels.length)[p.2]? = some (X.getD (c.ix p) 0) := by
 obtain ⟨s, r, hs, hr⟩ := hv
 have h1 := plain_at hs
 have h2 := (List.getElem?_eq_some_iff.1 (plain_rel hr)).1
 have h3 := offs_le h1
 have h4 : c.ix p < X.length := by unfold CfM.ix; omega
 refine ⟨s.plain, h1, h2, rows_at h1, h4, ?_⟩
 rw [List.getElem?_take, if_pos h2, List.getElem?_drop, List.getD_eq_getElem?_getD]
 unfold CfM.ix at h4 ⊢
 rw [gge h4]
 rfl
theorem rise2_spec {c : CfM} (w : Value) (LL : List RwM) (T : Seg) (h : RWo w LL T) (X : List Nat) (hX : X.length = total c.plain.spaces) (hr : LL.map (·.1.2) = rows c.plain.spaces X) (e : EdS) (hv : c.valid e.1 /\ c.valid e.2.1) (hb9 : ∀ x ∈ X, x <= 1000000000) (R : Rds) :
  Spec prog 201 [w, .agg (encEs e).toArray] R [T] λ u H' => ∃ T', H' = [T'] /\ ∃ ch LL', u = .bool ch /\ ch = decide (rise1 X (c.ed e) ≠ X) /\ RWo w LL' T' /\ LL'.map (·.1.2) = rows c.plain.spaces (rise1 X (c.ed e)) := by
 obtain ⟨s1, f1, f2, f3, f4, f5⟩ := rows_rel hv.1 hX
 obtain ⟨s2, t1, t2, t3, t4, t5⟩ := rows_rel hv.2 hX
 have get : ∀ {i : Nat} {row : List Nat}, (rows c.plain.spaces X)[i]? = some row -> ∃ q : RwM, LL[i]? = some q /\ q.1.2 = row := λ {i row} hh => by
  rw [<- hr, List.getElem?_map] at hh
  cases hq : LL[i]? with
  | none => rw [hq] at hh; cases hh
  | some q => rw [hq] at hh; exact ⟨q, rfl, by simpa using hh⟩
 obtain ⟨qf, hqf, hf⟩ := get f3
 obtain ⟨qt, hqt, ht⟩ := get t3
 have hb : X.getD (c.ix e.2.1) 0 <= 1000000000 := hb9 _ (by rw [List.getD_eq_getElem?_getD, gge t4]; exact List.getElem_mem _)
 have hfX : X.getD (c.ix e.1) 0 = X.getD (c.ed e).f 0 := rfl
 refine (rise_spec w LL T h e (X.getD (c.ix e.1) 0) (X.getD (c.ix e.2.1) 0) qf qt hqf hqt (by rw [hf]; exact f5) (by rw [ht]; exact t5) hb R).mono λ u H' hu => ?_
 obtain ⟨T', rfl, hu⟩ := hu
 refine ⟨T', rfl, ?_⟩
 rcases hu with ⟨rfl, h1, h2⟩ | ⟨rfl, h1, Tn, h2⟩
 ·have hri : rise1 X (c.ed e) = X := if_neg (by show ¬ X.getD (c.ix e.1) 0 < X.getD (c.ix e.2.1) 0 + _; unfold Ed.w CfM.ed; simp only; omega)
  refine ⟨false, LL, rfl, ?_, h2, ?_⟩
  ·rw [hri]; simp
  ·rw [hri]; exact hr
 ·have hri : rise1 X (c.ed e) = X.set (c.ix e.1) (X.getD (c.ix e.2.1) 0 + if e.2.2 then 1 else 0) := if_pos (by show X.getD (c.ix e.1) 0 < X.getD (c.ix e.2.1) 0 + _; unfold Ed.w CfM.ed; simp only; omega)
  refine ⟨true, _, rfl, ?_, h2, ?_⟩
  ·rw [hri, eq_comm, decide_eq_true_iff]
   intro he
   have := congrArg (λ l : List Nat => l.getD (c.ix e.1) 0) he
   rw [getD_set _ _ _ _ f4, if_pos rfl] at this
   omega
  ·rw [hri]
   have := rows_set (n := X) (x := X.getD (c.ix e.2.1) 0 + if e.2.2 then 1 else 0) f1 f2 hX
   unfold CfM.ix at this ⊢
   rw [this, List.map_set, hr, hf]
theorem rise_ne {A X : List Nat} {e : Ed} (hge : ∀ i, A.getD i 0 <= X.getD i 0) (hl : X.length = A.length) (he : e.f < X.length) : rise1 X e ≠ A ↔ (X ≠ A \/ rise1 X e ≠ X) := by
 have hg2 := λ i => rise1_ge X e he i
 constructor
 ·intro h
  by_cases hx : X = A
  ·exact .inr (by rw [hx] at h ⊢; exact h)
  ·exact .inl hx
 ·rintro (h | h) hA
  ·refine h (list_ext0 hl λ i _ => ?_)
   have h1 := hge i
   have h2 := hg2 i
   rw [hA] at h2
   omega
  ·refine h (list_ext0 (by rw [rise1_len]) λ i _ => ?_)
   have h1 := hge i
   have h2 := hg2 i
   rw [hA] at h2 ⊢
   omega
theorem rise1_le {X : List Nat} {e : Ed} {b : Nat} (h : ∀ x ∈ X, x <= b) : ∀ x ∈ rise1 X e, x <= b + 1 := by
 intro x hx
 unfold rise1 at hx
 split at hx
 ·rcases List.mem_or_eq_of_mem_set hx with hx | rfl
  ·have := h x hx; omega
  ·have hg : X.getD e.t 0 <= b := by
    rw [List.getD_eq_getElem?_getD]
    cases hq : X[e.t]? with
    | none => exact Nat.zero_le _
    | some q => exact h q (mog hq)
   have hw : e.w <= 1 := by unfold Ed.w; split <;> omega
   omega
 ·have := h x hx; omega
theorem settle_spec {R : Rds} {xb : Nat} {vm : Value} {c : CfM} (h : IX R xb vm c) (hf : c.few) (ve : Value) (Es : List EdS) (hve : RS R 5 encEs ve Es) (hEl : Es.length <= 131072) (hv : ∀ e ∈ Es, c.valid e.1 /\ c.valid e.2.1) :
  Spec prog 159 [pT xb, ve] R [] λ u H' => ∃ T, H' = [T] /\ match settle (Es.map c.ed) (total c.plain.spaces + 1) (List.replicate (total c.plain.spaces) 0) with
   | none => u = .tuple [sZ, .bool false].toArray
   | some A => ∃ w ll, u = .tuple [w, .bool true].toArray /\ NN (sg T) w ll /\ ll.map (·.2) = rows c.plain.spaces A := by
 have hix := h
 have pc := h.pc
 have om := h.om
 have hss := h.ci.ss
 have i1 := hss.oneCell
 have i2 : One c.vc := RS.oneCell h.ci.sc
 have hle := hss.le
 have hlen16 := hf.1
 have hal := h.ci.all
 have htot := total_all c.plain
 have hlal : c.plain.all.length = c.nms.length := by rw [<- nms_all, List.length_map]
 have hnm := hf.nms
 have hspl : c.plain.spaces.length = c.spaces.length := by unfold CfM.plain; simp
 have hpa : ∀ (i : Nat) (s : SpM), c.spaces[i]? = some s -> c.plain.spaces[i]? = some s.plain := λ i s hs => plain_at hs
 have hrz := rows_zero c.plain.spaces
 have hr2 := λ w LL T hh X hX hr e hv hb R => rise2_spec (c := c) w LL T hh X hX hr e hv hb R
 have hsl := spots_len c.plain.spaces 0
 have hfl : ∀ e ∈ Es, (c.ed e).f < total c.plain.spaces := λ e he => by
  obtain ⟨s, _, h2, _, h4, _⟩ := rows_rel (X := List.replicate (total c.plain.spaces) 0) (hv e he).1 (by simp)
  rw [List.length_replicate] at h4
  exact h4
 have ive := hve.oneCell
 have hlve := hve.le
 have htl : total c.plain.spaces <= 256 := by omega
 generalize htt : total c.plain.spaces = tot at *
 refine Spec.body Tryz.func159 rfl Tryz.results159 Tryz.ntmps159 rfl<|.sr<|.ag rfl<|.ag rfl<|.z<|.mo rfl<|.nc rfl<|.fa rfl<|.fa rfl<|.lo rfl<|.q (.lenR hss) ?_
 refine .makeSlice (enc := encV1) c.spaces.length ((sZ, []) : NlM) rfl rfl (by decide) (by simp [encV1, oneCell]) rfl rfl (by omega) (by omega) (λ b6 T6 hO6 => ?_)
 refine .ag rfl<|.zs<|.sr<|.mo rfl<|.nc rfl<|.fa rfl<|.fa rfl<|.lo rfl<|.q (.lenR hss)<|.mo rfl<|.zn<|.block<|.loopS [(0, _), (1, _), (6, _), (23, _), (24, _)] (X := Nat × List RwM × Seg) (λ y => y.1 <= c.spaces.length /\ y.2.1.length = y.1 /\ OS 127 1 encV1 (.slice (some ⟨b6, 0, none⟩) c.spaces.length c.spaces.length) (y.2.1.map (·.1) ++ List.replicate (c.spaces.length - y.1) ((sZ, []) : NlM)) y.2.2 /\ (∀ q ∈ y.2.1, OS 3 1 encNt q.1.1 q.1.2 q.2) /\ y.2.1.map (·.1.2) = ((c.plain.spaces.take y.1).map λ s => List.replicate s.rels.length 0)) (λ y E => (25, iN y.1) :: E) (λ y G => y.2.2 :: y.2.1.flatMap (·.2) :: G) (λ y => c.spaces.length - y.1) (0, [], T6) (G := []) ⟨Nat.zero_le _, rfl, by simp only [List.map_nil, List.nil_append, Nat.sub_zero]; exact hO6, λ q hq => (by cases hq), by simp⟩ kE.c.c.c.c.c.c ((pkH [0]).trans (HLe.ofPerm (by simp [take]))) ?_
 rintro ⟨i, D, To⟩ ⟨hi, hDl, hO, hI, hD⟩
 simp only at hi hDl hO hI hD ⊢
 refine .sr<|.q .lss<|.zs<|.cond rfl (λ h1 => ?_) λ h1 => ?_
 have hlt : i < c.spaces.length := lt_i h1
 obtain ⟨⟨sn, sv, rls⟩, hs⟩ := exg hlt
 have hsi := hal _ (mog hs)
 have hrs : RS R 3 RlM.enc sv rls := hsi.rs
 have irs := hrs.oneCell
 have hler := hrs.le
 have isp : Ones (SpM.enc ⟨sn, sv, rls⟩) := ⟨hsi.ones⟩
 have hr16 : rls.length <= 16 := hf.2 _ (mog hs)
 have hp1 := hpa i _ hs
 obtain ⟨k, hk⟩ : ∃ k, c.spaces.length - i = k + 1 := ⟨c.spaces.length - i - 1, by omega⟩
 have hk' : c.spaces.length - (i + 1) = k := by omega
 rw [hk] at hO
 have hDm : (D.map (·.1)).length = i := by rw [List.length_map, hDl]
 obtain ⟨z, hz⟩ : ∃ z, (D.map (·.1) ++ List.replicate (k + 1) ((sZ, []) : NlM))[i]? = some z := ⟨_, gge (by rw [List.length_append, hDm, List.length_replicate]; omega)⟩
 refine .kn<|.seq<|.block<|.sr<|.mo rfl ?_
 refine .indexR i hss hs (λ p28 => ?_)
 refine .q (.loadA rfl) ?_
 refine .allocA (λ b8 => ?_)
 refine .ag rfl<|.storeA rfl rfl<|.zn<|.region<|.mo rfl<|.mo rfl<|.fa rfl<|.lo rfl<|.q (.lenR hrs) ?_
 refine .makeSlice (enc := encNt) rls.length 0 rfl rfl (by decide) (by simp [encNt, oneCell]) rfl rfl (by omega) (by omega) (λ bn Tn hOn => ?_)
 refine .indexO i hO hz (λ p36 => ?_)
 refine .storeO1 i hO hz ((.slice (some ⟨bn, 0, none⟩) rls.length rls.length, List.replicate rls.length 0) : NlM) (λ T1 hO1 => ?_)
 rw [set_grow hDm] at hO1
 refine .nil<|blkQ_n<|seqQ_n<|.region<|.ia (i + 1) .add<|.mo rfl<|.nil ?_
 ·exact loopQ_i (i + 1, D ++ [((.slice (some ⟨bn, 0, none⟩) rls.length rls.length, List.replicate rls.length 0), Tn)], T1) ⟨hlt, by simp [hDl], by simp only; rw [hk', List.map_append]; exact hO1, λ q hq => by
   rcases List.mem_append.1 hq with hq | hq
   ·exact hI q hq
   ·rw [List.mem_singleton] at hq; subst hq; exact hOn, by simp only; rw [take_next hp1, List.map_append, List.map_append, hD]; simp [SpM.plain]⟩ (by simp only; omega) kE.c.c.c.c.c.c ((pkH [2, 2, 0]).trans (HLe.ofPerm (by simp [take, dropAt])))
 have hie : i = c.spaces.length := by have := odf h1; omega
 have hD0 : D.map (·.1.2) = rows c.plain.spaces (List.replicate tot 0) := by
  rw [hrz, hD, take_end (by omega)]
 rw [hie, Nat.sub_self] at hO
 simp only [List.replicate_zero, List.append_nil] at hO
 refine .exit<|seqQ_x<|loopQ_x<|blkQ_x<|seqQ_n<|.seq<|.sr<|.mo rfl<|.nc rfl<|.fa rfl<|.lo rfl<|.q (.lenM (hix.rm.mono' λ b o hb => .inl hb) rfl) ?_
 rw [hsl]
 refine .ia (tot + 1) .add<|.mo rfl<|.zn<|.block<|.loopS [(1, _), (6, _), (43, _)] (X := Nat × List Nat × List RwM × Seg) (λ y => y.1 <= tot + 1 /\ y.2.1.length = tot /\ RWo (.slice (some ⟨b6, 0, none⟩) c.spaces.length c.spaces.length) y.2.2.1 y.2.2.2 /\ y.2.2.1.map (·.1.2) = rows c.plain.spaces y.2.1 /\ (∀ x ∈ y.2.1, x <= y.1 * Es.length) /\ settle (Es.map c.ed) (tot + 1) (List.replicate tot 0) = settle (Es.map c.ed) (tot + 1 - y.1) y.2.1) (λ y E => (44, iN y.1) :: E) (λ y _ => [y.2.2.2]) (λ y => tot + 1 - y.1) (0, List.replicate tot 0, D, To ++ (D.flatMap (·.2) ++ [])) (G := []) ⟨Nat.zero_le _, by simp, ⟨To, by simp, hO, hI⟩, hD0, λ x hx => by rw [List.eq_of_mem_replicate hx]; exact Nat.zero_le _, rfl⟩ kE.c.c.c.c (HLe.one [0, 0] _) ?_
 rintro ⟨m, A, LL, T⟩ ⟨hm, hAl, hRW, hrA, hbA, hst⟩
 simp only at hm hAl hRW hrA hbA hst ⊢
 refine .sr<|.q .lss<|.zs<|.cond rfl (λ h2 => ?_) λ h2 => ?_
 have hmt : m < tot + 1 := by have := odt h2; omega
 have hmE : m * Es.length <= 256 * 131072 := Nat.mul_le_mul (by omega) hEl
 refine .kn<|.seq<|.block<|.sr<|.ag rfl<|.zs<|.sr<|.mo rfl<|.q (.lenR hve)<|.mo rfl<|.zn<|.block<|.loopS [(1, _), (6, _), (43, _), (44, _), (46, _), (47, _)] (X := Nat × List Nat × List RwM × Seg) (λ y => y.1 <= Es.length /\ y.2.1 = ((Es.take y.1).map c.ed).foldl rise1 A /\ y.2.1.length = tot /\ RWo (.slice (some ⟨b6, 0, none⟩) c.spaces.length c.spaces.length) y.2.2.1 y.2.2.2 /\ y.2.2.1.map (·.1.2) = rows c.plain.spaces y.2.1 /\ (∀ x ∈ y.2.1, x <= m * Es.length + y.1) /\ ∀ i, A.getD i 0 <= y.2.1.getD i 0) (λ y E => (48, iN y.1) :: (9, .bool (decide (y.2.1 ≠ A))) :: E) (λ y _ => [y.2.2.2]) (λ y => Es.length - y.1) (0, A, LL, T) (G := []) ⟨Nat.zero_le _, rfl, hAl, hRW, hrA, λ x hx => hbA x hx, λ i => Nat.le_refl _⟩ ((kE.c.c.c.c.c.c.consB rfl (by simp)).cons rfl) rH ?_
 rintro ⟨j, X, LX, TX⟩ ⟨hj, hX, hXl, hRX, hrX, hbX, hge⟩
 simp only at hj hX hXl hRX hrX hbX hge ⊢
 refine .sr<|.q .lss<|.zs<|.cond rfl (λ h3 => ?_) λ h3 => ?_
 have hjt : j < Es.length := lt_i h3
 obtain ⟨e, hex⟩ := exg hjt
 have hem := mog hex
 have hrise := hr2 _ LX TX hRX X hXl hrX e (hv e hem) (λ x hx => by have := hbX x hx; omega)
 have hef := hfl e hem
 refine .kn<|.seq<|.block<|.sr ?_
 refine .indexR j hve hex (λ p50 => ?_)
 refine .q (.loadA rfl) ?_
 refine .allocA (λ b11 => ?_)
 refine .storeA rfl rfl<|.z<|.mo rfl<|.q (.loadA rfl)<|.callM (hrise R) (λ u T1 hu => ?_)
 obtain ⟨ch, L1, rfl, hch, hRW1, hr1⟩ := hu
 refine .zn ?_
 refine Tri.cutS [(1, _), (6, _), (43, _), (44, _), (46, _), (47, _), (48, _)] kE.c.c.c.c.c.c.c (X := Unit) (λ _ => True) (λ _ E => (9, .bool (decide (X ≠ A) || ch)) :: E) (λ _ => [T1]) ?_ ?_
 refine .cond rfl (λ h4 => ?_) λ h4 => ?_
 refine .region<|.ag rfl<|.nil ?_
 ·exact joinQ_n () trivial (kE.c.c.c.c.c.c.c.consB rfl (by simp [h4])) (pkH [1])
 refine .skip ?_
 ·exact joinQ_n () trivial (kE.c.c.c.c.c.c.c.consB rfl (by simp [h4])) (pkH [1])
 intro x hx
 refine blkQ_n<|seqQ_n<|.region<|.ia (j + 1) .add<|.mo rfl<|.nil ?_
 ·exact loopQ_i (j + 1, rise1 X (c.ed e), L1, T1) ⟨hjt, by simp only; rw [take_next hex, List.map_append, List.foldl_append, <- hX]; rfl, by simp only; rw [rise1_len, hXl], hRW1, hr1, λ y hy => by have := rise1_le hbX y hy; simp only; omega, λ i => Nat.le_trans (hge i) (rise1_ge X _ (by rw [hXl]; exact hef) i)⟩ (by simp only; omega) ((kE.c.c.c.c.c.c.consB rfl (by
   simp only
   rw [hch, <- Bool.decide_or]
   exact decide_eq_decide.2 (rise_ne hge (by rw [hXl, hAl]) (by rw [hXl]; exact hef)).symm)).cons rfl) rH
 have hje : j = Es.length := by have := odf h3; omega
 have hXp : X = pass (Es.map c.ed) A := by rw [hX, hje, List.take_length]; rfl
 refine .exit<|seqQ_x<|loopQ_x<|blkQ_x<|seqQ_n<|.sr<|.mo rfl<|.q .not<|.zn<|.cond rfl (λ h5 => ?_) λ h5 => ?_
 have hXA : X = A := Decidable.not_not.1 (show ¬ ¬ X = A by simpa using h5)
 refine .sr<|.mo rfl<|.ag rfl<|.az rfl<|.ret (blkQ_r (seqQ_r (loopQ_r (blkQ_r (seqQ_r (retQ_r _ (.two (.tmp rfl) (.tmp rfl)) (.one [0] _) ?_))))))
 ·refine ⟨_, rfl, ?_⟩
  rw [hst, show tot + 1 - m = tot + 1 - (m + 1) + 1 by omega, settle, if_pos (by rw [<- hXp]; exact hXA)]
  obtain ⟨To2, hT2, hO2, hI2⟩ := hRX
  refine ⟨_, LX.map (·.1), rfl, ⟨hO2.rs λ p hp => ?_, λ q hq => ?_⟩, ?_⟩
  ·show p ∈ _
   simp [take, hT2, hp]
  ·obtain ⟨q2, hq2, rfl⟩ := List.mem_map.1 hq
   refine (hI2 q2 hq2).rs λ p hp => ?_
   show p ∈ _
   have : p ∈ LX.flatMap (·.2) := List.mem_flatMap.2 ⟨q2, hq2, hp⟩
   simp only [take, hT2, List.getD_cons_zero, List.flatten_cons, List.flatten_nil, List.append_nil]
   exact List.mem_append_right _ this
  ·rw [List.map_map, <- hXA]
   exact hrX
 have hXA : X ≠ A := by simpa using h5
 refine .skip<|blkQ_n<|seqQ_n<|.region<|.ia (m + 1) .add<|.mo rfl<|.nil ?_
 ·exact loopQ_i (m + 1, X, LX, TX) ⟨hmt, hXl, hRX, hrX, λ x hx => by have h6 := hbX x hx; simp only; rw [Nat.add_mul]; omega, by
   simp only
   rw [hst, show tot + 1 - m = tot + 1 - (m + 1) + 1 by omega, settle, if_neg (by rw [<- hXp]; exact hXA), <- hXp]⟩ (by simp only; omega) kE.c.c.c.c rH
 refine .exit<|seqQ_x<|loopQ_x<|blkQ_x<|seqQ_n<|.sr<|.ag rfl<|.az rfl<|.ret (retQ_r _ (.two (.tmp rfl) (.tmp rfl)) (.one [0] _) ?_)
 ·refine ⟨_, rfl, ?_⟩
  have hme : m = tot + 1 := by have := odf h2; omega
  rw [hst, hme, Nat.sub_self, settle]
theorem settle_all {c : CfM} {k : Nat} {E : List Ed} (h : c.plain.all.length = k) : settle E (k + 1) (List.replicate k 0) = settle E (c.plain.all.length + 1) (List.replicate c.plain.all.length 0) := by rw [h]
def SA (c : CfM) (ok : Bool) (w : Value) (T : Seg) (o : Option (List Nat)) : Prop := match o with
 | none => ok = false
 | some A => ok = true /\ ∃ ll, NN (sg T) w ll /\ ll.map (·.2) = rows c.plain.spaces A
theorem numbers_spec (c : CfM) (R : Rds) (h : c.is R) : Spec prog 99 [.agg c.enc.toArray] R [] λ u H' => ∃ T, H' = [T] /\ ∃ w ll, u = .tuple [w, .int .i64 (c.plain.numbers isWord isRef).1].toArray /\ NN (sg T) w ll /\ ll.map (·.2) = (c.plain.numbers isWord isRef).2 := by
 rw [<- numbers_doc]
 have hR := right_spec c R h
 have hN := newIndex_spec c R h
 have hfr := few_of_right (c := c)
 have hnm : c.plain.numbersC isWord isRef = if c.plain.right isWord isRef = false then ((4 : Int), ([] : List (List Nat))) else if ¬ c.plain.uniq then (10, []) else match c.plain.edgesC with | none => (14, []) | some E => match settle E (c.plain.all.length + 1) (List.replicate c.plain.all.length 0) with | none => (15, []) | some n => (0, rows c.plain.spaces n) := rfl
 have hal := λ (R : Rds) xb vm (hx : IX R xb vm c) h8 hf => sall_spec (R := R) (xb := xb) (vm := vm) hx h8 hf
 have hse := λ (R : Rds) xb vm (hx : IX R xb vm c) hf ve Es hve hl hv => settle_spec (R := R) (xb := xb) (vm := vm) hx hf ve Es hve hl hv
 have htot := total_all c.plain
 have i1 : One c.vs := RS.oneCell h.ss
 have i2 : One c.vc := RS.oneCell h.sc
 generalize hnn : c.plain.numbersC isWord isRef = nn at *
 refine Spec.body Tryz.func99 rfl Tryz.results99 Tryz.ntmps99 rfl<|.sr ?_
 refine .boxA rfl (λ b1 => ?_)
 refine .ag rfl<|.ag rfl<|.zs<|.sr<|.q (.loadA rfl)<|.callR (hR.weaken rxl) (λ u hu => ?_)
 subst hu
 refine .q .not<|.zn<|.cond rfl (λ h1 => ?_) λ h1 => ?_
 refine .sr<|.ag rfl<|.az rfl<|.ret (seqQ_r (retQ_r _ (.two (.tmp rfl) (.tmp rfl)) HLe.nil1 ?_))
 ·refine ⟨[], rfl, sZ, [], ?_, .nil, ?_⟩
  ·rw [hnm, if_pos (by simpa using h1)]
  ·rw [hnm, if_pos (by simpa using h1)]; rfl
 have hri : c.plain.right isWord isRef = true := by simpa using h1
 obtain ⟨hfew, hNR⟩ := hfr hri
 rw [if_neg (by rw [hri]; simp)] at hnm
 refine .kn<|.sr<|.q (.loadA rfl)<|.callN (hN.weaken rxl) (λ u T4 hu => ?_)
 obtain ⟨o, ok, rfl, hok, hu⟩ : ∃ (o : Option Addr) (ok : Bool), u = .tuple [.pointer o, .bool ok].toArray /\ ok = decide c.plain.uniq /\ (ok = true -> ∃ xb, o = some ⟨xb, 0, none⟩ /\ IXs xb c T4) := by
  rcases hu with ⟨hun, xb, rfl, hI⟩ | ⟨hun, rfl⟩
  ·exact ⟨_, true, rfl, (decide_eq_true hun).symm, λ _ => ⟨xb, rfl, hI⟩⟩
  ·exact ⟨_, false, rfl, (decide_eq_false hun).symm, λ hh => (by cases hh)⟩
 refine .mo rfl<|.q .extract<|.q .extract<|.ag rfl<|.ag rfl<|.zs<|.sr<|.mo rfl<|.q .not<|.zn<|.cond rfl (λ h2 => ?_) λ h2 => ?_
 refine .sr<|.ag rfl<|.az rfl<|.ret (seqQ_r (retQ_r _ (.two (.tmp rfl) (.tmp rfl)) HLe.nil1 ?_))
 ·have hof : ok = false := by simpa using h2
  rw [hof] at hok
  have hun : ¬ c.plain.uniq := odf hok.symm
  refine ⟨[], rfl, sZ, [], ?_, .nil, ?_⟩
  ·rw [hnm, if_pos hun]
  ·rw [hnm, if_pos hun]; rfl
 have hokt : ok = true := by simpa using h2
 obtain ⟨xb, rfl, hIs⟩ := hu hokt
 rw [hokt] at hok
 have hun : c.plain.uniq := odt hok.symm
 rw [if_neg (λ hh => hh hun)] at hnm
 obtain ⟨vm, hIX⟩ := hIs.view h
 refine .kn<|.sr<|.mo rfl<|.callN ((hal _ xb vm hIX (few8_of hNR) hfew).weaken λ b o hb => hb.elim .inl λ hb => .inr (by simp [hb])) (λ u T6 hu6 => ?_)
 obtain ⟨w6, Es, ok6, rfl, hO6, hl6, hE6⟩ := hu6
 have i6 := hO6.oneCell
 refine .mo rfl<|.q .extract<|.q .extract<|.ag rfl<|.ag rfl<|.zs<|.sr<|.mo rfl<|.q .not<|.zn<|.cond rfl (λ h3 => ?_) λ h3 => ?_
 have hof : ok6 = false := by simpa using h3
 have hed : c.plain.edgesC = none := by
  cases he : c.plain.edgesC with
  | none => rfl
  | some E => rw [he] at hE6; rw [hE6.1] at hof; cases hof
 rw [hed] at hnm
 simp only at hnm
 refine .sr<|.ag rfl<|.az rfl<|.ret (seqQ_r (retQ_r _ (.two (.tmp rfl) (.tmp rfl)) HLe.nil1 ?_))
 ·refine ⟨[], rfl, sZ, [], ?_, .nil, ?_⟩
  ·rw [hnm]
  ·rw [hnm]; rfl
 have hof : ok6 = true := by simpa using h3
 obtain ⟨E, hed, hEE, hEv⟩ : ∃ E, c.plain.edgesC = some E /\ Es.map c.ed = E /\ ∀ e ∈ Es, c.valid e.1 /\ c.valid e.2.1 := by
  cases he : c.plain.edgesC with
  | none => rw [he] at hE6; rw [show ok6 = false from hE6] at hof; cases hof
  | some E => rw [he] at hE6; exact ⟨E, rfl, hE6.2.1, hE6.2.2⟩
 subst hEE
 rw [hed] at hnm
 simp only at hnm
 rw [<- settle_all htot.symm] at hnm
 refine .kn<|.sr<|.mo rfl<|.mo rfl<|.callN ((hse _ xb vm (hIX.mono (R' := λ b o => R b o \/ (b, o) ∈ T4 \/ (b, o) ∈ T6) λ b o hb => hb.elim .inl λ hb => .inr (.inl hb)) hfew w6 Es (hO6.rs λ p hp => .inr (.inr hp)) hl6 hEv).weaken λ b o hb => hb.elim .inl λ hb => .inr (by rcases hb with hb | hb <;> simp [hb])) (λ u T9 hu9 => ?_)
 obtain ⟨w9, ok9, rfl, hS9⟩ : ∃ (w9 : Value) (ok9 : Bool), u = .tuple [w9, .bool ok9].toArray /\ SA c ok9 w9 T9 (settle (Es.map c.ed) (total c.plain.spaces + 1) (List.replicate (total c.plain.spaces) 0)) := by
  cases hst : settle (Es.map c.ed) (total c.plain.spaces + 1) (List.replicate (total c.plain.spaces) 0) with
  | none => rw [hst] at hu9; exact ⟨_, _, hu9, rfl⟩
  | some A => rw [hst] at hu9; obtain ⟨w, ll, h1, h2, h3⟩ := hu9; exact ⟨w, true, h1, rfl, ll, h2, h3⟩
 refine .mo rfl<|.q .extract<|.q .extract<|.ag rfl<|.ag rfl<|.zs<|.sr<|.mo rfl<|.q .not<|.zn<|.cond rfl (λ h4 => ?_) λ h4 => ?_
 have hof : ok9 = false := by simpa using h4
 have hst : settle (Es.map c.ed) (total c.plain.spaces + 1) (List.replicate (total c.plain.spaces) 0) = none := by
  cases hst : settle (Es.map c.ed) (total c.plain.spaces + 1) (List.replicate (total c.plain.spaces) 0) with
  | none => rfl
  | some A => rw [hst] at hS9; rw [hS9.1] at hof; cases hof
 rw [hst] at hnm
 simp only at hnm
 refine .sr<|.ag rfl<|.az rfl<|.ret (seqQ_r (retQ_r _ (.two (.tmp rfl) (.tmp rfl)) HLe.nil1 ?_))
 ·refine ⟨[], rfl, sZ, [], ?_, .nil, ?_⟩
  ·rw [hnm]
  ·rw [hnm]; rfl
 have hof : ok9 = true := by simpa using h4
 obtain ⟨A, hst, ll, hNN, hll⟩ : ∃ A, settle (Es.map c.ed) (total c.plain.spaces + 1) (List.replicate (total c.plain.spaces) 0) = some A /\ ∃ ll, NN (sg T9) w9 ll /\ ll.map (·.2) = rows c.plain.spaces A := by
  cases hst : settle (Es.map c.ed) (total c.plain.spaces + 1) (List.replicate (total c.plain.spaces) 0) with
  | none => rw [hst] at hS9; rw [show ok9 = false from hS9] at hof; cases hof
  | some A => rw [hst] at hS9; exact ⟨A, rfl, hS9.2⟩
 rw [hst] at hnm
 simp only at hnm
 have i9 : One w9 := hNN.rs.oneCell
 refine .kn<|.sr<|.mo rfl<|.ag rfl<|.az rfl<|.ret (retQ_r _ (.two (.tmp rfl) (.tmp rfl)) (.one [0] _) ?_)
 ·refine ⟨T9, by simp [take], w9, ll, ?_, hNN, ?_⟩
  ·rw [hnm]
  ·rw [hnm]; exact hll
def fewR (r : Rl) : Rl := ⟨r.name, r.types.take 9, r.nodes.take 66⟩
def fewS (s : Sp) : Sp := ⟨short s.name 40, (s.rels.take 6).map fewR⟩
def cfFew (c : Cf) : Cf := ⟨(c.spaces.take 5).map fewS, c.scopes.take 5⟩
theorem RlM.is.taken {R : Rds} {vt vn vt' vn' : Value} {r : Rl} (h : RlM.is R ⟨vt, vn, r⟩) {R' : Rds} (hR : ∀ b o, R b o -> R' b o) {n m : Nat} (ht : RS R' 2 Ty.enc vt' (r.types.take n)) (hn : RS R' 5 Nd.enc vn' (r.nodes.take m)) : RlM.is R' ⟨vt', vn', ⟨r.name, r.types.take n, r.nodes.take m⟩⟩ :=
 ⟨h.n, ht, hn, λ x hx => h.ft x (List.mem_of_mem_take hx), λ x hx => h.fd x (List.mem_of_mem_take hx)⟩
theorem few16_spec (c : CfM) (R : Rds) (h : c.is R) : Spec prog 42 [.agg c.enc.toArray] R [] λ u H' => ∃ T, H' = [T] /\ ∃ c' : CfM, u = .agg c'.enc.toArray /\ c'.is (λ b o => R b o \/ (b, o) ∈ T) /\ c'.plain = cfFew c.plain := by
 obtain ⟨vs, vc, sps, scs⟩ := c
 have hss := h.ss
 have hsc := h.sc
 have i1 := hss.oneCell
 have i2 := hsc.oneCell
 simp only at hss hsc i1 i2
 have hle := hss.le
 have hlc := hsc.le
 refine Spec.body Tryz.func42 rfl Tryz.results42 Tryz.ntmps42 rfl ?_
 refine .sr ?_
 refine .boxA rfl (λ b1 => ?_)
 refine .allocA (λ b2 => ?_)
 refine .z ?_
 refine .q .bld ?_
 refine .allocA (λ b3 => ?_)
 refine .storeA rfl rfl<|.zs<|.sr<|.az rfl<|.block ?_
 refine .loopS [(1, _), (2, _), (3, _)] (X := Nat × Value × List SpM × Seg × Seg) (λ y => (y.1 <= 5 /\ y.1 <= sps.length) /\ OS 187 2 SpM.enc y.2.1 y.2.2.1 y.2.2.2.1 /\ (∀ s ∈ y.2.2.1, s.is (λ b o => R b o \/ (b, o) ∈ y.2.2.2.2)) /\ y.2.2.1.map (·.plain) = ((sps.take y.1).map (·.plain)).map fewS) (λ y E => (4, iN y.1) :: E) (λ y G => y.2.2.2.1 :: y.2.2.2.2 :: bl b3 [y.2.1, sZ] 25 :: G) (λ y => 5 - y.1) (0, sZ, [], [], []) ⟨⟨by simp, by simp⟩, OS.nil, λ s hs => (by cases hs), by simp⟩ kE.c.c.c.c HLe.new00 ?_
 rintro ⟨i, w, L, To, Ti⟩ ⟨⟨hi5, hi⟩, hO, hI, hL⟩
 simp only at hi5 hi hO hI hL ⊢
 have io := hO.oneCell
 have hLl : L.length = i := by have := congrArg List.length hL; rw [List.length_map, List.length_map, List.length_map, List.length_take] at this; omega
 refine .seq<|.seq ?_
 refine Tri.cutS [(1, _), (2, _), (3, _), (4, _)] kE.c.c.c.c (X := Unit) (λ _ => True) (λ _ E => (21, .bool (decide (i < sps.length /\ i < 5))) :: E) (λ _ => [To, Ti, bl b3 [w, sZ] 25, bl b2 [sZ, sZ] 25, bl b1 [vs, vc] 25]) ?_ ?_
 refine .region<|.mo rfl<|.fa rfl<|.lo rfl<|.q (.lenR hss) ?_
 refine .q .lss<|.mo rfl ?_
 refine .split (t := 18) rfl (λ g3_5 => ?_) (λ g3_5 => ?_)
 refine .gT g3_5<|.mo rfl<|.gT g3_5<|.q .lss<|.q (.pickTh g3_5) ?_
 refine .nil ?_
 ·exact joinQ_n () trivial (kE.c.c.c.c.consB rfl (by clear hI; grind)) rH
 refine .gF g3_5<|.gF g3_5<|.q (.pickFh g3_5) ?_
 refine .nil ?_
 ·exact joinQ_n () trivial (kE.c.c.c.c.consB rfl (by clear hI; grind)) rH
 intro y hy
 refine seqQ_n ?_
 refine .cond rfl (λ h1 => ?_) λ h1 => ?_
 obtain ⟨hlt, hlt5⟩ := odt h1
 obtain ⟨⟨sn, sv, rls⟩, hs⟩ := exg hlt
 have hsi := h.all _ (mog hs)
 have hrs : RS R 3 RlM.enc sv rls := hsi.rs
 have irs := hrs.oneCell
 have hler := hrs.le
 refine .kn<|.seq<|.block<|.sr<|.fa rfl<|.lo rfl<|.mo rfl ?_
 refine .indexR i hss hs (λ p27 => ?_)
 refine .fa rfl<|.lo rfl ?_
 refine .callR (short_spec sn 40 _) (λ u hu => ?_)
 subst hu
 refine .q .bld ?_
 refine .allocA (λ b5 => ?_)
 refine .storeA rfl rfl<|.zs<|.sr<|.az rfl<|.block ?_
 refine .loopS [(1, _), (2, _), (3, _), (4, _), (5, _)] (X := Nat × Value × List RlM × Seg) (λ y => (y.1 <= 6 /\ y.1 <= rls.length) /\ OS 207 3 RlM.enc y.2.1 y.2.2.1 y.2.2.2 /\ (∀ r ∈ y.2.2.1, r.is R) /\ y.2.2.1.map (·.r) = ((rls.take y.1).map (·.r)).map fewR) (λ y E => (6, iN y.1) :: E) (λ y G => y.2.2.2 :: bl b5 [.string (short sn 40), y.2.1] 187 :: G) (λ y => 6 - y.1) (0, sZ, [], []) ⟨⟨by simp, by simp⟩, OS.nil, λ s hs => (by cases hs), by simp⟩ kE.c.c.c.c.c.c HLe.new0 ?_
 rintro ⟨k, w2, L2, T2⟩ ⟨⟨hk6, hk⟩, hO2, hI2, hL2⟩
 simp only at hk6 hk hO2 hI2 hL2 ⊢
 have io2 := hO2.oneCell
 have hL2l : L2.length = k := by have := congrArg List.length hL2; rw [List.length_map, List.length_map, List.length_map, List.length_take] at this; omega
 refine .seq<|.seq ?_
 refine Tri.cutS [(1, _), (2, _), (3, _), (4, _), (5, _), (6, _)] kE.c.c.c.c.c.c (X := Unit) (λ _ => True) (λ _ E => (44, .bool (decide (k < rls.length /\ k < 6))) :: E) (λ _ => [T2, bl b5 [.string (short sn 40), w2] 187, To, Ti, bl b3 [w, sZ] 25, bl b2 [sZ, sZ] 25, bl b1 [vs, vc] 25]) ?_ ?_
 refine .region<|.mo rfl<|.fa rfl<|.lo rfl<|.mo rfl ?_
 refine .indexR i hss hs (λ p36 => ?_)
 refine .fa rfl<|.lo rfl<|.q (.lenR hrs) ?_
 refine .q .lss<|.mo rfl ?_
 refine .split (t := 41) rfl (λ g7_9 => ?_) (λ g7_9 => ?_)
 refine .gT g7_9<|.mo rfl<|.gT g7_9<|.q .lss<|.q (.pickTh g7_9) ?_
 refine .nil ?_
 ·exact joinQ_n () trivial (kE.c.c.c.c.c.c.consB rfl (by clear hI hI2; grind)) rH
 refine .gF g7_9<|.gF g7_9<|.q (.pickFh g7_9) ?_
 refine .nil ?_
 ·exact joinQ_n () trivial (kE.c.c.c.c.c.c.consB rfl (by clear hI hI2; grind)) rH
 intro y hy
 refine seqQ_n ?_
 refine .cond rfl (λ h2 => ?_) λ h2 => ?_
 obtain ⟨hkt, hkt6⟩ := odt h2
 obtain ⟨⟨vt, vn, r⟩, hr⟩ := exg hkt
 have hri := hsi.all _ (mog hr)
 have hrt : RS R 2 Ty.enc vt r.types := hri.t
 have hrd : RS R 5 Nd.enc vn r.nodes := hri.d
 have irt := hrt.oneCell
 have ird := hrd.oneCell
 have hone : Ones (RlM.enc ⟨vt, vn, r⟩) := ⟨hri.ones⟩
 refine .kn<|.seq<|.block<|.sr<|.fa rfl<|.lo rfl<|.mo rfl ?_
 refine .indexR i hss hs (λ p50 => ?_)
 refine .fa rfl<|.lo rfl<|.mo rfl ?_
 refine .indexR k hrs hr (λ p54 => ?_)
 refine .q (.loadA rfl) ?_
 refine .allocA (λ b7 => ?_)
 refine .storeA rfl rfl<|.zs<|.sr<|.fa rfl<|.lo rfl<|.q (.lenR hrt) ?_
 refine .q .gtr<|.zn ?_
 refine Tri.cutS [(1, _), (2, _), (3, _), (4, _), (5, _), (6, _), (7, _)] kE.c.c.c.c.c.c.c (X := Value) (λ v => RS R 2 Ty.enc v (r.types.take 9)) (λ _ E => E) (λ v => [bl b7 [.string r.name, v, vn] 207, T2, bl b5 [.string (short sn 40), w2] 187, To, Ti, bl b3 [w, sZ] 25, bl b2 [sZ, sZ] 25, bl b1 [vs, vc] 25]) ?_ ?_
 refine .cond rfl (λ h3 => ?_) λ h3 => ?_
 refine .region<|.fa rfl<|.lo rfl ?_
 refine .sliceR 0 9 hrt rfl ⟨_, rfl⟩ (by omega) (by have := odt h3; omega) (λ v2 hv2 => ?_)
 have iv2 := hv2.oneCell
 refine .fa rfl<|.store1 rfl rfl<|.nil ?_
 ·exact joinQ_n v2 (by simpa using hv2) kE.c.c.c.c.c.c.c rH
 refine .skip ?_
 ·exact joinQ_n vt (by rw [take_end (ge_i h3)]; exact hrt) kE.c.c.c.c.c.c.c rH
 intro x hx
 have hvt : RS R 2 Ty.enc x (r.types.take 9) := hx
 clear hx
 obtain ⟨xt, rfl⟩ : ∃ z, z = x := ⟨_, rfl⟩
 have ivt := hvt.oneCell
 refine seqQ_n<|.seq<|.sr<|.fa rfl<|.lo rfl<|.q (.lenR hrd) ?_
 refine .q .gtr<|.zn ?_
 refine Tri.cutS [(1, _), (2, _), (3, _), (4, _), (5, _), (6, _), (7, _)] kE.c.c.c.c.c.c.c (X := Value) (λ v => RS R 5 Nd.enc v (r.nodes.take 66)) (λ _ E => E) (λ v => [bl b7 [.string r.name, xt, v] 207, T2, bl b5 [.string (short sn 40), w2] 187, To, Ti, bl b3 [w, sZ] 25, bl b2 [sZ, sZ] 25, bl b1 [vs, vc] 25]) ?_ ?_
 refine .cond rfl (λ h4 => ?_) λ h4 => ?_
 refine .region<|.fa rfl<|.lo rfl ?_
 refine .sliceR 0 66 hrd rfl ⟨_, rfl⟩ (by omega) (by have := odt h4; omega) (λ v2 hv2 => ?_)
 have iv2 := hv2.oneCell
 refine .fa rfl<|.store1 rfl rfl<|.nil ?_
 ·exact joinQ_n v2 (by simpa using hv2) kE.c.c.c.c.c.c.c rH
 refine .skip ?_
 ·exact joinQ_n vn (by rw [take_end (ge_i h4)]; exact hrd) kE.c.c.c.c.c.c.c rH
 intro x hx
 have hvn : RS R 5 Nd.enc x (r.nodes.take 66) := hx
 have ivn := hvn.oneCell
 have hnew : RlM.is R ⟨xt, x, fewR r⟩ := hri.taken (λ b o hb => hb) hvt hvn
 refine seqQ_n<|.sr<|.fa rfl<|.lo rfl<|.az rfl<|.region<|.mo rfl<|.q (.loadA rfl) ?_
 refine .buildSlice1A (λ b76 => ?_)
 refine .append hO2 (RS.lits (xs := [(⟨xt, x, fewR r⟩ : RlM)]) rfl (by simp [RlM.enc]) (by intro y hy; rw [List.mem_singleton] at hy; subst hy; exact hnew.ones)) (by simp only [List.length_singleton]; omega) (λ v5 T5 hv5 => ?_)
 have i5 := hv5.oneCell
 refine .fa rfl<|.store1 rfl rfl<|.nil<|blkQ_n<|seqQ_n<|.region<|.mo rfl ?_
 refine .ia (k + 1) .add ?_
 refine .ag rfl<|.nil ?_
 ·exact loopQ_i (k + 1, v5, L2 ++ [⟨xt, x, fewR r⟩], T5) ⟨⟨hkt6, hkt⟩, hv5, λ q hq => by
   rcases List.mem_append.1 hq with hq | hq
   ·exact hI2 q hq
   ·rw [List.mem_singleton] at hq; subst hq; exact hnew, by simp only; rw [take_next hr, List.map_append, List.map_append, List.map_append, hL2]; rfl⟩ (by simp only; omega) kE.c.c.c.c.c.c (pkH [2, 2, 2, 2, 2, 2, 2])
 refine .exit<|seqQ_x<|loopQ_x<|blkQ_x<|seqQ_n<|.sr<|.fa rfl<|.lo rfl<|.az rfl<|.region<|.mo rfl<|.q (.loadA rfl) ?_
 refine .buildSlice1A (λ b83 => ?_)
 refine .append hO (RS.lits (xs := [(⟨short sn 40, w2, L2⟩ : SpM)]) rfl (by simp [SpM.enc]) (by intro y hy u hu; rw [List.mem_singleton] at hy; subst hy; simp only [SpM.enc, List.mem_cons, List.not_mem_nil, or_false] at hu; rcases hu with rfl | rfl; rfl; exact io2.h)) (by simp only [List.length_singleton]; omega) (λ v5 T5 hv5 => ?_)
 have i5 := hv5.oneCell
 refine .fa rfl<|.store1 rfl rfl<|.nil<|blkQ_n<|seqQ_n<|.region<|.mo rfl ?_
 refine .ia (i + 1) .add ?_
 refine .ag rfl<|.nil ?_
 ·exact loopQ_i (i + 1, v5, L ++ [⟨short sn 40, w2, L2⟩], T5, T2 ++ Ti) ⟨⟨hlt5, hlt⟩, hv5, λ q hq => by
   rcases List.mem_append.1 hq with hq | hq
   ·exact (hI q hq).mono λ b o hb => hb.elim .inl λ hb => .inr (List.mem_append_right _ hb)
   ·rw [List.mem_singleton] at hq
    subst hq
    refine ⟨?_, hO2.rs λ p hp => .inr (List.mem_append_left _ hp), λ r hr => (hI2 r hr).mono λ b o hb => .inl hb⟩
    have := short_size (s := sn) (n := 40)
    simp only
    omega, by
   simp only
   rw [take_next hs, List.map_append, List.map_append, List.map_append, hL]
   have hke : rls.take k = rls.take 6 := by
    have h2' := odf h2
    by_cases h6 : k = 6
    ·rw [h6]
    ·rw [take_end (show rls.length <= k by omega), take_end (show rls.length <= 6 by omega)]
   simp only [List.map_cons, List.map_nil]
   congr 1
   unfold SpM.plain fewS
   simp only
   rw [hL2, hke]
   simp [List.map_take]⟩ (by simp only; omega) kE.c.c.c.c ((pkH [3, 1, 2, 2, 2, 2]).trans (HLe.ofPerm (by simp [take, dropAt, setL, CfM.enc])))
 have hie : sps.take i = sps.take 5 := by
  have h1' := odf h1
  by_cases h5 : i = 5
  ·rw [h5]
  ·rw [take_end (show sps.length <= i by omega), take_end (show sps.length <= 5 by omega)]
 rw [hie] at hL
 refine .exit<|seqQ_x<|loopQ_x<|blkQ_x<|seqQ_n<|.seq<|.sr<|.az rfl<|.block ?_
 refine .loopS [(1, _), (2, _), (3, _)] (X := Nat × Value × Seg) (λ y => (y.1 <= 5 /\ y.1 <= scs.length) /\ OS 209 4 Sc.enc y.2.1 (scs.take y.1) y.2.2) (λ y E => (10, iN y.1) :: E) (λ y G => y.2.2 :: To :: Ti :: bl b3 [w, y.2.1] 25 :: G) (λ y => 5 - y.1) (0, sZ, []) ⟨⟨by simp, by simp⟩, OS.nil⟩ kE.c.c.c.c HLe.new0 ?_
 rintro ⟨j, w3, T3⟩ ⟨⟨hj5, hj⟩, hO3⟩
 simp only at hj5 hj hO3 ⊢
 have io3 := hO3.oneCell
 refine .seq<|.seq ?_
 refine Tri.cutS [(1, _), (2, _), (3, _), (10, _)] kE.c.c.c.c (X := Unit) (λ _ => True) (λ _ E => (94, .bool (decide (j < scs.length /\ j < 5))) :: E) (λ _ => [T3, To, Ti, bl b3 [w, w3] 25, bl b2 [sZ, sZ] 25, bl b1 [vs, vc] 25]) ?_ ?_
 refine .region<|.mo rfl<|.fa rfl<|.lo rfl<|.q (.lenR hsc) ?_
 refine .q .lss<|.mo rfl ?_
 refine .split (t := 91) rfl (λ g19_5 => ?_) (λ g19_5 => ?_)
 refine .gT g19_5<|.mo rfl<|.gT g19_5<|.q .lss<|.q (.pickTh g19_5) ?_
 refine .nil ?_
 ·exact joinQ_n () trivial (kE.c.c.c.c.consB rfl (by clear hI; grind)) rH
 refine .gF g19_5<|.gF g19_5<|.q (.pickFh g19_5) ?_
 refine .nil ?_
 ·exact joinQ_n () trivial (kE.c.c.c.c.consB rfl (by clear hI; grind)) rH
 intro y hy
 refine seqQ_n ?_
 refine .cond rfl (λ h5 => ?_) λ h5 => ?_
 obtain ⟨hjt, hjt5⟩ := odt h5
 obtain ⟨s, hs⟩ := exg hjt
 refine .kn<|.seq<|.block<|.sr<|.fa rfl<|.lo rfl<|.az rfl<|.region<|.mo rfl<|.fa rfl<|.lo rfl<|.mo rfl ?_
 refine .indexR j hsc hs (λ p103 => ?_)
 refine .q (.loadA rfl) ?_
 refine .buildSlice1A (λ b105 => ?_)
 refine .append hO3 (RS.lits (xs := [s]) rfl (by simp [Sc.enc]) (by simp [Sc.enc, oneCell])) (by simp only [List.length_take, List.length_singleton]; omega) (λ v5 T5 hv5 => ?_)
 have i5 := hv5.oneCell
 refine .fa rfl<|.store1 rfl rfl<|.nil<|blkQ_n<|seqQ_n<|.region<|.mo rfl ?_
 refine .ia (j + 1) .add ?_
 refine .ag rfl<|.nil ?_
 ·exact loopQ_i (j + 1, v5, T5) ⟨⟨hjt5, hjt⟩, by simp only; rw [take_next hs]; exact hv5⟩ (by simp only; omega) kE.c.c.c.c (pkH [1, 1, 1, 1, 1, 1])
 refine .exit<|seqQ_x<|loopQ_x<|blkQ_x<|seqQ_n<|.sr<|.q (.loadA rfl)<|.storeA rfl rfl<|.zn ?_
 refine .ret (retQ_r _ (.one (.cellA rfl rfl)) (.one [1, 1, 0] _) ?_)
 ·refine ⟨_, rfl, ⟨w, w3, L, scs.take j⟩, rfl, ⟨hO.rs λ p hp => .inr (by simp [take, dropAt, hp]), hO3.rs λ p hp => .inr (by simp [take, dropAt, hp]), λ s hs => (hI s hs).mono λ b o hb => hb.elim .inl λ hb => .inr (by simp [take, dropAt, hb]), λ s hs => h.fc s (List.mem_of_mem_take hs)⟩, ?_⟩
  have hje : scs.take j = scs.take 5 := by
   have h5' := odf h5
   by_cases h6 : j = 5
   ·rw [h6]
   ·rw [take_end (show scs.length <= j by omega), take_end (show scs.length <= 5 by omega)]
  unfold CfM.plain cfFew
  simp only
  rw [hL, hje, List.map_take]
namespace LIN
theorem clone_spec (v : Value) (xs : List Nat) (R : Rds) (h : RS R 1 encNt v xs) (hl : xs.length <= 1000000) :
  Spec prog 163 [v] R [] λ v' H' => ∃ T, H' = [T] /\ OS 3 1 encNt v' xs T := by
 obtain ⟨pr, cap, rfl⟩ := h.val
 have hx : ∀ H, RS (Rx R H) 1 encNt (.slice pr xs.length cap) xs := λ H => h.rx
 refine Spec.segs (H' := [[]]) (by simp)<|Spec.body Tryz.func163 rfl Tryz.results163 Tryz.ntmps163 rfl<|.sr<|.ag rfl<|.zs<|.sr<|.mo rfl<|.q (.eqNilS rfl rfl)<|.zn<|.cond rfl (λ h1 => ?_) λ h1 => ?_
 refine .sr<|.az rfl<|.ret (seqQ_r (retQ_r _ (.one (.tmp rfl)) (.one [0] _) ?_))
 ·obtain rfl : pr = none := by simpa using h1
  have := h.none_nil
  subst this
  exact ⟨[], rfl, OS.nil⟩
 refine .kn<|.sr ?_
 refine .buildSlice0 (λ b5 => ?_)
 refine .mo rfl ?_
 refine .append (OS.empty (enc := encNt) (sz := 1)) (hx _) (by simp; omega) (λ v' T' h3 => ?_)
 refine .az rfl<|.ret (retQ_r _ (.one (.tmp rfl)) (.one [0] _) ?_)
 ·exact ⟨T', by simp [take], by simpa using h3⟩
end LIN
def CfM.fewC (c : CfM) : Prop := c.few /\ c.few8 /\ c.scopes.length <= 16
theorem fewC_of {c : CfM} (h : c.plain.right isWord isRef = true) : c.fewC := by
 obtain ⟨h1, h2⟩ := few_of_right h
 refine ⟨h1, few8_of h2, ?_⟩
 have hm : c.plain.much isWord = false := by
  unfold Cf.right at h
  simp only [Bool.and_eq_true, Bool.not_eq_true'] at h
  exact h.2
 rw [much_eq] at hm
 simp only [Bool.or_eq_false_iff, decide_eq_false_iff_not, Nat.not_lt] at hm
 exact hm.1.2
theorem copied_spec (c : CfM) (R : Rds) (h : c.is R) (hf : c.fewC) : Spec prog 100 [.agg c.enc.toArray] R [] λ u H' => ∃ T, H' = [T] /\ ∃ c' : CfM, u = .agg c'.enc.toArray /\ c'.is (sg T) /\ c'.plain = c.plain := by
 obtain ⟨⟨hsl, hrl⟩, h8, hscl⟩ := hf
 obtain ⟨vs, vc, sps, scs⟩ := c
 have hss := h.ss
 have hsc := h.sc
 have i1 := hss.oneCell
 have i2 := hsc.oneCell
 simp only at hss hsc i1 i2 hsl hrl hscl
 have hle := hss.le
 refine Spec.body Tryz.func100 rfl Tryz.results100 Tryz.ntmps100 rfl<|.sr ?_
 refine .boxA rfl (λ b1 => ?_)
 refine .allocA (λ b2 => ?_)
 refine .z ?_
 refine .allocA (λ b3 => ?_)
 refine .zs<|.sr<|.fa rfl<|.lo rfl<|.q (.lenR hss)<|.mo rfl<|.zn<|.block<|.loopS [(1, _), (2, _), (3, _), (10, _), (11, _)] (X := Nat × Value × List SpM × Seg × Seg) (λ y => y.1 <= sps.length /\ OS 187 2 SpM.enc y.2.1 y.2.2.1 y.2.2.2.1 /\ (∀ s ∈ y.2.2.1, s.is (sg y.2.2.2.2)) /\ y.2.2.1.map (·.plain) = (sps.take y.1).map (·.plain)) (λ y E => (12, iN y.1) :: E) (λ y G => y.2.2.2.1 :: y.2.2.2.2 :: bl b3 [y.2.1, sZ] 25 :: G) (λ y => sps.length - y.1) (0, sZ, [], [], []) ⟨by simp, OS.nil, λ s hs => (by cases hs), by simp⟩ kE.c.c.c.c.c.c HLe.new00 ?_
 rintro ⟨i, w, L, To, Ti⟩ ⟨hi, hO, hI, hL⟩
 simp only at hi hO hI hL ⊢
 have io := hO.oneCell
 have hLl : L.length = i := by have := congrArg List.length hL; rw [List.length_map, List.length_map, List.length_take] at this; omega
 refine .sr<|.q .lss<|.zs<|.cond rfl (λ h1 => ?_) λ h1 => ?_
 have hlt : i < sps.length := lt_i h1
 obtain ⟨⟨sn, sv, rls⟩, hs⟩ := exg hlt
 have hsi := h.all _ (mog hs)
 have hrs : RS R 3 RlM.enc sv rls := hsi.rs
 have irs := hrs.oneCell
 have hler := hrs.le
 have isp : Ones (SpM.enc ⟨sn, sv, rls⟩) := ⟨hsi.ones⟩
 have hr16 := hrl _ (mog hs)
 simp only at hr16
 refine .kn<|.seq<|.block<|.sr ?_
 refine .indexR i hss hs (λ p14 => ?_)
 refine .q (.loadA rfl) ?_
 refine .allocA (λ b5 => ?_)
 refine .storeA rfl rfl<|.z<|.fa rfl<|.lo rfl ?_
 refine .q .bld ?_
 refine .allocA (λ b6 => ?_)
 refine .storeA rfl rfl<|.zs<|.sr<|.fa rfl<|.lo rfl<|.q (.lenR hrs)<|.mo rfl<|.zn<|.block<|.loopS [(1, _), (2, _), (3, _), (6, _), (10, _), (11, _), (12, _), (20, _), (21, _)] (X := Nat × Value × List RlM × Seg × Seg) (λ y => y.1 <= rls.length /\ OS 207 3 RlM.enc y.2.1 y.2.2.1 y.2.2.2.1 /\ (∀ r ∈ y.2.2.1, r.is (sg y.2.2.2.2)) /\ y.2.2.1.map (·.r) = (rls.take y.1).map (·.r)) (λ y E => (22, iN y.1) :: E) (λ y G => y.2.2.2.1 :: y.2.2.2.2 :: bl b6 [.string sn, y.2.1] 187 :: G) (λ y => rls.length - y.1) (0, sZ, [], [], []) ⟨by simp, OS.nil, λ s hs => (by cases hs), by simp⟩ kE.c.c.c.c.c.c.c.c.c.c HLe.new00 ?_
 rintro ⟨k, w2, L2, T2, Tp⟩ ⟨hk, hO2, hI2, hL2⟩
 simp only at hk hO2 hI2 hL2 ⊢
 have io2 := hO2.oneCell
 have hL2l : L2.length = k := by have := congrArg List.length hL2; rw [List.length_map, List.length_map, List.length_take] at this; omega
 refine .sr<|.q .lss<|.zs<|.cond rfl (λ h2 => ?_) λ h2 => ?_
 have hkt : k < rls.length := lt_i h2
 obtain ⟨⟨vt, vn, r⟩, hr⟩ := exg hkt
 have hri := hsi.all _ (mog hr)
 have hrt : RS R 2 Ty.enc vt r.types := hri.t
 have hrd : RS R 5 Nd.enc vn r.nodes := hri.d
 have irt := hrt.oneCell
 have ird := hrd.oneCell
 have hone : Ones (RlM.enc ⟨vt, vn, r⟩) := ⟨hri.ones⟩
 obtain ⟨ht8, hn64, _⟩ := h8 _ (mog hs) _ (mog hr)
 simp only at ht8 hn64
 refine .kn<|.seq<|.block<|.sr ?_
 refine .indexR k hrs hr (λ p24 => ?_)
 refine .q (.loadA rfl) ?_
 refine .allocA (λ b8 => ?_)
 refine .storeA rfl rfl<|.zn ?_
 refine Tri.cutS [(1, _), (2, _), (3, _), (6, _), (10, _), (11, _), (12, _), (20, _), (21, _), (22, _)] kE.c.c.c.c.c.c.c.c.c.c (X := (Value × Seg) × (Value × Seg) × (Value × Seg)) (λ y => OS 207 3 RlM.enc y.1.1 (L2 ++ [(⟨y.2.1.1, y.2.2.1, r⟩ : RlM)]) y.1.2 /\ OS 252 2 Ty.enc y.2.1.1 r.types y.2.1.2 /\ OS 168 5 Nd.enc y.2.2.1 r.nodes y.2.2.2) (λ _ E => E) (λ y => [y.1.2, y.2.1.2, y.2.2.2, Tp, bl b6 [.string sn, y.1.1] 187, bl b5 (SpM.enc ⟨sn, sv, rls⟩) 187, To, Ti, bl b3 [w, sZ] 25, bl b2 [sZ, sZ] 25, bl b1 [vs, vc] 25]) ?_ ?_
 refine .region_all [12, 14] mixed<|.tO 0 rfl (.fieldAddr rfl)<|.tO 1 rfl (.load1 rfl)<|.tO 2 rfl (.fieldAddr rfl)<|.tO 3 rfl (.load1 rfl)<|.tO 4 rfl (.fieldAddr rfl)<|.tO 5 rfl (.load1 rfl)<|.tO 7 rfl (.fieldAddr rfl)<|.tO 8 rfl (.load1 rfl)<|.sT 6 rfl<|.callN (LTY.clone_spec vt r.types _ hrt.rx (by omega)) (λ ut Tt hut => ?_)
 obtain ⟨pt, ct, rfl, _⟩ := hut.shape
 have iut := hut.oneCell
 refine .nil<|Next.sub<|.sT 9 rfl<|.callN (LND.clone_spec vn r.nodes _ hrd.rx (by omega)) (λ un Tn hun => ?_)
 obtain ⟨pn, cn, rfl, _⟩ := hun.shape
 have iun := hun.oneCell
 refine .nil<|Next.sub<|.tO 10 rfl .bld<|.sT 11 rfl ?_
 refine .buildSlice1A (λ b37 => ?_)
 refine .nil<|Next.sub<|.sT 12 rfl<|.append hO2 (RS.lits (xs := [(⟨.slice pt r.types.length ct, .slice pn r.nodes.length cn, r⟩ : RlM)]) rfl (by simp [RlM.enc]) (by intro y hy u hu; rw [List.mem_singleton] at hy; subst hy; simp only [RlM.enc, List.mem_cons, List.not_mem_nil, or_false] at hu; rcases hu with rfl | rfl | rfl <;> rfl)) (by simp only [List.length_singleton]; omega) (λ v5 T5 hv5 => ?_)
 have i5 := hv5.oneCell
 refine .nil<|Next.mod rfl<|.tK 13 rfl (.fieldAddrA rfl)<|.sT 14 rfl<|.store1 rfl rfl<|.nil<|Next.mod rfl<|RA.nil (by kernel_rfl) ?_
 ·exact joinQ_n ((v5, T5), (_, Tt), (_, Tn)) ⟨hv5, hut, hun⟩ ((((((((((kE.d rfl).d rfl).d rfl).d rfl).d rfl).d rfl).d rfl).d rfl).d rfl).d rfl) (pkH [4, 2, 1, 2, 2, 2, 2, 2, 2, 2, 2])
 intro y hy
 obtain ⟨⟨v5, T5⟩, ⟨ut, Tt⟩, ⟨un, Tn⟩⟩ := y
 obtain ⟨hv5, hut, hun⟩ := hy
 simp only at hv5 hut hun ⊢
 have i5 := hv5.oneCell
 refine blkQ_n<|seqQ_n<|.region<|.ia (k + 1) .add<|.mo rfl<|.nil ?_
 ·exact loopQ_i (k + 1, v5, L2 ++ [⟨ut, un, r⟩], T5, Tt ++ (Tn ++ Tp)) ⟨hkt, hv5, λ q hq => by
   rcases List.mem_append.1 hq with hq | hq
   ·exact (hI2 q hq).mono λ b o hb => sg_right (sg_right hb)
   ·rw [List.mem_singleton] at hq
    subst hq
    exact ⟨hri.n, hut.sg.mono λ b o hb => sg_left hb, hun.sg.mono λ b o hb => sg_right (sg_left hb), hri.ft, hri.fd⟩, by simp only; rw [take_next hr, List.map_append, List.map_append, hL2]; rfl⟩ (by simp only; omega) kE.c.c.c.c.c.c.c.c.c.c (HLe.ofPerm (by simp [setL, CfM.enc, SpM.enc]))
 rw [take_end (ge_i h2)] at hL2
 refine .exit<|seqQ_x<|loopQ_x<|blkQ_x<|seqQ_n<|.region<|.fa rfl<|.lo rfl<|.q (.loadA rfl) ?_
 refine .buildSlice1A (λ b44 => ?_)
 refine .append hO (RS.lits (xs := [(⟨sn, w2, L2⟩ : SpM)]) rfl (by simp [SpM.enc]) (by intro y hy u hu; rw [List.mem_singleton] at hy; subst hy; simp only [SpM.enc, List.mem_cons, List.not_mem_nil, or_false] at hu; rcases hu with rfl | rfl; rfl; exact io2.h)) (by simp only [List.length_singleton]; omega) (λ v5 T5 hv5 => ?_)
 have i5 := hv5.oneCell
 refine .fa rfl<|.store1 rfl rfl<|.nil<|blkQ_n<|seqQ_n<|.region<|.ia (i + 1) .add<|.mo rfl<|.nil ?_
 ·exact loopQ_i (i + 1, v5, L ++ [⟨sn, w2, L2⟩], T5, T2 ++ (Tp ++ Ti)) ⟨hlt, hv5, λ q hq => by
   rcases List.mem_append.1 hq with hq | hq
   ·exact (hI q hq).mono λ b o hb => sg_right (sg_right hb)
   ·rw [List.mem_singleton] at hq
    subst hq
    exact ⟨hsi.n, hO2.sg.mono λ b o hb => sg_left hb, λ r hr => (hI2 r hr).mono λ b o hb => sg_right (sg_left hb)⟩, by
   simp only
   rw [take_next hs, List.map_append, List.map_append, hL]
   simp only [List.map_cons, List.map_nil]
   congr 1
   unfold SpM.plain
   simp only
   rw [hL2]⟩ (by simp only; omega) kE.c.c.c.c.c.c ((pkH [5, 1, 1, 3, 3, 3, 3]).trans (HLe.ofPerm (by simp [take, dropAt, setL, CfM.enc])))
 rw [take_end (ge_i h1)] at hL
 refine .exit<|seqQ_x<|loopQ_x<|blkQ_x<|seqQ_n<|.sr<|.fa rfl<|.lo rfl<|.callN (LSC.clone_spec vc scs _ hsc.rx (by omega)) (λ uc Tc huc => ?_)
 have iuc := huc.oneCell
 refine .fa rfl<|.store1 rfl rfl<|.z<|.q (.loadA rfl)<|.storeA rfl rfl<|.zn ?_
 refine .ret (retQ_r _ (.one (.cellA rfl rfl)) (.one [1, 1, 0] _) ?_)
 ·refine ⟨_, rfl, ⟨w, uc, L, scs⟩, rfl, ⟨hO.sg.mono λ b o hb => ?_, huc.sg.mono λ b o hb => ?_, λ s hs => (hI s hs).mono λ b o hb => ?_, h.fc⟩, ?_⟩
  ·simp only [take, dropAt, List.getD_cons_zero, List.getD_cons_succ, List.flatten_cons, List.flatten_nil, List.append_nil]; exact sg_left hb
  ·simp only [take, dropAt, List.getD_cons_zero, List.getD_cons_succ, List.flatten_cons, List.flatten_nil, List.append_nil]; exact sg_right (sg_right hb)
  ·simp only [take, dropAt, List.getD_cons_zero, List.getD_cons_succ, List.flatten_cons, List.flatten_nil, List.append_nil]; exact sg_right (sg_left hb)
  ·unfold CfM.plain; simp only; rw [hL]
def RlM.zero : RlM := ⟨sZ, sZ, ⟨⟨#[]⟩, [], []⟩⟩
def FoundR (c : CfM) (t : Ty) (r : RlM) (ok : Bool) : Prop := match rfind c.plain.all t with
 | none => ok = false /\ r = RlM.zero
 | some j => ok = true /\ ∃ p s, c.spaces[p.1]? = some s /\ s.rels[p.2]? = some r /\ c.ix p = j
theorem find_none {l : List (ByteArray × Rl)} {t : Ty} (h : ∀ j x, j < l.length -> l[j]? = some x -> rkey x ≠ t) : rfind l t = none := by
 unfold rfind
 rw [List.findIdx?_eq_none_iff]
 intro x hx
 obtain ⟨j, hj, e⟩ := List.mem_iff_getElem.1 hx
 have := h j x hj (by rw [gge hj, e])
 simpa using this
theorem find_some {l : List (ByteArray × Rl)} {t : Ty} {i : Nat} {x : ByteArray × Rl} (hx : l[i]? = some x) (hk : rkey x = t) (h : ∀ j y, j < i -> l[j]? = some y -> rkey y ≠ t) : rfind l t = some i := by
 obtain ⟨hl, e⟩ := List.getElem?_eq_some_iff.1 hx
 unfold rfind
 rw [List.findIdx?_eq_some_iff_getElem]
 refine ⟨hl, by rw [e]; exact decide_eq_true hk, λ j hj => ?_⟩
 have := h j _ hj (gge (by omega))
 simpa using this
theorem sfind_spec (c : CfM) (R : Rds) (h : c.is R) (sp rel : ByteArray) : Spec prog 164 [.agg c.enc.toArray, .string sp, .string rel] R [] λ u H' => H' = [] /\ ∃ r ok, u = .tuple [.agg r.enc.toArray, .bool ok].toArray /\ FoundR c ⟨sp, rel⟩ r ok := by
 have hss := h.ss
 have i1 := hss.oneCell
 have i2 : One c.vc := RS.oneCell h.sc
 have hle := hss.le
 have hal := h.all
 have htot := total_all c.plain
 have hspl : c.plain.spaces.length = c.spaces.length := by unfold CfM.plain; simp
 have hpa : ∀ (i : Nat) (s : SpM), c.spaces[i]? = some s -> c.plain.spaces[i]? = some s.plain := λ i s hs => plain_at hs
 have hty := λ (p : Spot) (s : SpM) (r : RlM) => nms_typesC (c := c) (p := p) (s := s) (r := r)
 have hixd : ∀ i k, c.ix (i, k) = offs c.plain.spaces i + k := λ _ _ => rfl
 have hFR : ∀ r ok, FoundR c ⟨sp, rel⟩ r ok = (match rfind c.plain.all ⟨sp, rel⟩ with
  | none => ok = false /\ r = RlM.zero
  | some j => ok = true /\ ∃ p s, c.spaces[p.1]? = some s /\ s.rels[p.2]? = some r /\ c.ix p = j) := λ _ _ => rfl
 generalize hA : c.plain.all = A at *
 generalize hO_ : offs c.plain.spaces = of at *
 have hof0 : of 0 = 0 := by rw [<- hO_]; cases c.plain.spaces <;> rfl
 refine Spec.body Tryz.func164 rfl Tryz.results164 Tryz.ntmps164 rfl<|.sr ?_
 refine .boxA rfl (λ b3 => ?_)
 refine .allocA (λ b6 => ?_)
 refine .ag rfl<|.zs<|.sr<|.fa rfl<|.lo rfl<|.q (.lenR hss)<|.mo rfl<|.zn<|.block<|.loopS [(1, _), (2, _), (6, _), (13, _), (14, _)] (X := Nat) (λ i => i <= c.spaces.length /\ ∀ j x, j < of i -> A[j]? = some x -> rkey x ≠ ⟨sp, rel⟩) (λ i E => (15, iN i) :: E) (λ _ G => G) (λ i => c.spaces.length - i) 0 ⟨Nat.zero_le _, λ j x hj => by rw [hof0] at hj; omega⟩ kE.c.c.c.c.c.c rH ?_
 rintro i ⟨hi, hq⟩
 refine .sr<|.q .lss<|.zs<|.cond rfl (λ h1 => ?_) λ h1 => ?_
 have hlt : i < c.spaces.length := lt_i h1
 obtain ⟨⟨sn, sv, rls⟩, hs⟩ := exg hlt
 have hsi := hal _ (mog hs)
 have hrs : RS R 3 RlM.enc sv rls := hsi.rs
 have irs := hrs.oneCell
 have hler := hrs.le
 have isp : Ones (SpM.enc ⟨sn, sv, rls⟩) := ⟨hsi.ones⟩
 have hp1 := hpa i _ hs
 have hofn := offs_next hp1
 rw [hO_, show (SpM.plain ⟨sn, sv, rls⟩).rels.length = rls.length by simp [SpM.plain]] at hofn
 refine .kn<|.seq<|.block<|.sr ?_
 refine .indexR i hss hs (λ p17 => ?_)
 refine .q (.loadA rfl) ?_
 refine .allocA (λ b9 => ?_)
 refine .storeA rfl rfl<|.z<|.fa rfl<|.lo rfl<|.q (.lenR hrs)<|.mo rfl<|.zn<|.block<|.loopS [(1, _), (2, _), (6, _), (9, _), (13, _), (14, _), (15, _), (20, _), (21, _)] (X := Nat) (λ k => k <= rls.length /\ ∀ j x, j < of i + k -> A[j]? = some x -> rkey x ≠ ⟨sp, rel⟩) (λ k E => (22, iN k) :: E) (λ _ G => G) (λ k => rls.length - k) 0 ⟨Nat.zero_le _, λ j x hj => hq j x (by omega)⟩ kE.c.c.c.c.c.c.c.c.c.c rH ?_
 rintro k ⟨hk, hqk⟩
 refine .sr<|.q .lss<|.zs<|.cond rfl (λ h2 => ?_) λ h2 => ?_
 have hkt : k < rls.length := lt_i h2
 obtain ⟨⟨vt, vn, r⟩, hr⟩ := exg hkt
 have hri := hsi.all _ (mog hr)
 have irt : One vt := RS.oneCell hri.t
 have ird : One vn := RS.oneCell hri.d
 have hone : Ones (RlM.enc ⟨vt, vn, r⟩) := ⟨hri.ones⟩
 have hax := hty (i, k) _ _ hs hr
 rw [hixd] at hax
 refine .kn<|.seq<|.block<|.sr ?_
 refine .indexR k hrs hr (λ p24 => ?_)
 refine .q (.loadA rfl) ?_
 refine .allocA (λ b11 => ?_)
 refine .storeA rfl rfl<|.zs ?_
 refine Tri.cutS [(1, _), (2, _), (6, _), (9, _), (11, _), (13, _), (14, _), (15, _), (20, _), (21, _), (22, _)] kE.c.c.c.c.c.c.c.c.c.c.c (X := Unit) (λ _ => True) (λ _ E => (35, .bool (decide (sn = sp) && decide (r.name = rel))) :: E) (λ _ => [bl b11 (RlM.enc ⟨vt, vn, r⟩) 207, bl b9 (SpM.enc ⟨sn, sv, rls⟩) 187, bl b6 [.string ⟨#[]⟩, sZ, sZ] 207, bl b3 c.enc 25]) ?_ ?_
 refine .region<|.fa rfl<|.lo rfl<|.mo rfl<|.q .eqS<|.mo rfl<|.split (t := 30) rfl (λ g7_4 => ?_) (λ g7_4 => ?_)
 refine .gT g7_4<|.fa rfl<|.gT g7_4<|.lo rfl<|.gT g7_4<|.mo rfl<|.gT g7_4<|.q .eqS<|.q (.pickTh g7_4)<|.nil ?_
 ·exact joinQ_n () trivial (kE.c.c.c.c.c.c.c.c.c.c.c.consB rfl (by simp [h2, g7_4])) rH
 refine .gF g7_4<|.gF g7_4<|.gF g7_4<|.gF g7_4<|.q (.pickFh g7_4)<|.nil ?_
 ·exact joinQ_n () trivial (kE.c.c.c.c.c.c.c.c.c.c.c.consB rfl (by simp [h2, g7_4])) rH
 intro y hy
 refine seqQ_n<|.cond rfl (λ h3 => ?_) λ h3 => ?_
 refine .sr<|.q (.loadA rfl)<|.storeA rfl rfl<|.az rfl ?_
 refine .ret (blkQ_r (seqQ_r (loopQ_r (blkQ_r (blkQ_r (seqQ_r (loopQ_r (blkQ_r (seqQ_r (retQ_r _ (.two (.cellA rfl rfl) (.tmp rfl)) (.none _) ?_))))))))))
 ·refine ⟨rfl, ⟨vt, vn, r⟩, true, rfl, ?_⟩
  have h3' : sn = sp /\ r.name = rel := by simpa using h3
  rw [hFR, find_some hax (show (⟨sn, r.name⟩ : Ty) = _ by rw [h3'.1, h3'.2]) hqk]
  exact ⟨rfl, (i, k), _, hs, hr, hixd i k⟩
 refine .skip<|blkQ_n<|seqQ_n<|.region<|.ia (k + 1) .add<|.mo rfl<|.nil ?_
 ·exact loopQ_i (k + 1) ⟨hkt, λ j x hj hx => by
   rcases Nat.lt_or_ge j (of i + k) with hh | hh
   ·exact hqk j x hh hx
   ·obtain rfl : j = of i + k := by omega
    rw [hax] at hx
    cases hx
    intro he
    injection he with e1 e2
    have e1' : sn = sp := e1
    have e2' : r.name = rel := e2
    simp [e1', e2'] at h3⟩ (by omega) kE.c.c.c.c.c.c.c.c.c.c (pkH [1, 1, 1])
 have hke : k = rls.length := by have := odf h2; omega
 refine .exit<|seqQ_x<|loopQ_x<|blkQ_x<|blkQ_n<|seqQ_n<|.region<|.ia (i + 1) .add<|.mo rfl<|.nil ?_
 ·exact loopQ_i (i + 1) ⟨hlt, λ j x hj hx => hqk j x (by omega) hx⟩ (by omega) kE.c.c.c.c.c.c (pkH [1, 1])
 refine .exit<|seqQ_x<|loopQ_x<|blkQ_x<|seqQ_n<|.sr<|.q .bld<|.storeA rfl rfl<|.az rfl ?_
 refine .ret (retQ_r _ (.two (.cellA rfl rfl) (.tmp rfl)) (.none _) ?_)
 ·refine ⟨rfl, RlM.zero, false, rfl, ?_⟩
  have hie : of i = A.length := by
   have : i = c.spaces.length := by have := odf h1; omega
   rw [this, <- hspl, <- hO_, <- htot]
   rfl
  rw [hFR, find_none λ j x hj hx => hq j x (by omega) hx]
  exact ⟨rfl, rfl⟩
theorem sfits_spec (t : Ty) (s : Sub) (R : Rds) : Spec prog 255 [.agg t.enc.toArray, .agg s.enc.toArray] R [] λ u H' => u = .bool (fitT s t) /\ H' = [] := by
 obtain ⟨ts, tr⟩ := t
 obtain ⟨us, ss, si, sr⟩ := s
 refine Spec.body Tryz.func255 rfl Tryz.results255 Tryz.ntmps255 rfl<|.sr ?_
 refine .boxA rfl (λ b2 => ?_)
 refine .boxA rfl (λ b3 => ?_)
 refine .ag rfl<|.zs<|.sr<|.fa rfl<|.lo rfl<|.q .neS<|.zn<|.cond rfl (λ h1 => ?_) λ h1 => ?_
 refine .sr<|.q (.loadA rfl)<|.q .bld<|.q (.cast (.eqA (xs := Ty.enc ⟨ts, tr⟩) (ys := Ty.enc ⟨⟨#[]⟩, ⟨#[]⟩⟩) rfl rfl (Ty.kinds _) (Ty.kinds _)) (congrArg Value.bool (Ty.eq _ _)))<|.az rfl<|.ret (seqQ_r (rq1 rfl ?_))
 ·refine ⟨congrArg _ ?_, rfl⟩
  simp only [fitT]
  grind
 refine .kn<|.sr<|.fa rfl<|.lo rfl<|.q .neS<|.mo rfl<|.split (t := 14) rfl (λ g3_3 => ?_) (λ g3_3 => ?_)
 refine .gT g3_3<|.fa rfl<|.gT g3_3<|.lo rfl<|.gT g3_3<|.fa rfl<|.gT g3_3<|.fa rfl<|.gT g3_3<|.lo rfl<|.gT g3_3<|.q .eqS<|.q (.pickTh g3_3)<|.mo rfl<|.split (t := 22) rfl (λ g3_11 => ?_) (λ g3_11 => ?_)
 refine .gT g3_11<|.fa rfl<|.gT g3_11<|.lo rfl<|.gT g3_11<|.fa rfl<|.gT g3_11<|.lo rfl<|.gT g3_11<|.q .eqS<|.q (.pickTh g3_11)<|.az rfl<|.ret (rq1 rfl ?_)
 ·refine ⟨congrArg _ ?_, rfl⟩
  simp only [fitT]
  grind
 refine .gF g3_11<|.gF g3_11<|.gF g3_11<|.gF g3_11<|.gF g3_11<|.q (.pickFh g3_11)<|.az rfl<|.ret (rq1 rfl ?_)
 ·refine ⟨congrArg _ ?_, rfl⟩
  simp only [fitT]
  grind
 refine .gF g3_3<|.gF g3_3<|.gF g3_3<|.gF g3_3<|.gF g3_3<|.gF g3_3<|.q (.pickFh g3_3)<|.mo rfl<|.gX<|.gX<|.gX<|.gX<|.gX<|.q .pickF<|.az rfl<|.ret (rq1 rfl ?_)
 ·refine ⟨congrArg _ ?_, rfl⟩
  simp only [fitT]
  grind
theorem allowed1_spec (t : Ty) (s : Sub) (x1 x2 x3 : Value) (q : Nat) (R : Rds) [pc : PC R (pT q) (x1 :: x2 :: x3 :: s.enc)] : Spec prog 254 [.agg t.enc.toArray, pT q] R [] λ u H' => u = .bool (fitT s t) /\ H' = [] := by
 refine Spec.body Tryz.func254 rfl Tryz.results254 Tryz.ntmps254 rfl<|.sr ?_
 refine .boxA rfl (λ b2 => ?_)
 refine .ag rfl<|.z<|.q (.loadA rfl)<|.fa rfl<|.q (.loadT rfl)<|.callR (sfits_spec t s _) (λ u hu => ?_)
 subst hu
 refine .az rfl<|.ret (rq1 rfl ?_)
 ·exact ⟨rfl, rfl⟩
theorem allowed_spec (c : CfM) (R : Rds) (h : c.is R) (t : Tpl) : Spec prog 203 [.agg c.enc.toArray, .agg t.enc.toArray] R [] λ u H' => u = .int .i64 (if allowed c.plain t.obr t.sub then 0 else 14) /\ H' = [] := by
 have hfind := sfind_spec c R h t.os t.rel
 have hal := h.all
 have i1 : One c.vs := RS.oneCell h.ss
 have i2 : One c.vc := RS.oneCell h.sc
 have hall : allowed c.plain t.obr t.sub = match rfind c.plain.all ⟨t.os, t.rel⟩ with
  | none => false
  | some i => ((c.plain.all.map (·.2.types)).getD i []).any (fitT t.sub) := rfl
 refine Spec.body Tryz.func203 rfl Tryz.results203 Tryz.ntmps203 rfl<|.sr ?_
 refine .boxA rfl (λ b2 => ?_)
 refine .boxA rfl (λ b3 => ?_)
 refine .ag rfl<|.z<|.q (.loadA rfl)<|.fa rfl<|.fa rfl<|.lo rfl<|.fa rfl<|.lo rfl<|.callR ((hfind.mono λ u H' hu => ⟨hu.2, hu.1⟩).weaken rxl) (λ u hu => ?_)
 obtain ⟨r, ok, rfl, hF⟩ := hu
 obtain ⟨tys, hty, hany⟩ : ∃ tys, RS R 2 Ty.enc r.vt tys /\ allowed c.plain t.obr t.sub = (ok && tys.any (fitT t.sub)) := by
  rw [hall]
  unfold FoundR at hF
  cases hf : rfind c.plain.all ⟨t.os, t.rel⟩ with
  | none => rw [hf] at hF; obtain ⟨rfl, rfl⟩ := hF; exact ⟨[], RS.nil0, rfl⟩
  | some j =>
   rw [hf] at hF
   obtain ⟨rfl, p, s, hs, hr, hj⟩ := hF
   refine ⟨r.r.types, ((hal _ (mog hs)).all _ (mog hr)).t, ?_⟩
   have := nms_typesC hs hr
   rw [hj] at this
   simp only [Bool.true_and]
   rw [List.getD_eq_getElem?_getD, List.getElem?_map, this]
   rfl
 have hone : Ones r.enc := by
  unfold FoundR at hF
  cases hf : rfind c.plain.all ⟨t.os, t.rel⟩ with
  | none => rw [hf] at hF; obtain ⟨_, rfl⟩ := hF; exact ⟨by simp [RlM.enc, RlM.zero, oneCell]⟩
  | some j => rw [hf] at hF; obtain ⟨_, p, s, hs, hr, hj⟩ := hF; exact ⟨((hal _ (mog hs)).all _ (mog hr)).ones⟩
 obtain ⟨vt, vn, r⟩ := r
 simp only at hty
 refine .mo rfl<|.q .extract<|.q .extract ?_
 refine .allocA (λ b5 => ?_)
 refine .storeA rfl rfl<|.ag rfl<|.zs<|.sr<|.mo rfl<|.q .not<|.mo rfl<|.split (t := 19) rfl (λ g2_2 => ?_) (λ g2_2 => ?_)
 refine .gF g2_2<|.gF g2_2<|.gF g2_2<|.gF g2_2<|.gF g2_2<|.q (.pickTh g2_2)<|.zn<|.condT<|.sr<|.az rfl<|.ret (seqQ_r (rq1 rfl ?_))
 ·refine ⟨?_, rfl⟩
  rw [hany, if_neg (by simp_all)]
 refine .gT g2_2<|.fa rfl<|.gT g2_2<|.lo rfl<|.gT g2_2<|.q .makeFunc<|.gT g2_2 ?_
 refine .callR (LTY.containsF_spec 254 [pT b3] (fitT t.sub) vt tys _ hty.rx (λ y _ R' hR' => by
  have pcb : PC R' (pT b3) (.string t.os :: .string t.oi :: .string t.rel :: t.sub.enc) := PC.of (E := 151) (fr := (0, 0)) (hR' _ _ (.inr (by simp [Tpl.enc, Sub.enc, Tpl.sub])))
  exact allowed1_spec y t.sub _ _ _ b3 R')) (λ u hu => ?_)
 subst hu
 refine .gT g2_2<|.q .not<|.q (.pickFh g2_2)<|.zn<|.cond rfl (λ h1 => ?_) λ h1 => ?_
 refine .sr<|.az rfl<|.ret (seqQ_r (rq1 rfl ?_))
 ·refine ⟨?_, rfl⟩
  rw [hany, if_neg (by simp_all)]
 refine .kn<|.sr<|.az rfl<|.ret (rq1 rfl ?_)
 ·refine ⟨?_, rfl⟩
  rw [hany, if_pos (by simp_all)]
structure EnM where
 rev : Int
 c : CfM
 vn : Value
 ll : List NlM
def EnM.enc (e : EnM) : List Value := [.int .u64 e.rev, e.c.vs, e.c.vc, e.vn]
structure EnM.is (R : Rds) (e : EnM) : Prop where
 c : e.c.is R
 n : NN R e.vn e.ll
 ok : (e.c.plain.numbers isWord isRef).1 = 0
 eq : e.ll.map (·.2) = (e.c.plain.numbers isWord isRef).2
theorem EnM.is.mono {R R' : Rds} {e : EnM} (h : e.is R) (hR : ∀ b o, R b o -> R' b o) : e.is R' := ⟨h.c.mono hR, h.n.mono hR, h.ok, h.eq⟩
theorem EnM.is.ones {R : Rds} {e : EnM} (h : e.is R) : ∀ u ∈ e.enc, oneCell u = true := by
 have h1 := h.c.ss.oneCell
 have h2 := h.c.sc.oneCell
 have h3 := h.n.rs.oneCell
 intro u hu
 simp only [EnM.enc, List.mem_cons, List.not_mem_nil, or_false] at hu
 rcases hu with rfl | rfl | rfl | rfl
 ·rfl
 ·exact h1.h
 ·exact h2.h
 ·exact h3.h
theorem right_of_ok {c : Cf} (h : (c.numbers isWord isRef).1 = 0) : c.right isWord isRef = true := by
 cases hr : c.right isWord isRef with
 | true => rfl
 | false => unfold Cf.numbers at h; rw [if_pos hr] at h; cases h
def HI (hb : Nat) (es : List EnM) (gone : Nat) (T : Seg) : Prop := ∃ vl Te Tp, T = (hb, .cells [.bool true, vl, iN gone].toArray 116 (0, 0)) :: (Te ++ Tp) /\ OS 202 4 EnM.enc vl es Te /\ ∀ e ∈ es, e.is (sg Tp)
structure HV (R : Rds) (hb : Nat) (vl : Value) (es : List EnM) (gone : Nat) : Prop where
 pc : PC R (pT hb) [.bool true, vl, iN gone]
 rs : RS R 4 EnM.enc vl es
 all : ∀ e ∈ es, e.is R
theorem HI.view {hb : Nat} {es : List EnM} {gone : Nat} {T : Seg} {R : Rds} (h : HI hb es gone T) (hR : ∀ p ∈ T, R p.1 p.2) : ∃ vl, HV R hb vl es gone := by
 obtain ⟨vl, Te, Tp, rfl, hO, hI⟩ := h
 refine ⟨vl, PC.of (E := 116) (fr := (0, 0)) (hR (hb, _) (by simp)), hO.rs λ p hp => hR p (by simp [hp]), λ e he => (hI e he).mono λ b o hb => hR (b, o) ?_⟩
 have : (b, o) ∈ Tp := hb
 simp [this]
theorem hnew_spec (R : Rds) : Spec prog 36 [] R [] λ u H' => ∃ T, H' = [T] /\ ∃ hb, u = pT hb /\ HI hb [] 0 T := by
 refine Spec.body Tryz.func36 rfl Tryz.results36 Tryz.ntmps36 rfl<|.sr<|.ag rfl<|.z<|.q .bld ?_
 refine .boxA rfl (λ b2 => ?_)
 refine .az rfl<|.ret (retQ_r _ (.one (.tmp rfl)) (.one [0] _) ?_)
 ·exact ⟨_, rfl, b2, rfl, sZ, [], [], rfl, OS.nil, λ e he => (by cases he)⟩
section
variable {R : Rds} {hb : Nat} {vl : Value} {es : List EnM} {gone : Nat}
theorem HV.made (h : HV R hb vl es gone) : Spec prog 91 [pT hb] R [] λ u H' => u = .bool true /\ H' = [] := by
 have pc := h.pc
 have il := h.rs.oneCell
 refine Spec.body Tryz.func91 rfl Tryz.results91 Tryz.ntmps91 rfl<|.sr<|.ag rfl<|.z<|.mo rfl<|.q (.neNilP rfl rfl)<|.mo rfl<|.gt rfl<|.mo rfl<|.gt rfl<|.nc rfl<|.gt rfl<|.fa rfl<|.gt rfl<|.lo rfl<|.q .pickT<|.az rfl<|.ret (rq1 rfl ?_)
 ·exact ⟨rfl, rfl⟩
def hl (es : List EnM) (r : Int) : Nat -> Option Nat
 | 0 => none
 | n + 1 => match es[n]? with
  | some e => if e.rev <= r then some n else hl es r n
  | none => hl es r n
theorem hl_at {es : List EnM} {r : Int} : ∀ {n i : Nat}, hl es r n = some i -> i < n /\ ∃ e, es[i]? = some e
 | 0, i, h => by cases h
 | n + 1, i, h => by
  unfold hl at h
  split at h
  ·rename_i e he
   split at h
   ·cases h; exact ⟨by omega, e, he⟩
   ·obtain ⟨h1, h2⟩ := hl_at h; exact ⟨by omega, h2⟩
  ·obtain ⟨h1, h2⟩ := hl_at h; exact ⟨by omega, h2⟩
theorem HV.last (h : HV R hb vl es gone) (r : Int) : Spec prog 101 [pT hb, .int .u64 r] R [] λ u H' => u = .int .i64 (fI (hl es r es.length)) /\ H' = [] := by
 have pc := h.pc
 have hrs := h.rs
 have il := hrs.oneCell
 have hle := hrs.le
 have hal := h.all
 refine Spec.body Tryz.func101 rfl Tryz.results101 Tryz.ntmps101 rfl<|.sr<|.ag rfl<|.zs<|.sr<|.mo rfl<|.callR (h.made.weaken rxl) (λ u hu => ?_)
 subst hu
 refine .q .not<|.zn<|.condF<|.kn<|.sr<|.ag rfl<|.zs<|.sr<|.mo rfl<|.nc rfl<|.fa rfl<|.lo rfl<|.q (.lenR hrs)<|.mo rfl<|.zn<|.block<|.loopS [(1, _), (14, _), (15, _)] (X := Nat) (λ i => i <= es.length) (λ i E => (16, iN i) :: (5, .int .i64 (fI (hl es r i))) :: E) (λ _ G => G) (λ i => es.length - i) 0 (Nat.zero_le _) kE.c.c.c.c.c rH ?_
 rintro i hi
 refine .sr<|.q .lss<|.zs<|.cond rfl (λ h2 => ?_) λ h2 => ?_
 have hlt : i < es.length := lt_i h2
 obtain ⟨e, he⟩ := exg hlt
 have hone : Ones e.enc := ⟨(hal e (mog he)).ones⟩
 have hn : hl es r (i + 1) = if e.rev <= r then some i else hl es r i := by rw [hl, he]
 refine .kn<|.seq<|.block<|.sr<|.mo rfl ?_
 refine .indexR i hrs he (λ p19 => ?_)
 refine .q (.loadA rfl) ?_
 refine .allocA (λ b7 => ?_)
 refine .ag rfl<|.storeA rfl rfl<|.z<|.fa rfl<|.fa rfl<|.lo rfl<|.mo rfl<|.q .leq<|.zn ?_
 refine Tri.cutS [(1, _), (14, _), (15, _), (16, _)] kE.c.c.c.c (X := Unit) (λ _ => True) (λ _ E => (5, .int .i64 (fI (hl es r (i + 1)))) :: E) (λ _ => []) ?_ ?_
 refine .cond rfl (λ h3 => ?_) λ h3 => ?_
 refine .region<|.mo rfl<|.ag rfl<|.nil ?_
 ·exact joinQ_n () trivial (kE.c.c.c.c.consI rfl (by rw [hn]; first | rw [if_pos (odt h3)]; rfl | rw [if_neg (odf h3)])) (HLe.none _)
 refine .skip ?_
 ·exact joinQ_n () trivial (kE.c.c.c.c.consI rfl (by rw [hn]; first | rw [if_pos (odt h3)]; rfl | rw [if_neg (odf h3)])) (HLe.none _)
 intro x hx
 refine blkQ_n<|seqQ_n<|.region<|.ia (i + 1) .add<|.mo rfl<|.nil ?_
 ·exact loopQ_i (i + 1) hlt (by omega) kE.c.c.c.c.c rH
 refine .exit<|seqQ_x<|loopQ_x<|blkQ_x<|seqQ_n<|.sr<|.mo rfl<|.az rfl<|.ret (rq1 rfl ?_)
 ·refine ⟨?_, rfl⟩
  rw [show i = es.length by have := odf h2; omega]
def atV (es : List EnM) (gone : Nat) (r : Int) : Int := match hl es r es.length with
 | none => 0
 | some i => (gone + i + 1 : Nat)
def atC (es : List EnM) (r : Int) : Option EnM := (hl es r es.length).bind λ i => es[i]?
theorem HV.at_ (h : HV R hb vl es gone) (r : Int) (hg : gone <= 1000000 /\ es.length <= 1000000) : Spec prog 44 [pT hb, .int .u64 r] R [] λ u H' => ∃ T, H' = [T] /\ ∃ c' : CfM, u = .tuple [.agg c'.enc.toArray, .int .i64 (atV es gone r)].toArray /\ c'.is (sg T) /\ c'.plain = ((atC es r).map (·.c.plain)).getD ⟨[], []⟩ := by
 have pc := h.pc
 have hrs := h.rs
 have il := hrs.oneCell
 have hle := hrs.le
 have hal := h.all
 obtain ⟨hg1, hg2⟩ := hg
 refine Spec.body Tryz.func44 rfl Tryz.results44 Tryz.ntmps44 rfl<|.sr ?_
 refine .allocA (λ b4 => ?_)
 refine .ag rfl<|.z<|.mo rfl<|.mo rfl<|.callR ((h.last r).weaken rxl) (λ u hu => ?_)
 subst hu
 refine .ag rfl<|.zs<|.sr<|.mo rfl<|.q .lss<|.zn<|.cond rfl (λ h1 => ?_) λ h1 => ?_
 have hn : hl es r es.length = none := by
  cases hh : hl es r es.length with
  | none => rfl
  | some i => rw [hh] at h1; simp only [fI] at h1; have := odt h1; omega
 refine .sr<|.q .bld<|.storeA rfl rfl<|.az rfl ?_
 refine .ret (seqQ_r (retQ_r _ (.two (.cellA rfl rfl) (.tmp rfl)) HLe.nil1 ?_))
 ·refine ⟨[], rfl, ⟨sZ, sZ, [], []⟩, ?_, ⟨RS.nil0, RS.nil0, λ s hs => (by cases hs), λ s hs => (by cases hs)⟩, ?_⟩
  ·unfold atV; rw [hn]; rfl
  ·unfold atC; rw [hn]; rfl
 obtain ⟨i, hi⟩ : ∃ i, hl es r es.length = some i := by
  cases hh : hl es r es.length with
  | none => rw [hh] at h1; simp [fI] at h1
  | some i => exact ⟨i, rfl⟩
 obtain ⟨hil, e, he⟩ := hl_at hi
 have hei := hal e (mog he)
 have hone : Ones e.enc := ⟨hei.ones⟩
 have hcp := copied_spec e.c R hei.c (fewC_of (right_of_ok hei.ok))
 have hfi : fI (hl es r es.length) = (i : Int) := by rw [hi]; rfl
 have pe := hrs.pc he
 rw [hfi]
 refine .kn<|.seq ?_
 refine Tri.cutS [(4, _)] kE.c (X := CfM × Seg) (λ y => y.1.is (sg y.2) /\ y.1.plain = e.c.plain) (λ _ E => (5, .int .i64 ((gone + i + 1 : Nat) : Int)) :: E) (λ y => [y.2, bl b4 y.1.enc 25]) ?_ ?_
 refine .region_all [17] mixed<|.tO 0 rfl .move<|.tO 1 rfl (.nilCheck rfl)<|.tO 2 rfl (.fieldAddr rfl)<|.tO 3 rfl (.load1 rfl)<|.tO 4 rfl .move<|.tO 5 rfl (.indexR i hrs he rfl rfl rfl)<|.tO 6 rfl (.fieldAddr rfl)<|.tO 7 rfl (.fieldAddr rfl)<|.tO 8 rfl (.loadT rfl)<|.tK 10 rfl .move<|.tK 11 rfl (.nilCheckA rfl)<|.tK 12 rfl (.fieldAddrA rfl)<|.tK 13 rfl (.load1 rfl)<|.tK 14 rfl .move<|.take 15 rfl (.i64 ((gone + i : Nat) : Int) .add ⟨by omega, by omega, by omega⟩) (by kernel_rfl)<|.take 16 rfl (.i64 ((gone + i + 1 : Nat) : Int) .add ⟨by omega, by omega, by omega⟩) (by kernel_rfl)<|.sT 9 rfl<|.callN (hcp.weaken rxl) (λ u T9 hu => ?_)
 obtain ⟨c', rfl, hc', hcpl⟩ := hu
 have hcc : Ones c'.enc := ⟨hc'.ones⟩
 have ic1 : One c'.vs := RS.oneCell hc'.ss
 have ic2 : One c'.vc := RS.oneCell hc'.sc
 refine .nil<|Next.sub<|.sT 17 rfl<|.storeA rfl rfl<|.nil<|Next.mod rfl<|.tK 18 rfl .assign<|RA.nil (by kernel_rfl) ?_
 ·exact joinQ_n (c', T9) ⟨hc', hcpl⟩ kE.c.c (by first | exact HLe.refl _ | exact HLe.pick [0, 0] _ | exact pkH [1, 0])
 intro y hy
 obtain ⟨c', T9⟩ := y
 obtain ⟨hc', hcpl⟩ := hy
 simp only at hc' hcpl ⊢
 refine seqQ_n<|.ret (retQ_r _ (.two (.cellA rfl rfl) (.tmp rfl)) (.one [0] _) ?_)
 ·refine ⟨T9, by simp [take], c', ?_, hc', ?_⟩
  ·unfold atV; rw [hi]
  ·unfold atC; rw [hi, Option.bind_some, he]; exact hcpl
end
theorem HV.numbers {R : Rds} {hb : Nat} {vl : Value} {es : List EnM} {gone : Nat} (h : HV R hb vl es gone) (r : Int) (hl8 : ∀ e ∈ es, e.ll.length <= 1000000 /\ ∀ q ∈ e.ll, q.2.length <= 1000000) : Spec prog 103 [pT hb, .int .u64 r] R [] λ u H' => ∃ T, H' = [T] /\ ∃ ll, NN (sg T) u ll /\ ll.map (·.2) = ((atC es r).map λ e => e.ll.map (·.2)).getD [] := by
 have pc := h.pc
 have hrs := h.rs
 have il := hrs.oneCell
 have hle := hrs.le
 have hal := h.all
 refine Spec.body Tryz.func103 rfl Tryz.results103 Tryz.ntmps103 rfl<|.sr<|.ag rfl<|.z<|.mo rfl<|.mo rfl<|.callR ((h.last r).weaken rxl) (λ u hu => ?_)
 subst hu
 refine .ag rfl<|.zs<|.sr<|.mo rfl<|.q .lss<|.zn<|.cond rfl (λ h1 => ?_) λ h1 => ?_
 have hn : hl es r es.length = none := by
  cases hh : hl es r es.length with
  | none => rfl
  | some i => rw [hh] at h1; simp only [fI] at h1; have := odt h1; omega
 refine .sr<|.az rfl<|.ret (seqQ_r (retQ_r _ (.one (.tmp rfl)) HLe.nil1 ?_))
 ·refine ⟨[], rfl, [], .nil, ?_⟩
  unfold atC; rw [hn]; rfl
 obtain ⟨i, hi⟩ : ∃ i, hl es r es.length = some i := by
  cases hh : hl es r es.length with
  | none => rw [hh] at h1; simp [fI] at h1
  | some i => exact ⟨i, rfl⟩
 obtain ⟨hil, e, he⟩ := hl_at hi
 have hei := hal e (mog he)
 have hn := hei.n
 have hnr := hn.rs
 have inr := hnr.oneCell
 obtain ⟨hl1, hl2⟩ := hl8 e (mog he)
 have ic1 : One e.c.vs := RS.oneCell hei.c.ss
 have ic2 : One e.c.vc := RS.oneCell hei.c.sc
 have hfi : fI (hl es r es.length) = (i : Int) := by rw [hi]; rfl
 rw [hfi]
 refine .kn<|.sr<|.ag rfl<|.zs<|.sr<|.mo rfl<|.nc rfl<|.fa rfl<|.lo rfl<|.mo rfl ?_
 refine .indexR i hrs he (λ p19 => ?_)
 refine .fa rfl<|.lo rfl<|.q (.lenR hnr)<|.mo rfl<|.zn<|.block<|.loopS [(21, _), (22, _)] (X := Nat × Value × List NlM × Seg × Seg) (λ y => y.1 <= e.ll.length /\ OS 127 1 encV1 y.2.1 y.2.2.1 y.2.2.2.1 /\ (∀ q ∈ y.2.2.1, RS (sg y.2.2.2.2) 1 encNt q.1 q.2) /\ y.2.2.1.map (·.2) = (e.ll.take y.1).map (·.2)) (λ y E => (23, iN y.1) :: (6, y.2.1) :: E) (λ y G => y.2.2.2.1 :: y.2.2.2.2 :: G) (λ y => e.ll.length - y.1) (0, sZ, [], [], []) ⟨Nat.zero_le _, OS.nil, λ q hq => (by cases hq), rfl⟩ kE.c.c.c.c HLe.new00 ?_
 rintro ⟨k, vo, L, To, Tp⟩ ⟨hk, hO, hI, hL⟩
 simp only at hk hO hI hL ⊢
 have io := hO.oneCell
 have hLl : L.length = k := by have := congrArg List.length hL; rw [List.length_map, List.length_map, List.length_take] at this; omega
 refine .sr<|.q .lss<|.zs<|.cond rfl (λ h2 => ?_) λ h2 => ?_
 have hkt : k < e.ll.length := lt_i h2
 obtain ⟨q, hq⟩ := exg hkt
 have hqr := hn.all q (mog hq)
 have iq := hqr.oneCell
 refine .kn<|.seq<|.block<|.sr ?_
 refine .indexR k hnr hq (λ p25 => ?_)
 refine .lo rfl<|.az rfl<|.region<|.mo rfl<|.mo rfl<|.callN (LIN.clone_spec q.1 q.2 _ hqr.rx (hl2 q (mog hq))) (λ u T1 hu => ?_)
 have iu := hu.oneCell
 obtain ⟨pu, cu, rfl, _⟩ := hu.shape
 refine .buildSlice11 (λ b30 => ?_)
 refine .append hO (RS.lits (xs := [((.slice pu q.2.length cu, q.2) : NlM)]) rfl (by simp [encV1]) (by simp [encV1, oneCell])) (by simp only [List.length_singleton]; omega) (λ v5 T5 hv5 => ?_)
 have i5 := hv5.oneCell
 refine .ag rfl<|.nil<|blkQ_n<|seqQ_n<|.region<|.ia (k + 1) .add<|.mo rfl<|.nil ?_
 ·exact loopQ_i (k + 1, v5, L ++ [(.slice pu q.2.length cu, q.2)], T5, T1 ++ Tp) ⟨hkt, hv5, λ q' hq' => by
   rcases List.mem_append.1 hq' with hq' | hq'
   ·exact (hI q' hq').mono λ b o hb => sg_right hb
   ·rw [List.mem_singleton] at hq'
    subst hq'
    exact hu.sg.mono λ b o hb => sg_left hb, by simp only; rw [take_next hq, List.map_append, List.map_append, hL]; rfl⟩ (by simp only; omega) kE.c.c.c.c ((pkH [2, 1, 1]).trans (HLe.ofPerm (by simp [take, dropAt])))
 refine .exit<|seqQ_x<|loopQ_x<|blkQ_x<|seqQ_n<|.sr<|.mo rfl<|.az rfl<|.ret (retQ_r _ (.one (.tmp rfl)) (.one [0, 0] _) ?_)
 ·refine ⟨To ++ Tp, by simp [take, dropAt], L, ⟨hO.sg.mono λ b o hb => sg_left hb, λ q hq => (hI q hq).mono λ b o hb => sg_right hb⟩, ?_⟩
  rw [take_end (ge_i h2)] at hL
  unfold atC; rw [hi, Option.bind_some, he, hL]; rfl
def hcode (es : List EnM) (rev : Int) (c : Cf) : Int :=
 if (es.getLast?.map λ e => decide (rev <= e.rev)).getD false then 12 else if (c.numbers isWord isRef).1 ≠ 0 then (c.numbers isWord isRef).1 else if 16 <= es.length then 8 else 0
theorem hadd_spec (hb : Nat) (es : List EnM) (gone : Nat) (T : Seg) (h : HI hb es gone T) (hel : es.length <= 1000) (rev : Int) (c : CfM) (R : Rds) (hc : c.is R) :
  Spec prog 40 [pT hb, .int .u64 rev, .agg c.enc.toArray] R [T] λ u H' => ∃ T', H' = [T'] /\ u = .int .i64 (hcode es rev c.plain) /\ (hcode es rev c.plain = 0 -> ∃ e : EnM, e.rev = rev /\ e.c.plain = c.plain /\ HI hb (es ++ [e]) gone T') /\ (hcode es rev c.plain ≠ 0 -> HI hb es gone T') := by
 have hnum := numbers_spec c R hc
 have hcp := copied_spec c R hc
 have i1 : One c.vs := RS.oneCell hc.ss
 have i2 : One c.vc := RS.oneCell hc.sc
 obtain ⟨vl, Te, Tp, rfl, hO, hI⟩ := h
 have il := hO.oneCell
 have hpl : (c.plain.numbers isWord isRef).1 = 0 -> c.fewC := λ h0 => fewC_of (right_of_ok h0)
 have hcd : hcode es rev c.plain = if (es.getLast?.map λ e => decide (rev <= e.rev)).getD false then 12 else if (c.plain.numbers isWord isRef).1 ≠ 0 then (c.plain.numbers isWord isRef).1 else if 16 <= es.length then 8 else 0 := rfl
 generalize hk : hcode es rev c.plain = kc at *
 generalize hnn : c.plain.numbers isWord isRef = nn at *
 have hHV : ∀ R' : Rds, (∀ p ∈ ((hb, .cells [.bool true, vl, iN gone].toArray 116 (0, 0)) :: (Te ++ Tp) : Seg), R' p.1 p.2) -> HV R' hb vl es gone := λ R' hR => by
  refine ⟨PC.of (E := 116) (fr := (0, 0)) (hR (hb, _) (by simp)), hO.rs λ p hp => hR p (by simp [hp]), λ e he => (hI e he).mono λ b o hb => hR (b, o) ?_⟩
  have : (b, o) ∈ Tp := hb
  simp [this]
 have hback : ∀ w, HI hb es gone w ↔ ∃ vl Te Tp, w = (hb, .cells [.bool true, vl, iN gone].toArray 116 (0, 0)) :: (Te ++ Tp) /\ OS 202 4 EnM.enc vl es Te /\ ∀ e ∈ es, e.is (sg Tp) := λ _ => Iff.rfl
 refine Spec.segs (H' := [bl hb [.bool true, vl, iN gone] 116, Te, Tp]) (by simp)<|Spec.body Tryz.func40 rfl Tryz.results40 Tryz.ntmps40 rfl<|.sr ?_
 refine .boxA rfl (λ b5 => ?_)
 refine .ag rfl<|.zs<|.block<|.sr<|.mo rfl ?_
 refine .callR (HV.made (hHV _ λ p hp => .inr (by
  rcases List.mem_cons.1 hp with rfl | hp
  ·simp
  ·rcases List.mem_append.1 hp with hp | hp <;> simp [hp]))) (λ u hu => ?_)
 subst hu
 refine .q .not<|.az rfl<|.condF<|.seq ?_
 refine Tri.cutS [(0, _), (1, _), (5, _)] kE.c.c.c (X := Unit) (λ _ => True) (λ _ E => (13, .bool ((es.getLast?.map λ e => decide (rev <= e.rev)).getD false)) :: E) (λ _ => [bl b5 c.enc 25, bl hb [.bool true, vl, iN gone] 116, Te, Tp]) ?_ ?_
 refine .region_still mixed (by kernel_rfl)<|.mo rfl<|.nc rfl<|.fa rfl<|.lo rfl<|.q (.lenO hO)<|.q .gtr<|.mo rfl<|.split (t := 20) rfl (λ g3_6 => ?_) (λ g3_6 => ?_)
 obtain ⟨n, hn⟩ : ∃ n, es.length = n + 1 := ⟨es.length - 1, by have := odt g3_6; omega⟩
 obtain ⟨el, hel2⟩ : ∃ e, es[n]? = some e := ⟨_, gge (by omega)⟩
 have hlast : es.getLast? = some el := by rw [List.getLast?_eq_getElem?, hn]; exact hel2
 have hiel := hI el (mog hel2)
 have iel : Ones el.enc := ⟨hiel.ones⟩
 refine .gT g3_6<|.mo rfl<|.gT g3_6<|.mo rfl<|.gT g3_6<|.nc rfl<|.gT g3_6<|.fa rfl<|.gT g3_6<|.lo rfl<|.gT g3_6<|.mo rfl<|.gT g3_6<|.nc rfl<|.gT g3_6<|.fa rfl<|.gT g3_6<|.lo rfl<|.gT g3_6<|.q (.lenO hO)<|.gT g3_6<|.q (.i64 (n : Int) .sub ⟨by omega, by omega, by omega⟩)<|.gT g3_6 ?_
 refine .indexO n hO hel2 (λ p32 => ?_)
 refine .gT g3_6<|.fa rfl<|.gT g3_6<|.fa rfl<|.gT g3_6<|.lo rfl<|.gT g3_6<|.q .leq<|.q (.pickTh g3_6)<|.ag rfl<|.nil ?_
 ·exact joinQ_n () trivial (kE.c.c.c.consB rfl (by first | rfl | (rw [hlast]; rfl))) rH
 have hnil : es = [] := List.eq_nil_of_length_eq_zero (by have := odf g3_6; omega)
 subst hnil
 refine .gF g3_6<|.gF g3_6<|.gF g3_6<|.gF g3_6<|.gF g3_6<|.gF g3_6<|.gF g3_6<|.gF g3_6<|.gF g3_6<|.gF g3_6<|.gF g3_6<|.gF g3_6<|.gF g3_6<|.gF g3_6<|.gF g3_6<|.gF g3_6<|.q (.pickFh g3_6)<|.ag rfl<|.nil ?_
 ·exact joinQ_n () trivial (kE.c.c.c.consB rfl (by first | rfl | (rw [hlast]; rfl))) rH
 intro y hy
 refine seqQ_n<|.cond rfl (λ h2 => ?_) λ h2 => ?_
 refine .sr<|.az rfl<|.ret (blkQ_r (seqQ_r (retQ_r _ (.one (.tmp rfl)) (.one [1, 1, 1] _) ?_)))
 ·have h2' : ((es.getLast?.map λ e => decide (rev <= e.rev)).getD false) = true := h2
  have hz : kc = 12 := by rw [hcd, if_pos h2']
  have hnz : kc ≠ 0 := by rw [hz]; decide
  exact ⟨_, rfl, by rw [hz], λ hh => absurd hh hnz, λ _ => (hback _).2 ⟨vl, Te, Tp, by simp [take, dropAt], hO, hI⟩⟩
 refine .skip<|blkQ_n<|seqQ_n<|.sr<|.q (.loadA rfl)<|.callN (hnum.weaken rxl) (λ u T7 hu7 => ?_)
 obtain ⟨w7, ll, rfl, hNN, hll⟩ := hu7
 have i7 := hNN.rs.oneCell
 refine .mo rfl<|.q .extract<|.q .extract<|.ag rfl<|.ag rfl<|.zs<|.block<|.sr<|.mo rfl<|.q .neI<|.az rfl<|.cond rfl (λ h3 => ?_) λ h3 => ?_
 have hne : nn.1 ≠ 0 := by simpa using h3
 refine .sr<|.mo rfl<|.az rfl<|.ret (blkQ_r (seqQ_r (retQ_r _ (.one (.tmp rfl)) (.one [2, 2, 2] _) ?_)))
 ·have h2' : ((es.getLast?.map λ e => decide (rev <= e.rev)).getD false) = false := h2
  have hz : kc = nn.1 := by rw [hcd, if_neg (by rw [h2']; simp), if_pos hne]
  exact ⟨_, rfl, by rw [hz], λ hh => absurd (hz.symm.trans hh) hne, λ _ => (hback _).2 ⟨vl, Te, Tp, by simp [take, dropAt], hO, hI⟩⟩
 have h0 : nn.1 = 0 := by simpa using h3
 refine .sr<|.mo rfl<|.nc rfl<|.fa rfl<|.lo rfl<|.q (.lenO hO)<|.q .geq<|.az rfl<|.cond rfl (λ h4 => ?_) λ h4 => ?_
 refine .sr<|.az rfl<|.ret (blkQ_r (seqQ_r (retQ_r _ (.one (.tmp rfl)) (.one [2, 2, 2] _) ?_)))
 ·have h2' : ((es.getLast?.map λ e => decide (rev <= e.rev)).getD false) = false := h2
  have hz : kc = 8 := by rw [hcd, if_neg (by rw [h2']; simp), if_neg (by rw [h0]; simp), if_pos (by have := odt h4; omega)]
  have hnz : kc ≠ 0 := by rw [hz]; decide
  exact ⟨_, rfl, by rw [hz], λ hh => absurd hh hnz, λ _ => (hback _).2 ⟨vl, Te, Tp, by simp [take, dropAt], hO, hI⟩⟩
 have hlt16 : ¬ 16 <= es.length := by have := odf h4; omega
 have h2' : ((es.getLast?.map λ e => decide (rev <= e.rev)).getD false) = false := h2
 have hz : kc = 0 := by rw [hcd, if_neg (by rw [h2']; simp), if_neg (by rw [h0]; simp), if_neg hlt16]
 refine .skip<|blkQ_n<|seqQ_n<|.seq ?_
 refine Tri.cutS [] (EnvLe.nil _) (X := Value × Seg × EnM × Seg) (λ y => OS 202 4 EnM.enc y.1 (es ++ [y.2.2.1]) y.2.1 /\ y.2.2.1.is (sg y.2.2.2) /\ y.2.2.1.rev = rev /\ y.2.2.1.c.plain = c.plain) (λ _ E => E) (λ y => [bl hb [.bool true, y.1, iN gone] 116, y.2.1, y.2.2.2, Tp]) ?_ ?_
 refine .region_all [12, 15] mixed<|.tK 0 rfl .move<|.tO 1 rfl .move<|.tO 2 rfl (.nilCheck rfl)<|.tO 3 rfl (.fieldAddr rfl)<|.tO 4 rfl (.load1 rfl)<|.tO 5 rfl .move<|.tO 6 rfl (.loadA rfl)<|.tO 9 rfl .move<|.sT 7 rfl<|.callN ((hcp (hpl h0)).weaken rxl) (λ u T9 hu => ?_)
 obtain ⟨c', rfl, hc', hcpl⟩ := hu
 have ic1 : One c'.vs := RS.oneCell hc'.ss
 have ic2 : One c'.vc := RS.oneCell hc'.sc
 obtain ⟨ps, cs, es1⟩ := hc'.ss.val
 obtain ⟨pc, cc, es2⟩ := hc'.sc.val
 obtain ⟨pw, cw, es3⟩ := hNN.rs.val
 obtain ⟨vs', vc', sps', scs'⟩ := c'
 simp only at es1 es2 es3
 subst es1 es2 es3
 refine .nil<|Next.sub<|.tO 8 rfl .bld<|.tO 10 rfl .bld<|.sT 11 rfl ?_
 refine .buildSlice1A (λ b65 => ?_)
 refine .nil<|Next.sub<|.sT 12 rfl<|.append hO (RS.lits (xs := [(⟨rev, ⟨.slice ps sps'.length cs, .slice pc scs'.length cc, sps', scs'⟩, .slice pw ll.length cw, ll⟩ : EnM)]) rfl (by simp [EnM.enc]) (by simp [EnM.enc, oneCell])) (by simp only [List.length_singleton]; omega) (λ v5 T5 hv5 => ?_)
 have i5 := hv5.oneCell
 refine .nil<|Next.mod rfl<|.tK 13 rfl (.nilCheckA rfl)<|.tK 14 rfl (.fieldAddrA rfl)<|.sT 15 rfl<|.store1 rfl rfl<|.nil<|Next.mod rfl<|RA.nil (by kernel_rfl) ?_
 ·exact joinQ_n (v5, T5, _, T9 ++ T7) ⟨hv5, ⟨hc'.mono λ b o hb => sg_left hb, hNN.mono λ b o hb => sg_right hb, by simp only; rw [hcpl, hnn]; exact h0, by simp only; rw [hcpl, hnn]; exact hll⟩, rfl, hcpl⟩ (EnvLe.nil _) (by first | exact (pkH [4, 4, 1, 1, 2]).trans (HLe.ofPerm (by simp [take, dropAt, setL])) | exact (pkH [3, 3, 0, 1, 2]).trans (HLe.ofPerm (by simp [take, dropAt, setL])))
 intro y hy
 obtain ⟨v5, T5, e5, T9⟩ := y
 obtain ⟨hv5, he5, he5r, he5c⟩ := hy
 simp only at hv5 he5 he5r he5c ⊢
 refine seqQ_n<|.sr<|.az rfl<|.ret (retQ_r _ (.one (.tmp rfl)) (.one [0, 0, 0, 0] _) ?_)
 ·refine ⟨_, rfl, by rw [hz], λ _ => ⟨e5, he5r, he5c, v5, T5, T9 ++ Tp, by simp [take, dropAt], hv5, λ e he => ?_⟩, λ hh => absurd hz hh⟩
  rcases List.mem_append.1 he with he | he
  ·exact (hI e he).mono λ b o hb => sg_right hb
  ·rw [List.mem_singleton] at he
   subst he
   exact he5.mono λ b o hb => sg_left hb
theorem rahead_spec (a b : SRow) (R : Rds) : Spec prog 183 [.agg a.enc.toArray, .agg b.enc.toArray] R [] λ v H' => v = .bool (rlt a b) /\ H' = [] := by
 refine Spec.body Tryz.func183 rfl Tryz.results183 Tryz.ntmps183 rfl<|.sr ?_
 refine .boxA rfl (λ b2 => ?_)
 refine .boxA rfl (λ b3 => ?_)
 refine .ag rfl<|.z<|.fa rfl<|.q (.loadT rfl)<|.fa rfl<|.q (.loadT rfl)<|.callR (rless_spec a.t b.t _) (λ v hv => ?_)
 subst hv
 refine .mo rfl<|.split (t := 10) rfl (λ g1_5 => ?_) (λ g1_5 => ?_)
 refine .gF g1_5<|.gF g1_5<|.gF g1_5<|.gF g1_5<|.gF g1_5<|.gF g1_5<|.gfU rfl<|.gfU rfl<|.gfU rfl<|.gfU rfl<|.gfU rfl<|.gF g1_5<|.q (.pickTh g1_5)<|.az rfl<|.ret (rq1 rfl ?_)
 ·refine ⟨congrArg _ ?_, rfl⟩
  unfold rlt
  simp_all
 refine .gT g1_5<|.fa rfl<|.gT g1_5<|.q (.loadT rfl) ?_
 refine .gT g1_5<|.fa rfl<|.gT g1_5<|.q (.loadT rfl) ?_
 refine .gT g1_5<|.q (.eqA rfl rfl (Tpl.kinds a.t) (Tpl.kinds b.t)) ?_
 rw [show cellsEq (List.take 7 (List.drop 0 a.enc)) (List.take 7 (List.drop 0 b.enc)) = decide (a.t = b.t) from Tpl.eq a.t b.t]
 refine .gT g1_5<|.mo rfl<|.split (t := 16) rfl (λ g1_11 => ?_) (λ g1_11 => ?_)
 refine .gT g1_11<|.fa rfl<|.gT g1_11<|.lo rfl<|.gT g1_11<|.fa rfl<|.gT g1_11<|.lo rfl<|.gT g1_11<|.q .lss<|.gT g1_5<|.q (.pickTh g1_11)<|.q (.pickFh g1_5)<|.az rfl<|.ret (rq1 rfl ?_)
 ·refine ⟨congrArg _ ?_, rfl⟩
  unfold rlt
  simp_all
 refine .gF g1_11<|.gF g1_11<|.gF g1_11<|.gF g1_11<|.gF g1_11<|.gT g1_5<|.q (.pickFh g1_11)<|.q (.pickFh g1_5)<|.az rfl<|.ret (rq1 rfl ?_)
 ·refine ⟨congrArg _ ?_, rfl⟩
  unfold rlt
  simp_all
theorem rins12_spec (v : Value) (l : List SRow) (t : SRow) (R : Rds) (h : RS R 9 SRow.enc v l) (hl : l.length <= 100000) :
    Spec prog 125 [v, .agg t.enc.toArray] R [] λ u H' => ∃ T, H' = [T] /\ OS 241 9 SRow.enc u (gins rlt t l) T := by
  obtain ⟨pv, kv_, rfl⟩ := h.val
  refine Spec.segs (H' := [[]]) (by simp)<|Spec.body Tryz.func125 rfl Tryz.results125 Tryz.ntmps125 rfl<|.sr ?_
  refine .boxA rfl (λ b3 => ?_)
  refine .ag rfl<|.z<|.ag rfl<|.z<|.ag rfl<|.zs<|.sr<|.az rfl<|.block<|.loop (X := Nat × Value × Seg) (λ y => y.1 <= l.length /\ OS 241 9 SRow.enc y.2.1 (gpre rlt t (l.take y.1)) y.2.2) (λ y => [(0, .slice pv l.length kv_), (3, pT b3), (5, y.2.1), (6, .bool ((l.take y.1).any (rlt t))), (7, iN y.1)]) (λ y => [bl b3 t.enc 241, y.2.2]) (λ y => l.length - y.1) (0, sZ, []) ⟨Nat.zero_le _, OS.nil⟩ kE.c.c.c.c.c rH ?_
  rintro ⟨i, vo, To⟩ ⟨hi, hO⟩
  simp only at hi hO ⊢
  have io := hO.oneCell
  have hgl : (gpre rlt t (l.take i)).length <= 100001 := Nat.le_trans gpre_len (by rw [List.length_take]; omega)
  refine .seq<|.sr<|.mo rfl<|.mo rfl<|.q (.lenR h)<|.q .lss<|.zn<|.cond rfl (λ h1 => ?_) λ h1 => ?_
  have hlt : i < l.length := lt_i h1
  obtain ⟨x, hx⟩ := exg hlt
  have e4 := gmid_next (lt := rlt) (p := t) hx
  refine .kn<|.seq<|.block<|.seq ?_
  refine Tri.cut (X := Value × Seg) (λ z => OS 241 9 SRow.enc z.1 (gmid rlt t (l.take i) x) z.2) (λ z => [(0, .slice pv l.length kv_), (3, pT b3), (5, z.1), (6, .bool ((l.take (i + 1)).any (rlt t))), (7, iN i)]) (λ z => [bl b3 t.enc 241, z.2]) ?_ ?_
  refine .seq<|.region_tail 8 mixed (by kernel_rfl) ?_
  conv => arg 6; dsimp only [List.take]
  refine .mo rfl<|.q .not<|.mo rfl<|.split (t := 16) rfl (λ g6_2 => ?_) (λ g6_2 => ?_)
  refine .gT g6_2<|.q (.loadA rfl)<|.gT g6_2<|.mo rfl<|.gT g6_2<|.mo rfl<|.gT g6_2 ?_
  refine .indexR i h hx (λ p20 => ?_)
  refine .gT g6_2<|.q (.loadA rfl)<|.nil<|.gT g6_2<|.callR (rahead_spec t x _) (λ v hv => ?_)
  subst hv
  refine .q (.pickTh g6_2)<|.zn<|.cond rfl (λ h2 => ?_) λ h2 => ?_
  first | have hput := gmid_put hx g6_2 h2 | skip
  refine .sr<|.mo rfl<|.q (.loadA rfl) ?_
  refine .buildSlice1A (λ b26 => ?_)
  refine .append hO (RS.lits (xs := [t]) rfl (by simp [SRow.enc, Tpl.enc]) (by simp [SRow.enc, Tpl.enc, oneCell])) (by simp only [List.length_singleton]; omega) (λ v5 T5 hO5 => ?_)
  refine .az rfl<|.region<|.ag rfl<|.nil ?_
  · first
      | (obtain ⟨hm, hA⟩ := hput
         exact joinQ_n (v5, T5) (by simp only; rw [hm]; exact hO5) (by simp only; rw [hA]; exact kE.c.c.c.c.c) (pkH [1, 1]))
      | (obtain ⟨hm, hA⟩ := hnot
         exact joinQ_n (vo, To) (by simp only; rw [hm]; simpa using hO) (by simp only; rw [hA]; exact kE.c.c.c.c.c) rH)
  first | have hnot := gmid_not (p := t) hx (.inr h2) | skip
  refine .skip ?_
  · first
      | (obtain ⟨hm, hA⟩ := hput
         exact joinQ_n (v5, T5) (by simp only; rw [hm]; exact hO5) (by simp only; rw [hA]; exact kE.c.c.c.c.c) (pkH [1, 1]))
      | (obtain ⟨hm, hA⟩ := hnot
         exact joinQ_n (vo, To) (by simp only; rw [hm]; simpa using hO) (by simp only; rw [hA]; exact kE.c.c.c.c.c) rH)
  have hnot := gmid_not (p := t) hx (.inl g6_2)
  refine .gF g6_2<|.gF g6_2<|.gF g6_2<|.gF g6_2<|.gF g6_2<|.nil<|.gF g6_2<|.q (.pickFh g6_2)<|.zn<|.condF ?_
  first | have hnot := gmid_not (p := t) hx (.inr h2) | skip
  refine .skip ?_
  · first
      | (obtain ⟨hm, hA⟩ := hput
         exact joinQ_n (v5, T5) (by simp only; rw [hm]; exact hO5) (by simp only; rw [hA]; exact kE.c.c.c.c.c) (pkH [1, 1]))
      | (obtain ⟨hm, hA⟩ := hnot
         exact joinQ_n (vo, To) (by simp only; rw [hm]; simpa using hO) (by simp only; rw [hA]; exact kE.c.c.c.c.c) rH)
  intro y hy
  obtain ⟨vm, Tm⟩ := y
  have hO6 : OS 241 9 SRow.enc vm (gmid rlt t (l.take i) x) Tm := hy
  have i6 := hO6.oneCell
  simp only
  refine seqQ_n<|.region<|.mo rfl<|.mo rfl<|.mo rfl ?_
  refine .indexR i h hx (λ p31 => ?_)
  refine .q (.loadA rfl) ?_
  refine .buildSlice1A (λ b33 => ?_)
  refine .append hO6 (RS.lits (xs := [x]) rfl (by simp [SRow.enc, Tpl.enc]) (by simp [SRow.enc, Tpl.enc, oneCell])) (by have := gpre_len (lt := rlt) (p := t) (X := l.take (i + 1)); rw [<- e4, List.length_take] at this; simp at this ⊢; omega) (λ v7 T7 hO7 => ?_)
  rw [e4] at hO7
  refine .ag rfl<|.nil<|blkQ_n<|seqQ_n<|.region<|.mo rfl<|.ia (i + 1) .add<|.ag rfl<|.nil ?_
  · exact loopQ_i (i + 1, v7, T7) ⟨hlt, hO7⟩ (by simp only; omega) kE.c.c.c.c.c (pkH [1, 1])
  have hk3 : i = l.length := by have := odf h1; omega
  subst hk3
  rw [List.take_length] at hO hgl ⊢
  refine .exit<|seqQ_x<|loopQ_x<|blkQ_x<|seqQ_n<|.seq<|.sr<|.mo rfl<|.q .not<|.zn<|.cond rfl (λ h3 => ?_) λ h3 => ?_
  refine .region<|.mo rfl<|.q (.loadA rfl) ?_
  refine .buildSlice1A (λ b39 => ?_)
  refine .append hO (RS.lits (xs := [t]) rfl (by simp [SRow.enc, Tpl.enc]) (by simp [SRow.enc, Tpl.enc, oneCell])) (by simp; omega) (λ v5 T5 hO5 => ?_)
  refine .ag rfl<|.z<|.mo rfl<|.az rfl<|.ret (retQ_r _ (.one (.tmp rfl)) ((pkH [2])) ?_)
  · have han : l.any (rlt t) = false := by simpa using h3
    refine ⟨_, by simp [take, dropAt]; rfl, ?_⟩
    have e0 : gpre rlt t l = l := by unfold gpre; rw [han]; rfl
    rw [e0] at hO5
    rw [gins_end han]; exact hO5
  refine .kn<|.sr<|.mo rfl<|.az rfl<|.ret (retQ_r _ (.one (.tmp rfl)) ((pkH [1])) ?_)
  · have han : l.any (rlt t) = true := by simpa using h3
    refine ⟨_, by simp [take, dropAt]; rfl, ?_⟩
    have e0 : gpre rlt t l = gins rlt t l := by unfold gpre; rw [han]; rfl
    rw [e0] at hO; exact hO
def FndR (L : List SRow) (t : Tpl) (z : Int) : Prop := (∃ (j : Nat) (x : SRow), z = j /\ L[j]? = some x /\ x.openOf t = true /\ ∀ k y, k < j -> L[k]? = some y -> y.openOf t = false) \/ (z = -1 /\ sthere L t = false)
theorem FndR.lt {L : List SRow} {t : Tpl} {z : Int} (h : FndR L t z) : decide (z < 0) = !sthere L t := by
 rcases h with ⟨j, x, rfl, hx, ho, _⟩ | ⟨rfl, h⟩
 ·rw [decide_eq_false (by omega), sthere, List.any_eq_true.2 ⟨x, mog hx, ho⟩]; rfl
 ·rw [h]; rfl
theorem FndR.ge {L : List SRow} {t : Tpl} {z : Int} (h : FndR L t z) : decide (0 <= z) = sthere L t := by
 have h1 := h.lt
 have h2 : decide (0 <= z) = !decide (z < 0) := by rw [Bool.eq_iff_iff]; simp
 rw [h2, h1, Bool.not_not]
section
variable {R : Rds} {b : Nat} {S : Sto} {vL : Value} {L : List SRow}
theorem DV.find (h : DV R b S vL L) (t : Tpl) : Spec prog 126 [pT b, .agg t.enc.toArray] R [] λ u H' => (∃ z, u = .int .i64 z /\ FndR L t z) /\ H' = [] := by
 have pc := h.pc
 have ivl := h.rs.oneCell
 have hle := h.rs.le
 obtain ⟨pv, kv_, rfl⟩ := h.rs.val
 have hrs := h.rs
 refine Spec.body Tryz.func126 rfl Tryz.results126 Tryz.ntmps126 rfl<|.sr ?_
 refine .boxA rfl (λ b3 => ?_)
 refine .ag rfl<|.zs<|.sr<|.az rfl<|.block<|.loop (X := Nat) (λ i => i <= L.length /\ ∀ k y, k < i -> L[k]? = some y -> y.openOf t = false) (λ i => [(0, pT b), (3, pT b3), (5, iN i)]) (λ _ => [bl b3 t.enc 151]) (λ i => L.length - i) 0 ⟨Nat.zero_le _, λ k y hk => absurd hk (Nat.not_lt_zero _)⟩ kE.c.c.c rH ?_
 rintro i ⟨hi, hn⟩
 refine .seq<|.sr<|.mo rfl<|.mo rfl<|.nc rfl<|.fa rfl<|.lo rfl<|.q (.lenR hrs)<|.q .lss<|.zn<|.cond rfl (λ h1 => ?_) λ h1 => ?_
 have hlt : i < L.length := lt_i h1
 obtain ⟨x, hx⟩ := exg hlt
 refine .kn<|.seq<|.block<|.seq<|.region_still mixed (by kernel_rfl) ?_
 refine .mo rfl<|.nc rfl<|.fa rfl<|.lo rfl<|.mo rfl ?_
 refine .indexR i hrs hx (λ p20 => ?_)
 refine .fa rfl<|.q (.loadT rfl) ?_
 refine .q (.loadA rfl)<|.q (.eqA rfl rfl (Tpl.kinds x.t) (Tpl.kinds t)) ?_
 rw [show cellsEq (List.take 7 (List.drop 0 x.enc)) t.enc = decide (x.t = t) from Tpl.eq x.t t]
 refine .mo rfl<|.split (t := 25) rfl (λ g4_10 => ?_) (λ g4_10 => ?_)
 refine .gT g4_10<|.mo rfl<|.gT g4_10<|.nc rfl<|.gT g4_10<|.fa rfl<|.gT g4_10<|.lo rfl<|.gT g4_10<|.mo rfl<|.gT g4_10 ?_
 refine .indexR i hrs hx (λ p31 => ?_)
 refine .gT g4_10<|.fa rfl<|.gT g4_10<|.lo rfl<|.gT g4_10<|.q .eqI<|.q (.pickTh g4_10)<|.zn<|.cond rfl (λ h2 => ?_) λ h2 => ?_
 refine .sr<|.mo rfl<|.az rfl<|.ret (blkQ_r (seqQ_r (loopQ_r (blkQ_r (seqQ_r (rq1 rfl ?_))))))
 ·exact ⟨⟨_, rfl, .inl ⟨i, x, rfl, hx, by unfold SRow.openOf; simp_all, hn⟩⟩, rfl⟩
 refine .skip<|blkQ_n<|seqQ_n<|.region<|.mo rfl<|.ia (i + 1) .add<|.ag rfl<|.nil ?_
 ·exact loopQ_i (i + 1) ⟨hlt, λ k y hk hy => by
   rcases Nat.lt_or_eq_of_le (Nat.le_of_lt_succ hk) with h3 | h3
   ·exact hn k y h3 hy
   ·subst h3
    rw [hx] at hy
    cases hy
    unfold SRow.openOf
    simp_all⟩ (by omega) kE.c.c.c rH
 refine .gF g4_10<|.gF g4_10<|.gF g4_10<|.gF g4_10<|.gF g4_10<|.gF g4_10<|.gF g4_10<|.gF g4_10<|.gF g4_10<|.q (.pickFh g4_10)<|.zn<|.condF<|.skip<|blkQ_n<|seqQ_n<|.region<|.mo rfl<|.ia (i + 1) .add<|.ag rfl<|.nil ?_
 ·exact loopQ_i (i + 1) ⟨hlt, λ k y hk hy => by
   rcases Nat.lt_or_eq_of_le (Nat.le_of_lt_succ hk) with h3 | h3
   ·exact hn k y h3 hy
   ·subst h3
    rw [hx] at hy
    cases hy
    unfold SRow.openOf
    simp_all⟩ (by omega) kE.c.c.c rH
 refine .exit<|seqQ_x<|loopQ_x<|blkQ_x<|seqQ_n<|.sr<|.az rfl<|.ret (rq1 rfl ?_)
 ·have hie : i = L.length := by have := odf h1; omega
  refine ⟨⟨_, rfl, .inr ⟨rfl, ?_⟩⟩, rfl⟩
  unfold sthere
  rw [List.any_eq_false]
  intro y hy ho
  obtain ⟨j, hj, rfl⟩ := List.mem_iff_getElem.1 hy
  have := hn j _ (by omega) (gge hj)
  rw [this] at ho
  cases ho
theorem rcheck_spec (vm vn vc : Value) (must no : List Tpl) (cs : List Chg) (R : Rds) (hM : RS R 7 Tpl.enc vm must) (hN : RS R 7 Tpl.enc vn no) (hC : RS R 8 Chg.enc vc cs) (fm : ∀ t ∈ must, t.fits) (fn : ∀ t ∈ no, t.fits) (fc : ∀ c ∈ cs, c.t.fits) :
  Spec prog 123 [vm, vn, vc] R [] λ u H' => u = .int .i64 (scheck must no cs) /\ H' = [] := by
 have lm := hM.le
 have ln := hN.le
 have lc := hC.le
 obtain ⟨pm, km, rfl⟩ := hM.val
 obtain ⟨pn, kn, rfl⟩ := hN.val
 obtain ⟨pv, kc, rfl⟩ := hC.val
 refine Spec.body Tryz.func123 rfl Tryz.results123 Tryz.ntmps123 rfl<|.sr<|.ag rfl<|.zs<|.sr<|.mo rfl<|.q (.lenR hC)<|.q .gtr<|.mo rfl<|.split (t := 15) rfl (λ g1_3 => ?_) (λ g1_3 => ?_)
 refine .gF g1_3<|.gF g1_3<|.gF g1_3<|.q (.pickTh g1_3)<|.mo rfl<|.gX<|.gX<|.gX<|.q .pickT<|.mo rfl<|.gX<|.gX<|.gX<|.q .pickT<|.zn<|.condT ?_
 have hl : 32 < cs.length \/ cs.length = 0 \/ 32 < must.length \/ 32 < no.length := by simp_all; try omega
 refine .sr<|.az rfl<|.ret (seqQ_r (rq1 rfl ?_))
 ·(refine ⟨?_, rfl⟩; rw [scheck_len hl]; done)
 refine .gT g1_3<|.mo rfl<|.gT g1_3<|.q (.lenR hC)<|.gT g1_3<|.q .eqI<|.q (.pickFh g1_3)<|.mo rfl<|.split (t := 20) rfl (λ g1_8 => ?_) (λ g1_8 => ?_)
 refine .gF g1_8<|.gF g1_8<|.gF g1_8<|.q (.pickTh g1_8)<|.mo rfl<|.gX<|.gX<|.gX<|.q .pickT<|.zn<|.condT ?_
 have hl : 32 < cs.length \/ cs.length = 0 \/ 32 < must.length \/ 32 < no.length := by simp_all; try omega
 refine .sr<|.az rfl<|.ret (seqQ_r (rq1 rfl ?_))
 ·(refine ⟨?_, rfl⟩; rw [scheck_len hl]; done)
 refine .gT g1_8<|.mo rfl<|.gT g1_8<|.q (.lenR hM)<|.gT g1_8<|.q .gtr<|.q (.pickFh g1_8)<|.mo rfl<|.split (t := 25) rfl (λ g1_13 => ?_) (λ g1_13 => ?_)
 refine .gF g1_13<|.gF g1_13<|.gF g1_13<|.q (.pickTh g1_13)<|.zn<|.condT ?_
 have hl : 32 < cs.length \/ cs.length = 0 \/ 32 < must.length \/ 32 < no.length := by simp_all; try omega
 refine .sr<|.az rfl<|.ret (seqQ_r (rq1 rfl ?_))
 ·(refine ⟨?_, rfl⟩; rw [scheck_len hl]; done)
 refine .gT g1_13<|.mo rfl<|.gT g1_13<|.q (.lenR hN)<|.gT g1_13<|.q .gtr<|.q (.pickFh g1_13)<|.zn<|.cond rfl (λ h1 => ?_) λ h1 => ?_
 have hl : 32 < cs.length \/ cs.length = 0 \/ 32 < must.length \/ 32 < no.length := by simp_all; try omega
 refine .sr<|.az rfl<|.ret (seqQ_r (rq1 rfl ?_))
 ·(refine ⟨?_, rfl⟩; rw [scheck_len hl]; done)
 have hl : ¬ (32 < cs.length \/ cs.length = 0 \/ 32 < must.length \/ 32 < no.length) := by simp_all; try omega
 refine .kn<|.seq<|.sr<|.az rfl<|.block<|.loop (X := Nat) (λ i => i <= must.length /\ (must.take i).any (λ t => !isTpl t) = false) (λ i => [(0, .slice pm must.length km), (1, .slice pn no.length kn), (2, .slice pv cs.length kc), (7, iN i)]) (λ _ => []) (λ i => must.length - i) 0 ⟨Nat.zero_le _, by simp⟩ kE.c.c.c.c rH ?_
 rintro i ⟨hi, hA⟩
 refine .seq<|.sr<|.mo rfl<|.mo rfl<|.q (.lenR hM)<|.q .lss<|.zn<|.cond rfl (λ h2 => ?_) λ h2 => ?_
 have hlt : i < must.length := lt_i h2
 obtain ⟨x, hx⟩ := exg hlt
 refine .kn<|.seq<|.block<|.sr<|.mo rfl<|.mo rfl ?_
 refine .indexR i hM hx (λ p38 => ?_)
 refine .q (.loadA rfl)<|.callR (risTpl_spec x (fm x (mog hx)) _) (λ v hv => ?_)
 subst hv
 refine .q .not<|.zn<|.cond rfl (λ h3 => ?_) λ h3 => ?_
 have hc : scheck must no cs = 9 := scheck_name hl (by rw [List.any_eq_true.2 ⟨x, mog hx, h3⟩]; simp)
 refine .sr<|.az rfl<|.ret (blkQ_r (seqQ_r (loopQ_r (blkQ_r (seqQ_r (rq1 rfl ?_))))))
 ·(refine ⟨?_, rfl⟩; rw [hc]; done)
 refine .skip<|blkQ_n<|seqQ_n<|.region<|.mo rfl<|.ia (i + 1) .add<|.ag rfl<|.nil ?_
 ·exact loopQ_i (i + 1) ⟨hlt, by rw [List.take_add_one, hx, List.any_append, hA]; simp; simpa using h3⟩ (by omega) kE.c.c.c.c rH
 have hie : i = must.length := by have := odf h2; omega
 subst hie
 rw [List.take_length] at hA
 refine .exit<|seqQ_x<|loopQ_x<|blkQ_x<|seqQ_n<|.seq<|.sr<|.az rfl<|.block<|.loop (X := Nat) (λ i => i <= no.length /\ (no.take i).any (λ t => !isTpl t) = false) (λ i => [(0, .slice pm must.length km), (1, .slice pn no.length kn), (2, .slice pv cs.length kc), (8, iN i)]) (λ _ => []) (λ i => no.length - i) 0 ⟨Nat.zero_le _, by simp⟩ kE.c.c.c.c rH ?_
 rintro i ⟨hi, hB⟩
 refine .seq<|.sr<|.mo rfl<|.mo rfl<|.q (.lenR hN)<|.q .lss<|.zn<|.cond rfl (λ h4 => ?_) λ h4 => ?_
 have hlt : i < no.length := lt_i h4
 obtain ⟨x, hx⟩ := exg hlt
 refine .kn<|.seq<|.block<|.sr<|.mo rfl<|.mo rfl ?_
 refine .indexR i hN hx (λ p50 => ?_)
 refine .q (.loadA rfl)<|.callR (risTpl_spec x (fn x (mog hx)) _) (λ v hv => ?_)
 subst hv
 refine .q .not<|.zn<|.cond rfl (λ h5 => ?_) λ h5 => ?_
 have hc : scheck must no cs = 9 := scheck_name hl (by rw [hA, List.any_eq_true.2 ⟨x, mog hx, h5⟩]; simp)
 refine .sr<|.az rfl<|.ret (blkQ_r (seqQ_r (loopQ_r (blkQ_r (seqQ_r (rq1 rfl ?_))))))
 ·(refine ⟨?_, rfl⟩; rw [hc]; done)
 refine .skip<|blkQ_n<|seqQ_n<|.region<|.mo rfl<|.ia (i + 1) .add<|.ag rfl<|.nil ?_
 ·exact loopQ_i (i + 1) ⟨hlt, by rw [List.take_add_one, hx, List.any_append, hB]; simp; simpa using h5⟩ (by omega) kE.c.c.c.c rH
 have hie : i = no.length := by have := odf h4; omega
 subst hie
 rw [List.take_length] at hB
 refine .exit<|seqQ_x<|loopQ_x<|blkQ_x<|seqQ_n<|.seq<|.sr<|.az rfl<|.block<|.loop (X := Nat) (λ i => i <= cs.length /\ (cs.take i).any (λ c => !isTpl c.t) = false) (λ i => [(0, .slice pm must.length km), (1, .slice pn no.length kn), (2, .slice pv cs.length kc), (9, iN i)]) (λ _ => []) (λ i => cs.length - i) 0 ⟨Nat.zero_le _, by simp⟩ kE.c.c.c.c rH ?_
 rintro i ⟨hi, hD⟩
 refine .seq<|.sr<|.mo rfl<|.mo rfl<|.q (.lenR hC)<|.q .lss<|.zn<|.cond rfl (λ h6 => ?_) λ h6 => ?_
 have hlt : i < cs.length := lt_i h6
 obtain ⟨x, hx⟩ := exg hlt
 refine .kn<|.seq<|.block<|.sr<|.mo rfl<|.mo rfl ?_
 refine .indexR i hC hx (λ p62 => ?_)
 refine .fa rfl<|.q (.loadT rfl)<|.callR (risTpl_spec x.t (fc x (mog hx)) _) (λ v hv => ?_)
 subst hv
 refine .q .not<|.zn<|.cond rfl (λ h7 => ?_) λ h7 => ?_
 have hc : scheck must no cs = 9 := scheck_name hl (by rw [hA, hB, List.any_eq_true.2 ⟨x, mog hx, h7⟩]; simp)
 refine .sr<|.az rfl<|.ret (blkQ_r (seqQ_r (loopQ_r (blkQ_r (seqQ_r (rq1 rfl ?_))))))
 ·(refine ⟨?_, rfl⟩; rw [hc]; done)
 refine .skip<|blkQ_n<|seqQ_n<|.region<|.mo rfl<|.ia (i + 1) .add<|.ag rfl<|.nil ?_
 ·exact loopQ_i (i + 1) ⟨hlt, by rw [List.take_add_one, hx, List.any_append, hD]; simp; simpa using h7⟩ (by omega) kE.c.c.c.c rH
 have hie : i = cs.length := by have := odf h6; omega
 subst hie
 rw [List.take_length] at hD
 have hD2 : ∀ c ∈ cs, isTpl c.t = true := λ c hc => by
  have := List.any_eq_false.1 hD c hc
  simpa using this
 refine .exit<|seqQ_x<|loopQ_x<|blkQ_x<|seqQ_n<|.seq<|.sr<|.az rfl<|.block<|.loop (X := Nat) (λ i => i <= cs.length /\ ((cs.take i).map (·.t)).Nodup) (λ i => [(0, .slice pm must.length km), (1, .slice pn no.length kn), (2, .slice pv cs.length kc), (10, iN i)]) (λ _ => []) (λ i => cs.length - i) 0 ⟨Nat.zero_le _, by simp⟩ kE.c.c.c.c rH ?_
 rintro i ⟨hi, hU⟩
 refine .seq<|.sr<|.mo rfl<|.mo rfl<|.q (.lenR hC)<|.q .lss<|.zn<|.cond rfl (λ h8 => ?_) λ h8 => ?_
 have hlt : i < cs.length := lt_i h8
 obtain ⟨x, hx⟩ := exg hlt
 have htk : (cs.take (i + 1)).map (·.t) = (cs.take i).map (·.t) ++ [x.t] := by rw [List.take_add_one, hx, Option.toList_some, List.map_append]; rfl
 refine .kn<|.seq<|.block<|.sr<|.az rfl<|.block<|.loop (X := Nat) (λ k => k <= i /\ x.t ∉ (cs.take k).map (·.t)) (λ k => [(0, .slice pm must.length km), (1, .slice pn no.length kn), (2, .slice pv cs.length kc), (10, iN i), (11, iN k)]) (λ _ => []) (λ k => i - k) 0 ⟨Nat.zero_le _, by simp⟩ kE.c.c.c.c.c rH ?_
 rintro k ⟨hk, hV⟩
 refine .seq<|.sr<|.mo rfl<|.mo rfl<|.q .lss<|.zn<|.cond rfl (λ h9 => ?_) λ h9 => ?_
 have hlk : k < i := lt_i h9
 obtain ⟨y, hy⟩ : ∃ x, cs[k]? = some x := ⟨_, gge (by omega)⟩
 refine .kn<|.seq<|.block<|.seq<|.region_still mixed (by kernel_rfl)<|.mo rfl<|.mo rfl ?_
 refine .indexR i hC hx (λ p80 => ?_)
 refine .fa rfl<|.q (.loadT rfl) ?_
 refine .mo rfl<|.mo rfl ?_
 refine .indexR k hC hy (λ p85 => ?_)
 refine .fa rfl<|.q (.loadT rfl) ?_
 refine .q (.eqA rfl rfl (Tpl.kinds x.t) (Tpl.kinds y.t)) ?_
 rw [show cellsEq (List.take 7 (List.drop 1 x.enc)) (List.take 7 (List.drop 1 y.enc)) = decide (x.t = y.t) from Tpl.eq x.t y.t]
 refine .zn<|.cond rfl (λ h10 => ?_) λ h10 => ?_
 have hc : scheck must no cs = 2 := by
  rw [scheck_end hl hA hB hD2 true ?_]; rfl
  rw [eq_comm, Bool.not_eq_true', decide_eq_false_iff_not]
  intro hn
  have := List.pairwise_iff_getElem.1 hn k i (by simp; omega) (by simp; omega) hlk
  rw [List.getElem_map, List.getElem_map, (List.getElem?_eq_some_iff.1 hx).2, (List.getElem?_eq_some_iff.1 hy).2] at this
  exact this (odt h10).symm
 refine .sr<|.az rfl<|.ret (blkQ_r (seqQ_r (loopQ_r (blkQ_r (blkQ_r (seqQ_r (loopQ_r (blkQ_r (seqQ_r (rq1 rfl ?_))))))))))
 ·(refine ⟨?_, rfl⟩; rw [hc]; done)
 refine .skip<|blkQ_n<|seqQ_n<|.region<|.mo rfl<|.ia (k + 1) .add<|.ag rfl<|.nil ?_
 ·exact loopQ_i (k + 1) ⟨hlk, by
   rw [List.take_add_one, hy, Option.toList_some, List.map_append, List.mem_append, not_or]
   exact ⟨hV, by simpa using h10⟩⟩ (by omega) kE.c.c.c.c.c rH
 have hke : k = i := by have := odf h9; omega
 subst hke
 refine .exit<|seqQ_x<|loopQ_x<|blkQ_x<|blkQ_n<|seqQ_n<|.region<|.mo rfl<|.ia (k + 1) .add<|.ag rfl<|.nil ?_
 ·exact loopQ_i (k + 1) ⟨hlt, by
   rw [htk, List.nodup_append]
   exact ⟨hU, by simp, λ a ha b hb => by simp only [List.mem_singleton] at hb; subst hb; exact λ e => hV (e ▸ ha)⟩⟩ (by omega) kE.c.c.c.c rH
 have hie : i = cs.length := by have := odf h8; omega
 subst hie
 rw [List.take_length] at hU
 refine .exit<|seqQ_x<|loopQ_x<|blkQ_x<|seqQ_n<|.sr<|.az rfl<|.ret (rq1 rfl ?_)
 ·(refine ⟨?_, rfl⟩; rw [scheck_end hl hA hB hD2 false (by simp [hU])]; rfl)
end
theorem any_take {α : Type} {p : α -> Bool} {l : List α} {i : Nat} {x : α} (h : (l.take i).any p = false) (hx : l[i]? = some x) (hp : p x = false) : (l.take (i + 1)).any p = false := by
 rw [List.take_add_one, hx, List.any_append, h]
 simp [hp]
theorem sfits_must {L : List SRow} {head : Int} {must no : List Tpl} {cs : List Chg} (h : (must.any (λ t => !sthere L t) || no.any (λ t => sthere L t)) = true) : sfits L head must no cs = 13 := by unfold sfits; rw [if_pos h]
theorem sfits_put {L : List SRow} {head : Int} {must no : List Tpl} {cs : List Chg} (h1 : must.any (λ t => !sthere L t) = false) (h2 : no.any (λ t => sthere L t) = false) (h : cs.any (λ c => c.put && sthere L c.t) = true) : sfits L head must no cs = 10 := by unfold sfits; rw [h1, h2, if_neg (by simp), if_pos h]
theorem sfits_del {L : List SRow} {head : Int} {must no : List Tpl} {cs : List Chg} (h1 : must.any (λ t => !sthere L t) = false) (h2 : no.any (λ t => sthere L t) = false) (h3 : cs.any (λ c => c.put && sthere L c.t) = false) (h : cs.any (λ c => !c.put && !sthere L c.t) = true) : sfits L head must no cs = 11 := by unfold sfits; rw [h1, h2, if_neg (by simp), if_neg (by rw [h3]; simp), if_pos h]
theorem sfits_rest {L : List SRow} {head : Int} {must no : List Tpl} {cs : List Chg} (h1 : must.any (λ t => !sthere L t) = false) (h2 : no.any (λ t => sthere L t) = false) (h3 : cs.any (λ c => c.put && sthere L c.t) = false) (h4 : cs.any (λ c => !c.put && !sthere L c.t) = false) : sfits L head must no cs = if 4611686018427387903 <= head \/ 4096 < L.length + sputs cs /\ 0 < sputs cs then 8 else 0 := by unfold sfits; rw [h1, h2, if_neg (by simp), if_neg (by rw [h3]; simp), if_neg (by rw [h4]; simp)]
theorem rfits_spec {R : Rds} {b : Nat} {S : Sto} {vL : Value} {L : List SRow} (h : DV R b S vL L) (hll : L.length <= 5000) (vm vn vc : Value) (must no : List Tpl) (cs : List Chg) (hM : RS R 7 Tpl.enc vm must) (hN : RS R 7 Tpl.enc vn no) (hC : RS R 8 Chg.enc vc cs) (hcl : cs.length <= 1000) :
  Spec prog 124 [pT b, vm, vn, vc] R [] λ u H' => u = .int .i64 (sfits L S.head must no cs) /\ H' = [] := by
 have pc := h.pc
 have ivl := h.rs.oneCell
 obtain ⟨pw, kw_, rfl⟩ := h.rs.val
 have hrs := h.rs
 have lm := hM.le
 have ln := hN.le
 have lc := hC.le
 obtain ⟨pm, km, rfl⟩ := hM.val
 obtain ⟨pn, kn, rfl⟩ := hN.val
 obtain ⟨pv, kc, rfl⟩ := hC.val
 refine Spec.body Tryz.func124 rfl Tryz.results124 Tryz.ntmps124 rfl<|.sr<|.ag rfl<|.zs<|.sr<|.az rfl<|.block<|.loop (X := Nat) (λ i => i <= must.length /\ (must.take i).any (λ t => !sthere L t) = false) (λ i => [(0, pT b), (1, .slice pm must.length km), (2, .slice pn no.length kn), (3, .slice pv cs.length kc), (9, iN i)]) (λ _ => []) (λ i => must.length - i) 0 ⟨Nat.zero_le _, by simp⟩ kE.c.c.c.c.c rH ?_
 rintro i ⟨hi, hA⟩
 refine .seq<|.sr<|.mo rfl<|.mo rfl<|.q (.lenR hM)<|.q .lss<|.zn<|.cond rfl (λ h1 => ?_) λ h1 => ?_
 have hlt : i < must.length := lt_i h1
 obtain ⟨x, hx⟩ := exg hlt
 refine .kn<|.seq<|.block<|.sr<|.mo rfl<|.mo rfl<|.mo rfl ?_
 refine .indexR i hM hx (λ p23 => ?_)
 refine .q (.loadA rfl)<|.callR ((h.mono λ b o hb => .inl hb).find x) (λ v hv => ?_)
 obtain ⟨z, rfl, hz⟩ := hv
 have hzl := hz.lt
 refine .q .lss<|.zn<|.cond rfl (λ h2 => ?_) λ h2 => ?_
 have hc : sfits L S.head must no cs = 13 := sfits_must (by rw [List.any_eq_true.2 ⟨x, mog hx, by rw [<- hzl]; exact h2⟩]; simp)
 refine .sr<|.az rfl<|.ret (blkQ_r (seqQ_r (loopQ_r (blkQ_r (seqQ_r (rq1 rfl ?_))))))
 ·(refine ⟨?_, rfl⟩; rw [hc]; done)
 refine .skip<|blkQ_n<|seqQ_n<|.region<|.mo rfl<|.ia (i + 1) .add<|.ag rfl<|.nil ?_
 ·exact loopQ_i (i + 1) ⟨hlt, any_take hA hx (by rw [<- hzl]; exact h2)⟩ (by omega) kE.c.c.c.c.c (pkH [])
 have hie : i = must.length := by have := odf h1; omega
 subst hie
 rw [List.take_length] at hA
 refine .exit<|seqQ_x<|loopQ_x<|blkQ_x<|seqQ_n<|.seq<|.sr<|.az rfl<|.block<|.loop (X := Nat) (λ i => i <= no.length /\ (no.take i).any (λ t => sthere L t) = false) (λ i => [(0, pT b), (1, .slice pm must.length km), (2, .slice pn no.length kn), (3, .slice pv cs.length kc), (10, iN i)]) (λ _ => []) (λ i => no.length - i) 0 ⟨Nat.zero_le _, by simp⟩ kE.c.c.c.c.c rH ?_
 rintro i ⟨hi, hB⟩
 refine .seq<|.sr<|.mo rfl<|.mo rfl<|.q (.lenR hN)<|.q .lss<|.zn<|.cond rfl (λ h3 => ?_) λ h3 => ?_
 have hlt : i < no.length := lt_i h3
 obtain ⟨x, hx⟩ := exg hlt
 refine .kn<|.seq<|.block<|.sr<|.mo rfl<|.mo rfl<|.mo rfl ?_
 refine .indexR i hN hx (λ p36 => ?_)
 refine .q (.loadA rfl)<|.callR ((h.mono λ b o hb => .inl hb).find x) (λ v hv => ?_)
 obtain ⟨z, rfl, hz⟩ := hv
 have hzl := hz.ge
 refine .q .geq<|.zn<|.cond rfl (λ h4 => ?_) λ h4 => ?_
 have hc : sfits L S.head must no cs = 13 := sfits_must (by rw [hA, List.any_eq_true.2 ⟨x, mog hx, by rw [<- hzl]; exact h4⟩]; rfl)
 refine .sr<|.az rfl<|.ret (blkQ_r (seqQ_r (loopQ_r (blkQ_r (seqQ_r (rq1 rfl ?_))))))
 ·(refine ⟨?_, rfl⟩; rw [hc]; done)
 refine .skip<|blkQ_n<|seqQ_n<|.region<|.mo rfl<|.ia (i + 1) .add<|.ag rfl<|.nil ?_
 ·exact loopQ_i (i + 1) ⟨hlt, any_take hB hx (by rw [<- hzl]; exact h4)⟩ (by omega) kE.c.c.c.c.c (pkH [])
 have hie : i = no.length := by have := odf h3; omega
 subst hie
 rw [List.take_length] at hB
 refine .exit<|seqQ_x<|loopQ_x<|blkQ_x<|seqQ_n<|.seq<|.sr<|.az rfl<|.block<|.loop (X := Nat) (λ i => i <= cs.length /\ (cs.take i).any (λ c => c.put && sthere L c.t) = false) (λ i => [(0, pT b), (1, .slice pm must.length km), (2, .slice pn no.length kn), (3, .slice pv cs.length kc), (11, iN i)]) (λ _ => []) (λ i => cs.length - i) 0 ⟨Nat.zero_le _, by simp⟩ kE.c.c.c.c.c rH ?_
 rintro i ⟨hi, hD⟩
 refine .seq<|.sr<|.mo rfl<|.mo rfl<|.q (.lenR hC)<|.q .lss<|.zn<|.cond rfl (λ h5 => ?_) λ h5 => ?_
 have hlt : i < cs.length := lt_i h5
 obtain ⟨x, hx⟩ := exg hlt
 refine .kn<|.seq<|.block<|.sr<|.mo rfl<|.mo rfl ?_
 refine .indexR i hC hx (λ p48 => ?_)
 refine .fa rfl<|.lo rfl<|.mo rfl<|.split (t := 51) rfl (λ g14_5 => ?_) (λ g14_5 => ?_)
 refine .gT g14_5<|.mo rfl<|.gT g14_5<|.mo rfl<|.gT g14_5<|.mo rfl<|.gT g14_5 ?_
 refine .indexR i hC hx (λ p55 => ?_)
 refine .gT g14_5<|.fa rfl<|.gT g14_5<|.q (.loadT rfl)<|.gT g14_5<|.callR ((h.mono λ b o hb => .inl hb).find x.t) (λ v hv => ?_)
 obtain ⟨z, rfl, hz⟩ := hv
 have hzl := hz.ge
 refine .gT g14_5<|.q .geq<|.q (.pickTh g14_5)<|.zn<|.cond rfl (λ h6 => ?_) λ h6 => ?_
 have hc : sfits L S.head must no cs = 10 := sfits_put hA hB (List.any_eq_true.2 ⟨x, mog hx, by rw [<- hzl, g14_5]; exact h6⟩)
 refine .sr<|.az rfl<|.ret (blkQ_r (seqQ_r (loopQ_r (blkQ_r (seqQ_r (rq1 rfl ?_))))))
 ·(refine ⟨?_, rfl⟩; rw [hc]; done)
 refine .skip<|blkQ_n<|seqQ_n<|.region<|.mo rfl<|.ia (i + 1) .add<|.ag rfl<|.nil ?_
 ·exact loopQ_i (i + 1) ⟨hlt, any_take hD hx (by rw [<- hzl, g14_5]; exact h6)⟩ (by omega) kE.c.c.c.c.c (pkH [])
 refine .gF g14_5<|.gF g14_5<|.gF g14_5<|.gF g14_5<|.gF g14_5<|.gF g14_5<|.gF g14_5<|.gF g14_5<|.q (.pickFh g14_5)<|.zn<|.condF<|.skip<|blkQ_n<|seqQ_n<|.region<|.mo rfl<|.ia (i + 1) .add<|.ag rfl<|.nil ?_
 ·exact loopQ_i (i + 1) ⟨hlt, any_take hD hx (by rw [g14_5]; rfl)⟩ (by omega) kE.c.c.c.c.c (pkH [])
 have hie : i = cs.length := by have := odf h5; omega
 subst hie
 rw [List.take_length] at hD
 refine .exit<|seqQ_x<|loopQ_x<|blkQ_x<|seqQ_n<|.sr<|.mo rfl<|.nc rfl<|.fa rfl<|.lo rfl<|.q (.lenR hrs)<|.ag rfl<|.zs<|.sr<|.az rfl<|.block<|.loop (X := Nat) (λ i => i <= cs.length /\ (cs.take i).any (λ c => !c.put && !sthere L c.t) = false) (λ i => [(0, pT b), (1, .slice pm must.length km), (2, .slice pn no.length kn), (3, .slice pv cs.length kc), (12, .int .i64 ((L.length + sputs (cs.take i) : Nat) : Int)), (13, iN i)]) (λ _ => []) (λ i => cs.length - i) 0 ⟨Nat.zero_le _, by simp⟩ kE.c.c.c.c.c.c rH ?_
 rintro i ⟨hi, hE⟩
 have hsl : sputs (cs.take i) <= 1000 := by unfold sputs; exact Nat.le_trans (List.length_filter_le _ _) (by rw [List.length_take]; omega)
 refine .seq<|.sr<|.mo rfl<|.mo rfl<|.q (.lenR hC)<|.q .lss<|.zn<|.cond rfl (λ h7 => ?_) λ h7 => ?_
 have hlt : i < cs.length := lt_i h7
 obtain ⟨x, hx⟩ := exg hlt
 have hsn := sputs_next hx
 refine .kn<|.seq<|.block<|.seq<|.sr<|.mo rfl<|.mo rfl ?_
 refine .indexR i hC hx (λ p74 => ?_)
 refine .fa rfl<|.lo rfl<|.q .not<|.mo rfl<|.split (t := 78) rfl (λ g20_6 => ?_) (λ g20_6 => ?_)
 refine .gT g20_6<|.mo rfl<|.gT g20_6<|.mo rfl<|.gT g20_6<|.mo rfl<|.gT g20_6 ?_
 refine .indexR i hC hx (λ p82 => ?_)
 refine .gT g20_6<|.fa rfl<|.gT g20_6<|.q (.loadT rfl)<|.gT g20_6<|.callR ((h.mono λ b o hb => .inl hb).find x.t) (λ v hv => ?_)
 obtain ⟨z, rfl, hz⟩ := hv
 have hzl := hz.lt
 refine .gT g20_6<|.q .lss<|.q (.pickTh g20_6)<|.zn<|.cond rfl (λ h8 => ?_) λ h8 => ?_
 have hc : sfits L S.head must no cs = 11 := sfits_del hA hB hD (List.any_eq_true.2 ⟨x, mog hx, by rw [<- hzl, g20_6]; exact h8⟩)
 refine .sr<|.az rfl<|.ret (seqQ_r (blkQ_r (seqQ_r (loopQ_r (blkQ_r (seqQ_r (rq1 rfl ?_)))))))
 ·(refine ⟨?_, rfl⟩; rw [hc]; done)
 refine .kn<|.sr<|.mo rfl<|.mo rfl ?_
 refine .indexR i hC hx (λ p90 => ?_)
 refine .fa rfl<|.lo rfl<|.zn<|.cond rfl (λ h9 => ?_) λ h9 => ?_
 have e12 : L.length + sputs (cs.take (i + 1)) = L.length + sputs (cs.take i) + 1 := by rw [hsn, if_pos h9]; rfl
 refine .region<|.mo rfl<|.ia (L.length + sputs (cs.take i) + 1) .add<|.ag rfl<|.nil<|blkQ_n<|seqQ_n<|.region<|.mo rfl<|.ia (i + 1) .add<|.ag rfl<|.nil ?_
 ·(exfalso; rw [h9] at g20_6; cases g20_6; done)
 have e12 : L.length + sputs (cs.take (i + 1)) = L.length + sputs (cs.take i) := by rw [hsn, if_neg (by rw [h9]; simp)]; rfl
 refine .skip<|blkQ_n<|seqQ_n<|.region<|.mo rfl<|.ia (i + 1) .add<|.ag rfl<|.nil ?_
 ·(refine loopQ_i (i + 1) ⟨hlt, any_take hE hx ?_⟩ (by omega) (by simp only [e12]; exact kE.c.c.c.c.c.c) (pkH []); rw [<- hzl, g20_6]; exact h8)
 refine .gF g20_6<|.gF g20_6<|.gF g20_6<|.gF g20_6<|.gF g20_6<|.gF g20_6<|.gF g20_6<|.gF g20_6<|.q (.pickFh g20_6)<|.zn<|.condF<|.kn<|.sr<|.mo rfl<|.mo rfl ?_
 refine .indexR i hC hx (λ p90 => ?_)
 refine .fa rfl<|.lo rfl<|.zn<|.cond rfl (λ h9 => ?_) λ h9 => ?_
 have e12 : L.length + sputs (cs.take (i + 1)) = L.length + sputs (cs.take i) + 1 := by rw [hsn, if_pos h9]; rfl
 refine .region<|.mo rfl<|.ia (L.length + sputs (cs.take i) + 1) .add<|.ag rfl<|.nil<|blkQ_n<|seqQ_n<|.region<|.mo rfl<|.ia (i + 1) .add<|.ag rfl<|.nil ?_
 ·(refine loopQ_i (i + 1) ⟨hlt, any_take hE hx ?_⟩ (by omega) (by simp only [e12]; exact kE.c.c.c.c.c.c) (pkH []); rw [h9]; rfl)
 have e12 : L.length + sputs (cs.take (i + 1)) = L.length + sputs (cs.take i) := by rw [hsn, if_neg (by rw [h9]; simp)]; rfl
 refine .skip<|blkQ_n<|seqQ_n<|.region<|.mo rfl<|.ia (i + 1) .add<|.ag rfl<|.nil ?_
 ·(exfalso; rw [h9] at g20_6; cases g20_6; done)
 have hie : i = cs.length := by have := odf h7; omega
 subst hie
 rw [List.take_length] at hE
 rw [List.take_length]
 have hrest := sfits_rest (head := S.head) hA hB hD hE
 refine .exit<|seqQ_x<|loopQ_x<|blkQ_x<|seqQ_n<|.seq<|.sr<|.mo rfl<|.nc rfl<|.fa rfl<|.lo rfl<|.q .geq<|.mo rfl<|.split (t := 100) rfl (λ g24_5 => ?_) (λ g24_5 => ?_)
 refine .gF g24_5<|.gF g24_5<|.gF g24_5<|.gfU rfl<|.gfU rfl<|.gfU rfl<|.gfU rfl<|.gfU rfl<|.gfU rfl<|.gfU rfl<|.gF g24_5<|.q (.pickTh g24_5)<|.zn<|.condT<|.sr<|.az rfl<|.ret (seqQ_r (rq1 rfl ?_))
 ·(refine ⟨?_, rfl⟩; rw [hrest]; congr 1; split <;> first | rfl | (exfalso; simp_all; done) | (exfalso; simp_all; omega))
 refine .gT g24_5<|.mo rfl<|.gT g24_5<|.q .gtr<|.gT g24_5<|.mo rfl<|.split (t := 103) rfl (λ g24_8 => ?_) (λ g24_8 => ?_)
 refine .gT g24_8<|.mo rfl<|.gT g24_8<|.mo rfl<|.gT g24_8<|.nc rfl<|.gT g24_8<|.fa rfl<|.gT g24_8<|.lo rfl<|.gT g24_8<|.q (.lenR hrs)<|.gT g24_8<|.q .gtr<|.gT g24_5<|.q (.pickTh g24_8)<|.q (.pickFh g24_5)<|.zn<|.cond rfl (λ h10 => ?_) λ h10 => ?_
 refine .sr<|.az rfl<|.ret (seqQ_r (rq1 rfl ?_))
 ·(refine ⟨?_, rfl⟩; rw [hrest]; congr 1; split <;> first | rfl | (exfalso; simp_all; done) | (exfalso; simp_all; omega))
 refine .kn<|.sr<|.az rfl<|.ret (rq1 rfl ?_)
 ·(refine ⟨?_, rfl⟩; rw [hrest]; congr 1; split <;> first | rfl | (exfalso; simp_all; done) | (exfalso; simp_all; omega))
 refine .gF g24_8<|.gF g24_8<|.gF g24_8<|.gF g24_8<|.gF g24_8<|.gF g24_8<|.gF g24_8<|.gT g24_5<|.q (.pickFh g24_8)<|.q (.pickFh g24_5)<|.zn<|.condF<|.kn<|.sr<|.az rfl<|.ret (rq1 rfl ?_)
 ·(refine ⟨?_, rfl⟩; rw [hrest]; congr 1; split <;> first | rfl | (exfalso; simp_all; done) | (exfalso; simp_all; omega))
def DO (b : Nat) (S : Sto) (T : Seg) : Prop := ∃ vL L TL, T = (b, .cells [vL, .int .u64 S.head, .int .u64 S.hor].toArray 126 (0, 0)) :: TL /\ OS 241 9 SRow.enc vL L TL /\ RL S L
theorem DO.view {b : Nat} {S : Sto} {T : Seg} {R : Rds} (h : DO b S T) (hR : ∀ p ∈ T, R p.1 p.2) : ∃ vL L, DV R b S vL L /\ RL S L := by
 obtain ⟨vL, L, TL, rfl, h1, h2⟩ := h
 exact ⟨vL, L, ⟨PC.of (E := 126) (fr := (0, 0)) (hR (b, _) (by simp)), h1.rs λ p hp => hR p (by simp [hp])⟩, h2⟩
theorem RL.len {S : Sto} (hS : SOK S) {L : List SRow} (h : RL S L) : L.length <= 4096 := by rw [h.pm.length_eq]; exact hS.len
theorem rwrite_spec (b : Nat) (S : Sto) (T : Seg) (h : DO b S T) (hS : SOK S) (vm vn vc : Value) (must no : List Tpl) (cs : List Chg) (R : Rds) (hM : RS R 7 Tpl.enc vm must) (hN : RS R 7 Tpl.enc vn no) (hC : RS R 8 Chg.enc vc cs) (fm : ∀ t ∈ must, t.fits) (fn : ∀ t ∈ no, t.fits) (fc : ∀ c ∈ cs, c.t.fits) (hcl : cs.length <= 1000) :
  Spec prog 69 [pT b, vm, vn, vc] R [T] λ u H' => ∃ T', H' = [T'] /\ u = .tuple [.int .u64 (if scode S must no cs = 0 then S.head + 1 else 0), .int .i64 (scode S must no cs)].toArray /\ DO b (swrite S must no cs) T' := by
 have a0 := hS.h0
 have a1 := hS.h1
 have a2 := hS.h2
 have h0 := h
 obtain ⟨pm, km, rfl⟩ := hM.val
 obtain ⟨pn, kn, rfl⟩ := hN.val
 obtain ⟨pv, kc, rfl⟩ := hC.val
 obtain ⟨vL0, L0, hDV, hRL⟩ := h.view (R := Rx R [T]) λ p hp => .inr (by simp [hp])
 have hl0 := hRL.len hS
 refine Spec.body Tryz.func69 rfl Tryz.results69 Tryz.ntmps69 rfl<|.sr<|.ag rfl<|.ag rfl<|.z<|.mo rfl<|.mo rfl<|.mo rfl<|.callR (rcheck_spec _ _ _ must no cs _ hM.rx hN.rx hC.rx fm fn fc) (λ v hv => ?_)
 subst hv
 refine .ag rfl<|.zs<|.sr<|.mo rfl<|.q .eqI<|.zn ?_
 refine Tri.cut (X := Unit) (λ _ => True) (λ _ => [(0, pT b), (1, .slice pm must.length km), (2, .slice pn no.length kn), (3, .slice pv cs.length kc), (10, .int .i64 (scode S must no cs))]) (λ _ => [T]) ?_ ?_
 refine .cond rfl (λ h1 => ?_) λ h1 => ?_
 have hc0 : scheck must no cs = 0 := by simpa using h1
 have e1 : sfits L0 S.head must no cs = scode S must no cs := by rw [scode_fits hc0, sfits_perm hRL.pm]
 refine .region<|.mo rfl<|.mo rfl<|.mo rfl<|.mo rfl<|.callR (rfits_spec hDV (by omega) _ _ _ must no cs hM.rx hN.rx hC.rx hcl) (λ v hv => ?_)
 subst hv
 refine .ag rfl<|.nil ?_
 ·exact joinQ_n () trivial (by rw [<- e1]; exact kE.c.c.c.c.c) rH
 have hc0 : scheck must no cs ≠ 0 := by simpa using h1
 have e1 : scheck must no cs = scode S must no cs := by rw [scode_check hc0]
 refine .skip ?_
 ·exact joinQ_n () trivial (by rw [<- e1]; exact kE.c.c.c.c.c) rH
 intro x hx
 skip
 refine seqQ_n<|.seq<|.sr<|.mo rfl<|.q .neI<|.zn<|.cond rfl (λ h2 => ?_) λ h2 => ?_
 have hcode : scode S must no cs ≠ 0 := by simpa using h2
 refine .sr<|.mo rfl<|.ag rfl<|.az rfl<|.ret (seqQ_r (retQ_r _ (.two (.tmp rfl) (.tmp rfl)) (.one [0] _) ?_))
 ·exact ⟨T, by simp [take], by rw [if_neg hcode], by rw [swrite_else hcode]; exact h0⟩
 have hcode : scode S must no cs = 0 := by simpa using h2
 have hw := scode_zero hcode
 have hwh := hw.head
 obtain ⟨vL, L, TL, rfl, hO, hL⟩ := h
 have ivl := hO.oneCell
 refine .kn<|.sr<|.sub (H' := [bl b [vL, .int .u64 S.head, .int .u64 S.hor] 126, TL]) (HLe.ofPerm (by simp))<|.mo rfl<|.mo rfl<|.nc rfl<|.fa rfl<|.lo rfl<|.q (.u64 (S.head + 1) .add ⟨rfl, by omega, by omega⟩)<|.nc rfl<|.fa rfl<|.store1 rfl rfl<|.zs<|.sr<|.az rfl<|.block<|.loop (X := Nat × Value × List SRow × Seg) (λ y => y.1 <= cs.length /\ OS 241 9 SRow.enc y.2.1 y.2.2.1 y.2.2.2 /\ RL ⟨(cs.take y.1).foldl (sapply (S.head + 1)) S.rows, S.head + 1, S.hor⟩ y.2.2.1) (λ y => [(0, pT b), (3, .slice pv cs.length kc), (11, iN y.1)]) (λ y => [bl b [y.2.1, .int .u64 (S.head + 1), .int .u64 S.hor] 126, y.2.2.2]) (λ y => cs.length - y.1) (0, vL, L, TL) ⟨Nat.zero_le _, hO, ⟨hL.pm, hL.st⟩⟩ kE.c.c.c rH ?_
 rintro ⟨i, vi, Li, Ti⟩ ⟨hi, hOi, hLi⟩
 simp only at hi hOi hLi ⊢
 have ivi := hOi.oneCell
 have hli := hLi.len (hS.fold (hw.take i))
 have lc := hC.le
 refine .seq<|.sr<|.mo rfl<|.mo rfl<|.q (.lenR hC)<|.q .lss<|.zn<|.cond rfl (λ h3 => ?_) λ h3 => ?_
 have hlt : i < cs.length := lt_i h3
 obtain ⟨c, hc⟩ := exg hlt
 have pxi := hC.pc hc
 obtain ⟨hnx, hdel⟩ := RL.next hS hw hc hLi
 refine .kn<|.seq<|.block<|.sr<|.mo rfl<|.mo rfl ?_
 refine .indexR i hC hc (λ p43 => ?_)
 refine .fa rfl<|.lo rfl<|.zn<|.cond rfl (λ h4 => ?_) λ h4 => ?_
 refine .region_all [18] mixed<|.tO 0 rfl .move<|.tO 1 rfl .move<|.tO 2 rfl (.nilCheck rfl)<|.tO 3 rfl (.fieldAddr rfl)<|.tO 4 rfl (.load1 rfl)<|.tO 5 rfl .move<|.tO 6 rfl .move<|.tO 7 rfl (.indexR i hC hc rfl rfl rfl)<|.tO 8 rfl (.fieldAddr rfl)<|.tO 9 rfl (.loadT rfl)<|.tO 10 rfl .move<|.tO 11 rfl (.nilCheck rfl)<|.tO 12 rfl (.fieldAddr rfl)<|.tO 13 rfl (.load1 rfl)<|.tO 14 rfl .bld<|.sT 15 rfl<|.callN (rins12_spec _ Li ⟨c.t, S.head + 1, 0⟩ _ hOi.rx (by omega)) (λ u Tn hu => ?_)
 have iu := hu.oneCell
 refine .nil<|Next.sub<|.tO 16 rfl (.nilCheck rfl)<|.tO 17 rfl (.fieldAddr rfl)<|.sT 18 rfl<|.store1 rfl rfl<|.nil<|Next.mod rfl<|RA.nil (by kernel_rfl)<|blkQ_n<|seqQ_n<|.region<|.mo rfl<|.ia (i + 1) .add<|.ag rfl<|.nil ?_
 ·exact loopQ_i (i + 1, u, _, Tn) ⟨hlt, by simp only; exact hu, by simp only; unfold rapply at hnx; rw [if_pos h4] at hnx; exact hnx⟩ (by simp only; omega) (((kE.d rfl).d rfl).d rfl) (pkH [1, 0])
 obtain ⟨j, x, hj, hox, hmin, hset⟩ := hdel h4
 refine .sr<|.mo rfl<|.mo rfl<|.mo rfl ?_
 refine .indexR i hC hc (λ p67 => ?_)
 refine .fa rfl<|.q (.loadT rfl)<|.callR (DV.find (S := ⟨[], S.head + 1, S.hor⟩) ⟨PC.of (E := 126) (fr := (0, 0)) (.inr (by simp)), hOi.rx⟩ c.t) (λ v hv => ?_)
 obtain ⟨z, rfl, hz⟩ := hv
 obtain rfl : z = (j : Int) := by
  rcases hz with ⟨k, y, rfl, hy, hoy, hm2⟩ | ⟨_, hno⟩
  ·rcases Nat.lt_trichotomy k j with h9 | h9 | h9
   ·rw [hmin k y h9 hy] at hoy; cases hoy
   ·rw [h9]
   ·rw [hm2 j x h9 hj] at hox; cases hox
  ·unfold sthere at hno
   rw [List.any_eq_true.2 ⟨x, mog hj, hox⟩] at hno
   cases hno
 refine .az rfl<|.region_tail 11 mixed (by kernel_rfl) ?_
 conv => arg 6; dsimp only [List.take]
 refine .mo rfl<|.nc rfl<|.fa rfl<|.lo rfl<|.mo rfl<|.mo rfl<|.nc rfl<|.fa rfl<|.lo rfl ?_
 refine .indexO j hOi hj (λ p80 => ?_)
 refine .fa rfl<|.nil ?_
 refine .storeO_gen (k := 8) (cs := [.int .u64 (S.head + 1)]) (z' := ⟨x.t, x.fr, S.head + 1⟩) j hOi hj rfl rfl rfl rfl rfl (by simp [oneCell]) rfl (by simp) (λ Td hOd => ?_)
 refine .nil<|blkQ_n<|seqQ_n<|.region<|.mo rfl<|.ia (i + 1) .add<|.ag rfl<|.nil ?_
 ·exact loopQ_i (i + 1, vi, _, Td) ⟨hlt, by simp only; exact hOd, by simp only; rw [hset] at hnx; exact hnx⟩ (by simp only; omega) (((kE.d rfl).d rfl).d rfl) (pkH [0, 0])
 refine .exit<|seqQ_x<|loopQ_x<|blkQ_x<|seqQ_n<|.sr<|.mo rfl<|.nc rfl<|.fa rfl<|.lo rfl<|.ag rfl<|.az rfl<|.ret (retQ_r _ (.two (.tmp rfl) (.tmp rfl)) ((HLe.ofPerm (H' := [(b, .cells [vi, .int .u64 (S.head + 1), .int .u64 S.hor].toArray 126 (0, 0)) :: Ti]) (by simp))) ?_)
 ·have hie : i = cs.length := by have := odf h3; omega
  subst hie
  have hfin := hLi.write hcode
  have hsw : (swrite S must no cs).head = S.head + 1 /\ (swrite S must no cs).hor = S.hor := by unfold swrite; rw [if_pos hcode]; exact ⟨rfl, rfl⟩
  exact ⟨_, rfl, by rw [hcode]; rfl, vi, Li, Ti, by rw [hsw.1, hsw.2], hOi, hfin⟩
structure WoM where
 c : CfM
 vw : Value
 calls : List SCall
def WoM.enc (w : WoM) : List Value := [w.c.vs, w.c.vc, w.vw]
structure WoM.is (R : Rds) (w : WoM) : Prop where
 c : w.c.is R
 rs : RS R 12 SCall.enc w.vw w.calls
 all : ∀ d ∈ w.calls, d.is R
theorem write_len {S : Sto} (hS : SOK S) (must no : List Tpl) (cs : List Chg) : (swrite S must no cs).rows.length <= S.rows.length + 32 := by
 by_cases h : scode S must no cs = 0
 ·rw [swrite_rows hS h]
  have hc : scheck must no cs = 0 := by
   unfold scode at h
   split at h
   ·rename_i h2; exact absurd h h2
   ·rename_i h2; simpa using h2
  have hl : cs.length <= 32 := by
   unfold scheck at hc
   split at hc
   ·cases hc
   ·omega
  simp only [List.length_append, List.length_map, news]
  have := List.length_filter_le (λ c : Chg => c.put) cs
  omega
 ·rw [swrite_else h]; omega
theorem SOK.new : SOK ⟨[], 0, 0⟩ := ⟨λ x hx => (by cases hx), List.Pairwise.nil, by simp, Int.le_refl _, Int.le_refl _, by decide⟩
theorem hcode_nil (c : Cf) : hcode [] 0 c = (c.numbers isWord isRef).1 := by
 unfold hcode
 simp only [List.getLast?_nil, Option.map_none, Option.getD_none, Bool.false_eq_true, if_false, List.length_nil]
 by_cases h : (c.numbers isWord isRef).1 = 0
 ·rw [if_neg (by rw [h]; simp), h]; rfl
 ·rw [if_pos h]
def MadeT (R : Rds) (w : WoM) (u : Value) (H : Segs) : Prop := ∃ Tc Th Ts Tx hb g x e S, ∃ c : CfM, H = [Tc, Th, Ts, Tx] /\ u = .tuple [pT hb, pT g, .agg c.enc.toArray, pT x, .bool true].toArray /\
 c.is (λ b o => R b o \/ (b, o) ∈ Tc) /\ c.plain = cfFew w.c.plain /\ ((cfFew w.c.plain).numbers isWord isRef).1 = 0 /\ EnM.rev e = 0 /\ (EnM.c e).plain = cfFew w.c.plain /\ HI hb [e] 0 Th /\ SI g S Ts /\ SOK S /\ DO x S Tx /\ S.rows.length <= 512
theorem made_spec (w : WoM) (R : Rds) (h : w.is R) : Spec prog 19 [.agg w.enc.toArray] R [] λ u H' => MadeT R w u H' \/
  ∃ T c, ∃ x : Nat, H' = [T] /\ u = .tuple [.pointer none, .pointer none, .agg (CfM.enc c).toArray, pT x, .bool false].toArray /\ c.is (λ b o => R b o \/ (b, o) ∈ T) /\ c.plain = cfFew w.c.plain /\ ((cfFew w.c.plain).numbers isWord isRef).1 ≠ 0 := by
 obtain ⟨c, vw, calls⟩ := w
 have hc := h.c
 have hcs := h.rs
 have hca := h.all
 simp only at hc hcs hca ⊢
 have i1 : One c.vs := RS.oneCell hc.ss
 have i2 : One c.vc := RS.oneCell hc.sc
 have i3 := hcs.oneCell
 have hcn := hcode_nil (cfFew c.plain)
 refine Spec.body Tryz.func19 rfl Tryz.results19 Tryz.ntmps19 rfl<|.sr ?_
 refine .boxA rfl (λ b1 => ?_)
 refine .ag rfl<|.ag rfl ?_
 refine .allocA (λ b4 => ?_)
 refine .ag rfl<|.ag rfl<|.z<|.fa rfl<|.q (.loadT rfl)<|.callN ((few16_spec c R hc).weaken rxl) (λ u Tc hu => ?_)
 obtain ⟨c', rfl, hc', hpl⟩ := hu
 have ic : Ones c'.enc := ⟨hc'.ones⟩
 have ic1 : One c'.vs := RS.oneCell hc'.ss
 have ic2 : One c'.vc := RS.oneCell hc'.sc
 refine .allocA (λ b7 => ?_)
 refine .storeA rfl rfl<|.z<|.q (.loadA rfl)<|.callN ((rnumbers_spec c' _ hc').weaken λ b o hb => hb.elim .inl λ hb => .inr (by simp [hb])) (λ u Tn hu => ?_)
 obtain ⟨wn, lln, rfl, hNN, hlln⟩ := hu
 rw [hpl]
 have in1 : One wn := hNN.rs.oneCell
 refine .mo rfl<|.q .extract<|.q .extract<|.ag rfl<|.ag rfl<|.z<|.callN (hnew_spec _) (λ u Th hu => ?_)
 obtain ⟨hb, rfl, hH⟩ := hu
 refine .callN (snew_spec _) (λ u Ts hu => ?_)
 obtain ⟨g, rfl, hSI⟩ := hu
 refine .q .bld ?_
 refine .boxA rfl (λ b26 => ?_)
 refine .ag rfl<|.ag rfl<|.ag rfl<|.zs<|.sr<|.mo rfl<|.q .neI<|.mo rfl<|.split (t := 29) rfl (λ g4_2 => ?_) (λ g4_2 => ?_)
 have hz1 : ((cfFew c.plain).numbers isWord isRef).1 ≠ 0 := by simpa using g4_2
 refine .gF g4_2<|.gF g4_2<|.gF g4_2<|.gF g4_2<|.q (.pickTh g4_2)<|.zn<|.condT<|.seq<|.region_all [4] mixed<|.tO 0 rfl (.loadA rfl)<|.tK 1 rfl .move<|.tO 2 rfl .assign<|.tO 3 rfl .assign<|.sT 4 rfl<|.storeA rfl rfl<|.nil<|Next.mod rfl<|.tK 5 rfl .assign<|.tK 6 rfl .assign<|RA.nil (by kernel_rfl)<|seqQ_n ?_
 refine .ret (seqQ_r (retQ_r _ (.five (.tmp rfl) (.tmp rfl) (.cellA rfl rfl) (.tmp rfl) (.tmp rfl)) (.one [5] _) ?_))
 ·exact .inr ⟨_, c', _, rfl, rfl, hc'.mono λ b o hb => hb.elim .inl λ hb => .inr (by simp [take, dropAt, hb]), hpl, hz1⟩
 have hz0 : ((cfFew c.plain).numbers isWord isRef).1 = 0 := by simpa using g4_2
 refine .gT g4_2<|.mo rfl<|.gT g4_2<|.q (.loadA rfl)<|.gT g4_2<|.callW (hadd_spec hb [] 0 Th hH (by simp) 0 c' _ (hc'.mono λ b o hb => hb.elim .inl λ hb => .inr (by simp [hb]))) (λ u Th2 hu => ?_)
 rw [hpl, hcn] at hu
 obtain ⟨rfl, hA0, hA1⟩ := hu
 refine .gT g4_2<|.q .neI<|.q (.pickFh g4_2)<|.zn<|.cond rfl (λ h1 => ?_) λ h1 => ?_
 refine .seq<|.region_all [4] mixed<|.tO 0 rfl (.loadA rfl)<|.tK 1 rfl .move<|.tO 2 rfl .assign<|.tO 3 rfl .assign<|.sT 4 rfl<|.storeA rfl rfl<|.nil<|Next.mod rfl<|.tK 5 rfl .assign<|.tK 6 rfl .assign<|RA.nil (by kernel_rfl)<|seqQ_n ?_
 refine .ret (seqQ_r (retQ_r _ (.five (.tmp rfl) (.tmp rfl) (.cellA rfl rfl) (.tmp rfl) (.tmp rfl)) (.one [5] _) ?_))
 ·exfalso
  rw [hz0] at h1
  simp at h1
 obtain ⟨e, her, hec, hHI⟩ := hA0 hz0
 rw [List.nil_append] at hHI
 refine .kn<|.sr<|.fa rfl<|.lo rfl<|.callN (few12_spec _ calls 16 (by omega) _ R hcs.rx hca) (λ u T13 hu => ?_)
 obtain ⟨ds, hOd, hds, hdl⟩ := hu
 have i13 := hOd.oneCell
 have hdl16 : ds.length <= 16 := by rw [hdl]; exact Nat.min_le_right _ _
 refine .ag rfl<|.zs<|.sr<|.az rfl<|.block<|.loopS [(4, _), (7, _), (10, _), (11, _), (12, _), (13, _)] (X := Nat × Sto × Seg × Seg) (λ y => y.1 <= ds.length /\ SI g y.2.1 y.2.2.1 /\ SOK y.2.1 /\ DO b26 y.2.1 y.2.2.2 /\ y.2.1.rows.length <= 32 * y.1) (λ y E => (14, iN y.1) :: E) (λ y G => T13 :: y.2.2.2 :: y.2.2.1 :: G) (λ y => ds.length - y.1) (0, ⟨[], 0, 0⟩, Ts, bl b26 [sZ, .int .u64 0, .int .u64 0] 126) ⟨Nat.zero_le _, hSI, SOK.new, ⟨_, [], [], rfl, OS.nil, RL.new⟩, by simp⟩ kE.c.c.c.c.c.c.c rH ?_
 rintro ⟨i, S, Ts, Tx⟩ ⟨hi, hSI, hSOK, hDO, hrl⟩
 simp only at hi hSI hSOK hDO hrl ⊢
 refine .seq<|.sr<|.mo rfl<|.mo rfl<|.q (.lenO hOd)<|.q .lss<|.zn<|.cond rfl (λ h2 => ?_) λ h2 => ?_
 have hlt : i < ds.length := lt_i h2
 obtain ⟨d, hd⟩ := exg hlt
 obtain ⟨hdi, hd1, hd2, hd3⟩ := hds d (mog hd)
 obtain ⟨dk, wm, wn_, wc, df, dr, must, no, cs⟩ := d
 have hwl := write_len hSOK must no cs
 have iw1 : One wm := RS.oneCell hdi.hm
 have iw2 : One wn_ := RS.oneCell hdi.hn
 have iw3 : One wc := RS.oneCell hdi.hc
 refine .kn<|.seq<|.block<|.sr<|.mo rfl<|.mo rfl ?_
 refine .indexO i hOd hd (λ p48 => ?_)
 refine .fa rfl<|.lo rfl<|.q .eqI<|.zn<|.cond rfl (λ h3 => ?_) λ h3 => ?_
 refine .seq<|.region_tail 16 mixed (by kernel_rfl) ?_
 conv => arg 6; dsimp only [List.take]
 refine .mo rfl<|.mo rfl<|.mo rfl ?_
 refine .indexO i hOd hd (λ p55 => ?_)
 refine .fa rfl<|.lo rfl<|.mo rfl<|.mo rfl ?_
 refine .indexO i hOd hd (λ p60 => ?_)
 refine .fa rfl<|.lo rfl<|.mo rfl<|.mo rfl ?_
 refine .indexO i hOd hd (λ p65 => ?_)
 refine .fa rfl<|.lo rfl<|.nil<|.callM (write_spec g S Ts hSI hSOK wm wn_ wc must no cs _ hdi.hm hdi.hn hdi.hc hdi.fm hdi.fn hdi.fc) (λ u Ts2 hu => ?_)
 obtain ⟨rfl, hSI2⟩ := hu
 refine .zn<|.region_tail 16 mixed (by kernel_rfl) ?_
 conv => arg 6; dsimp only [List.take]
 refine .mo rfl<|.mo rfl<|.mo rfl ?_
 refine .indexO i hOd hd (λ p72 => ?_)
 refine .fa rfl<|.lo rfl<|.mo rfl<|.mo rfl ?_
 refine .indexO i hOd hd (λ p77 => ?_)
 refine .fa rfl<|.lo rfl<|.mo rfl<|.mo rfl ?_
 refine .indexO i hOd hd (λ p82 => ?_)
 refine .fa rfl<|.lo rfl<|.nil<|.callM (rwrite_spec b26 S Tx hDO hSOK wm wn_ wc must no cs _ hdi.hm hdi.hn hdi.hc hdi.fm hdi.fn hdi.fc (by have h9 : cs.length <= 34 := hd3; omega)) (λ u Tx2 hu => ?_)
 obtain ⟨rfl, hDO2⟩ := hu
 refine .nil<|blkQ_n<|seqQ_n<|.region<|.mo rfl<|.ia (i + 1) .add<|.ag rfl<|.nil ?_
 ·exact loopQ_i (i + 1, swrite S must no cs, Ts2, Tx2) ⟨hlt, hSI2, hSOK.write must no cs, hDO2, by simp only; omega⟩ (by simp only; omega) kE.c.c.c.c.c.c.c rH
 refine .skip<|blkQ_n<|seqQ_n<|.region<|.mo rfl<|.ia (i + 1) .add<|.ag rfl<|.nil ?_
 ·exact loopQ_i (i + 1, S, Ts, Tx) ⟨hlt, hSI, hSOK, hDO, by simp only; omega⟩ (by simp only; omega) kE.c.c.c.c.c.c.c rH
 refine .exit<|seqQ_x<|loopQ_x<|blkQ_x<|seqQ_n<|.seq<|.region_all [6] mixed<|.tO 0 rfl .move<|.tO 1 rfl .move<|.tO 2 rfl (.loadA rfl)<|.tK 3 rfl .move<|.tO 4 rfl .assign<|.tO 5 rfl .assign<|.sT 6 rfl<|.storeA rfl rfl<|.nil<|Next.mod rfl<|.tK 7 rfl .assign<|.tK 8 rfl .assign<|RA.nil (by kernel_rfl)<|seqQ_n ?_
 refine .ret (retQ_r _ (.five (.tmp rfl) (.tmp rfl) (.cellA rfl rfl) (.tmp rfl) (.tmp rfl)) (pkH [6, 3, 2, 1]) ?_)
 ·exact .inl ⟨Tc, Th2, Ts, Tx, hb, g, b26, e, S, c', rfl, rfl, hc', hpl, hz0, her, hec, hHI, hSI, hSOK, hDO, by omega⟩
abbrev vNt (n : Nat) : Value := iN n
def numM (c : Cf) (num : List Nat) : List (Ty × Nat) := (c.all.map rkey).zip num
theorem numM_get (c : Cf) (num : List Nat) (hl : num.length = c.all.length) (t : Ty) : (mget t (numM c num)).getD 0 = match rfind c.all t with | none => 0 | some i => num.getD i 0 := by
 unfold numM rfind
 generalize c.all = A at *
 induction A generalizing num with
 | nil => simp [mget]
 | cons x A ih =>
  cases num with
  | nil => simp at hl
  | cons n num =>
   have := ih num (by simpa using hl)
   rw [List.map_cons, List.zip_cons_cons, mget, List.findIdx?_cons]
   by_cases e : t = rkey x
   ·subst e; simp
   ·rw [if_neg e, this]
    have e' : decide (rkey x = t) = false := decide_eq_false λ h => e h.symm
    rw [e']
    cases List.findIdx? (λ x => decide (rkey x = t)) A with
    | none => rfl
    | some i => rfl
theorem numbered_spec (c : CfM) (R : Rds) (h : c.is R) (hu : c.plain.uniq) (w : Value) (ll : List NlM) (num : List Nat) (hN : NN R w ll) (hll : ll.map (·.2) = rows c.plain.spaces num) (hlen : num.length = c.plain.all.length) :
  Spec prog 102 [.agg c.enc.toArray, w] R [] λ u H' => ∃ T, H' = [T] /\ MS kTy vNt u (numM c.plain num) T := by
 have hss := h.ss
 have i1 := hss.oneCell
 have i2 : One c.vc := RS.oneCell h.sc
 have hle := hss.le
 have hal := h.all
 have hnr := hN.rs
 have iw := hnr.oneCell
 have hna := hN.all
 have htot := total_all c.plain
 have hspl : c.plain.spaces.length = c.spaces.length := by unfold CfM.plain; simp
 have hpa : ∀ (i : Nat) (s : SpM), c.spaces[i]? = some s -> c.plain.spaces[i]? = some s.plain := λ i s hs => plain_at hs
 have hty := λ (p : Spot) (s : SpM) (r : RlM) => nms_typesC (c := c) (p := p) (s := s) (r := r)
 have hixd : ∀ i k, c.ix (i, k) = offs c.plain.spaces i + k := λ _ _ => rfl
 have hund : (c.plain.all.map rkey).Nodup := hu.2.1
 have hnmd : numM c.plain num = (c.plain.all.map rkey).zip num := rfl
 generalize hA : c.plain.all = A at *
 generalize hQ : numM c.plain num = Q at *
 have hQl : Q.length = A.length := by rw [hnmd]; simp [hlen]
 have hQk : Q.map (·.1) = A.map rkey := by rw [hnmd]; exact List.map_fst_zip (by simp [hlen])
 have hrow : ∀ i s, c.spaces[i]? = some s -> ∃ v, ll[i]? = some (v, (num.drop (offs c.plain.spaces i)).take s.rels.length) := λ i s hs => by
  have h1 := rows_at (n := num) (hpa i s hs)
  rw [<- hll, List.getElem?_map, show s.plain.rels.length = s.rels.length by simp [SpM.plain]] at h1
  obtain ⟨⟨v, r⟩, h2, h3⟩ := Option.map_eq_some_iff.1 h1
  exact ⟨v, by rw [h2]; simp only at h3; rw [h3]⟩
 generalize hO_ : offs c.plain.spaces = of at *
 have hof0 : of 0 = 0 := by rw [<- hO_]; cases c.plain.spaces <;> rfl
 refine Spec.body Tryz.func102 rfl Tryz.results102 Tryz.ntmps102 rfl<|.sr ?_
 refine .boxA rfl (λ b2 => ?_)
 refine .ag rfl<|.z ?_
 refine .makeMap (λ b10 => ?_)
 refine .ag rfl<|.zs<|.sr<|.fa rfl<|.lo rfl<|.q (.lenR hss)<|.mo rfl<|.zn<|.block<|.loopS [(1, _), (5, _), (12, _), (13, _)] (X := Nat × Seg) (λ y => y.1 <= c.spaces.length /\ MS kTy vNt (.map (some b10)) (Q.take (of y.1)) y.2) (λ y E => (14, iN y.1) :: E) (λ y G => y.2 :: G) (λ y => c.spaces.length - y.1) (0, [(b10, .map #[] 0)]) ⟨Nat.zero_le _, by rw [hof0]; exact MS.nil⟩ kE.c.c.c.c.c rH ?_
 rintro ⟨i, T⟩ ⟨hi, hM⟩
 simp only at hi hM ⊢
 refine .sr<|.q .lss<|.zs<|.cond rfl (λ h1 => ?_) λ h1 => ?_
 have hlt : i < c.spaces.length := lt_i h1
 obtain ⟨⟨sn, sv, rls⟩, hs⟩ := exg hlt
 have hsi := hal _ (mog hs)
 have hrs : RS R 3 RlM.enc sv rls := hsi.rs
 have irs := hrs.oneCell
 have hler := hrs.le
 have isp : Ones (SpM.enc ⟨sn, sv, rls⟩) := ⟨hsi.ones⟩
 have hofn := offs_next (hpa i _ hs)
 rw [hO_, show (SpM.plain ⟨sn, sv, rls⟩).rels.length = rls.length by simp [SpM.plain]] at hofn
 obtain ⟨vr, hlr⟩ := hrow i _ hs
 simp only at hlr
 have hrr := hna _ (mog hlr)
 simp only at hrr
 have ivr : One vr := hrr.oneCell
 refine .kn<|.seq<|.block<|.sr<|.mo rfl ?_
 refine .indexR i hss hs (λ p17 => ?_)
 refine .q (.loadA rfl) ?_
 refine .allocA (λ b7 => ?_)
 refine .ag rfl<|.storeA rfl rfl<|.z<|.fa rfl<|.lo rfl<|.q (.lenR hrs)<|.mo rfl<|.zn<|.block<|.loopS [(1, _), (5, _), (6, _), (7, _), (12, _), (13, _), (14, _), (20, _), (21, _)] (X := Nat × Seg) (λ y => y.1 <= rls.length /\ MS kTy vNt (.map (some b10)) (Q.take (of i + y.1)) y.2) (λ y E => (22, iN y.1) :: E) (G := [bl b2 c.enc 25]) (λ y G => bl b7 (SpM.enc ⟨sn, sv, rls⟩) 187 :: y.2 :: G) (λ y => rls.length - y.1) (0, T) ⟨Nat.zero_le _, hM⟩ kE.c.c.c.c.c.c.c.c.c.c rH ?_
 rintro ⟨k, T⟩ ⟨hk, hM⟩
 simp only at hk hM ⊢
 refine .sr<|.q .lss<|.zs<|.cond rfl (λ h2 => ?_) λ h2 => ?_
 have hkt : k < rls.length := lt_i h2
 obtain ⟨⟨vt, vn, r⟩, hr⟩ := exg hkt
 have hri := hsi.all _ (mog hr)
 have irt : One vt := RS.oneCell hri.t
 have ird : One vn := RS.oneCell hri.d
 have hone : Ones (RlM.enc ⟨vt, vn, r⟩) := ⟨hri.ones⟩
 have hax := hty (i, k) _ _ hs hr
 rw [hixd] at hax
 have hil : of i + k < A.length := (List.getElem?_eq_some_iff.1 hax).1
 obtain ⟨n, hn⟩ : ∃ n, num[of i + k]? = some n := ⟨_, gge (by omega)⟩
 have hrk : ((num.drop (of i)).take rls.length)[k]? = some n := by rw [List.getElem?_take_of_lt hkt, List.getElem?_drop]; exact hn
 have hQn : Q[of i + k]? = some (⟨sn, r.name⟩, n) := by
  rw [hnmd, List.getElem?_zip_eq_some]
  exact ⟨by rw [List.getElem?_map, hax]; rfl, hn⟩
 refine .kn<|.seq<|.block<|.sr<|.mo rfl ?_
 refine .indexR k hrs hr (λ p25 => ?_)
 refine .q (.loadA rfl) ?_
 refine .allocA (λ b9 => ?_)
 refine .ag rfl<|.storeA rfl rfl<|.zn<|.region_tail 13 mixed (by kernel_rfl) ?_
 conv => arg 6; dsimp only [List.take]
 refine .mo rfl<|.fa rfl<|.lo rfl<|.fa rfl<|.lo rfl ?_
 refine .q .bld ?_
 refine .mo rfl<|.mo rfl ?_
 refine .indexR i hnr hlr (λ p35 => ?_)
 refine .lo rfl<|.mo rfl ?_
 refine .indexR k hrr hrk (λ p38 => ?_)
 refine .lo rfl<|.nil<|.update (key := (⟨sn, r.name⟩ : Ty)) (u := n) hM rfl rfl rfl (λ T2 hM2 _ => ?_)
 rw [mset_new (λ hm => by
  obtain ⟨q, hq, e⟩ := List.mem_iff_getElem.1 hm
  rw [List.length_map, List.length_take] at hq
  rw [List.getElem_map, List.getElem_take] at e
  have h1 : (Q.map (·.1))[of i + k]? = some ⟨sn, r.name⟩ := by rw [List.getElem?_map, hQn]; rfl
  have h2 : (Q.map (·.1))[q]? = some ⟨sn, r.name⟩ := by rw [List.getElem?_map, gge (by omega), Option.map_some, e]
  exact not_nodup (show q < of i + k by omega) h1 h2 rfl (by rw [hQk]; exact hund)), <- take_next hQn] at hM2
 refine .nil<|blkQ_n<|seqQ_n<|.region<|.ia (k + 1) .add<|.mo rfl<|.nil ?_
 ·exact loopQ_i (k + 1, T2) ⟨hkt, hM2⟩ (by simp only; omega) kE.c.c.c.c.c.c.c.c.c.c (pkH [1, 1, 1])
 have hke : k = rls.length := by have := odf h2; omega
 rw [hke, <- hofn] at hM
 refine .exit<|seqQ_x<|loopQ_x<|blkQ_x<|blkQ_n<|seqQ_n<|.region<|.ia (i + 1) .add<|.mo rfl<|.nil ?_
 ·exact loopQ_i (i + 1, T) ⟨hlt, hM⟩ (by simp only; omega) kE.c.c.c.c.c (pkH [1, 1])
 refine .exit<|seqQ_x<|loopQ_x<|blkQ_x<|seqQ_n<|.sr<|.mo rfl<|.az rfl<|.ret (retQ_r _ (.one (.tmp rfl)) (.one [0] _) ?_)
 ·refine ⟨_, rfl, ?_⟩
  have hie : i = c.spaces.length := by have := odf h1; omega
  have : of i = Q.length := by
   rw [hie, hQl, <- hspl, <- hO_]; exact htot
  rw [this, List.take_length] at hM
  simpa [take] using hM
structure PlM where
 k : Obr
 found : Bool
 vn : Value
 nodes : List Nd
 vu : Value
 users : List ByteArray
 vl : Value
 ll : List NlM
 number : Nat
def PlM.enc (p : PlM) : List Value := [.string p.k.os, .string p.k.oi, .string p.k.rel, .bool p.found, p.vn, p.vu, p.vl, iN p.number]
def PlM.plain (p : PlM) : Plc := ⟨p.k, p.found, p.nodes, p.number, p.users, p.ll.map (·.2)⟩
structure PlM.is (R : Rds) (p : PlM) : Prop where
 n : RS R 5 Nd.enc p.vn p.nodes
 u : RS R 1 encS p.vu p.users
 l : NN R p.vl p.ll
theorem PlM.is.mono {R R' : Rds} {p : PlM} (h : p.is R) (hR : ∀ b o, R b o -> R' b o) : p.is R' := ⟨h.n.mono hR, h.u.mono hR, h.l.mono hR⟩
theorem PlM.is.ones {R : Rds} {p : PlM} (h : p.is R) : ∀ u ∈ p.enc, oneCell u = true := by
 have h1 := h.n.oneCell
 have h2 := h.u.oneCell
 have h3 := h.l.rs.oneCell
 intro u hu
 simp only [PlM.enc, List.mem_cons, List.not_mem_nil, or_false] at hu
 rcases hu with rfl | rfl | rfl | rfl | rfl | rfl | rfl | rfl
 ·rfl
 ·rfl
 ·rfl
 ·rfl
 ·exact h1.h
 ·exact h2.h
 ·exact h3.h
 ·rfl
instance Obr.keyR : KeyT prog 289 (λ k : Obr => .agg k.enc.toArray) := KeyT.agg fQ289 Tryz.underlying289 rfl Obr.kinds Obr.eq
abbrev kOb (k : Obr) : Value := .agg k.enc.toArray
structure XC where
 c : CfM
 num : List Nat
 vn : Value
 g : Nat
 S : Sto
 L : List SRow
 rev : Int
 b : Int
def XC.sub (x : XC) (k : Obr) : List Sub := if scan x.S x.rev then (x.L.filter λ y => y.there x.rev && decide (y.t.obr = k)).map (·.t.sub) else []
structure XC.ok (R : Rds) (x : XC) : Prop where
 c : x.c.is R
 n : RM R kTy vNt x.vn (numM x.c.plain x.num)
 nl : x.num.length = x.c.plain.all.length
 s : ∃ ps vf vr Mf Mr, SV R x.g x.S ps vf vr Mf Mr
 l : RL x.S x.L
 len : x.S.rows.length <= 512
theorem XC.ok.mono {R R' : Rds} {x : XC} (h : x.ok R) (hR : ∀ b o, R b o -> R' b o) : x.ok R' := ⟨h.c.mono hR, h.n.mono hR, h.nl, let ⟨ps, vf, vr, Mf, Mr, h1⟩ := h.s; ⟨ps, vf, vr, Mf, Mr, h1.mono hR⟩, h.l, h.len⟩
def XC.cells (x : XC) (va vp : Value) (e : Nat) : List Value := [x.c.vs, x.c.vc, x.vn, .pointer (some ⟨x.g, 0, none⟩), .int .u64 x.rev, va, vp, iN e, .int .i64 x.b]
abbrev XC.blk (x : XC) (xb : Nat) (va vp : Value) (e : Nat) : Seg := (bl xb (x.cells va vp e) 217)
def AtM (ps : List PlM) (va : Value) (T : Seg) : Prop := ∃ M, MS kOb vNt va M T /\ ∀ k, mget k M = pfind (ps.map PlM.plain) k
theorem over_spec (x : XC) (R : Rds) (h : x.ok R) (xb : Nat) (va vp : Value) (e : Nat) (ps : List PlM) [iv : One va] [pc : PC R (pT xb) (x.cells va vp e)] (hp : RS R 8 PlM.enc vp ps) (he : e <= 1000000000000) (hb : 0 <= x.b /\ x.b <= 9223372036854775807) :
  Spec prog 105 [pT xb] R [] λ u H' => u = .bool (decide (x.b < (ps.length + e : Nat))) /\ H' = [] := by
 have i1 : One x.c.vs := RS.oneCell h.c.ss
 have i2 : One x.c.vc := RS.oneCell h.c.sc
 have i3 := h.n.one
 have ip := hp.oneCell
 have hle := hp.le
 refine Spec.body Tryz.func105 rfl Tryz.results105 Tryz.ntmps105 rfl<|.sr<|.ag rfl<|.zs<|.region_still mixed (by kernel_rfl)<|.mo rfl<|.nc rfl<|.fa rfl<|.fa rfl<|.lo rfl<|.q (.lenR hp) ?_
 refine .mo rfl<|.nc rfl<|.fa rfl<|.lo rfl<|.mo rfl ?_
 refine .nc rfl<|.fa rfl<|.fa rfl<|.lo rfl ?_
 refine .q (.i64 (x.b - e) .sub ⟨by omega, by omega, by omega⟩) ?_
 refine .q .gtr<|.az rfl<|.ret (rq1 rfl ?_)
 ·refine ⟨congrArg _ ?_, rfl⟩
  rw [decide_eq_decide]
  omega
theorem pfind_app {ps : List Plc} {p : Plc} (h : pfind ps p.k = none) (k : Obr) : pfind (ps ++ [p]) k = if k = p.k then some ps.length else pfind ps k := by
 unfold pfind at h ⊢
 rw [List.findIdx?_append]
 by_cases e : k = p.k
 ·subst e
  rw [h, if_pos rfl]
  simp [List.findIdx?_cons]
 ·rw [if_neg e]
  have e' : decide (p.k = k) = false := decide_eq_false λ h => e h.symm
  simp [List.findIdx?_cons, e']
theorem AtM.add {ps : List PlM} {p : PlM} {va : Value} {T : Seg} {M : List (Obr × Nat)} (hM : MS kOb vNt va (mset p.k ps.length M) T) (hA : ∀ k, mget k M = pfind (ps.map PlM.plain) k) (h : pfind (ps.map PlM.plain) p.k = none) : AtM (ps ++ [p]) va T :=
 ⟨_, hM, λ k => by
  rw [mget_mset, hA, List.map_append, List.map_cons, List.map_nil, pfind_app h]
  rw [List.length_map]
  rfl⟩
def PlaceT (x : XC) (R : Rds) (xb : Nat) (ps : List PlM) (e : Nat) (va : Value) (k : Obr) (u : Value) (H' : Segs) : Prop := ∃ ps' vp Ta To, H' = [x.blk xb va vp e, Ta, To] /\ u = .int .i64 ((addK x.c.plain x.num (ps.map PlM.plain) k).2 : Nat) /\ ps'.map PlM.plain = (addK x.c.plain x.num (ps.map PlM.plain) k).1 /\ AtM ps' va Ta /\ OS 123 8 PlM.enc vp ps' To /\ ∃ l, ps' = ps ++ l /\ ∀ p ∈ l, p.is R
theorem place_spec (x : XC) (R : Rds) (h : x.ok R) (xb : Nat) (ps : List PlM) (e : Nat) (va vp : Value) (Ta To : Seg) (hA : AtM ps va Ta) (hO : OS 123 8 PlM.enc vp ps To) (hl : ps.length <= 3000000) (k : Obr) :
  Spec prog 104 [pT xb, .agg [.string k.os, .string k.oi].toArray, .string k.rel] R [x.blk xb va vp e, Ta, To] (PlaceT x R xb ps e va k) := by
 have hdef : ∀ u H', PlaceT x R xb ps e va k u H' ↔ ∃ ps' vp Ta To, H' = [x.blk xb va vp e, Ta, To] /\ u = .int .i64 ((addK x.c.plain x.num (ps.map PlM.plain) k).2 : Nat) /\ ps'.map PlM.plain = (addK x.c.plain x.num (ps.map PlM.plain) k).1 /\ AtM ps' va Ta /\ OS 123 8 PlM.enc vp ps' To /\ ∃ l, ps' = ps ++ l /\ ∀ p ∈ l, p.is R := λ _ _ => Iff.rfl
 have hsf := sfind_spec x.c R h.c k.os k.rel
 have i1 : One x.c.vs := RS.oneCell h.c.ss
 have i2 : One x.c.vc := RS.oneCell h.c.sc
 have i3 := h.n.one
 have hn := h.n
 have hnm := numM_get x.c.plain x.num h.nl
 obtain ⟨M, hM, hMk⟩ := hA
 have iv := hM.one
 have ip := hO.oneCell
 have hkl : ∀ i, pfind (ps.map PlM.plain) k = some i -> addK x.c.plain x.num (ps.map PlM.plain) k = (ps.map PlM.plain, i) := λ i hi => by unfold addK; rw [hi]
 have hkn : pfind (ps.map PlM.plain) k = none -> addK x.c.plain x.num (ps.map PlM.plain) k = (ps.map PlM.plain ++ [one x.c.plain x.num k], ps.length) := λ hi => by unfold addK; rw [hi]; simp
 have hAdd := λ (p : PlM) (T : Seg) => AtM.add (ps := ps) (p := p) (va := va) (T := T) (M := M)
 have hone : one x.c.plain x.num k = match rfind x.c.plain.all ⟨k.os, k.rel⟩ with
  | none => ⟨k, false, [], 0, [], []⟩
  | some i => ⟨k, true, (x.c.plain.all.map (·.2.nodes)).getD i [], x.num.getD i 0, [], []⟩ := rfl
 have hcal := h.c.all
 have hty := λ (p : Spot) (s : SpM) (r : RlM) => nms_typesC (c := x.c) (p := p) (s := s) (r := r)
 obtain ⟨i0, ok, hps, hok⟩ : ∃ (i : Nat) (ok : Bool), [((mget k M).map vNt).getD (vNt 0), Value.bool (mget k M).isSome] = [vNt i, .bool ok] /\ pfind (ps.map PlM.plain) k = if ok then some i else none := by
  rw [hMk k]
  cases pfind (ps.map PlM.plain) k with
  | none => exact ⟨0, false, rfl, rfl⟩
  | some i => exact ⟨i, true, rfl, rfl⟩
 refine Spec.body Tryz.func104 rfl Tryz.results104 Tryz.ntmps104 rfl<|.sr ?_
 refine .boxA rfl (λ b4 => ?_)
 refine .ag rfl<|.z<|.q (.loadA rfl)<|.mo rfl<|.q .bld ?_
 refine .allocA (λ b7 => ?_)
 refine .storeA rfl rfl<|.zs<|.seq<|.region_still mixed (by kernel_rfl)<|.mo rfl<|.nc rfl<|.fa rfl<|.lo rfl<|.q (.loadA rfl)<|.q (.cast (.lookup2 hM.rx rfl rfl) (congrArg (λ l : List Value => Value.tuple l.toArray) hps))<|.mo rfl<|.q .extract<|.q .extract<|.ag rfl<|.ag rfl<|.z<|.mo rfl<|.zn<|.cond rfl (λ h1 => ?_) λ h1 => ?_
 have hot : ok = true := h1
 subst hot
 have hkl' := hkl i0 hok
 refine .sr<|.mo rfl<|.az rfl<|.ret (seqQ_r (retQ_r _ (.one (.tmp rfl)) (pkH [2, 2, 2]) ?_))
 ·refine (hdef _ _).2 ⟨ps, vp, Ta, To, ?_, ?_, ?_, ⟨M, hM, hMk⟩, hO, [], by simp, λ p hp => (by cases hp)⟩
  ·simp [take, dropAt]
  ·rw [hkl']
  ·rw [hkl']
 have hof : ok = false := h1
 subst hof
 have hnone : pfind (ps.map PlM.plain) k = none := hok
 have hkn' := hkn hnone
 refine .kn<|.seq ?_
 refine Tri.cutS [(0, _), (2, _), (4, _), (7, _)] kE.c.c.c.c (X := Nat × RlM × Bool) (λ y => FoundR x.c ⟨k.os, k.rel⟩ y.2.1 y.2.2 /\ Ones y.2.1.enc) (λ y E => (10, .pointer (some ⟨y.1, 0, none⟩)) :: (11, .bool y.2.2) :: E) (λ y => [[(y.1, .cells y.2.1.enc.toArray 207 (0, 0))], bl b7 k.enc 289, bl b4 [.string k.os, .string k.oi] 30, x.blk xb va vp e, Ta, To]) ?_ ?_
 refine .region_all [12] mixed<|.tO 0 rfl .move<|.tO 1 rfl (.nilCheck rfl)<|.tO 2 rfl (.fieldAddr rfl) ?_
 refine .tO 3 rfl (.loadT rfl) ?_
 refine .tO 4 rfl (.fieldAddr rfl)<|.tO 5 rfl (.load1 rfl)<|.tO 6 rfl .move<|RA.step2 7 11 rfl rfl (by kernel_rfl) rfl ?_ ?_
 refine .callR ((hsf.mono λ u H' hu => ⟨hu.2, hu.1⟩).weaken rxl) (λ u hu => ?_)
 obtain ⟨r, fo, rfl, hF⟩ := hu
 have hro : Ones r.enc := by
  unfold FoundR at hF
  cases hf : rfind x.c.plain.all ⟨k.os, k.rel⟩ with
  | none => rw [hf] at hF; obtain ⟨_, rfl⟩ := hF; exact ⟨by simp [RlM.enc, RlM.zero, oneCell]⟩
  | some j => rw [hf] at hF; obtain ⟨_, p, s, hs, hr, hj⟩ := hF; exact ⟨((hcal _ (mog hs)).all _ (mog hr)).ones⟩
 refine .nil<|Next.sub<|.tO 8 rfl .move<|.tO 9 rfl .extract<|.tK 10 rfl .extract<|.sT 11 rfl ?_
 refine .allocA (λ b10 => ?_)
 refine .nil<|Next.sub<|.sT 12 rfl<|.storeA rfl rfl<|.nil<|Next.mod rfl<|.tK 13 rfl .assign<|RA.nil (by kernel_rfl) ?_
 ·exact joinQ_n (b10, r, fo) ⟨hF, hro⟩ kE.c.c.c.c.c.c rH
 refine .allocA (λ b10 => ?_)
 refine .nil<|Next.sub<|.sT 7 rfl<|.callR ((hsf.mono λ u H' hu => ⟨hu.2, hu.1⟩).weaken rxl) (λ u hu => ?_)
 obtain ⟨r, fo, rfl, hF⟩ := hu
 have hro : Ones r.enc := by
  unfold FoundR at hF
  cases hf : rfind x.c.plain.all ⟨k.os, k.rel⟩ with
  | none => rw [hf] at hF; obtain ⟨_, rfl⟩ := hF; exact ⟨by simp [RlM.enc, RlM.zero, oneCell]⟩
  | some j => rw [hf] at hF; obtain ⟨_, p, s, hs, hr, hj⟩ := hF; exact ⟨((hcal _ (mog hs)).all _ (mog hr)).ones⟩
 refine .nil<|Next.sub<|.tO 8 rfl .move<|.tO 9 rfl .extract<|.tK 10 rfl .extract<|.sT 12 rfl<|.storeA rfl rfl<|.nil<|Next.mod rfl<|.tK 13 rfl .assign<|RA.nil (by kernel_rfl) ?_
 ·exact joinQ_n (b10, r, fo) ⟨hF, hro⟩ kE.c.c.c.c.c.c rH
 intro y hy
 obtain ⟨bb, r, fo⟩ := y
 obtain ⟨hF, hro⟩ := hy
 simp only at hF hro ⊢
 obtain ⟨nn, hnn, hlk⟩ : ∃ nn, (mget (⟨k.os, k.rel⟩ : Ty) (numM x.c.plain x.num)).getD 0 = nn /\ ((mget (⟨k.os, k.rel⟩ : Ty) (numM x.c.plain x.num)).map vNt).getD (vNt 0) = vNt nn := by
  cases mget (⟨k.os, k.rel⟩ : Ty) (numM x.c.plain x.num) with
  | none => exact ⟨0, rfl, rfl⟩
  | some i => exact ⟨i, rfl, rfl⟩
 obtain ⟨hone', hnds⟩ : one x.c.plain x.num k = ⟨k, fo, r.r.nodes, nn, [], []⟩ /\ RS R 5 Nd.enc r.vn r.r.nodes := by
  rw [hone, <- hnn, hnm]
  unfold FoundR at hF
  cases hf : rfind x.c.plain.all ⟨k.os, k.rel⟩ with
  | none => rw [hf] at hF; obtain ⟨rfl, rfl⟩ := hF; exact ⟨rfl, RS.nil0⟩
  | some j =>
   rw [hf] at hF
   obtain ⟨rfl, p, s, hs, hr, hj⟩ := hF
   refine ⟨?_, ((hcal _ (mog hs)).all _ (mog hr)).d⟩
   have := hty p s r hs hr
   rw [hj] at this
   simp only [List.getD_eq_getElem?_getD, List.getElem?_map, this]
   rfl
 obtain ⟨vt, vd, r⟩ := r
 simp only at hone' hnds
 have ivd : One vd := hnds.oneCell
 obtain ⟨pd, cd, rfl⟩ := hnds.val
 refine seqQ_n<|.seq<|.region_tail 11 mixed (by kernel_rfl) ?_
 conv => arg 6; dsimp only [List.take]
 refine .mo rfl<|.nc rfl<|.fa rfl<|.lo rfl<|.q (.loadA rfl)<|.mo rfl<|.nc rfl<|.fa rfl<|.fa rfl<|.lo rfl<|.q (.lenO hO)<|.nil ?_
 refine .update (key := k) (u := ps.length) hM rfl rfl rfl (λ Ta2 hM2 _ => ?_)
 refine .zs<|.region_all [22, 26] mixed<|.tK 0 rfl .move<|.tO 1 rfl .move<|.tO 2 rfl (.nilCheck rfl)<|.tO 3 rfl (.fieldAddr rfl)<|.tO 4 rfl (.fieldAddr rfl)<|.tO 5 rfl (.load1 rfl)<|.tO 6 rfl (.loadA rfl)<|.tO 7 rfl .move<|.tO 8 rfl .move<|.tO 9 rfl (.fieldAddr rfl)<|.tO 10 rfl (.load1 rfl)<|.tO 11 rfl .move<|.tO 12 rfl (.nilCheck rfl)<|.tO 13 rfl (.fieldAddr rfl)<|.tO 14 rfl (.load1 rfl)<|.tO 15 rfl (.fieldAddr rfl)<|.tO 16 rfl (.load1 rfl)<|.tO 17 rfl .move<|.tO 18 rfl .bld<|.takeO 19 rfl (.lookupE (hn.mono λ b o hb => .inl hb) rfl rfl (key := (⟨k.os, k.rel⟩ : Ty)) hlk) (by kernel_rfl)<|.tO 20 rfl .bld<|.sT 21 rfl ?_
 refine .buildSlice1A (λ b69 => ?_)
 refine .nil<|Next.sub<|.sT 22 rfl<|.append hO (RS.lits (xs := [(⟨k, fo, .slice pd r.nodes.length cd, r.nodes, sZ, [], sZ, [], nn⟩ : PlM)]) rfl (by simp [PlM.enc]) (by simp [PlM.enc, oneCell])) (by simp only [List.length_singleton]; omega) (λ v5 T5 hv5 => ?_)
 have i5 := hv5.oneCell
 refine .nil<|Next.mod rfl<|.tK 23 rfl (.nilCheckA rfl)<|.tK 24 rfl (.fieldAddrA rfl)<|.tK 25 rfl (.fieldAddrA rfl)<|.sT 26 rfl<|.store1 rfl rfl<|.nil<|Next.mod rfl<|RA.nil (by kernel_rfl)<|seqQ_n<|.seq<|.region_still mixed (by kernel_rfl)<|.mo rfl<|.nc rfl<|.fa rfl<|.lo rfl<|.q (.loadA rfl)<|.q (.lookupE hM2.rx rfl rfl (key := k) rfl)<|.az rfl<|.ret (retQ_r _ (.one (.tmp rfl)) (pkH [4, 4, 4]) ?_)
 ·refine (hdef _ _).2 ⟨_, v5, Ta2, T5, ?_, ?_, ?_, hAdd _ _ hM2 hMk hnone, hv5, _, rfl, λ p hp => ?_⟩
  ·simp [take, dropAt, setL, XC.cells]
  ·rw [hkn', mget_mset, if_pos rfl]; rfl
  ·rw [hkn', hone', List.map_append]; rfl
  ·rw [List.mem_singleton] at hp
   subst hp
   exact ⟨hnds, RS.nil0, NN.nil⟩
theorem typed_S {st : PSt} (h : ∀ t ∈ st.1, tokOK t) : pTyped isWord st = match pTake tColon st with
  | none => ([], st)
  | some s => ([(pKind isWord s).1], (pKind isWord s).2) := by
 unfold pTyped
 cases hh : pTake tColon st with
 | none => rfl
 | some s =>
  simp only
  rw [pTypes, tok_none (λ t ht => h t ((take_suf hh).1.mem ((kind_suf s).mem ht))) (by simp)]
theorem nodes_S {st : PSt} (h : ∀ t ∈ st.1, tokOK t) : pNodes isWord st = match pTake tEq st with
  | none => ([⟨1, ⟨#[]⟩, ⟨#[]⟩, 0, 0⟩], st)
  | some s => facS [] s := by
 unfold pNodes
 cases hh : pTake tEq st with
 | none => rfl
 | some s =>
  simp only
  rw [expr_facS (λ t ht => h t ((take_suf hh).1.mem ht))]
theorem must_fit {s : ByteArray} {st : PSt} (h : ∀ t ∈ st.1, tokOK t) : ∀ t ∈ (pMust s st).1, tokOK t := λ t ht => h t ((must_suf s st).mem ht)
theorem kind_fit {st : PSt} (h : ∀ t ∈ st.1, tokOK t) : (pKind isWord st).1.fits := by
 unfold pKind
 split
 ·exact ⟨Nat.zero_le _, Nat.zero_le _⟩
 ·exact ⟨pword_fit h, pword_fit (must_fit λ t ht => h t ((word_suf st).mem ht))⟩
theorem facS_fit {st : PSt} (h : ∀ t ∈ st.1, tokOK t) : ∀ x ∈ (facS [] st).1, x.fits := by
 unfold facS
 split
 ·intro x hx
  rw [List.nil_append, List.mem_singleton] at hx
  subst hx
  exact ⟨Nat.zero_le _, Nat.zero_le _⟩
 ·intro x hx
  rw [List.nil_append, List.mem_singleton] at hx
  subst hx
  exact ⟨pword_fit h, Nat.zero_le _⟩
section
variable {R : Rds}
theorem relation_spec (pb : Nat) (st : PSt) (T : Seg) (hI : PaI R pb st T) : Spec prog 229 [pT pb] R [T] λ u H' => ∃ T' Tn, H' = [T', Tn] /\ ∃ r : RlM, u = .agg r.enc.toArray /\ r.is (sg Tn) /\ r.r = (pRel isWord st).1 /\ PaI R pb (pRel isWord st).2 T' := by
 have hpr : pRel isWord st = (⟨(pWord isWord st).1, (pTyped isWord (pWord isWord st).2).1, (pNodes isWord (pTyped isWord (pWord isWord st).2).2).1⟩, pMust tSemi (pNodes isWord (pTyped isWord (pWord isWord st).2).2).2) := rfl
 have hwf := pword_fit (W := isWord) hI.ok
 have hok1 : ∀ t ∈ (pWord isWord st).2.1, tokOK t := λ t ht => hI.ok t ((word_suf st).mem ht)
 have hty := typed_S hok1
 have hok2 : ∀ t ∈ (pTyped isWord (pWord isWord st).2).2.1, tokOK t := λ t ht => hok1 t ((typed_suf _).mem ht)
 have hnd := nodes_S hok2
 rw [hpr]
 clear hpr
 obtain ⟨ws, hws⟩ : ∃ ws, ws = pWord isWord st := ⟨_, rfl⟩
 have hpw := pword_spec pb st T R hI
 rw [<- hws] at hwf hok1 hty hok2 hnd hpw ⊢
 clear hws
 obtain ⟨nm, s1⟩ := ws
 simp only at hwf hok1 hty hok2 hnd hpw ⊢
 obtain ⟨tt, htt⟩ : ∃ tt, tt = pTyped isWord s1 := ⟨_, rfl⟩
 rw [<- htt] at hty hok2 hnd ⊢
 clear htt
 obtain ⟨tys, s2⟩ := tt
 simp only at hok2 hnd ⊢
 obtain ⟨nn, hnn⟩ : ∃ nn, nn = pNodes isWord s2 := ⟨_, rfl⟩
 rw [<- hnn] at hnd ⊢
 clear hnn
 obtain ⟨nds, s3⟩ := nn
 simp only
 refine Spec.body Tryz.func229 rfl Tryz.results229 Tryz.ntmps229 rfl ?_
 refine .sr ?_
 refine .allocA (λ b2 => ?_)
 refine .z<|.mo rfl ?_
 refine .callM (R := R) hpw (λ u T1 hu => ?_)
 obtain ⟨rfl, hI1⟩ := hu
 refine .q .bld ?_
 refine .buildSlice1A (λ b7 => ?_)
 refine .q .bld ?_
 refine .allocA (λ b3 => ?_)
 refine .storeA rfl rfl<|.zs<|.sr<|.mo rfl ?_
 refine .callM (R := R) (take_spec pb s1 _ R hI1 tColon) (λ u T2 hu => ?_)
 obtain ⟨rfl, hI2⟩ := hu
 refine .zn ?_
 refine Tri.cutS [(0, _), (2, _), (3, _)] kE.c.c.c (X := Value × Seg × Seg) (λ y => OS 252 2 Ty.enc y.1 tys y.2.1 /\ PaI R pb s2 y.2.2 /\ ∀ t ∈ tys, t.fits) (λ _ E => E) (λ y => [y.2.2, y.2.1, bl b3 [.string nm, y.1, .slice (some ⟨b7, 0, none⟩) 1 1] 207, bl b7 (Nd.enc ⟨1, ⟨#[]⟩, ⟨#[]⟩, 0, 0⟩) 168, bl b2 [.string ⟨#[]⟩, sZ, sZ] 207]) ?_ ?_
 refine .cond rfl (λ h1 => ?_) λ h1 => ?_
 obtain ⟨s, hs⟩ := Option.isSome_iff_exists.1 h1
 rw [hs] at hI2 hty
 simp only [Option.getD_some, Prod.mk.injEq] at hI2 hty
 obtain ⟨rfl, rfl⟩ := hty
 have hkf := kind_fit hI2.ok
 refine Tri.le (EnvLe.refl _) HLe.new0 ?_
 refine .seq ?_
 refine Tri.cutS [(0, _), (2, _), (3, _)] kE.c.c.c (X := Value × Seg × Seg) (λ y => OS 252 2 Ty.enc y.1 [(pKind isWord s).1] y.2.1 /\ PaI R pb (pKind isWord s).2 y.2.2) (λ _ E => E) (λ y => [y.2.2, y.2.1, bl b3 [.string nm, y.1, .slice (some ⟨b7, 0, none⟩) 1 1] 207, bl b7 (Nd.enc ⟨1, ⟨#[]⟩, ⟨#[]⟩, 0, 0⟩) 168, bl b2 [.string ⟨#[]⟩, sZ, sZ] 207]) ?_ ?_
 refine .region_all [3, 5, 7] mixed ?_
 refine .tK 0 rfl (.fieldAddrA rfl) ?_
 refine .tO 2 rfl .move ?_
 refine RA.step2 1 3 rfl rfl (by kernel_rfl) rfl ?_ ?_
 refine .lo rfl ?_
 refine .nil (Next.sub ?_)
 refine .sT 3 rfl ?_
 refine .callM (R := R) (kind_spec pb s _ hI2) (λ u T3 hu => ?_)
 obtain ⟨rfl, hI3⟩ := hu
 refine .nil (Next.mod rfl ?_)
 refine .sT 4 rfl ?_
 refine .buildSlice1A (λ b15 => ?_)
 refine .nil (Next.mod rfl ?_)
 refine .sT 5 rfl ?_
 refine .append (OS.nil (E := 252) (sz := 2) (enc := Ty.enc)) (RS.lits (xs := [(pKind isWord s).1]) rfl (by simp [Ty.enc]) (by simp [Ty.enc, oneCell])) (by simp only [List.length_singleton, List.length_nil]; omega) (λ v5 T5 hv5 => ?_)
 have i5 := hv5.oneCell
 refine .nil (Next.mod rfl ?_)
 refine .tK 6 rfl (.fieldAddrA rfl) ?_
 refine .sT 7 rfl ?_
 refine .store1 rfl rfl ?_
 refine .nil (Next.mod rfl ?_)
 refine RA.nil (by kernel_rfl) ?_
 ·exact joinQ_n (v5, T5, T3) ⟨hv5, hI3⟩ kE.c.c.c (pkH [5, 1, 1, 1, 1])
 refine .callM (R := R) (kind_spec pb s _ hI2) (λ u T3 hu => ?_)
 obtain ⟨rfl, hI3⟩ := hu
 refine .nil (Next.mod rfl ?_)
 refine RA.step2 1 4 rfl rfl (by kernel_rfl) rfl ?_ ?_
 refine .lo rfl ?_
 refine .nil (Next.mod rfl ?_)
 refine .sT 4 rfl ?_
 refine .buildSlice1A (λ b15 => ?_)
 refine .nil (Next.mod rfl ?_)
 refine .sT 5 rfl ?_
 refine .append (OS.nil (E := 252) (sz := 2) (enc := Ty.enc)) (RS.lits (xs := [(pKind isWord s).1]) rfl (by simp [Ty.enc]) (by simp [Ty.enc, oneCell])) (by simp only [List.length_singleton, List.length_nil]; omega) (λ v5 T5 hv5 => ?_)
 have i5 := hv5.oneCell
 refine .nil (Next.mod rfl ?_)
 refine .tK 6 rfl (.fieldAddrA rfl) ?_
 refine .sT 7 rfl ?_
 refine .store1 rfl rfl ?_
 refine .nil (Next.mod rfl ?_)
 refine RA.nil (by kernel_rfl) ?_
 ·exact joinQ_n (v5, T5, T3) ⟨hv5, hI3⟩ kE.c.c.c (pkH [5, 1, 1, 1, 1])
 refine .buildSlice1A (λ b15 => ?_)
 refine .nil (Next.mod rfl ?_)
 refine .sT 1 rfl ?_
 refine .lo rfl ?_
 refine .nil (Next.mod rfl ?_)
 refine .sT 5 rfl ?_
 refine .append (OS.nil (E := 252) (sz := 2) (enc := Ty.enc)) (RS.lits (xs := [(pKind isWord s).1]) rfl (by simp [Ty.enc]) (by simp [Ty.enc, oneCell])) (by simp only [List.length_singleton, List.length_nil]; omega) (λ v5 T5 hv5 => ?_)
 have i5 := hv5.oneCell
 refine .nil (Next.mod rfl ?_)
 refine .tK 6 rfl (.fieldAddrA rfl) ?_
 refine .sT 7 rfl ?_
 refine .store1 rfl rfl ?_
 refine .nil (Next.mod rfl ?_)
 refine RA.nil (by kernel_rfl) ?_
 ·exact joinQ_n (v5, T5, T3) ⟨hv5, hI3⟩ kE.c.c.c (pkH [5, 1, 1, 1, 1])
 intro y hy
 obtain ⟨v5, T5, T3⟩ := y
 obtain ⟨hv5, hI3⟩ := hy
 simp only at hv5 hI3 ⊢
 have i5 := hv5.oneCell
 refine seqQ_n<|.block ?_
 refine .loopS [(0, _), (2, _), (3, _)] (X := Seg) (λ T => PaI R pb (pKind isWord s).2 T) (λ _ E => E) (λ T G => T :: G) (λ _ => 0) T3 hI3 kE.c.c.c rH ?_
 rintro T4 hI4
 refine .seq<|.sr<|.mo rfl ?_
 refine .callM (R := R) (takeN_spec pb _ _ hI4 tBar (by simp)) (λ u T6 hu => ?_)
 obtain ⟨rfl, hI6⟩ := hu
 refine .zn<|.condF<|.exit<|seqQ_x<|loopQ_x<|blkQ_x ?_
 ·first
   |exact joinQ_n (v5, T5, T6) ⟨hv5, hI6, λ t ht => by rw [List.mem_singleton] at ht; subst ht; exact hkf⟩ kE.c.c.c rH
   |exact joinQ_n (sZ, [], T2) ⟨OS.nil, hI2, λ t ht => (by cases ht)⟩ kE.c.c.c (HLe.new0.trans (pkH [4, 0, 0, 0, 0]))
 have hs : pTake tColon s1 = none := by
  cases hh : pTake tColon s1 with
  | none => rfl
  | some x => rw [hh] at h1; cases h1
 rw [hs] at hI2 hty
 simp only [Option.getD_none, Prod.mk.injEq] at hI2 hty
 obtain ⟨rfl, rfl⟩ := hty
 refine .skip ?_
 ·first
   |exact joinQ_n (v5, T5, T6) ⟨hv5, hI6, λ t ht => by rw [List.mem_singleton] at ht; subst ht; exact hkf⟩ kE.c.c.c rH
   |exact joinQ_n (sZ, [], T2) ⟨OS.nil, hI2, λ t ht => (by cases ht)⟩ kE.c.c.c (HLe.new0.trans (pkH [4, 0, 0, 0, 0]))
 intro x hx
 obtain ⟨vt, Tt, T2⟩ := x
 obtain ⟨hOt, hI2, htf⟩ := hx
 simp only at hOt hI2 htf ⊢
 have it := hOt.oneCell
 refine seqQ_n<|.seq<|.sr<|.mo rfl ?_
 refine .callM (R := R) (take_spec pb s2 _ R hI2 tEq) (λ u T3 hu => ?_)
 obtain ⟨rfl, hI3⟩ := hu
 refine .zn ?_
 refine Tri.cutS [(0, _), (2, _), (3, _)] kE.c.c.c (X := Value × Seg × Seg) (λ y => OS 168 5 Nd.enc y.1 nds y.2.1 /\ PaI R pb s3 y.2.2 /\ ∀ t ∈ nds, t.fits) (λ _ E => E) (λ y => [y.2.2, y.2.1, Tt, bl b3 [.string nm, vt, y.1] 207, bl b2 [.string ⟨#[]⟩, sZ, sZ] 207]) ?_ ?_
 refine .cond rfl (λ h3 => ?_) λ h3 => ?_
 obtain ⟨s, hs⟩ := Option.isSome_iff_exists.1 h3
 rw [hs] at hI3 hnd
 simp only [Option.getD_some] at hI3 hnd
 have hff := facS_fit hI3.ok
 obtain ⟨rfl, rfl⟩ : nds = (facS [] s).1 /\ s3 = (facS [] s).2 := by rw [<- hnd]; exact ⟨rfl, rfl⟩
 refine Tri.le (EnvLe.refl _) HLe.new0 ?_
 refine .region<|.mo rfl ?_
 refine .call [1, 0] ((expr_spec (R := R) pb s _ hI3 (sZ) [] [] OS.nil (by simp)).weaken rxl) (λ u H' hu => ?_)
 obtain ⟨T4, Tn, rfl, hOn, hI4⟩ := hu
 have i7 := hOn.oneCell
 conv => arg 8; simp only [rest, dropAt, List.cons_append, List.nil_append]
 refine .fa rfl<|.store1 rfl rfl<|.nil ?_
 ·first
   |exact joinQ_n (_, Tn, T4) ⟨hOn, hI4, hff⟩ (((kE.d rfl).d rfl).d rfl) (pkH [0, 0, 0, 0, 1])
   |exact joinQ_n (.slice (some ⟨b7, 0, none⟩) 1 1, _, T3) ⟨OS.lits (xs := [(⟨1, ⟨#[]⟩, ⟨#[]⟩, 0, 0⟩ : Nd)]) rfl (by simp [Nd.enc]) (by simp [Nd.enc, oneCell]), hI3, λ t ht => by rw [List.mem_singleton] at ht; subst ht; exact ⟨Nat.zero_le _, Nat.zero_le _⟩⟩ (((kE.d rfl).d rfl).d rfl) (pkH [0, 2, 0, 0, 0])
 have hs : pTake tEq s2 = none := by
  cases hh : pTake tEq s2 with
  | none => rfl
  | some x => rw [hh] at h3; cases h3
 rw [hs] at hI3 hnd
 simp only [Option.getD_none, Prod.mk.injEq] at hI3 hnd
 obtain ⟨rfl, rfl⟩ := hnd
 refine .skip ?_
 ·first
   |exact joinQ_n (_, Tn, T4) ⟨hOn, hI4, hff⟩ (((kE.d rfl).d rfl).d rfl) (pkH [0, 0, 0, 0, 1])
   |exact joinQ_n (.slice (some ⟨b7, 0, none⟩) 1 1, _, T3) ⟨OS.lits (xs := [(⟨1, ⟨#[]⟩, ⟨#[]⟩, 0, 0⟩ : Nd)]) rfl (by simp [Nd.enc]) (by simp [Nd.enc, oneCell]), hI3, λ t ht => by rw [List.mem_singleton] at ht; subst ht; exact ⟨Nat.zero_le _, Nat.zero_le _⟩⟩ (((kE.d rfl).d rfl).d rfl) (pkH [0, 2, 0, 0, 0])
 intro x hx
 obtain ⟨vn, Tn, T3⟩ := x
 obtain ⟨hOn, hI3, hnf⟩ := hx
 simp only at hOn hI3 hnf ⊢
 have inn := hOn.oneCell
 refine seqQ_n<|.sr<|.mo rfl ?_
 refine .callM (R := R) (must_spec pb _ _ R hI3 tSemi) (λ u T5 hI5 => ?_)
 refine .z<|.q (.loadA rfl)<|.storeA rfl rfl<|.zn ?_
 refine .ret (retQ_r _ (.one (.cellA rfl rfl)) ((pkH [0, 0, 0]).trans (HLe.ofPerm (H' := [T5, Tn ++ Tt]) (by simp [take, dropAt]))) ?_)
 ·exact ⟨_, _, rfl, ⟨vt, vn, ⟨nm, tys, nds⟩⟩, rfl, ⟨hwf, hOt.sg.mono λ b o hb => sg_right hb, hOn.sg.mono λ b o hb => sg_left hb, htf, hnf⟩, rfl, hI5⟩
end
section
variable {R : Rds}
theorem space_spec (pb : Nat) (st : PSt) (T : Seg) (hI : PaI R pb st T) (hn : st.1.length <= 1000000) : Spec prog 177 [pT pb] R [T] λ u H' => ∃ T' Ts, H' = [T', Ts] /\ ∃ s : SpM, u = .agg s.enc.toArray /\ s.is (sg Ts) /\ s.plain = (pSpace isWord st).1 /\ PaI R pb (pSpace isWord st).2 T' := by
 have hps : pSpace isWord st = (⟨(pWord isWord st).1, (pRels isWord ((pMust tOpen (pWord isWord st).2).1.length + 1) [] (pMust tOpen (pWord isWord st).2)).1⟩, pMust tClose (pRels isWord ((pMust tOpen (pWord isWord st).2).1.length + 1) [] (pMust tOpen (pWord isWord st).2)).2) := rfl
 have hwf := pword_fit (W := isWord) hI.ok
 have hpw := pword_spec pb st T R hI
 have hl1 : (pMust tOpen (pWord isWord st).2).1.length <= 1000000 := Nat.le_trans (Nat.le_trans (must_suf _ _).len (word_suf st).len) hn
 rw [hps]
 clear hps
 generalize pWord isWord st = ws at *
 obtain ⟨nm, s1⟩ := ws
 simp only at hwf hpw hl1 ⊢
 obtain ⟨out, hout⟩ : ∃ out, out = pRels isWord ((pMust tOpen s1).1.length + 1) [] (pMust tOpen s1) := ⟨_, rfl⟩
 rw [<- hout]
 refine Spec.body Tryz.func177 rfl Tryz.results177 Tryz.ntmps177 rfl ?_
 refine .sr ?_
 refine .allocA (λ b2 => ?_)
 refine .z<|.mo rfl ?_
 refine .callM (R := R) hpw (λ u T1 hu => ?_)
 obtain ⟨rfl, hI1⟩ := hu
 refine .q .bld ?_
 refine .allocA (λ b3 => ?_)
 refine .storeA rfl rfl<|.z<|.mo rfl ?_
 refine .callM (R := R) (must_spec pb _ _ R hI1 tOpen) (λ u T2 hI2 => ?_)
 refine .zs<|.block ?_
 refine .loopS [(0, _), (2, _), (3, _)] (X := Nat × List RlM × PSt × Value × (Seg × Seg × Seg)) (λ y => PaI R pb y.2.2.1 y.2.2.2.2.1 /\ OS 207 3 RlM.enc y.2.2.2.1 y.2.1 y.2.2.2.2.2.1 /\ (∀ r ∈ y.2.1, r.is (sg y.2.2.2.2.2.2)) /\ pRels isWord y.1 (y.2.1.map (·.r)) y.2.2.1 = out /\ y.2.2.1.1.length + 1 <= y.1 /\ y.2.1.length + y.2.2.1.1.length <= 1000000) (λ _ E => E) (λ y _ => [y.2.2.2.2.1, y.2.2.2.2.2.1, y.2.2.2.2.2.2, bl b3 [.string nm, y.2.2.2.1] 187, bl b2 [.string ⟨#[]⟩, sZ] 187]) (λ y => y.1) ((pMust tOpen s1).1.length + 1, [], pMust tOpen s1, sZ, (T2, [], [])) ⟨hI2, OS.nil, λ r hr => (by cases hr), hout.symm, Nat.le_refl _, by simpa using hl1⟩ kE.c.c.c (HLe.new00.trans (pkH [4, 0, 0, 0, 0])) (G := []) ?_
 rintro ⟨f, L, s, vL, ⟨T, To, Ti⟩⟩ ⟨hIs, hO, hA, hG, hf, hn⟩
 simp only at hIs hO hA hG hf hn ⊢
 have io := hO.oneCell
 obtain ⟨f', rfl⟩ : ∃ f', f = f' + 1 := ⟨f - 1, by omega⟩
 rw [pRels] at hG
 refine .seq<|.sr<|.mo rfl ?_
 refine .callM (R := R) (take_spec pb s _ R hIs tRelation) (λ u T3 hu => ?_)
 obtain ⟨rfl, hI3⟩ := hu
 refine .zn ?_
 refine .cond rfl (λ h1 => ?_) λ h1 => ?_
 obtain ⟨z, hz⟩ := Option.isSome_iff_exists.1 h1
 rw [hz] at hI3 hG
 simp only [Option.getD_some] at hI3 hG
 have hzl := (take_suf hz).2.1
 have hrl := (rel_suf (W := isWord) z).len
 refine .kn<|.block ?_
 refine Tri.cutS [(0, _), (2, _), (3, _)] kE.c.c.c (X := RlM × Value × (Seg × Seg × Seg)) (λ y => PaI R pb (pRel isWord z).2 y.2.2.1 /\ OS 207 3 RlM.enc y.2.1 (L ++ [y.1]) y.2.2.2.1 /\ y.1.is (sg y.2.2.2.2) /\ y.1.r = (pRel isWord z).1) (λ _ E => E) (λ y => [y.2.2.1, y.2.2.2.1, y.2.2.2.2, Ti, bl b3 [.string nm, y.2.1] 187, bl b2 [.string ⟨#[]⟩, sZ] 187]) ?_ ?_
 refine .region_all [3, 5, 7] mixed ?_
 refine .tK 0 rfl (.fieldAddrA rfl) ?_
 refine .tO 2 rfl .move ?_
 refine RA.step2 1 3 rfl rfl (by kernel_rfl) rfl ?_ ?_
 refine .lo rfl ?_
 refine .nil (Next.sub ?_)
 refine .sT 3 rfl ?_
 refine .call [0] ((relation_spec (R := R) pb z _ hI3).weaken rxl) (λ u H' hu => ?_)
 obtain ⟨T4, Tn, rfl, r, rfl, hr, hrr, hI4⟩ := hu
 have ir : Ones r.enc := ⟨hr.ones⟩
 conv => arg 8; simp only [rest, dropAt, List.cons_append, List.nil_append]
 have irt : One r.vt := hr.t.oneCell
 have ird : One r.vn := hr.d.oneCell
 refine .nil (Next.mod rfl ?_)
 refine .sT 4 rfl ?_
 refine .buildSlice1A (λ b15 => ?_)
 refine .nil (Next.mod rfl ?_)
 refine .sT 5 rfl ?_
 refine .append hO (RS.lits (xs := [r]) rfl (by simp [RlM.enc]) (λ y hy u hu => by rw [List.mem_singleton] at hy; subst hy; exact hr.ones u hu)) (by simp only [List.length_singleton]; omega) (λ v5 T5 hv5 => ?_)
 have i5 := hv5.oneCell
 refine .nil (Next.mod rfl ?_)
 refine .tK 6 rfl (.fieldAddrA rfl) ?_
 refine .sT 7 rfl ?_
 refine .store1 rfl rfl ?_
 refine .nil (Next.mod rfl ?_)
 refine RA.nil (by kernel_rfl) ?_
 ·first
   |exact joinQ_n (r, v5, (T4, T5, Tn)) ⟨hI4, hv5, hr, hrr⟩ kE.c.c.c (pkH [1, 2, 1, 1, 1, 1])
   |exact joinQ_n (r, v5, (T4, T5, Tn)) ⟨hI4, hv5, hr, hrr⟩ kE.c.c.c (pkH [0, 1, 0, 0, 0, 0])
 refine .call [0] ((relation_spec (R := R) pb z _ hI3).weaken rxl) (λ u H' hu => ?_)
 obtain ⟨T4, Tn, rfl, r, rfl, hr, hrr, hI4⟩ := hu
 have ir : Ones r.enc := ⟨hr.ones⟩
 conv => arg 8; simp only [rest, dropAt, List.cons_append, List.nil_append]
 have irt : One r.vt := hr.t.oneCell
 have ird : One r.vn := hr.d.oneCell
 refine .nil (Next.mod rfl ?_)
 refine RA.step2 1 4 rfl rfl (by kernel_rfl) rfl ?_ ?_
 refine .lo rfl ?_
 refine .nil (Next.mod rfl ?_)
 refine .sT 4 rfl ?_
 refine .buildSlice1A (λ b15 => ?_)
 refine .nil (Next.mod rfl ?_)
 refine .sT 5 rfl ?_
 refine .append hO (RS.lits (xs := [r]) rfl (by simp [RlM.enc]) (λ y hy u hu => by rw [List.mem_singleton] at hy; subst hy; exact hr.ones u hu)) (by simp only [List.length_singleton]; omega) (λ v5 T5 hv5 => ?_)
 have i5 := hv5.oneCell
 refine .nil (Next.mod rfl ?_)
 refine .tK 6 rfl (.fieldAddrA rfl) ?_
 refine .sT 7 rfl ?_
 refine .store1 rfl rfl ?_
 refine .nil (Next.mod rfl ?_)
 refine RA.nil (by kernel_rfl) ?_
 ·first
   |exact joinQ_n (r, v5, (T4, T5, Tn)) ⟨hI4, hv5, hr, hrr⟩ kE.c.c.c (pkH [1, 2, 1, 1, 1, 1])
   |exact joinQ_n (r, v5, (T4, T5, Tn)) ⟨hI4, hv5, hr, hrr⟩ kE.c.c.c (pkH [0, 1, 0, 0, 0, 0])
 refine .buildSlice1A (λ b15 => ?_)
 refine .nil (Next.mod rfl ?_)
 refine .sT 1 rfl ?_
 refine .lo rfl ?_
 refine .nil (Next.mod rfl ?_)
 refine .sT 5 rfl ?_
 refine .append hO (RS.lits (xs := [r]) rfl (by simp [RlM.enc]) (λ y hy u hu => by rw [List.mem_singleton] at hy; subst hy; exact hr.ones u hu)) (by simp only [List.length_singleton]; omega) (λ v5 T5 hv5 => ?_)
 have i5 := hv5.oneCell
 refine .nil (Next.mod rfl ?_)
 refine .tK 6 rfl (.fieldAddrA rfl) ?_
 refine .sT 7 rfl ?_
 refine .store1 rfl rfl ?_
 refine .nil (Next.mod rfl ?_)
 refine RA.nil (by kernel_rfl) ?_
 ·first
   |exact joinQ_n (r, v5, (T4, T5, Tn)) ⟨hI4, hv5, hr, hrr⟩ kE.c.c.c (pkH [1, 2, 1, 1, 1, 1])
   |exact joinQ_n (r, v5, (T4, T5, Tn)) ⟨hI4, hv5, hr, hrr⟩ kE.c.c.c (pkH [0, 1, 0, 0, 0, 0])
 intro y hy
 obtain ⟨r, v5, ⟨T4, T5, Tn⟩⟩ := y
 obtain ⟨hI4, hv5, hr, hrr⟩ := hy
 simp only at hI4 hv5 hr hrr ⊢
 refine blkQ_n ?_
 ·exact loopQ_i (f', L ++ [r], (pRel isWord z).2, v5, (T4, T5, Tn ++ Ti)) ⟨hI4, hv5, λ q hq => by
   rcases List.mem_append.1 hq with hq | hq
   ·exact (hA q hq).mono λ b o hb => sg_right hb
   ·rw [List.mem_singleton] at hq
    subst hq
    exact hr.mono λ b o hb => sg_left hb, by simp only; rw [List.map_append, List.map_cons, List.map_nil, hrr]; exact hG, by simp only; omega, by simp only [List.length_append, List.length_singleton]; omega⟩ (by simp only; omega) kE.c.c.c (HLe.ofPerm (by simp))
 have hz : pTake tRelation s = none := by
  cases hh : pTake tRelation s with
  | none => rfl
  | some x => rw [hh] at h1; cases h1
 rw [hz] at hI3 hG
 simp only [Option.getD_none] at hI3 hG
 refine .exit<|seqQ_x<|loopQ_x<|blkQ_x<|seqQ_n<|.sr<|.mo rfl ?_
 refine .callM (R := R) (must_spec pb _ _ R hI3 tClose) (λ u T5 hI5 => ?_)
 refine .z<|.q (.loadA rfl)<|.storeA rfl rfl<|.zn ?_
 refine .ret (retQ_r _ (.one (.cellA rfl rfl)) ((pkH [0, 0, 0]).trans (HLe.ofPerm (H' := [T5, To ++ Ti]) (by simp [take, dropAt]))) ?_)
 ·exact ⟨_, _, rfl, ⟨nm, vL, L⟩, rfl, ⟨hwf, hO.sg.mono λ b o hb => sg_left hb, λ r hr => (hA r hr).mono λ b o hb => sg_right hb⟩, by rw [<- hG]; rfl, by rw [<- hG]; exact hI5⟩
theorem config_spec (pb : Nat) (st : PSt) (T : Seg) (hI : PaI R pb st T) (hn : st.1.length <= 1000000) : Spec prog 118 [pT pb] R [T] λ u H' => ∃ T' Ts, H' = [T', Ts] /\ ∃ c : CfM, u = .agg c.enc.toArray /\ c.is (sg Ts) /\ c.plain = ⟨(pConfig isWord (st.1.length + 1) [] st).1, []⟩ /\ PaI R pb (pConfig isWord (st.1.length + 1) [] st).2 T' := by
 obtain ⟨out, hout⟩ : ∃ out, out = pConfig isWord (st.1.length + 1) [] st := ⟨_, rfl⟩
 rw [<- hout]
 refine Spec.body Tryz.func118 rfl Tryz.results118 Tryz.ntmps118 rfl ?_
 refine .sr ?_
 refine .allocA (λ b2 => ?_)
 refine .z ?_
 refine .allocA (λ b3 => ?_)
 refine .zs<|.block ?_
 refine .loopS [(0, _), (2, _), (3, _)] (X := Nat × List SpM × PSt × Value × (Seg × Seg × Seg)) (λ y => PaI R pb y.2.2.1 y.2.2.2.2.1 /\ OS 187 2 SpM.enc y.2.2.2.1 y.2.1 y.2.2.2.2.2.1 /\ (∀ r ∈ y.2.1, r.is (sg y.2.2.2.2.2.2)) /\ pConfig isWord y.1 (y.2.1.map SpM.plain) y.2.2.1 = out /\ y.2.2.1.1.length + 1 <= y.1 /\ y.2.1.length + y.2.2.1.1.length <= 1000000) (λ _ E => E) (λ y _ => [y.2.2.2.2.1, y.2.2.2.2.2.1, y.2.2.2.2.2.2, bl b3 [y.2.2.2.1, sZ] 25, bl b2 [sZ, sZ] 25]) (λ y => y.1) (st.1.length + 1, [], st, sZ, (T, [], [])) ⟨hI, OS.nil, λ r hr => (by cases hr), hout.symm, Nat.le_refl _, by simpa using hn⟩ kE.c.c.c (HLe.new00.trans (pkH [4, 0, 0, 0, 0])) (G := []) ?_
 rintro ⟨f, L, s, vL, ⟨T, To, Ti⟩⟩ ⟨hIs, hO, hA, hG, hf, hn⟩
 simp only at hIs hO hA hG hf hn ⊢
 have io := hO.oneCell
 obtain ⟨f', rfl⟩ : ∃ f', f = f' + 1 := ⟨f - 1, by omega⟩
 rw [pConfig] at hG
 obtain ⟨⟨v2, hT2, hr2⟩, hok2⟩ := hIs
 have hIs : PaI R pb s T := ⟨⟨v2, hT2, hr2⟩, hok2⟩
 have i2 := hr2.oneCell
 have ps2 : PS T (pT pb) [v2, .bool s.2] := PS.of (E := 237) (fr := (0, 0)) (by rw [hT2]; simp)
 refine .seq<|.seq ?_
 refine Tri.cutS [(0, _), (2, _), (3, _)] kE.c.c.c (X := Unit) (λ _ => True) (λ _ E => (16, .bool (!s.2 && decide (0 < s.1.length))) :: E) (λ _ => [T, To, Ti, bl b3 [vL, sZ] 25, bl b2 [sZ, sZ] 25]) ?_ ?_
 refine .region<|.mo rfl<|.nc rfl<|.fa rfl<|.lo rfl<|.q .not<|.mo rfl ?_
 refine .split (t := 9) rfl (λ g2_5 => ?_) (λ g2_5 => ?_)
 refine .gT g2_5<|.mo rfl<|.gT g2_5<|.nc rfl<|.gT g2_5<|.fa rfl<|.gT g2_5<|.lo rfl<|.gT g2_5<|.q (.lenR hr2) ?_
 refine .gT g2_5<|.q .gtr<|.q (.pickTh g2_5) ?_
 refine .nil ?_
 ·first
   |exact joinQ_n () trivial (kE.c.c.c.consB rfl (by rw [g2_5]; simp)) rH
   |exact joinQ_n () trivial (kE.c.c.c.consB rfl (by rw [g2_5]; rfl)) rH
 refine .gF g2_5<|.gF g2_5<|.gF g2_5<|.gF g2_5<|.gF g2_5<|.gF g2_5<|.q (.pickFh g2_5) ?_
 refine .nil ?_
 ·first
   |exact joinQ_n () trivial (kE.c.c.c.consB rfl (by rw [g2_5]; simp)) rH
   |exact joinQ_n () trivial (kE.c.c.c.consB rfl (by rw [g2_5]; rfl)) rH
 intro y hy
 refine seqQ_n ?_
 refine .cond rfl (λ h1 => ?_) λ h1 => ?_
 simp only [Bool.and_eq_true, Bool.not_eq_true', decide_eq_true_eq] at h1
 have hs0 : ¬ (s.2 = true \/ s.1 = []) := by
  rintro (h | h)
  ·rw [h1.1] at h; cases h
  ·rw [h] at h1; simp at h1
 rw [if_neg hs0] at hG
 refine .kn<|.block<|.block<|.sr<|.mo rfl ?_
 refine .callM (R := R) (take_spec pb s _ R hIs tNamespace) (λ u T3 hu => ?_)
 obtain ⟨rfl, hI3⟩ := hu
 refine .az rfl ?_
 refine .cond rfl (λ h2 => ?_) λ h2 => ?_
 obtain ⟨z, hz⟩ := Option.isSome_iff_exists.1 h2
 rw [hz] at hI3 hG
 simp only [Option.getD_some] at hI3 hG
 have hzl := (take_suf hz).2.1
 have hrl := (space_suf (W := isWord) z).len
 refine Tri.cutS [(0, _), (2, _), (3, _)] kE.c.c.c (X := SpM × Value × (Seg × Seg × Seg)) (λ y => PaI R pb (pSpace isWord z).2 y.2.2.1 /\ OS 187 2 SpM.enc y.2.1 (L ++ [y.1]) y.2.2.2.1 /\ y.1.is (sg y.2.2.2.2) /\ y.1.plain = (pSpace isWord z).1) (λ _ E => E) (λ y => [y.2.2.1, y.2.2.2.1, y.2.2.2.2, Ti, bl b3 [y.2.1, sZ] 25, bl b2 [sZ, sZ] 25]) ?_ ?_
 refine .region_all [3, 5, 7] mixed ?_
 refine .tK 0 rfl (.fieldAddrA rfl) ?_
 refine .tO 2 rfl .move ?_
 refine RA.step2 1 3 rfl rfl (by kernel_rfl) rfl ?_ ?_
 refine .lo rfl ?_
 refine .nil (Next.sub ?_)
 refine .sT 3 rfl ?_
 refine .call [0] ((space_spec (R := R) pb z _ hI3 (by omega)).weaken rxl) (λ u H' hu => ?_)
 obtain ⟨T4, Tn, rfl, r, rfl, hr, hrr, hI4⟩ := hu
 have ir : Ones r.enc := ⟨hr.ones⟩
 conv => arg 8; simp only [rest, dropAt, List.cons_append, List.nil_append]
 have irt : One r.v := hr.rs.oneCell
 refine .nil (Next.mod rfl ?_)
 refine .sT 4 rfl ?_
 refine .buildSlice1A (λ b26 => ?_)
 refine .nil (Next.mod rfl ?_)
 refine .sT 5 rfl ?_
 refine .append hO (RS.lits (xs := [r]) rfl (by simp [SpM.enc]) (λ y hy u hu => by rw [List.mem_singleton] at hy; subst hy; exact hr.ones u hu)) (by simp only [List.length_singleton]; omega) (λ v5 T5 hv5 => ?_)
 have i5 := hv5.oneCell
 refine .nil (Next.mod rfl ?_)
 refine .tK 6 rfl (.fieldAddrA rfl) ?_
 refine .sT 7 rfl ?_
 refine .store1 rfl rfl ?_
 refine .nil (Next.mod rfl ?_)
 refine RA.nil (by kernel_rfl) ?_
 ·first
   |exact joinQ_n (r, v5, (T4, T5, Tn)) ⟨hI4, hv5, hr, hrr⟩ kE.c.c.c (pkH [1, 2, 1, 1, 1, 1])
   |exact joinQ_n (r, v5, (T4, T5, Tn)) ⟨hI4, hv5, hr, hrr⟩ kE.c.c.c (pkH [0, 1, 0, 0, 0, 0])
 refine .call [0] ((space_spec (R := R) pb z _ hI3 (by omega)).weaken rxl) (λ u H' hu => ?_)
 obtain ⟨T4, Tn, rfl, r, rfl, hr, hrr, hI4⟩ := hu
 have ir : Ones r.enc := ⟨hr.ones⟩
 conv => arg 8; simp only [rest, dropAt, List.cons_append, List.nil_append]
 have irt : One r.v := hr.rs.oneCell
 refine .nil (Next.mod rfl ?_)
 refine RA.step2 1 4 rfl rfl (by kernel_rfl) rfl ?_ ?_
 refine .lo rfl ?_
 refine .nil (Next.mod rfl ?_)
 refine .sT 4 rfl ?_
 refine .buildSlice1A (λ b26 => ?_)
 refine .nil (Next.mod rfl ?_)
 refine .sT 5 rfl ?_
 refine .append hO (RS.lits (xs := [r]) rfl (by simp [SpM.enc]) (λ y hy u hu => by rw [List.mem_singleton] at hy; subst hy; exact hr.ones u hu)) (by simp only [List.length_singleton]; omega) (λ v5 T5 hv5 => ?_)
 have i5 := hv5.oneCell
 refine .nil (Next.mod rfl ?_)
 refine .tK 6 rfl (.fieldAddrA rfl) ?_
 refine .sT 7 rfl ?_
 refine .store1 rfl rfl ?_
 refine .nil (Next.mod rfl ?_)
 refine RA.nil (by kernel_rfl) ?_
 ·first
   |exact joinQ_n (r, v5, (T4, T5, Tn)) ⟨hI4, hv5, hr, hrr⟩ kE.c.c.c (pkH [1, 2, 1, 1, 1, 1])
   |exact joinQ_n (r, v5, (T4, T5, Tn)) ⟨hI4, hv5, hr, hrr⟩ kE.c.c.c (pkH [0, 1, 0, 0, 0, 0])
 refine .buildSlice1A (λ b26 => ?_)
 refine .nil (Next.mod rfl ?_)
 refine .sT 1 rfl ?_
 refine .lo rfl ?_
 refine .nil (Next.mod rfl ?_)
 refine .sT 5 rfl ?_
 refine .append hO (RS.lits (xs := [r]) rfl (by simp [SpM.enc]) (λ y hy u hu => by rw [List.mem_singleton] at hy; subst hy; exact hr.ones u hu)) (by simp only [List.length_singleton]; omega) (λ v5 T5 hv5 => ?_)
 have i5 := hv5.oneCell
 refine .nil (Next.mod rfl ?_)
 refine .tK 6 rfl (.fieldAddrA rfl) ?_
 refine .sT 7 rfl ?_
 refine .store1 rfl rfl ?_
 refine .nil (Next.mod rfl ?_)
 refine RA.nil (by kernel_rfl) ?_
 ·first
   |exact joinQ_n (r, v5, (T4, T5, Tn)) ⟨hI4, hv5, hr, hrr⟩ kE.c.c.c (pkH [1, 2, 1, 1, 1, 1])
   |exact joinQ_n (r, v5, (T4, T5, Tn)) ⟨hI4, hv5, hr, hrr⟩ kE.c.c.c (pkH [0, 1, 0, 0, 0, 0])
 intro y hy
 obtain ⟨r, v5, ⟨T4, T5, Tn⟩⟩ := y
 obtain ⟨hI4, hv5, hr, hrr⟩ := hy
 simp only at hI4 hv5 hr hrr ⊢
 refine blkQ_n (blkQ_n ?_)
 ·first
   |exact loopQ_i (f', L ++ [r], (pSpace isWord z).2, v5, (T4, T5, Tn ++ Ti)) ⟨hI4, hv5, λ q hq => by
     rcases List.mem_append.1 hq with hq | hq
     ·exact (hA q hq).mono λ b o hb => sg_right hb
     ·rw [List.mem_singleton] at hq
      subst hq
      exact hr.mono λ b o hb => sg_left hb, by simp only; rw [List.map_append, List.map_cons, List.map_nil, hrr]; exact hG, by simp only; omega, by simp only [List.length_append, List.length_singleton]; omega⟩ (by simp only; omega) kE.c.c.c (HLe.ofPerm (by simp))
   |exact loopQ_i (f', L, pFail, vL, (_, To, Ti)) ⟨PaI.nil, hO, hA, by
     obtain ⟨f2, rfl⟩ : ∃ f2, f' = f2 + 1 := ⟨f' - 1, by omega⟩
     simp only
     rw [pConfig, if_pos (.inl rfl)]
     exact hG, by simp only [pFail, List.length_nil]; omega, by simp only [pFail, List.length_nil]; omega⟩ (by simp only; omega) (((kE.d rfl).d rfl).d rfl) rH
 have hz : pTake tNamespace s = none := by
  cases hh : pTake tNamespace s with
  | none => rfl
  | some x => rw [hh] at h2; cases h2
 rw [hz] at hI3 hG
 simp only [Option.getD_none] at hI3 hG
 refine .sr<|.mo rfl ?_
 refine .callM (R := R) (takeN_spec pb s _ hI3 tScope (by simp)) (λ u T4 hu => ?_)
 obtain ⟨rfl, hI4⟩ := hu
 refine .az rfl<|.condF<|.region<|.mo rfl ?_
 obtain ⟨⟨v3, rfl, hr3⟩, hok3⟩ := hI4
 have i3 := hr3.oneCell
 refine .callM (R := R) (fail_spec pb v3 s.2 R) (λ u T5 hu => ?_)
 subst hu
 refine .nil<|blkQ_n<|blkQ_n ?_
 ·first
   |exact loopQ_i (f', L ++ [r], (pSpace isWord z).2, v5, (T4, T5, Tn ++ Ti)) ⟨hI4, hv5, λ q hq => by
     rcases List.mem_append.1 hq with hq | hq
     ·exact (hA q hq).mono λ b o hb => sg_right hb
     ·rw [List.mem_singleton] at hq
      subst hq
      exact hr.mono λ b o hb => sg_left hb, by simp only; rw [List.map_append, List.map_cons, List.map_nil, hrr]; exact hG, by simp only; omega, by simp only [List.length_append, List.length_singleton]; omega⟩ (by simp only; omega) kE.c.c.c (HLe.ofPerm (by simp))
   |exact loopQ_i (f', L, pFail, vL, (_, To, Ti)) ⟨PaI.nil, hO, hA, by
     obtain ⟨f2, rfl⟩ : ∃ f2, f' = f2 + 1 := ⟨f' - 1, by omega⟩
     simp only
     rw [pConfig, if_pos (.inl rfl)]
     exact hG, by simp only [pFail, List.length_nil]; omega, by simp only [pFail, List.length_nil]; omega⟩ (by simp only; omega) (((kE.d rfl).d rfl).d rfl) rH
 have hs0 : s.2 = true \/ s.1 = [] := by
  cases hs : s.2 with
  | true => exact .inl rfl
  | false =>
   rw [hs] at h1
   simp at h1
   exact .inr h1
 rw [if_pos hs0] at hG
 refine .exit<|seqQ_x<|loopQ_x<|blkQ_x<|seqQ_n<|.sr<|.q (.loadA rfl)<|.storeA rfl rfl<|.zn ?_
 refine .ret (retQ_r _ (.one (.cellA rfl rfl)) ((pkH [0, 0, 0]).trans (HLe.ofPerm (H' := [T, To ++ Ti]) (by simp [take, dropAt]))) ?_)
 ·exact ⟨_, _, rfl, ⟨vL, sZ, L, []⟩, rfl, ⟨hO.sg.mono λ b o hb => sg_left hb, RS.nil0, λ r hr => (hA r hr).mono λ b o hb => sg_right hb, λ r hr => (by cases hr)⟩, by rw [<- hG]; rfl, by rw [<- hG]; exact hIs⟩
theorem nested_spec (v : Value) (L : List LTok) (h : RS R 3 LTok.enc v L) (hok : ∀ t ∈ L, tokOK t) : Spec prog 117 [v] R [] λ u H' => u = .bool false /\ H' = [] := by
 have iv := h.oneCell
 have hle := h.le
 refine Spec.body Tryz.func117 rfl Tryz.results117 Tryz.ntmps117 rfl ?_
 refine .sr<|.ag rfl<|.z<|.ag rfl<|.zs<|.sr<|.mo rfl<|.q (.lenR h) ?_
 refine .mo rfl<|.zn<|.block ?_
 refine .loopS [(6, _), (7, _)] (X := Nat) (λ i => i <= L.length) (λ i E => (8, iN i) :: (3, .int .i64 0) :: E) (λ _ G => G) (λ i => L.length - i) 0 (Nat.zero_le _) kE.c.c.c.c rH ?_
 rintro i hi
 refine .sr<|.q .lss<|.zs ?_
 refine .cond rfl (λ h1 => ?_) λ h1 => ?_
 have hlt : i < L.length := lt_i h1
 obtain ⟨t, ht⟩ := exg hlt
 have hto := hok t (mog ht)
 refine .kn<|.seq<|.block<|.sr ?_
 refine .indexR i h ht (λ p10 => ?_)
 refine .q (.loadA rfl) ?_
 refine .allocA (λ b5 => ?_)
 refine .storeA rfl rfl<|.zs<|.block<|.seq ?_
 refine Tri.cutS [(3, _), (5, _), (6, _), (7, _), (8, _)] kE.c.c.c.c.c (X := Unit) (λ _ => True) (λ _ E => (12, .bool false) :: E) (λ _ => [bl b5 t.enc 312]) ?_ ?_
 refine .region<|.fa rfl<|.lo rfl<|.q .eqI<|.mo rfl ?_
 refine .split (t := 16) rfl (λ g5_3 => ?_) (λ g5_3 => ?_)
 refine .gT g5_3<|.fa rfl<|.gT g5_3<|.lo rfl<|.gT g5_3<|.q .eqS<|.q (.pickTh g5_3) ?_
 refine .ag rfl<|.nil ?_
 ·exact joinQ_n () trivial (kE.c.c.c.c.c.consB rfl (by unfold tokOK at hto; have e : tLp = (⟨#[40]⟩ : ByteArray) := rfl; grind)) rH
 refine .gF g5_3<|.gF g5_3<|.gF g5_3<|.q (.pickFh g5_3) ?_
 refine .ag rfl<|.nil ?_
 ·exact joinQ_n () trivial (kE.c.c.c.c.c.consB rfl (by unfold tokOK at hto; have e : tLp = (⟨#[40]⟩ : ByteArray) := rfl; grind)) rH
 intro y hy
 refine seqQ_n<|.condF<|.seq ?_
 refine Tri.cutS [(3, _), (6, _), (7, _), (8, _)] kE.c.c.c.c (X := Unit) (λ _ => True) (λ _ E => (23, .bool false) :: E) (λ _ => [bl b5 t.enc 312]) ?_ ?_
 refine .region<|.fa rfl<|.lo rfl<|.q .eqI<|.mo rfl ?_
 refine .split (t := 27) rfl (λ g7_3 => ?_) (λ g7_3 => ?_)
 refine .gT g7_3<|.fa rfl<|.gT g7_3<|.lo rfl<|.gT g7_3<|.q .eqS<|.q (.pickTh g7_3) ?_
 refine .ag rfl<|.nil ?_
 ·exact joinQ_n () trivial (kE.c.c.c.c.consB rfl (by unfold tokOK at hto; have e : tRp = (⟨#[41]⟩ : ByteArray) := rfl; grind)) rH
 refine .gF g7_3<|.gF g7_3<|.gF g7_3<|.q (.pickFh g7_3) ?_
 refine .ag rfl<|.nil ?_
 ·exact joinQ_n () trivial (kE.c.c.c.c.consB rfl (by unfold tokOK at hto; have e : tRp = (⟨#[41]⟩ : ByteArray) := rfl; grind)) rH
 intro y hy
 refine seqQ_n<|.condF<|.skip<|blkQ_n<|seqQ_n<|.sr<|.mo rfl<|.q .gtr<|.zn ?_
 refine .cond rfl (λ h4 => ?_) λ h4 => ?_
 ·simp at h4
 refine .skip<|blkQ_n<|seqQ_n<|.region ?_
 refine .ia (i + 1) .add ?_
 refine .mo rfl<|.nil ?_
 ·exact loopQ_i (i + 1) hlt (by omega) kE.c.c.c.c (HLe.none _)
 refine .exit<|seqQ_x<|loopQ_x<|blkQ_x<|seqQ_n<|.sr<|.az rfl ?_
 refine .ret (retQ_r _ (.one (.tmp rfl)) (HLe.none _) ?_)
 ·exact ⟨rfl, rfl⟩
theorem parse_spec (s : ByteArray) (hs : s.size <= 16384) (hp : Pl s) (L : List LTok) (hL : lexT s = some L) (hok : ∀ t ∈ L, tokOK t) (hl : L.length <= 1000000) (C : List Sp) (hC : pConfig isWord (L.length + 1) [] (L, false) = (C, ([], false))) (hm : (⟨C, []⟩ : Cf).much isWord = false) :
  Spec prog 64 [.string s] R [] λ u H' => ∃ T, H' = [T] /\ ∃ c : CfM, u = .tuple [.agg c.enc.toArray, .int .i64 0].toArray /\ c.is (sg T) /\ c.plain = ⟨C, []⟩ := by
 refine Spec.body Tryz.func64 rfl Tryz.results64 Tryz.ntmps64 rfl ?_
 refine .sr ?_
 refine .allocA (λ b2 => ?_)
 refine .ag rfl<|.z<|.mo rfl ?_
 refine .callN (lex_spec s hs hp L hL _) (λ u TL hu => ?_)
 obtain ⟨v, rfl, hO⟩ := hu
 obtain ⟨pv, cv, rfl, _⟩ := hO.shape
 refine .mo rfl<|.q .extract<|.q .extract<|.ag rfl<|.ag rfl<|.zs<|.block<|.sr<|.mo rfl<|.q .neI<|.az rfl ?_
 refine .cond rfl (λ h1 => ?_) λ h1 => ?_
 ·simp at h1
 refine .sr<|.mo rfl ?_
 refine .callR (nested_spec _ L (hO.sg.seg) hok) (λ u hu => ?_)
 subst hu
 refine .az rfl<|.condF<|.skip<|blkQ_n<|seqQ_n<|.sr<|.mo rfl ?_
 refine .q .bld ?_
 refine .boxA rfl (λ b24 => ?_)
 refine .ag rfl<|.z<|.mo rfl ?_
 refine .call [0] (config_spec (T := pblk b24 (.slice pv L.length cv) false) b24 (L, false) ⟨⟨_, rfl, hO.rs λ p hp => .inr (by simp [rest, dropAt, hp])⟩, hok⟩ hl) (λ u H' hu => ?_)
 obtain ⟨T', Ts, rfl, c, rfl, hc, hcp, hI⟩ := hu
 rw [hC] at hcp hI
 obtain ⟨⟨v9, rfl, hr9⟩, _⟩ := hI
 have i9 := hr9.oneCell
 have ic1 : One c.vs := RS.oneCell hc.ss
 have ic2 : One c.vc := RS.oneCell hc.sc
 have ice : Ones c.enc := ⟨hc.ones⟩
 conv => arg 8; simp only [rest, dropAt, List.cons_append, List.nil_append]
 refine .allocA (λ b7 => ?_)
 refine .storeA rfl rfl<|.zs<|.block<|.sr<|.mo rfl<|.nc rfl<|.fa rfl<|.lo rfl<|.az rfl<|.condF<|.sr<|.q (.loadA rfl) ?_
 refine .callR (within_spec c _ (hc.mono λ b o hb => .inr (by have hb' : (b, o) ∈ Ts := hb; simp [hb']))) (λ u hu => ?_)
 subst hu
 rw [hcp, hm]
 refine .q .not<|.az rfl<|.condF<|.skip<|blkQ_n<|seqQ_n<|.sr<|.q (.loadA rfl)<|.storeA rfl rfl<|.az rfl ?_
 refine .ret (retQ_r _ (.two (.cellA rfl rfl) (.tmp rfl)) (pkH [2]) ?_)
 ·exact ⟨Ts, rfl, c, rfl, hc, hcp⟩
end
def uoF (c : Cf) (k : Obr) (l : List Sub) : List ByteArray := ((l.filter (allowed c k)).filter λ s => !decide (s.us = ⟨#[]⟩)).map (·.us)
def soF (c : Cf) (k : Obr) (l : List Sub) : List Sub := (l.filter (allowed c k)).filter λ s => decide (s.us = ⟨#[]⟩)
theorem uoF_one {c : Cf} {k : Obr} {l : List Sub} {i : Nat} {s : Sub} (h : l[i]? = some s) : uoF c k (l.take (i + 1)) = uoF c k (l.take i) ++ if allowed c k s = true /\ s.us ≠ ⟨#[]⟩ then [s.us] else [] := by
 rw [take_next h]
 unfold uoF
 rw [List.filter_append, List.filter_append, List.map_append]
 congr 1
 by_cases h1 : allowed c k s = true <;> by_cases h2 : s.us = ⟨#[]⟩ <;> simp [h1, h2]
theorem soF_one {c : Cf} {k : Obr} {l : List Sub} {i : Nat} {s : Sub} (h : l[i]? = some s) : soF c k (l.take (i + 1)) = soF c k (l.take i) ++ if allowed c k s = true /\ s.us = ⟨#[]⟩ then [s] else [] := by
 rw [take_next h]
 unfold soF
 rw [List.filter_append, List.filter_append]
 congr 1
 by_cases h1 : allowed c k s = true <;> by_cases h2 : s.us = ⟨#[]⟩ <;> simp [h1, h2]
theorem XC.sub_len {x : XC} {R : Rds} (h : x.ok R) (k : Obr) : (x.sub k).length <= 512 := by
 unfold XC.sub
 split
 ·rw [List.length_map]
  have h1 := List.length_filter_le (λ y : SRow => y.there x.rev && decide (y.t.obr = k)) x.L
  have h2 := h.l.pm.length_eq
  have h3 := h.len
  omega
 ·simp
theorem subjects_spec (x : XC) (R : Rds) (h : x.ok R) (xb : Nat) (va vp : Value) (e : Nat) [iv : One va] [ip : One vp] [pc : PC R (pT xb) (x.cells va vp e)] (k : Obr) :
  Spec prog 165 [pT xb, .agg [.string k.os, .string k.oi].toArray, .string k.rel] R [] λ u H' => ∃ Tu Ts, H' = [Tu, Ts] /\ ∃ wu ws, u = .tuple [wu, ws].toArray /\ OS 9 1 encS wu (usersOf x.c.plain x.sub k) Tu /\ OS 149 4 Sub.enc ws (setsOf x.c.plain x.sub k) Ts := by
 have hal := allowed_spec x.c R h.c
 have i1 : One x.c.vs := RS.oneCell h.c.ss
 have i2 : One x.c.vc := RS.oneCell h.c.sc
 have i3 := h.n.one
 obtain ⟨ps, vf, vr, Mf, Mr, hSV⟩ := h.s
 have hsl := XC.sub_len h k
 have hl := h.l
 have hlen := h.len
 have hU : usersOf x.c.plain x.sub k = uoF x.c.plain k (x.sub k) := rfl
 have hS : setsOf x.c.plain x.sub k = soF x.c.plain k (x.sub k) := rfl
 have hsub : x.sub k = if scan x.S x.rev then (x.L.filter λ y => y.there x.rev && decide (y.t.obr = k)).map (·.t.sub) else [] := rfl
 have hul : ∀ i, (uoF x.c.plain k ((x.sub k).take i)).length <= 512 := λ i => by
  unfold uoF
  rw [List.length_map]
  refine Nat.le_trans (List.length_filter_le _ _) (Nat.le_trans (List.length_filter_le _ _) ?_)
  rw [List.length_take]; omega
 have hol : ∀ i, (soF x.c.plain k ((x.sub k).take i)).length <= 512 := λ i => by
  unfold soF
  refine Nat.le_trans (List.length_filter_le _ _) (Nat.le_trans (List.length_filter_le _ _) ?_)
  rw [List.length_take]; omega
 have hu1 := λ (l : List Sub) (i : Nat) (s : Sub) (h : l[i]? = some s) => uoF_one (c := x.c.plain) (k := k) h
 have hs1 := λ (l : List Sub) (i : Nat) (s : Sub) (h : l[i]? = some s) => soF_one (c := x.c.plain) (k := k) h
 rw [hU, hS]
 generalize hL : x.sub k = l at *
 refine Spec.body Tryz.func165 rfl Tryz.results165 Tryz.ntmps165 rfl<|.sr ?_
 refine .boxA rfl (λ b4 => ?_)
 refine .ag rfl<|.ag rfl<|.z<|.ag rfl<|.z<|.ag rfl<|.zs<|.seq<|.region_all [] mixed<|.tO 0 rfl .move<|.tO 1 rfl (.nilCheck rfl)<|.tO 2 rfl (.fieldAddr rfl)<|.tO 3 rfl (.load1 rfl)<|.tO 4 rfl (.loadA rfl)<|.tO 5 rfl .move<|.tO 6 rfl .move<|.tO 7 rfl (.nilCheck rfl)<|.tO 8 rfl (.fieldAddr rfl)<|.tO 9 rfl (.load1 rfl)<|.tO 12 rfl .move<|.sT 10 rfl<|.callN ((SV.subs (hSV.mono λ b o hb => .inl hb) (by omega) k x.rev hl).weaken λ b o hb => hb) (λ u T10 hu => ?_)
 rw [<- hsub] at hu
 have iu := hu.oneCell
 refine .nil<|Next.sub<|.tO 11 rfl (.lenO hu)<|RA.nil (by kernel_rfl)<|seqQ_n<|.block<|.loopS [(0, _), (2, _), (4, _), (22, _), (23, _)] (X := Nat × Value × Value × Seg × Seg) (λ y => y.1 <= l.length /\ OS 9 1 encS y.2.1 (uoF x.c.plain k (l.take y.1)) y.2.2.2.1 /\ OS 149 4 Sub.enc y.2.2.1 (soF x.c.plain k (l.take y.1)) y.2.2.2.2) (λ y E => (24, iN y.1) :: (8, y.2.1) :: (9, y.2.2.1) :: E) (λ y G => y.2.2.2.1 :: y.2.2.2.2 :: G) (λ y => l.length - y.1) (0, sZ, sZ, [], []) ⟨Nat.zero_le _, OS.nil, OS.nil⟩ kE.c.c.c.c.c.c.c.c HLe.new00 ?_
 rintro ⟨i, vu, vs, Tu, Ts⟩ ⟨hi, hOu, hOs⟩
 simp only at hi hOu hOs ⊢
 have iu1 := hOu.oneCell
 have iu2 := hOs.oneCell
 refine .sr<|.q .lss<|.zs<|.cond rfl (λ h1 => ?_) λ h1 => ?_
 have hlt : i < l.length := lt_i h1
 obtain ⟨s, hs⟩ := exg hlt
 have hul' := hul i
 have hol' := hol i
 have hu1' := hu1 l i s hs
 have hs1' := hs1 l i s hs
 obtain ⟨us, ss, si, sr⟩ := s
 refine .kn<|.seq<|.block<|.sr ?_
 refine .indexO i hu hs (λ p26 => ?_)
 refine .q (.loadA rfl) ?_
 refine .allocA (λ b11 => ?_)
 refine .storeA rfl rfl<|.zn<|.block<|.seq<|.region_tail 8 mixed (by kernel_rfl) ?_
 conv => arg 6; dsimp only [List.take]
 refine .mo rfl<|.nc rfl<|.fa rfl<|.q (.loadT rfl)<|.q (.loadA rfl)<|.mo rfl<|.q (.loadA rfl)<|.q .bld<|.nil<|.callR ((hal ⟨k.os, k.oi, k.rel, us, ss, si, sr⟩).weaken rxl) (λ w hw => ?_)
 subst hw
 refine .q .neI<|.az rfl<|.cond rfl (λ h2 => ?_) λ h2 => ?_
 have hna : allowed x.c.plain k ⟨us, ss, si, sr⟩ = false := by
  cases hq : allowed x.c.plain k ⟨us, ss, si, sr⟩ with
  | false => rfl
  | true =>
   have : allowed x.c.plain (⟨k.os, k.oi, k.rel, us, ss, si, sr⟩ : Tpl).obr (⟨k.os, k.oi, k.rel, us, ss, si, sr⟩ : Tpl).sub = true := hq
   rw [this] at h2; simp at h2
 rw [if_neg (by rw [hna]; simp), List.append_nil] at hu1' hs1'
 refine .skip<|blkQ_n<|blkQ_n<|seqQ_n<|.region<|.ia (i + 1) .add<|.mo rfl<|.nil ?_
 ·exact loopQ_i (i + 1, vu, vs, Tu, Ts) ⟨hlt, by rw [hu1']; exact hOu, by rw [hs1']; exact hOs⟩ (by simp only; omega) kE.c.c.c.c.c.c.c.c (HLe.drop [0] _)
 have hya : allowed x.c.plain k ⟨us, ss, si, sr⟩ = true := by
  cases hq : allowed x.c.plain k ⟨us, ss, si, sr⟩ with
  | true => rfl
  | false =>
   have : allowed x.c.plain (⟨k.os, k.oi, k.rel, us, ss, si, sr⟩ : Tpl).obr (⟨k.os, k.oi, k.rel, us, ss, si, sr⟩ : Tpl).sub = false := hq
   rw [this] at h2; simp at h2
 refine .sr<|.fa rfl<|.lo rfl<|.q .neS<|.az rfl<|.cond rfl (λ h3 => ?_) λ h3 => ?_
 have hun : us ≠ ⟨#[]⟩ := by simpa using h3
 rw [if_pos ⟨hya, hun⟩] at hu1'
 rw [if_neg (λ hh => hun hh.2), List.append_nil] at hs1'
 refine .region<|.mo rfl<|.fa rfl<|.lo rfl ?_
 refine .buildSlice11 (λ b50 => ?_)
 refine .append hOu (RS.lits (xs := [us]) rfl (by simp [encS]) (by simp [encS, oneCell])) (by simp only [List.length_singleton]; omega) (λ v5 T5 hv5 => ?_)
 rw [<- hu1'] at hv5
 refine .ag rfl<|.nil<|blkQ_n<|blkQ_n<|seqQ_n<|.region<|.ia (i + 1) .add<|.mo rfl<|.nil ?_
 ·exact loopQ_i (i + 1, v5, vs, T5, Ts) ⟨hlt, hv5, by rw [hs1']; exact hOs⟩ (by simp only; omega) kE.c.c.c.c.c.c.c.c (HLe.drop [0, 0] _)
 have hun : us = ⟨#[]⟩ := by simpa using h3
 rw [if_neg (λ hh => hh.2 hun), List.append_nil] at hu1'
 rw [if_pos ⟨hya, hun⟩] at hs1'
 refine .region<|.mo rfl<|.q (.loadA rfl) ?_
 refine .buildSlice1A (λ b30 => ?_)
 refine .append hOs (RS.lits (xs := [(⟨us, ss, si, sr⟩ : Sub)]) rfl (by simp [Sub.enc]) (by simp [Sub.enc, oneCell])) (by simp only [List.length_singleton]; omega) (λ v5 T5 hv5 => ?_)
 rw [<- hs1'] at hv5
 refine .ag rfl<|.nil<|blkQ_n<|blkQ_n<|seqQ_n<|.region<|.ia (i + 1) .add<|.mo rfl<|.nil ?_
 ·exact loopQ_i (i + 1, vu, v5, Tu, T5) ⟨hlt, by rw [hu1']; exact hOu, hv5⟩ (by simp only; omega) kE.c.c.c.c.c.c.c.c (HLe.drop [0, 0] _)
 refine .exit<|seqQ_x<|loopQ_x<|blkQ_x<|seqQ_n<|.sr<|.mo rfl<|.mo rfl<|.ag rfl<|.az rfl<|.ret (retQ_r _ (.two (.tmp rfl) (.tmp rfl)) (pkH [0, 0]) ?_)
 ·have hie : i = l.length := by have := odf h1; omega
  subst hie
  rw [List.take_length] at hOu hOs
  exact ⟨Tu, Ts, by simp [take, dropAt], vu, vs, rfl, hOu, hOs⟩
structure LdI (x : XC) (R : Rds) (ps : List PlM) (va : Value) (ks : List Obr) (ps' : List PlM) (vp : Value) (Ta To : Seg) (vo : Value) (Tl : Seg) : Prop where
 l : OS 3 1 encNt vo (addKs x.c.plain x.num (ps.map PlM.plain) ks).2 Tl
 eq : ps'.map PlM.plain = (addKs x.c.plain x.num (ps.map PlM.plain) ks).1
 at_ : AtM ps' va Ta
 o : OS 123 8 PlM.enc vp ps' To
 gr : ∃ l, ps' = ps ++ l /\ ∀ p ∈ l, p.is R
theorem LdI.len {x : XC} {R : Rds} {ps ps' : List PlM} {va vp vo : Value} {ks : List Obr} {Ta To Tl : Seg} (h : LdI x R ps va ks ps' vp Ta To vo Tl) : ps'.length = (addKs x.c.plain x.num (ps.map PlM.plain) ks).1.length := by rw [<- h.eq, List.length_map]
theorem LdI.next {x : XC} {R : Rds} {ps ps1 ps2 : List PlM} {va vp1 vp2 vo vo2 : Value} {ks : List Obr} {i : Nat} {k : Obr} {Ta1 To1 Ta2 To2 Tl Tl2 : Seg} (h : LdI x R ps va (ks.take i) ps1 vp1 Ta1 To1 vo Tl) (hk : ks[i]? = some k)
  (e : ps2.map PlM.plain = (addK x.c.plain x.num (ps1.map PlM.plain) k).1) (a : AtM ps2 va Ta2) (o : OS 123 8 PlM.enc vp2 ps2 To2) (g : ∃ l, ps2 = ps1 ++ l /\ ∀ p ∈ l, p.is R)
  (hv : OS 3 1 encNt vo2 ((addKs x.c.plain x.num (ps.map PlM.plain) (ks.take i)).2 ++ [(addK x.c.plain x.num (ps1.map PlM.plain) k).2]) Tl2) : LdI x R ps va (ks.take (i + 1)) ps2 vp2 Ta2 To2 vo2 Tl2 := by
 have hT := addKs_take (c := x.c.plain) (num := x.num) hk (ps.map PlM.plain)
 rw [h.eq] at e hv
 refine ⟨by rw [hT]; exact hv, by rw [hT]; exact e, a, o, ?_⟩
 obtain ⟨l1, rfl, h1⟩ := h.gr
 obtain ⟨l2, rfl, h2⟩ := g
 refine ⟨l1 ++ l2, by rw [List.append_assoc], λ p hp => ?_⟩
 rcases List.mem_append.1 hp with hp | hp
 ·exact h1 p hp
 ·exact h2 p hp
def LeadsT (x : XC) (R : Rds) (xb : Nat) (ps : List PlM) (e : Nat) (va : Value) (ks : List Obr) (u : Value) (H' : Segs) : Prop := ∃ ps' vp Ta To Tl, H' = [Tl, x.blk xb va vp e, Ta, To] /\ LdI x R ps va ks ps' vp Ta To u Tl
theorem leads_spec (x : XC) (R : Rds) (h : x.ok R) (xb : Nat) (ps : List PlM) (e : Nat) (va vp : Value) (Ta To : Seg) (hA : AtM ps va Ta) (hO : OS 123 8 PlM.enc vp ps To) (k : Obr) (ex : List Value) (n : Nd) [ie : Ones ex]
  (hl : (addKs x.c.plain x.num (ps.map PlM.plain) (aheadK x.c.plain x.sub k n)).1.length <= 3000000) (hex : ex.length = 5) :
  Spec prog 166 [pT xb, .agg (.string k.os :: .string k.oi :: .string k.rel :: ex).toArray, .agg n.enc.toArray] R [x.blk xb va vp e, Ta, To] (LeadsT x R xb ps e va (aheadK x.c.plain x.sub k n)) := by
 obtain ⟨x3, x4, x5, x6, x7, rfl⟩ : ∃ a b c d f, ex = [a, b, c, d, f] := by
  match ex, hex with
  | [a, b, c, d, f], _ => exact ⟨a, b, c, d, f, rfl⟩
 have iall : Ones (Value.string k.os :: .string k.oi :: .string k.rel :: [x3, x4, x5, x6, x7]) := ⟨λ u hu => by
  simp only [List.mem_cons, List.not_mem_nil, or_false] at hu
  rcases hu with rfl | rfl | rfl | hu
  ·rfl
  ·rfl
  ·rfl
  ·exact ie.h u (by simpa using hu)⟩
 have hsp := subjects_spec x
 have hplace := place_spec x R h xb
 have i1 : One x.c.vs := RS.oneCell h.c.ss
 have i2 : One x.c.vc := RS.oneCell h.c.sc
 have i3 := h.n.one
 obtain ⟨M0, hM0, _⟩ := id hA
 have iva := hM0.one
 have ivp := hO.oneCell
 have hdef : ∀ ks u H', LeadsT x R xb ps e va ks u H' ↔ ∃ ps' vp Ta To Tl, H' = [Tl, x.blk xb va vp e, Ta, To] /\ LdI x R ps va ks ps' vp Ta To u Tl := λ _ _ _ => Iff.rfl
 have hk0 : aheadK x.c.plain x.sub k n = if n.kind = 1 then (setsOf x.c.plain x.sub k).map λ s => ⟨s.ss, s.si, s.sr⟩
  else if n.kind = 3 then (setsOf x.c.plain x.sub ⟨k.os, k.oi, n.rel⟩).map λ s => ⟨s.ss, s.si, n.thn⟩
  else if n.kind = 2 then [⟨k.os, k.oi, n.rel⟩]
  else [] := rfl
 generalize hks : aheadK x.c.plain x.sub k n = ks at *
 have hle := λ i => addKs_le (c := x.c.plain) (num := x.num) ks i (ps.map PlM.plain)
 have hge := addKs_ge (c := x.c.plain) (num := x.num) ks (ps.map PlM.plain)
 rw [List.length_map] at hge
 have hln := λ i => addKs_len (c := x.c.plain) (num := x.num) (ks.take i) (ps.map PlM.plain)
 have hset : ∀ k', (setsOf x.c.plain x.sub k').length <= 512 := λ k' => by
  unfold setsOf fitting
  exact Nat.le_trans (List.length_filter_le _ _) (Nat.le_trans (List.length_filter_le _ _) (XC.sub_len h k'))
 have hst : LdI x R ps va (ks.take 0) ps vp Ta To (sZ) [] := ⟨OS.nil, by simp [addKs], hA, hO, [], by simp, by simp⟩
 refine Spec.segs (H' := [[], x.blk xb va vp e, Ta, To]) (by simp)<|Spec.body Tryz.func166 rfl Tryz.results166 Tryz.ntmps166 rfl<|.sr ?_
 refine .boxA rfl (λ b4 => ?_)
 refine .boxA rfl (λ b5 => ?_)
 refine .ag rfl<|.z<|.ag rfl<|.zs<|.sr<|.fa rfl<|.lo rfl<|.zn<|.block<|.sr<|.q .eqI<|.az rfl<|.cond rfl (λ h1 => ?_) λ h1 => ?_
 have hkd : n.kind = 1 := odt h1
 rw [if_pos hkd] at hk0
 have hsl := hset k
 refine .sr<|.mo rfl<|.fa rfl<|.q (.loadT rfl)<|.fa rfl<|.lo rfl<|.call [] (hsp _ (h.mono λ b o hb => .inl hb) xb va vp e (pc := PC.of (E := 217) (fr := (0, 0)) (.inr (by simp [rest]))) k) (λ u H' hu => ?_)
 obtain ⟨Tu, Ts, rfl, wu, ws, rfl, hOu, hOs⟩ := hu
 have iu1 := hOu.oneCell
 have iu2 := hOs.oneCell
 conv => arg 8; simp only [rest, dropAt, List.cons_append, List.nil_append]
 refine .mo rfl<|.q .extract<|.q .extract<|.ag rfl<|.ag rfl<|.z<|.mo rfl<|.q (.lenO hOs)<|.mo rfl<|.zn<|.block<|.loopS [(0, _), (29, _), (30, _)] (X := Nat × List PlM × Value × Seg × Seg × Value × Seg) (λ y => y.1 <= (setsOf x.c.plain x.sub k).length /\ LdI x R ps va (ks.take y.1) y.2.1 y.2.2.1 y.2.2.2.1 y.2.2.2.2.1 y.2.2.2.2.2.1 y.2.2.2.2.2.2) (λ y E => (31, iN y.1) :: (7, y.2.2.2.2.2.1) :: E) (G := [Ts, bl b5 n.enc 168, bl b4 (Value.string k.os :: .string k.oi :: .string k.rel :: [x3, x4, x5, x6, x7]) 123]) (λ y G => y.2.2.2.2.2.2 :: x.blk xb va y.2.2.1 e :: y.2.2.2.1 :: y.2.2.2.2.1 :: G) (λ y => (setsOf x.c.plain x.sub k).length - y.1) (0, ps, vp, Ta, To, sZ, []) ⟨Nat.zero_le _, hst⟩ kE.c.c.c.c.c (pkH [4, 4, 4, 4, 1, 1, 1]) ?_
 rintro ⟨i, ps1, vp1, Ta1, To1, vo, Tl⟩ ⟨hi, hI⟩
 simp only at hi hI ⊢
 have io := hI.l.oneCell
 have ip1 := hI.o.oneCell
 have hlen := hI.len
 have hle' := hle i
 have hln' := hln i
 rw [List.length_take] at hln'
 refine .sr<|.q .lss<|.zs<|.cond rfl (λ h2 => ?_) λ h2 => ?_
 have hlt : i < (setsOf x.c.plain x.sub k).length := by have := odt h2; omega
 obtain ⟨s, hs⟩ := exg hlt
 have hki : ks[i]? = some ⟨s.ss, s.si, s.sr⟩ := by rw [hk0, List.getElem?_map, hs]; rfl
 obtain ⟨us, ss, si, sr⟩ := s
 refine .kn<|.seq<|.block<|.sr ?_
 refine .indexO i hOs hs (λ p33 => ?_)
 refine .q (.loadA rfl) ?_
 refine .allocA (λ b11 => ?_)
 refine .storeA rfl rfl<|.zn<|.region<|.mo rfl<|.mo rfl<|.fa rfl<|.q (.loadT rfl)<|.fa rfl<|.lo rfl<|.call [2, 2, 2] ((hplace ps1 e va vp1 Ta1 To1 hI.at_ hI.o (by omega) ⟨ss, si, sr⟩).weaken rxl) (λ u H' hu => ?_)
 obtain ⟨ps2, vp2, Ta2, To2, rfl, rfl, he2, hA2, hO2, hg2⟩ := hu
 conv => arg 8; simp only [rest, dropAt, List.cons_append, List.nil_append]
 refine .buildSlice11 (λ b42 => ?_)
 refine .append hI.l (RS.lits (xs := [(addK x.c.plain x.num (ps1.map PlM.plain) ⟨ss, si, sr⟩).2]) rfl (by simp [encNt]) (by simp [encNt, oneCell])) (by simp only [List.length_singleton]; omega) (λ v5 T5 hv5 => ?_)
 refine .ag rfl<|.nil<|blkQ_n<|seqQ_n<|.region<|.ia (i + 1) .add<|.mo rfl<|.nil ?_
 ·exact loopQ_i (i + 1, ps2, vp2, Ta2, To2, v5, T5) ⟨hlt, hI.next hki he2 hA2 hO2 hg2 hv5⟩ (by simp only; omega) kE.c.c.c.c.c (pkH [5, 1, 1, 1, 2, 2, 2])
 have hie : i = ks.length := by rw [hk0, List.length_map]; have := odf h2; omega
 rw [hie, List.take_length] at hI
 refine .exit<|seqQ_x<|loopQ_x<|blkQ_x<|blkQ_n<|seqQ_n<|.sr<|.mo rfl<|.az rfl<|.ret (retQ_r _ (.one (.tmp rfl)) (pkH [0, 0, 0, 0]) ?_)
 ·exact (hdef _ _ _).2 ⟨ps1, vp1, Ta1, To1, Tl, by simp [take, dropAt], hI⟩
 refine .sr<|.q .eqI<|.az rfl<|.cond rfl (λ h3 => ?_) λ h3 => ?_
 have hkd : n.kind = 2 := odt h3
 rw [if_neg (by omega), if_neg (by omega), if_pos hkd] at hk0
 have hki : ks[0]? = some ⟨k.os, k.oi, n.rel⟩ := by rw [hk0]; rfl
 have hk1 : ks.take 1 = ks := by rw [hk0]; rfl
 refine .region<|.mo rfl<|.mo rfl<|.fa rfl<|.q (.loadT rfl)<|.fa rfl<|.lo rfl<|.call [3, 3, 3] ((hplace ps e va vp Ta To hA hO (by omega) ⟨k.os, k.oi, n.rel⟩).weaken rxl) (λ u H' hu => ?_)
 obtain ⟨ps2, vp2, Ta2, To2, rfl, rfl, he2, hA2, hO2, hg2⟩ := hu
 conv => arg 8; simp only [rest, dropAt, List.cons_append, List.nil_append]
 refine .buildSlice11 (λ b54 => ?_)
 refine .append hst.l (RS.lits (xs := [(addK x.c.plain x.num (ps.map PlM.plain) ⟨k.os, k.oi, n.rel⟩).2]) rfl (by simp [encNt]) (by simp [encNt, oneCell])) (by simp [addKs]) (λ v5 T5 hv5 => ?_)
 have hI2 := hst.next hki he2 hA2 hO2 hg2 hv5
 rw [show (0 : Nat) + 1 = 1 from rfl, hk1] at hI2
 refine .ag rfl<|.nil<|blkQ_n<|seqQ_n<|.sr<|.mo rfl<|.az rfl<|.ret (retQ_r _ (.one (.tmp rfl)) (pkH [6, 1, 1, 1]) ?_)
 ·exact (hdef _ _ _).2 ⟨ps2, vp2, Ta2, To2, T5, by simp [take, dropAt], hI2⟩
 refine .sr<|.q .eqI<|.az rfl<|.cond rfl (λ h4 => ?_) λ h4 => ?_
 have hkd : n.kind = 3 := odt h4
 rw [if_neg (by omega), if_pos hkd] at hk0
 have hsl := hset ⟨k.os, k.oi, n.rel⟩
 refine .sr<|.mo rfl<|.fa rfl<|.q (.loadT rfl)<|.fa rfl<|.lo rfl<|.call [] (hsp _ (h.mono λ b o hb => .inl hb) xb va vp e (pc := PC.of (E := 217) (fr := (0, 0)) (.inr (by simp [rest]))) ⟨k.os, k.oi, n.rel⟩) (λ u H' hu => ?_)
 obtain ⟨Tu, Ts, rfl, wu, ws, rfl, hOu, hOs⟩ := hu
 have iu1 := hOu.oneCell
 have iu2 := hOs.oneCell
 conv => arg 8; simp only [rest, dropAt, List.cons_append, List.nil_append]
 refine .mo rfl<|.q .extract<|.q .extract<|.ag rfl<|.ag rfl<|.z<|.mo rfl<|.q (.lenO hOs)<|.mo rfl<|.zn<|.block<|.loopS [(0, _), (5, _), (67, _), (68, _)] (X := Nat × List PlM × Value × Seg × Seg × Value × Seg) (λ y => y.1 <= (setsOf x.c.plain x.sub ⟨k.os, k.oi, n.rel⟩).length /\ LdI x R ps va (ks.take y.1) y.2.1 y.2.2.1 y.2.2.2.1 y.2.2.2.2.1 y.2.2.2.2.2.1 y.2.2.2.2.2.2) (λ y E => (69, iN y.1) :: (7, y.2.2.2.2.2.1) :: E) (G := [Ts, bl b5 n.enc 168, bl b4 (Value.string k.os :: .string k.oi :: .string k.rel :: [x3, x4, x5, x6, x7]) 123]) (λ y G => y.2.2.2.2.2.2 :: x.blk xb va y.2.2.1 e :: y.2.2.2.1 :: y.2.2.2.2.1 :: G) (λ y => (setsOf x.c.plain x.sub ⟨k.os, k.oi, n.rel⟩).length - y.1) (0, ps, vp, Ta, To, sZ, []) ⟨Nat.zero_le _, hst⟩ kE.c.c.c.c.c.c (pkH [4, 4, 4, 4, 1, 1, 1]) ?_
 rintro ⟨i, ps1, vp1, Ta1, To1, vo, Tl⟩ ⟨hi, hI⟩
 simp only at hi hI ⊢
 have io := hI.l.oneCell
 have ip1 := hI.o.oneCell
 have hlen := hI.len
 have hle' := hle i
 have hln' := hln i
 rw [List.length_take] at hln'
 refine .sr<|.q .lss<|.zs<|.cond rfl (λ h5 => ?_) λ h5 => ?_
 have hlt : i < (setsOf x.c.plain x.sub ⟨k.os, k.oi, n.rel⟩).length := by have := odt h5; omega
 obtain ⟨s, hs⟩ := exg hlt
 have hki : ks[i]? = some ⟨s.ss, s.si, n.thn⟩ := by rw [hk0, List.getElem?_map, hs]; rfl
 obtain ⟨us, ss, si, sr⟩ := s
 refine .kn<|.seq<|.block<|.sr ?_
 refine .indexO i hOs hs (λ p71 => ?_)
 refine .q (.loadA rfl) ?_
 refine .allocA (λ b15 => ?_)
 refine .storeA rfl rfl<|.zn<|.region<|.mo rfl<|.mo rfl<|.fa rfl<|.q (.loadT rfl)<|.fa rfl<|.lo rfl<|.call [2, 2, 2] ((hplace ps1 e va vp1 Ta1 To1 hI.at_ hI.o (by omega) ⟨ss, si, n.thn⟩).weaken rxl) (λ u H' hu => ?_)
 obtain ⟨ps2, vp2, Ta2, To2, rfl, rfl, he2, hA2, hO2, hg2⟩ := hu
 conv => arg 8; simp only [rest, dropAt, List.cons_append, List.nil_append]
 refine .buildSlice11 (λ b80 => ?_)
 refine .append hI.l (RS.lits (xs := [(addK x.c.plain x.num (ps1.map PlM.plain) ⟨ss, si, n.thn⟩).2]) rfl (by simp [encNt]) (by simp [encNt, oneCell])) (by simp only [List.length_singleton]; omega) (λ v5 T5 hv5 => ?_)
 refine .ag rfl<|.nil<|blkQ_n<|seqQ_n<|.region<|.ia (i + 1) .add<|.mo rfl<|.nil ?_
 ·exact loopQ_i (i + 1, ps2, vp2, Ta2, To2, v5, T5) ⟨hlt, hI.next hki he2 hA2 hO2 hg2 hv5⟩ (by simp only; omega) kE.c.c.c.c.c.c (pkH [5, 1, 1, 1, 2, 2, 2])
 have hie : i = ks.length := by rw [hk0, List.length_map]; have := odf h5; omega
 rw [hie, List.take_length] at hI
 refine .exit<|seqQ_x<|loopQ_x<|blkQ_x<|blkQ_n<|seqQ_n<|.sr<|.mo rfl<|.az rfl<|.ret (retQ_r _ (.one (.tmp rfl)) (pkH [0, 0, 0, 0]) ?_)
 ·exact (hdef _ _ _).2 ⟨ps1, vp1, Ta1, To1, Tl, by simp [take, dropAt], hI⟩
 have hks0 : ks = [] := by
  rw [hk0, if_neg (odf h1), if_neg (odf h4), if_neg (odf h3)]
 refine .skip<|blkQ_n<|seqQ_n<|.sr<|.mo rfl<|.az rfl<|.ret (retQ_r _ (.one (.tmp rfl)) (pkH [2, 2, 2, 2]) ?_)
 ·refine (hdef _ _ _).2 ⟨ps, vp, Ta, To, [], by simp [take, dropAt], ?_⟩
  have := hst
  rw [List.take_zero, <- hks0] at this
  exact this
instance keyIn : KeyT prog 3 (λ s : Int => .int .i64 s) := KeyT.int fU3 fA3
abbrev kI (n : Int) : Value := .int .i64 n
structure OpI (x : XC) (R : Rds) (ps : List PlM) (va : Value) (k : Obr) (ns : List Nd) (mp : Value) (ps1 : List PlM) (vp : Value) (Ta To : Seg) (vL : Value) (L : List NlM) (TL Tr : Seg) (M : List (Int × Bool)) (Tm : Seg) : Prop where
 eq : ps1.map PlM.plain = (addNs x.c.plain x.num x.sub k (ps.map PlM.plain) ns).1
 at_ : AtM ps1 va Ta
 o : OS 123 8 PlM.enc vp ps1 To
 gr : ∃ l, ps1 = ps ++ l /\ ∀ p ∈ l, p.is R
 le : OS 127 1 encV1 vL L TL
 rows : ∀ q ∈ L, RS (sg Tr) 1 encNt q.1 q.2
 ll : L.map (·.2) = (addNs x.c.plain x.num x.sub k (ps.map PlM.plain) ns).2
 ms : MS kI Value.bool mp M Tm
 mks : M.map (·.1) = (seenL [] (addNs x.c.plain x.num x.sub k (ps.map PlM.plain) ns).2.flatten).map λ n : Nat => (n : Int)
theorem mset_keysI {β : Type} {M : List (Int × β)} {l : List Nat} (h : M.map (·.1) = l.map λ n : Nat => (n : Int)) (y : β) (j : Nat) : (mset (j : Int) y M).map (·.1) = (if j ∈ l then l else l ++ [j]).map λ n : Nat => (n : Int) := by
 by_cases hj : j ∈ l
 ·rw [if_pos hj, <- h]
  have hm : (j : Int) ∈ M.map (·.1) := by rw [h]; exact List.mem_map.2 ⟨j, hj, rfl⟩
  clear h
  induction M with
  | nil => simp at hm
  | cons a M ih =>
   obtain ⟨a1, a2⟩ := a
   rw [mset]
   split
   ·rename_i e; simp [e]
   ·rename_i e
    simp only [List.map_cons, List.mem_cons] at hm ⊢
    rw [ih (hm.resolve_left e)]
 ·rw [if_neg hj, mset_new (λ hm => by
   rw [h] at hm
   obtain ⟨n, hn, e⟩ := List.mem_map.1 hm
   have e' : (n : Int) = (j : Int) := e
   have e2 : n = j := by omega
   exact hj (e2 ▸ hn)), List.map_append, List.map_append, h]
  rfl
theorem set_same {α : Type} {l : List α} {i : Nat} {x : α} (h : l[i]? = some x) : l.set i x = l := by
 obtain ⟨hi, e⟩ := List.getElem?_eq_some_iff.1 h
 rw [<- e]
 exact List.set_getElem_self hi
theorem OS.basep {α : Type} {E sz : Nat} {enc : α -> List Value} {v : Value} {xs : List α} {T : Seg} {i : Nat} {z : α} (h : OS E sz enc v xs T) (hz : xs[i]? = some z) : ∃ a, baseP v (i * sz) = .pointer (some a) := by
 rcases h.h with ⟨_, rfl, _⟩ | ⟨b, off, c, cap, rfl, _⟩
 ·simp at hz
 ·exact ⟨_, rfl⟩
theorem pfind_keys {a b : List Plc} (h : a.map (·.k) = b.map (·.k)) (k : Obr) : pfind a k = pfind b k := by
 have key : ∀ l : List Plc, pfind l k = (l.map (·.k)).findIdx? λ y => decide (y = k) := λ l => by
  unfold pfind
  rw [List.findIdx?_map]
  rfl
 rw [key, key, h]
theorem set_keys {ps : List PlM} {i : Nat} {p q : PlM} (hp : ps[i]? = some p) (hk : q.k = p.k) : ((ps.set i q).map PlM.plain).map (·.k) = (ps.map PlM.plain).map (·.k) := by
 rw [List.map_map, List.map_map]
 refine List.ext_getElem? λ j => ?_
 rw [List.getElem?_map, List.getElem?_map, List.getElem?_set]
 split
 ·rename_i e
  subst e
  rw [if_pos (List.getElem?_eq_some_iff.1 hp).1, hp]
  show some q.k = some p.k
  rw [hk]
 ·rfl
theorem AtM.set {ps : List PlM} {i : Nat} {p q : PlM} {va : Value} {T : Seg} (h : AtM ps va T) (hp : ps[i]? = some p) (hk : q.k = p.k) : AtM (ps.set i q) va T := by
 obtain ⟨M, hM, hA⟩ := h
 exact ⟨M, hM, λ k => by rw [hA]; exact pfind_keys (set_keys hp hk).symm k⟩
def OpenT (x : XC) (Rc : Rds) (xb : Nat) (ps : List PlM) (e : Nat) (va : Value) (i : Nat) (p : PlM) (H' : Segs) : Prop := ∃ vp Ta To TL Tr Tu l q,
 H' = [x.blk xb va vp (e + (openP x.c.plain x.num x.sub (ps.map PlM.plain) i).2), Ta, To, TL, Tr, Tu] /\ (∀ p ∈ l, PlM.is Rc p) /\ ((ps ++ l).set i q).map PlM.plain = (openP x.c.plain x.num x.sub (ps.map PlM.plain) i).1 /\ AtM ((ps ++ l).set i q) va Ta /\ OS 123 8 PlM.enc vp ((ps ++ l).set i q) To /\
 (q = p \/ q.vn = p.vn /\ q.nodes = p.nodes /\ RS (sg Tu) 1 encS q.vu q.users /\ RS (sg TL) 1 encV1 q.vl q.ll /\ ∀ y ∈ q.ll, RS (sg Tr) 1 encNt y.1 y.2)
theorem open_spec (x : XC) (Rc R : Rds) (hRc : ∀ b o, Rc b o -> R b o) (h : x.ok Rc) (xb : Nat) (ps : List PlM) (e : Nat) (va vp : Value) (Ta To : Seg) (hA : AtM ps va Ta) (hO : OS 123 8 PlM.enc vp ps To) (i : Nat) (p : PlM) (hp : ps[i]? = some p) (hn : RS R 5 Nd.enc p.vn p.nodes) (hfr : p.plain = one x.c.plain x.num p.k) (hnl : p.nodes.length <= 1000000)
  (hl : (openP x.c.plain x.num x.sub (ps.map PlM.plain) i).1.length <= 3000000) (he : e <= 1000000000000) :
  Spec prog 106 [pT xb, iN i] R [x.blk xb va vp e, Ta, To] λ _ H' => OpenT x Rc xb ps e va i p H' := by
 have hsp := subjects_spec x
 have hleads := leads_spec x Rc h xb
 have i1 : One x.c.vs := RS.oneCell h.c.ss
 have i2 : One x.c.vc := RS.oneCell h.c.sc
 have i3 := h.n.one
 obtain ⟨M0, hM0, _⟩ := id hA
 have iva := hM0.one
 have ivp := hO.oneCell
 have hpm := mog hp
 have ipp : Ones p.enc := ⟨hO.one p hpm⟩
 have hpl : (ps.map PlM.plain)[i]? = some p.plain := by rw [List.getElem?_map, hp]; rfl
 have hil := (List.getElem?_eq_some_iff.1 hp).1
 have hdef : ∀ H', OpenT x Rc xb ps e va i p H' ↔ ∃ vp Ta To TL Tr Tu l q,
  H' = [x.blk xb va vp (e + (openP x.c.plain x.num x.sub (ps.map PlM.plain) i).2), Ta, To, TL, Tr, Tu] /\ (∀ p ∈ l, PlM.is Rc p) /\ ((ps ++ l).set i q).map PlM.plain = (openP x.c.plain x.num x.sub (ps.map PlM.plain) i).1 /\ AtM ((ps ++ l).set i q) va Ta /\ OS 123 8 PlM.enc vp ((ps ++ l).set i q) To /\
  (q = p \/ q.vn = p.vn /\ q.nodes = p.nodes /\ RS (sg Tu) 1 encS q.vu q.users /\ RS (sg TL) 1 encV1 q.vl q.ll /\ ∀ y ∈ q.ll, RS (sg Tr) 1 encNt y.1 y.2) := λ _ => Iff.rfl
 have hopen := openP_eq (c := x.c.plain) (num := x.num) (sub := x.sub) hpl
 have hnf := openP_nf (c := x.c.plain) (num := x.num) (sub := x.sub) hpl hfr
 have hle8 := hn.le
 obtain ⟨k, fo, vn, nds, vu, us, vl, ll, nm⟩ := p
 have hpd : PlM.plain ⟨k, fo, vn, nds, vu, us, vl, ll, nm⟩ = ⟨k, fo, nds, nm, us, ll.map (·.2)⟩ := rfl
 rw [hpd] at hopen hnf hpl hfr
 simp only at hopen hnf hn hfr hle8 hnl
 have hle := λ j => addNs_le (c := x.c.plain) (num := x.num) (sub := x.sub) k nds j (ps.map PlM.plain)
 have hge := addNs_ge (c := x.c.plain) (num := x.num) (sub := x.sub) k nds (ps.map PlM.plain)
 have hlt := addNs_lt (c := x.c.plain) (num := x.num) (sub := x.sub) k nds (ps.map PlM.plain)
 have htk := λ (j : Nat) (n : Nd) (hj : nds[j]? = some n) => addNs_take (c := x.c.plain) (num := x.num) (sub := x.sub) hj k (ps.map PlM.plain)
 have hlt2 := λ j => addNs_lt (c := x.c.plain) (num := x.num) (sub := x.sub) k (nds.take j) (ps.map PlM.plain)
 have hl2 : (addNs x.c.plain x.num x.sub k (ps.map PlM.plain) nds).1.length <= 3000000 := by
  rw [hopen] at hl
  rwa [List.length_set] at hl
 refine Spec.body Tryz.func106 rfl Tryz.results106 Tryz.ntmps106 rfl<|.sr<|.mo rfl<|.nc rfl<|.fa rfl<|.fa rfl<|.lo rfl<|.mo rfl ?_
 refine .indexO i hO hp (λ p20 => ?_)
 refine .q (.loadA rfl) ?_
 refine .allocA (λ b4 => ?_)
 refine .storeA rfl rfl<|.zs<|.sr<|.fa rfl<|.lo rfl<|.q .not<|.zn<|.cond rfl (λ h1 => ?_) λ h1 => ?_
 have hf : fo = false := by simpa using h1
 have hnf' := hnf hf
 refine .ret (seqQ_r (retQ_r _ .none (HLe.new000.trans (pkH [4, 4, 4, 0, 0, 0])) ?_))
 ·refine (hdef _).2 ⟨vp, Ta, To, [], [], [], [], ⟨k, fo, vn, nds, vu, us, vl, ll, nm⟩, ?_, λ q hq => (by cases hq), ?_, ?_, ?_, .inl rfl⟩
  ·rw [hnf']; simp [take, dropAt]
  ·rw [hnf', List.append_nil]
   rw [set_same hp]
  ·rw [List.append_nil]; exact hA.set hp rfl
  ·rw [List.append_nil]
   rw [set_same hp]; exact hO
 have hf : fo = true := by simpa using h1
 refine .kn<|.sr<|.mo rfl<|.fa rfl<|.q (.loadT rfl)<|.fa rfl<|.lo rfl<|.call [] (hsp _ (h.mono λ b o hb => .inl (hRc b o hb)) xb va vp e (pc := PC.of (E := 217) (fr := (0, 0)) (.inr (by simp [rest]))) k) (λ u H' hu => ?_)
 obtain ⟨Tu, Ts, rfl, wu, ws, rfl, hOu, hOs⟩ := hu
 have iu1 := hOu.oneCell
 have iu2 := hOs.oneCell
 conv => arg 8; simp only [rest, dropAt, List.cons_append, List.nil_append]
 refine .mo rfl<|.q .extract<|.q .extract<|.ag rfl<|.ag rfl<|.z<|.ag rfl<|.z ?_
 refine .makeMap (λ b34 => ?_)
 refine .ag rfl<|.zs<|.sr<|.fa rfl<|.lo rfl<|.q (.lenR hn)<|.mo rfl<|.zn<|.block<|.loopS [(0, _), (1, _), (4, _), (5, _), (8, _), (36, _), (37, _)] (X := Nat × List PlM × Value × Seg × Seg × Value × List NlM × Seg × Seg × List (Int × Bool) × Seg) (λ y => y.1 <= nds.length /\ OpI x Rc ps va k (nds.take y.1) (.map (some b34)) y.2.1 y.2.2.1 y.2.2.2.1 y.2.2.2.2.1 y.2.2.2.2.2.1 y.2.2.2.2.2.2.1 y.2.2.2.2.2.2.2.1 y.2.2.2.2.2.2.2.2.1 y.2.2.2.2.2.2.2.2.2.1 y.2.2.2.2.2.2.2.2.2.2) (λ y E => (38, iN y.1) :: (7, y.2.2.2.2.2.1) :: E) (G := [Tu, bl b4 (PlM.enc ⟨k, fo, vn, nds, vu, us, vl, ll, nm⟩) 123]) (λ y G => x.blk xb va y.2.2.1 e :: y.2.2.2.1 :: y.2.2.2.2.1 :: y.2.2.2.2.2.2.2.1 :: y.2.2.2.2.2.2.2.2.1 :: y.2.2.2.2.2.2.2.2.2.2 :: G) (λ y => nds.length - y.1) (0, ps, vp, Ta, To, sZ, [], [], [], [], [(b34, .map #[] 0)]) ⟨Nat.zero_le _, ⟨rfl, hA, hO, ⟨[], by simp, λ q hq => (by cases hq)⟩, OS.nil, λ q hq => (by cases hq), rfl, MS.nil, rfl⟩⟩ kE.c.c.c.c.c.c.c.c.c (HLe.new00.trans (pkH [6, 6, 6, 0, 0, 0, 0, 1])) ?_
 rintro ⟨j, ps1, vp1, Ta1, To1, vL, L, TL, Tr, M, Tm⟩ ⟨hj, hI⟩
 simp only at hj hI ⊢
 have ivL := hI.le.oneCell
 have ip1 := hI.o.oneCell
 have hLl : L.length <= j := by
  have h9 := congrArg List.length hI.ll
  have h8 := (addNs_leads (c := x.c.plain) (num := x.num) (sub := x.sub) k (nds.take j) (ps.map PlM.plain)).1
  rw [List.length_map] at h9
  rw [List.length_take] at h8
  omega
 have h1l : ps1.length = (addNs x.c.plain x.num x.sub k (ps.map PlM.plain) (nds.take j)).1.length := by rw [<- hI.eq, List.length_map]
 have hlej := hle j
 refine .sr<|.q .lss<|.zs<|.cond rfl (λ h2 => ?_) λ h2 => ?_
 have hjt : j < nds.length := lt_i h2
 obtain ⟨n, hn0⟩ := exg hjt
 have htj := htk j n hn0
 have hlej1 := hle (j + 1)
 have hle1 : (addKs x.c.plain x.num (ps1.map PlM.plain) (aheadK x.c.plain x.sub k n)).1.length <= 3000000 := by
  rw [hI.eq]
  rw [htj] at hlej1
  exact Nat.le_trans hlej1 hl2
 refine .kn<|.seq<|.block<|.sr ?_
 refine .indexR j hn hn0 (λ p40 => ?_)
 refine .q (.loadA rfl) ?_
 refine .allocA (λ b10 => ?_)
 refine .storeA rfl rfl<|.z<|.mo rfl<|.q (.loadA rfl)<|.q (.loadA rfl)<|.call [1, 1, 1] ((hleads ps1 e va vp1 Ta1 To1 hI.at_ hI.o k [.bool fo, vn, vu, vl, iN nm] n (ie := ⟨λ u hu => ipp.h u (by simp only [PlM.enc]; simp only [List.mem_cons, List.not_mem_nil, or_false] at hu ⊢; simp [hu])⟩) hle1 rfl).weaken λ b o hb => .inl (hRc b o hb)) (λ u H' hu => ?_)
 obtain ⟨ps2, vp2, Ta2, To2, Tl, rfl, hD⟩ := hu
 have iu := hD.l.oneCell
 have hrow := hD.l
 have h2l := hD.len
 conv => arg 8; simp only [rest, dropAt, List.cons_append, List.nil_append]
 obtain ⟨row, hrw⟩ : ∃ row, row = (addKs x.c.plain x.num (ps1.map PlM.plain) (aheadK x.c.plain x.sub k n)).2 := ⟨_, rfl⟩
 rw [<- hrw] at hrow
 have hrle := hrow.le
 refine .ag rfl<|.zs<|.sr<|.mo rfl<|.q (.lenO hrow)<|.mo rfl<|.zn<|.block<|.loopS [(0, _), (1, _), (4, _), (5, _), (7, _), (8, _), (11, _), (36, _), (37, _), (38, _), (46, _), (47, _)] (X := Nat × List (Int × Bool) × Seg) (λ y => y.1 <= row.length /\ MS kI Value.bool (.map (some b34)) y.2.1 y.2.2 /\ y.2.1.map (·.1) = (seenL (seenL [] (addNs x.c.plain x.num x.sub k (ps.map PlM.plain) (nds.take j)).2.flatten) (row.take y.1)).map λ n : Nat => (n : Int)) (λ y E => (48, iN y.1) :: E) (G := [Tl, x.blk xb va vp2 e, Ta2, To2, bl b10 n.enc 168, TL, Tr, Tu, bl b4 (PlM.enc ⟨k, fo, vn, nds, vu, us, vl, ll, nm⟩) 123]) (λ y G => y.2.2 :: G) (λ y => row.length - y.1) (0, M, Tm) ⟨Nat.zero_le _, hI.ms, hI.mks⟩ kE.c.c.c.c.c.c.c.c.c.c.c.c.c (pkH [7, 0, 0, 0, 0, 0, 0, 0, 0, 0]) ?_
 rintro ⟨m, M2, Tm2⟩ ⟨hm, hM2, hk2⟩
 simp only at hm hM2 hk2 ⊢
 refine .sr<|.q .lss<|.zs<|.cond rfl (λ h3 => ?_) λ h3 => ?_
 have hmt : m < row.length := lt_i h3
 obtain ⟨to, hto⟩ := exg hmt
 have hst := seenL_take hto (seenL [] (addNs x.c.plain x.num x.sub k (ps.map PlM.plain) (nds.take j)).2.flatten)
 refine .kn<|.seq<|.block<|.sr ?_
 refine .indexO m hrow hto (λ p50 => ?_)
 refine .lo rfl<|.az rfl<|.region<|.mo rfl<|.mo rfl<|.update (key := (to : Int)) (u := true) hM2 rfl rfl rfl (λ T2 hM3 _ => ?_)
 have hk3 := mset_keysI hk2 true to
 rw [<- hst] at hk3
 refine .nil<|blkQ_n<|seqQ_n<|.region<|.ia (m + 1) .add<|.mo rfl<|.nil ?_
 ·exact loopQ_i (m + 1, mset (to : Int) true M2, T2) ⟨hmt, hM3, hk3⟩ (by simp only; omega) kE.c.c.c.c.c.c.c.c.c.c.c.c.c rH
 have hme : m = row.length := by have := odf h3; omega
 rw [hme, List.take_length] at hk2
 obtain ⟨pu, cu, rfl, _⟩ := hrow.shape
 refine .exit<|seqQ_x<|loopQ_x<|blkQ_x<|seqQ_n<|.region<|.mo rfl<|.mo rfl ?_
 refine .buildSlice11 (λ b57 => ?_)
 refine .append hI.le (RS.lits (xs := [((.slice pu row.length cu, row) : NlM)]) rfl (by simp [encV1]) (by simp [encV1, oneCell])) (by simp only [List.length_singleton]; omega) (λ v5 T5 hv5 => ?_)
 have i5 := hv5.oneCell
 refine .ag rfl<|.nil<|blkQ_n<|seqQ_n<|.region<|.ia (j + 1) .add<|.mo rfl<|.nil ?_
 ·exact loopQ_i (j + 1, ps2, vp2, Ta2, To2, v5, L ++ [(.slice pu row.length cu, row)], T5, Tl ++ Tr, M2, Tm2) ⟨hjt, ⟨by rw [htj, hD.eq, hI.eq], hD.at_, hD.o, by
   obtain ⟨l1, h11, h12⟩ := hI.gr
   obtain ⟨l2, h21, h22⟩ := hD.gr
   refine ⟨l1 ++ l2, by rw [h21, h11, List.append_assoc], λ q hq => ?_⟩
   rcases List.mem_append.1 hq with hq | hq
   ·exact h12 q hq
   ·exact h22 q hq, hv5, λ q hq => by
   rcases List.mem_append.1 hq with hq | hq
   ·exact (hI.rows q hq).mono λ b o hb => sg_right hb
   ·rw [List.mem_singleton] at hq
    subst hq
    exact hrow.sg.mono λ b o hb => sg_left hb, by rw [htj, List.map_append, hI.ll, hrw, hI.eq]; rfl, hM2, by rw [htj, List.flatten_append, seenL_app, hk2, hrw, hI.eq]; simp⟩⟩ (by simp only; omega) kE.c.c.c.c.c.c.c.c.c ((pkH [3, 3, 3, 4, 2, 3, 1, 2, 2]).trans (HLe.ofPerm (by simp [take, dropAt])))
 have hje : j = nds.length := by have := odf h2; omega
 rw [hje, List.take_length] at hI
 have hq1 : ps1[i]? = some ⟨k, fo, vn, nds, vu, us, vl, ll, nm⟩ := by
  obtain ⟨l, hl9, _⟩ := hI.gr
  rw [hl9, List.getElem?_append_left hil, hp]
 obtain ⟨a9, ha9⟩ := hI.o.basep hq1
 have hMl : M.length = ndiff (addNs x.c.plain x.num x.sub k (ps.map PlM.plain) nds).2.flatten := by
  have := congrArg List.length hI.mks
  rw [List.length_map, List.length_map] at this
  exact this
 have hMle : M.length <= 3000000 := by
  rw [hMl]
  refine Nat.le_trans (ndiff_le (n := (addNs x.c.plain x.num x.sub k (ps.map PlM.plain) nds).1.length) λ y hy => ?_) hl2
  obtain ⟨l, hl9, hy⟩ := List.mem_flatten.1 hy
  exact hlt l hl9 y hy
 refine .exit<|seqQ_x<|loopQ_x<|blkQ_x<|seqQ_n<|.seq<|.region_all [16, 19] mixed<|.tO 0 rfl .move<|.tO 1 rfl (.nilCheck rfl)<|.tO 2 rfl (.fieldAddr rfl)<|.tO 3 rfl (.fieldAddr rfl)<|.tO 4 rfl (.load1 rfl)<|.tO 5 rfl .move<|.tO 6 rfl .move<|.tO 7 rfl (.nilCheck rfl)<|.tO 8 rfl (.fieldAddr rfl)<|.tO 9 rfl (.fieldAddr rfl)<|.tO 10 rfl (.load1 rfl)<|.tK 11 rfl .move<|.tO 12 rfl .move<|.tK 13 rfl .move ?_
 refine RA.indexO 14 rfl i hI.o hq1 rfl rfl rfl (by kernel_rfl) (λ p74 => ?_)
 refine .tO 15 rfl (.fieldAddr rfl)<|.sT 16 rfl<|.storeO_gen (k := 5) (cs := [wu]) (z' := (⟨k, fo, vn, nds, wu, usersOf x.c.plain x.sub k, vl, ll, nm⟩ : PlM)) i hI.o hq1 rfl rfl rfl (cells_one iu1.h) rfl (by simpa using iu1.h) rfl (by simp) (λ Td hOd => ?_)
 have hq2 : (ps1.set i (⟨k, fo, vn, nds, wu, usersOf x.c.plain x.sub k, vl, ll, nm⟩ : PlM))[i]? = some ⟨k, fo, vn, nds, wu, usersOf x.c.plain x.sub k, vl, ll, nm⟩ := by rw [List.getElem?_set_self (List.getElem?_eq_some_iff.1 hq1).1]
 refine .nil (Next.mod rfl ?_)
 refine RA.indexO 17 rfl i hI.o hq1 rfl rfl rfl (by kernel_rfl) (λ p76 => ?_)
 refine .tK 18 rfl (.fieldAddrA rfl ha9)<|.sT 19 rfl<|.storeO_gen (k := 6) (cs := [vL]) (z' := (⟨k, fo, vn, nds, wu, usersOf x.c.plain x.sub k, vL, L, nm⟩ : PlM)) i hOd hq2 rfl rfl rfl (cells_one ivL.h) rfl (by simpa using ivL.h) rfl (by simp) (λ Te hOe => ?_)
 rw [List.set_set] at hOe
 refine .nil<|Next.mod rfl<|RA.nil (by kernel_rfl)<|seqQ_n<|.region_tail 11 mixed (by kernel_rfl) ?_
 conv => arg 6; dsimp only [List.take]
 refine .mo rfl<|.nc rfl<|.fa rfl<|.fa rfl<|.lo rfl<|.mo rfl<|.q (.lenM hI.ms.rx rfl) ?_
 refine .ia (e + M.length) .add ?_
 refine .nc rfl<|.fa rfl<|.fa rfl<|.nil<|.store1 rfl rfl<|.nil<|retQ_n _ .none (pkH [0, 0, 0, 0, 0, 1]) ?_
 ·obtain ⟨l, hl9, hl8⟩ := hI.gr
  refine (hdef _).2 ⟨vp1, Ta1, Te, TL, Tr, Tu, l, ⟨k, fo, vn, nds, wu, usersOf x.c.plain x.sub k, vL, L, nm⟩, ?_, hl8, ?_, ?_, ?_, .inr ⟨rfl, rfl, hOu.sg, hI.le.sg, hI.rows⟩⟩
  ·rw [hopen, <- hMl]; simp [take, dropAt]; rfl
  ·rw [hopen, <- hl9, List.map_set, hI.eq]
   simp only [hf, if_true]
   rw [<- hI.ll]
   rfl
  ·rw [<- hl9]; exact hI.at_.set hq1 rfl
  ·rw [<- hl9]; exact hOe
end Go.Proofs.YtenilfmlfldogaaGreat
