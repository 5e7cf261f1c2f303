/- What the law 'MemoNobody' uses. No condition. -/
import Derived.Test.YtenilfmlfldogaaGreatKMemoNobodyF
import Derived.Test.YtenilfmlfldogaaGreatKMemoNobodyI
import Derived.Test.YtenilfmlfldogaaGreatKMemoNobodyK
import Derived.Test.YtenilfmlfldogaaGreatKMemoNobodyM
import Derived.Test.YtenilfmlfldogaaGreatKMemoNobodyN
import Derived.Test.YtenilfmlfldogaaGreatKMemoNobodyO
namespace Go.Proofs.YtenilfmlfldogaaGreat
open Tryz (prog)
set_option linter.unusedVariables false
set_option linter.unusedSimpArgs false
set_option maxRecDepth 4000
def founds (ps : List Plc) : List Bool := ps.map (·.found)
def qi (ps : List Plc) (i : Nat) : List Bool := (founds ps).take i ++ List.replicate (ps.length - i) false
theorem qi_len {ps : List Plc} {i : Nat} (h : i <= ps.length) : (qi ps i).length = ps.length := by unfold qi founds; simp; omega
theorem qi_next {ps : List Plc} {i : Nat} {p : Plc} (h : ps[i]? = some p) : qi ps (i + 1) = (qi ps i).set i p.found := by
 have hi := (List.getElem?_eq_some_iff.1 h).1
 obtain ⟨k, hk⟩ : ∃ k, ps.length - i = k + 1 := ⟨ps.length - i - 1, by omega⟩
 have hf : (founds ps)[i]? = some p.found := by unfold founds; rw [List.getElem?_map, h]; rfl
 unfold qi
 rw [hk, set_grow (by unfold founds; simp; omega), take_next hf, show ps.length - (i + 1) = k by omega]
theorem qi_same {ps : List Plc} {i : Nat} {p : Plc} (h : ps[i]? = some p) (hf : p.found = false) : qi ps (i + 1) = qi ps i := by
 have hi := (List.getElem?_eq_some_iff.1 h).1
 rw [qi_next h, hf]
 refine bset_same ?_ (by rw [qi_len (by omega)]; exact hi)
 unfold qi
 rw [List.getD_eq_getElem?_getD, List.getElem?_append_right (by simp [founds]; omega), List.getElem?_replicate]
 split <;> rfl
theorem qi_all (ps : List Plc) : qi ps ps.length = founds ps := by
 unfold qi founds
 rw [List.take_of_length_le (by simp), Nat.sub_self, List.replicate_zero, List.append_nil]
theorem qi_none (ps : List Plc) : qi ps 0 = List.replicate ps.length false := by unfold qi; simp
theorem qw_nil (ps : List Plc) : QW ps (qi ps 0) [] := ⟨by
 have h : items ps (qi ps 0) = [] := by
  unfold items
  rw [List.map_eq_nil_iff]
  cases hq : qof (qi ps 0) with
  | nil => rfl
  | cons x l =>
   have := qof_mem.1 (show x ∈ qof (qi ps 0) by rw [hq]; exact List.mem_cons_self)
   rw [qi_none, getD_rep] at this
   cases this
 rw [h], λ k h0 hk => absurd hk (by simp)⟩
theorem bseen_len (ps : List Plc) (i : Nat) (seen : List Nat) (j : Nat) : (bseen ps i seen j).length <= i + 1 := by
 have h1 : (backsTo ps i j).length <= i := by
  unfold backsTo
  exact Nat.le_trans (List.length_filter_le _ _) (by simp)
 unfold bseen
 rw [List.length_append]
 split
 ·rw [List.length_singleton]; omega
 ·rw [List.length_nil]; omega
theorem rows_get {LL : List RwM} {n : Nat} {f : Nat -> List Nat} (h : LL.map (·.1.2) = (List.range n).map f) {k : Nat} (hk : k < n) : ∃ v T, LL[k]? = some ((v, f k), T) := by
 have h1 := congrArg (λ l => l[k]?) h
 simp only [List.getElem?_map, List.getElem?_range hk, Option.map_some] at h1
 obtain ⟨⟨⟨v, r⟩, T⟩, h2, h3⟩ := Option.map_eq_some_iff.1 h1
 simp only at h3
 subst h3
 exact ⟨v, T, h2⟩
theorem rows_put {LL : List RwM} {n : Nat} {f g : Nat -> List Nat} (h : LL.map (·.1.2) = (List.range n).map f) {k : Nat} {v : Value} {r : List Nat} {T : Seg} (hg : ∀ j, j < n -> g j = if j = k then r else f j) (hk : k < n) : (LL.set k ((v, r), T)).map (·.1.2) = (List.range n).map g := by
 rw [List.map_set, h]
 refine List.ext_getElem? λ j => ?_
 rw [List.getElem?_set]
 rcases Nat.lt_or_ge j n with hj | hj
 ·rw [List.getElem?_map, List.getElem?_map, List.getElem?_range hj, Option.map_some, Option.map_some, hg j hj]
  by_cases e : k = j
  ·subst e; simp [hk]
  ·rw [if_neg e, if_neg λ h => e h.symm]
 ·rw [if_neg (by omega), List.getElem?_eq_none (by simpa using hj), List.getElem?_eq_none (by simpa using hj)]
theorem bseen_zero (ps : List Plc) : (λ j => bseen ps 0 [] j) = λ _ => [] := by
 funext j
 unfold bseen backsTo
 simp
theorem bseen_all (ps : List Plc) : (λ j => bseen ps ps.length [] j) = backs ps := by
 funext j
 unfold bseen
 rw [backsTo_all]
 simp
theorem flat_nil (n : Nat) : ((List.replicate n ((((sZ, []), []) : RwM))).flatMap (·.2)) = [] := by
 rw [List.flatMap_eq_nil_iff]
 intro x hx
 rw [(List.mem_replicate.1 hx).2]
theorem sonew_spec (vp : Value) (e : Nat) (us : ByteArray) (ps : List PlM) (R : Rds) (hps : RS R 8 PlM.enc vp ps) (hal : ∀ p ∈ ps, p.is R) (hlen : ps.length <= 2000000) (hll : ∀ p ∈ ps, p.ll.length <= 1000000) (hjl : ∀ p ∈ ps, ∀ q ∈ p.ll, q.2.length <= 1000000 /\ ∀ j ∈ q.2, j < ps.length) :
  Spec prog 110 [.agg [vp, iN e].toArray, .string us] R [] λ u H' => ∃ sb vv vb vw L LL Ta Tw Tv To, H' = [Ta, Tw, Tv, To, LL.flatMap (·.2)] /\ u = pT sb /\ One vv /\ One vb /\ One vw /\ QI sb vp e us vv vb vw L Ta /\ QW (ps.map PlM.plain) (founds (ps.map PlM.plain)) L /\ OS 4 1 encBo vw (founds (ps.map PlM.plain)) Tw /\ OS 4 1 encBo vv (List.replicate ps.length false) Tv /\ RWs vb LL To /\ LL.map (·.1.2) = (List.range ps.length).map (backs (ps.map PlM.plain)) := by
 have ivp := hps.oneCell
 have hle := hps.le
 have hpo : ∀ p ∈ ps, ∀ u ∈ p.enc, oneCell u = true := λ p hp => (hal p hp).ones
 have hpl : ∀ (i : Nat) (p : PlM), ps[i]? = some p -> (ps.map PlM.plain)[i]? = some p.plain := λ i p hp => by rw [List.getElem?_map, hp]; rfl
 obtain ⟨P, hP⟩ : ∃ P, P = ps.map PlM.plain := ⟨_, rfl⟩
 have hPl : P.length = ps.length := by rw [hP, List.length_map]
 rw [<- hP]
 rw [<- hP] at hpl
 refine Spec.body Tryz.func110 rfl Tryz.results110 Tryz.ntmps110 rfl ?_
 refine .sr ?_
 refine .boxA rfl (λ b2 => ?_)
 refine .ag rfl<|.z<|.fa rfl<|.lo rfl<|.q (.lenR hps) ?_
 refine .ag rfl<|.zs ?_
 refine Tri.cutS [(2, _)] kE.c (X := (Nat × Nat × Nat × Nat) × (Seg × Seg × Seg)) (λ y => OS 4 1 encBo (.slice (some ⟨y.1.2.1, 0, none⟩) ps.length ps.length) (List.replicate ps.length false) y.2.1 /\ OS 127 1 encV1 (.slice (some ⟨y.1.2.2.1, 0, none⟩) ps.length ps.length) (List.replicate ps.length ((sZ, []) : NlM)) y.2.2.1 /\ OS 4 1 encBo (.slice (some ⟨y.1.2.2.2, 0, none⟩) ps.length ps.length) (List.replicate ps.length false) y.2.2.2) (λ y E => (6, .pointer (some ⟨y.1.1, 0, none⟩)) :: E) (λ y => [y.2.2.1, [], slv y.1.1 vp e us (.slice (some ⟨y.1.2.1, 0, none⟩) ps.length ps.length) (.slice (some ⟨y.1.2.2.1, 0, none⟩) ps.length ps.length) (.slice (some ⟨y.1.2.2.2, 0, none⟩) ps.length ps.length) (sZ), y.2.2.2, y.2.1, bl b2 [vp, iN e] 55]) ?_ ?_
 refine .region_all [] mixed ?_
 refine .tO 0 rfl (.loadA rfl)<|.tO 1 rfl .move<|.tO 2 rfl .move<|.tO 4 rfl .move<|.tO 6 rfl .move ?_
 refine RA.step3 3 5 7 rfl rfl rfl (by kernel_rfl) rfl ?_ ?_ ?_
 refine .makeSlice (enc := encBo) ps.length false rfl rfl (by decide) (by simp [encBo, oneCell]) rfl rfl (by omega) (by omega) (λ bv Tv hOv => ?_)
 refine .nil (Next.sub ?_)
 refine RA.step2 5 7 rfl rfl (by kernel_rfl) rfl ?_ ?_
 refine .makeSlice (enc := encV1) ps.length ((sZ, []) : NlM) rfl rfl (by decide) (by simp [encV1, oneCell]) rfl rfl (by omega) (by omega) (λ bb Tb hOb => ?_)
 refine .nil (Next.sub ?_)
 refine .sT 7 rfl ?_
 refine .makeSlice (enc := encBo) ps.length false rfl rfl (by decide) (by simp [encBo, oneCell]) rfl rfl (by omega) (by omega) (λ bw Tw hOw => ?_)
 refine .nil (Next.sub ?_)
 refine .tO 8 rfl .bld ?_
 refine .sT 9 rfl ?_
 refine .boxA rfl (λ b26 => ?_)
 refine .nil (Next.sub ?_)
 refine .tO 10 rfl .assign ?_
 refine RA.nil (by kernel_rfl) ?_
 ·exact joinQ_n ((b26, bv, bb, bw), (Tv, Tb, Tw)) ⟨hOv, hOb, hOw⟩ kE.c.c (HLe.new0.trans (by
   first
    |exact (pkH [3, 0, 0, 0, 0, 0])
    |exact (pkH [3, 0, 0, 1, 0, 0])
    |exact (pkH [2, 0, 0, 0, 0, 0])
    |exact (pkH [2, 0, 0, 1, 0, 0])
    |exact (pkH [4, 0, 0, 0, 0, 0])
    |exact (pkH [4, 0, 0, 1, 0, 0])))
 refine .makeSlice (enc := encBo) ps.length false rfl rfl (by decide) (by simp [encBo, oneCell]) rfl rfl (by omega) (by omega) (λ bw Tw hOw => ?_)
 refine .nil (Next.sub ?_)
 refine .sT 5 rfl ?_
 refine .makeSlice (enc := encV1) ps.length ((sZ, []) : NlM) rfl rfl (by decide) (by simp [encV1, oneCell]) rfl rfl (by omega) (by omega) (λ bb Tb hOb => ?_)
 refine .nil (Next.sub ?_)
 refine .tO 8 rfl .bld ?_
 refine .sT 9 rfl ?_
 refine .boxA rfl (λ b26 => ?_)
 refine .nil (Next.sub ?_)
 refine .tO 10 rfl .assign ?_
 refine RA.nil (by kernel_rfl) ?_
 ·exact joinQ_n ((b26, bv, bb, bw), (Tv, Tb, Tw)) ⟨hOv, hOb, hOw⟩ kE.c.c (HLe.new0.trans (by
   first
    |exact (pkH [3, 0, 0, 0, 0, 0])
    |exact (pkH [3, 0, 0, 1, 0, 0])
    |exact (pkH [2, 0, 0, 0, 0, 0])
    |exact (pkH [2, 0, 0, 1, 0, 0])
    |exact (pkH [4, 0, 0, 0, 0, 0])
    |exact (pkH [4, 0, 0, 1, 0, 0])))
 refine .makeSlice (enc := encV1) ps.length ((sZ, []) : NlM) rfl rfl (by decide) (by simp [encV1, oneCell]) rfl rfl (by omega) (by omega) (λ bb Tb hOb => ?_)
 refine .nil (Next.sub ?_)
 refine RA.step2 3 7 rfl rfl (by kernel_rfl) rfl ?_ ?_
 refine .makeSlice (enc := encBo) ps.length false rfl rfl (by decide) (by simp [encBo, oneCell]) rfl rfl (by omega) (by omega) (λ bv Tv hOv => ?_)
 refine .nil (Next.sub ?_)
 refine .sT 7 rfl ?_
 refine .makeSlice (enc := encBo) ps.length false rfl rfl (by decide) (by simp [encBo, oneCell]) rfl rfl (by omega) (by omega) (λ bw Tw hOw => ?_)
 refine .nil (Next.sub ?_)
 refine .tO 8 rfl .bld ?_
 refine .sT 9 rfl ?_
 refine .boxA rfl (λ b26 => ?_)
 refine .nil (Next.sub ?_)
 refine .tO 10 rfl .assign ?_
 refine RA.nil (by kernel_rfl) ?_
 ·exact joinQ_n ((b26, bv, bb, bw), (Tv, Tb, Tw)) ⟨hOv, hOb, hOw⟩ kE.c.c (HLe.new0.trans (by
   first
    |exact (pkH [3, 0, 0, 0, 0, 0])
    |exact (pkH [3, 0, 0, 1, 0, 0])
    |exact (pkH [2, 0, 0, 0, 0, 0])
    |exact (pkH [2, 0, 0, 1, 0, 0])
    |exact (pkH [4, 0, 0, 0, 0, 0])
    |exact (pkH [4, 0, 0, 1, 0, 0])))
 refine .makeSlice (enc := encBo) ps.length false rfl rfl (by decide) (by simp [encBo, oneCell]) rfl rfl (by omega) (by omega) (λ bw Tw hOw => ?_)
 refine .nil (Next.sub ?_)
 refine .sT 3 rfl ?_
 refine .makeSlice (enc := encBo) ps.length false rfl rfl (by decide) (by simp [encBo, oneCell]) rfl rfl (by omega) (by omega) (λ bv Tv hOv => ?_)
 refine .nil (Next.sub ?_)
 refine .tO 8 rfl .bld ?_
 refine .sT 9 rfl ?_
 refine .boxA rfl (λ b26 => ?_)
 refine .nil (Next.sub ?_)
 refine .tO 10 rfl .assign ?_
 refine RA.nil (by kernel_rfl) ?_
 ·exact joinQ_n ((b26, bv, bb, bw), (Tv, Tb, Tw)) ⟨hOv, hOb, hOw⟩ kE.c.c (HLe.new0.trans (by
   first
    |exact (pkH [3, 0, 0, 0, 0, 0])
    |exact (pkH [3, 0, 0, 1, 0, 0])
    |exact (pkH [2, 0, 0, 0, 0, 0])
    |exact (pkH [2, 0, 0, 1, 0, 0])
    |exact (pkH [4, 0, 0, 0, 0, 0])
    |exact (pkH [4, 0, 0, 1, 0, 0])))
 refine .makeSlice (enc := encBo) ps.length false rfl rfl (by decide) (by simp [encBo, oneCell]) rfl rfl (by omega) (by omega) (λ bw Tw hOw => ?_)
 refine .nil (Next.sub ?_)
 refine RA.step2 3 5 rfl rfl (by kernel_rfl) rfl ?_ ?_
 refine .makeSlice (enc := encBo) ps.length false rfl rfl (by decide) (by simp [encBo, oneCell]) rfl rfl (by omega) (by omega) (λ bv Tv hOv => ?_)
 refine .nil (Next.sub ?_)
 refine .sT 5 rfl ?_
 refine .makeSlice (enc := encV1) ps.length ((sZ, []) : NlM) rfl rfl (by decide) (by simp [encV1, oneCell]) rfl rfl (by omega) (by omega) (λ bb Tb hOb => ?_)
 refine .nil (Next.sub ?_)
 refine .tO 8 rfl .bld ?_
 refine .sT 9 rfl ?_
 refine .boxA rfl (λ b26 => ?_)
 refine .nil (Next.sub ?_)
 refine .tO 10 rfl .assign ?_
 refine RA.nil (by kernel_rfl) ?_
 ·exact joinQ_n ((b26, bv, bb, bw), (Tv, Tb, Tw)) ⟨hOv, hOb, hOw⟩ kE.c.c (HLe.new0.trans (by
   first
    |exact (pkH [3, 0, 0, 0, 0, 0])
    |exact (pkH [3, 0, 0, 1, 0, 0])
    |exact (pkH [2, 0, 0, 0, 0, 0])
    |exact (pkH [2, 0, 0, 1, 0, 0])
    |exact (pkH [4, 0, 0, 0, 0, 0])
    |exact (pkH [4, 0, 0, 1, 0, 0])))
 refine .makeSlice (enc := encV1) ps.length ((sZ, []) : NlM) rfl rfl (by decide) (by simp [encV1, oneCell]) rfl rfl (by omega) (by omega) (λ bb Tb hOb => ?_)
 refine .nil (Next.sub ?_)
 refine .sT 3 rfl ?_
 refine .makeSlice (enc := encBo) ps.length false rfl rfl (by decide) (by simp [encBo, oneCell]) rfl rfl (by omega) (by omega) (λ bv Tv hOv => ?_)
 refine .nil (Next.sub ?_)
 refine .tO 8 rfl .bld ?_
 refine .sT 9 rfl ?_
 refine .boxA rfl (λ b26 => ?_)
 refine .nil (Next.sub ?_)
 refine .tO 10 rfl .assign ?_
 refine RA.nil (by kernel_rfl) ?_
 ·exact joinQ_n ((b26, bv, bb, bw), (Tv, Tb, Tw)) ⟨hOv, hOb, hOw⟩ kE.c.c (HLe.new0.trans (by
   first
    |exact (pkH [3, 0, 0, 0, 0, 0])
    |exact (pkH [3, 0, 0, 1, 0, 0])
    |exact (pkH [2, 0, 0, 0, 0, 0])
    |exact (pkH [2, 0, 0, 1, 0, 0])
    |exact (pkH [4, 0, 0, 0, 0, 0])
    |exact (pkH [4, 0, 0, 1, 0, 0])))
 intro y hy
 obtain ⟨⟨sb, bv, bb, bw⟩, ⟨Tv, Tb, Tw⟩⟩ := y
 obtain ⟨hOv, hOb, hOw⟩ := hy
 simp only at hOv hOb hOw ⊢
 obtain ⟨vv, hvv⟩ : ∃ v, v = Value.slice (some ⟨bv, 0, none⟩) ps.length ps.length := ⟨_, rfl⟩
 obtain ⟨vb, hvb⟩ : ∃ v, v = Value.slice (some ⟨bb, 0, none⟩) ps.length ps.length := ⟨_, rfl⟩
 obtain ⟨vw, hvw⟩ : ∃ v, v = Value.slice (some ⟨bw, 0, none⟩) ps.length ps.length := ⟨_, rfl⟩
 rw [<- hvv] at hOv ⊢
 rw [<- hvb] at hOb ⊢
 rw [<- hvw] at hOw ⊢
 clear hvv hvb hvw
 have i1 := hOv.oneCell
 have i2 := hOb.oneCell
 have i3 := hOw.oneCell
 refine seqQ_n<|.seq<|.sr<|.fa rfl<|.lo rfl<|.q (.lenR hps) ?_
 refine .mo rfl<|.zn<|.block ?_
 refine .loopS [(6, _), (28, _), (29, _)] (X := Nat × List Itm × List RwM × (Seg × Seg × Seg)) (λ y => y.1 <= ps.length /\ QI sb vp e us vv vb vw y.2.1 y.2.2.2.1 /\ QW P (qi P y.1) y.2.1 /\ OS 4 1 encBo vw (qi P y.1) y.2.2.2.2.1 /\ RWs vb y.2.2.1 y.2.2.2.2.2 /\ y.2.2.1.map (·.1.2) = (List.range ps.length).map λ j => bseen P y.1 [] j) (λ y E => (30, iN y.1) :: E) (λ y G => y.2.2.2.2.2 :: y.2.2.1.flatMap (·.2) :: y.2.2.2.1 :: y.2.2.2.2.1 :: G) (λ y => ps.length - y.1) (0, [], List.replicate ps.length (((sZ, []), []) : RwM), (slv sb vp e us vv vb vw (sZ), Tw, Tb)) ⟨Nat.zero_le _, ⟨_, [], (List.append_nil _).symm, OS.nil, by simp⟩, qw_nil P, by simp only; rw [qi_none, hPl]; exact hOw, ⟨by simp only [List.map_replicate]; exact hOb, λ q hq => by rw [(List.mem_replicate.1 hq).2]; exact OS.nil⟩, by simp only; rw [bseen_zero]; simp [List.map_const']⟩ kE.c.c.c.c (HLe.ofPerm (by simp only [flat_nil]; exact .refl _)) ?_
 rintro ⟨i, L, LL, ⟨Ta, Tw, To⟩⟩ ⟨hi, hQI, hQW, hOw, hRW, hrows⟩
 simp only at hi hQI hQW hOw hRW hrows ⊢
 refine .sr<|.q .lss<|.zs ?_
 refine .cond rfl (λ h1 => ?_) λ h1 => ?_
 have hlt : i < ps.length := lt_i h1
 obtain ⟨p, hp⟩ := exg hlt
 have hpm := mog hp
 have hpi := hal p hpm
 have hPi := hpl i p hp
 have hjp := hjl p hpm
 have hlp := hll p hpm
 have ip0 : Ones p.enc := ⟨hpi.ones⟩
 have hflat : p.plain.leads.flatten = p.ll.flatMap (·.2) := by unfold PlM.plain; simp [List.flatMap_def]
 have hfnd : p.plain.found = p.found := rfl
 have hbd := bseen_done hPi
 have hqn := qi_next hPi
 have hqs := qi_same hPi
 rw [hflat] at hbd
 rw [hfnd] at hqn hqs
 generalize p.plain = pp at *
 obtain ⟨k0, fo, vn, nds, vu, us0, vl, ll, nm⟩ := p
 have hlr : RS R 1 encV1 vl ll := hpi.l.rs
 have hla := hpi.l.all
 simp only at hbd hqn hqs hjp hlp hla
 have i4 := hlr.oneCell
 obtain ⟨vq, Tq, hTa, hOq, hLq⟩ := hQI
 have hQI : QI sb vp e us vv vb vw L Ta := ⟨vq, Tq, hTa, hOq, hLq⟩
 have i5 := hOq.oneCell
 have ps1 : PS Ta (pT sb) [vp, iN e, .string us, vv, vb, vw, vq] := PS.of (E := 228) (fr := (0, 0)) (by rw [hTa]; simp)
 refine .kn<|.seq<|.block<|.sr<|.mo rfl ?_
 refine .indexR i hps hp (λ p33 => ?_)
 refine .q (.loadA rfl) ?_
 refine .allocA (λ b8 => ?_)
 refine .ag rfl<|.storeA rfl rfl<|.zs<|.sr<|.fa rfl<|.lo rfl<|.q (.lenR hlr) ?_
 refine .mo rfl<|.zn<|.block ?_
 refine .loopS [(6, _), (7, _), (8, _), (28, _), (29, _), (30, _), (36, _), (37, _)] (X := Nat × List RwM × Seg) (λ y => y.1 <= ll.length /\ RWs vb y.2.1 y.2.2 /\ y.2.1.map (·.1.2) = (List.range ps.length).map λ j => bseen P i ((ll.take y.1).flatMap (·.2)) j) (λ y E => (38, iN y.1) :: E) (λ y _ => [bl b8 (PlM.enc ⟨k0, fo, vn, nds, vu, us0, vl, ll, nm⟩) 123, y.2.2, y.2.1.flatMap (·.2), Ta, Tw, Tv, bl b2 [vp, iN e] 55]) (λ y => ll.length - y.1) (0, LL, To) ⟨Nat.zero_le _, hRW, by simpa using hrows⟩ kE.c.c.c.c.c.c.c.c.c rH (G := []) ?_
 rintro ⟨m, LL, To⟩ ⟨hm, hRW, hrows⟩
 simp only at hm hRW hrows ⊢
 refine .sr<|.q .lss<|.zs ?_
 refine .cond rfl (λ h2 => ?_) λ h2 => ?_
 have hmt : m < ll.length := lt_i h2
 obtain ⟨⟨vr, row⟩, hrow⟩ := exg hmt
 have hrm := mog hrow
 have hr : RS R 1 encNt vr row := hla _ hrm
 obtain ⟨hrl, hjr⟩ := hjp _ hrm
 simp only at hrl hjr
 have i6 := hr.oneCell
 have hseen : (ll.take (m + 1)).flatMap (·.2) = (ll.take m).flatMap (·.2) ++ row := by rw [take_next hrow, List.flatMap_append]; simp
 generalize (ll.take m).flatMap (·.2) = seen0 at *
 have prow : PC R (baseP vl (m * 1)) (encV1 (vr, row)) := hlr.pc hrow
 refine .kn<|.seq<|.block<|.sr ?_
 refine .indexR m hlr hrow (λ p40 => ?_)
 refine .lo rfl<|.ag rfl<|.z<|.mo rfl<|.q (.lenR hr) ?_
 refine .mo rfl<|.zn<|.block ?_
 refine .loopS [(6, _), (7, _), (8, _), (28, _), (29, _), (30, _), (36, _), (37, _), (38, _), (42, _), (43, _)] (X := Nat × List RwM × Seg) (λ y => y.1 <= row.length /\ RWs vb y.2.1 y.2.2 /\ y.2.1.map (·.1.2) = (List.range ps.length).map λ j => bseen P i (seen0 ++ row.take y.1) j) (λ y E => (44, iN y.1) :: E) (λ y _ => [bl b8 (PlM.enc ⟨k0, fo, vn, nds, vu, us0, vl, ll, nm⟩) 123, y.2.2, y.2.1.flatMap (·.2), Ta, Tw, Tv, bl b2 [vp, iN e] 55]) (λ y => row.length - y.1) (0, LL, To) ⟨Nat.zero_le _, hRW, by simpa using hrows⟩ kE.c.c.c.c.c.c.c.c.c.c.c.c rH (G := []) ?_
 rintro ⟨j, LL, To⟩ ⟨hj, hRW, hrows⟩
 simp only at hj hRW hrows ⊢
 refine .sr<|.q .lss<|.zs ?_
 refine .cond rfl (λ h3 => ?_) λ h3 => ?_
 have hjt : j < row.length := lt_i h3
 obtain ⟨to, hto⟩ := exg hjt
 have htl : to < ps.length := hjr to (mog hto)
 have hnx : seen0 ++ row.take (j + 1) = (seen0 ++ row.take j) ++ [to] := by rw [take_next hto, List.append_assoc]
 generalize seen0 ++ row.take j = seen at *
 obtain ⟨vk, Tk, hk⟩ := rows_get hrows htl
 have hlast := bseen_last P i seen to
 have hstep := λ j => bseen_step P i seen to j
 have hbl := bseen_len P i seen to
 obtain ⟨r, hrd⟩ : ∃ r, r = bseen P i seen to := ⟨_, rfl⟩
 rw [<- hrd] at hk hlast hbl
 obtain ⟨hOb, hOI⟩ := hRW
 have hOr := hOI _ (mog hk)
 simp only at hOr
 have i7 : One vk := hOr.oneCell
 have hq1 : (LL.map (·.1))[to]? = some (vk, r) := by rw [List.getElem?_map, hk]; rfl
 have pob : PS To (baseP vb (to * 1)) (encV1 (vk, r)) := ⟨hOb.pc hq1⟩
 have pto : PC R (baseP vr (j * 1)) (encNt to) := hr.pc hto
 obtain ⟨L1, L2, hLL, hL1, hset⟩ := list_split hk
 have hor := hOr.le
 refine .kn<|.seq<|.block<|.sr ?_
 refine .indexR j hr hto (λ p46 => ?_)
 refine .lo rfl<|.ag rfl<|.z<|.mo rfl ?_
 refine .nc rfl<|.fa rfl<|.lo rfl<|.mo rfl<|.q (.indexR to hOb.sg hq1 rfl rfl rfl) ?_
 refine .lo rfl<|.q (.lenR hOr.sg) ?_
 refine .ag rfl<|.zs ?_
 refine Tri.cutS [(6, _), (7, _), (8, _), (12, _), (28, _), (29, _), (30, _), (36, _), (37, _), (38, _), (42, _), (43, _), (44, _)] kE.c.c.c.c.c.c.c.c.c.c.c.c.c (X := Unit) (λ _ => True) (λ _ E => (72, .bool (!decide (to ∈ seen))) :: E) (λ _ => [bl b8 (PlM.enc ⟨k0, fo, vn, nds, vu, us0, vl, ll, nm⟩) 123, To, LL.flatMap (·.2), Ta, Tw, Tv, bl b2 [vp, iN e] 55]) ?_ ?_
 refine .region<|.mo rfl<|.q .eqI<|.mo rfl ?_
 refine .split (t := 58) rfl (λ g13_2 => ?_) (λ g13_2 => ?_)
 have hr0 : r = [] := by
  have h9 := odt g13_2
  exact List.eq_nil_of_length_eq_zero (by omega)
 have hbv : (!decide (to ∈ seen)) = true := by
  rw [hr0] at hlast
  simp only [List.getLast?_nil] at hlast
  have : ¬ to ∈ seen := λ h => by have := hlast.2 h; cases this
  simp [this]
 rw [hbv]
 refine .gF g13_2<|.gF g13_2<|.gF g13_2<|.gF g13_2<|.gF g13_2<|.gF g13_2<|.gF g13_2<|.gF g13_2<|.gF g13_2<|.gF g13_2<|.gF g13_2<|.gF g13_2<|.gF g13_2<|.q (.pickTh g13_2) ?_
 refine .nil ?_
 ·exact joinQ_n () trivial kE.c.c.c.c.c.c.c.c.c.c.c.c.c.c rH
 have hr1 : 0 < r.length := by
  have h9 := odf g13_2
  omega
 obtain ⟨x, hx⟩ : ∃ x, r[r.length - 1]? = some x := ⟨_, gge (by omega)⟩
 have prr : PS (LL.flatMap (·.2)) (baseP vk ((r.length - 1) * 1)) (encNt x) := ⟨(hOr.pc hx).mono λ b o hb => List.mem_flatMap.2 ⟨_, mog hk, hb⟩⟩
 have hbv : (!decide (to ∈ seen)) = ((x : Int) != (i : Nat)) := by
  rw [List.getLast?_eq_getElem?, hx] at hlast
  by_cases h : to ∈ seen
  ·have h2 := hlast.2 h
   injection h2 with h2
   simp [h, h2]
  ·have h2 : ¬ x = i := λ e => h (hlast.1 (by rw [e]))
   have h3 : ¬ ((x : Int) = (i : Int)) := by omega
   rw [bne_iff_ne.2 h3]
   simp [h]
 rw [hbv]
 refine .gT g13_2<|.mo rfl<|.gT g13_2<|.nc rfl<|.gT g13_2<|.fa rfl<|.gT g13_2<|.lo rfl<|.gT g13_2<|.mo rfl<|.gT g13_2<|.q (.indexR to hOb.sg hq1 rfl rfl rfl) ?_
 refine .gT g13_2<|.lo rfl<|.gT g13_2<|.mo rfl<|.gT g13_2 ?_
 refine .ia (r.length - 1) .sub ?_
 refine .gT g13_2<|.q (.indexR (r.length - 1) hOr.sg hx rfl rfl rfl) ?_
 refine .gT g13_2<|.lo rfl<|.gT g13_2<|.mo rfl<|.gT g13_2<|.q .neI<|.q (.pickFh g13_2) ?_
 refine .nil ?_
 ·exact joinQ_n () trivial kE.c.c.c.c.c.c.c.c.c.c.c.c.c.c rH
 intro y hy
 refine seqQ_n ?_
 refine Tri.cutS [(6, _), (7, _), (8, _), (28, _), (29, _), (30, _), (36, _), (37, _), (38, _), (42, _), (43, _), (44, _)] kE.c.c.c.c.c.c.c.c.c.c.c.c (X := List RwM × Seg) (λ y => RWs vb y.1 y.2 /\ y.1.map (·.1.2) = (List.range ps.length).map λ j => bseen P i (seen ++ [to]) j) (λ _ E => E) (λ y => [bl b8 (PlM.enc ⟨k0, fo, vn, nds, vu, us0, vl, ll, nm⟩) 123, y.2, y.1.flatMap (·.2), Ta, Tw, Tv, bl b2 [vp, iN e] 55]) ?_ ?_
 refine .cond rfl (λ h4 => ?_) λ h4 => ?_
 have hns : ¬ to ∈ seen := by simpa using h4
 refine Tri.le (EnvLe.refl _) (HLe.ofPerm (H' := [bl b8 (PlM.enc ⟨k0, fo, vn, nds, vu, us0, vl, ll, nm⟩) 123, To, Tk, L1.flatMap (·.2) ++ L2.flatMap (·.2), Ta, Tw, Tv, bl b2 [vp, iN e] 55]) (by
  rw [hLL]
  simp only [List.flatMap_append, List.flatMap_cons, List.flatten_cons, List.flatten_nil, List.append_nil]
  refine .append_left _ (.append_left _ ?_)
  simp only [<- List.append_assoc]
  refine .append_right _ (.append_right _ (.append_right _ (.append_right _ (.append_right _ ?_))))
  exact List.perm_append_comm)) ?_
 refine .region_any [1, 1] [14, 16] mixed ?_
 conv => arg 3; simp only [take, rest, dropAt, List.getD_cons_zero, List.getD_cons_succ]
 conv => arg 5; simp only [take, rest, dropAt, List.getD_cons_zero, List.getD_cons_succ]
 conv => arg 9; simp only [take, rest, dropAt, List.getD_cons_zero, List.getD_cons_succ]
 refine .tK 0 rfl .move ?_
 refine .tK 1 rfl (.nilCheckA rfl) ?_
 refine .tK 2 rfl (.fieldAddrA rfl) ?_
 refine .tK 3 rfl (.load1 rfl)<|.tK 4 rfl .move<|.tO 5 rfl .move<|.tO 6 rfl (.nilCheck rfl)<|.tO 7 rfl (.fieldAddr rfl)<|.tO 8 rfl (.load1 rfl)<|.tO 9 rfl .move ?_
 refine .tO 10 rfl (.indexR to hOb.sg hq1 rfl rfl rfl) ?_
 refine .tO 11 rfl (.load1 rfl)<|.tO 12 rfl .move ?_
 refine .sT 13 rfl ?_
 refine .buildSlice11 (λ b86 => ?_)
 refine .nil (Next.sub ?_)
 refine .sT 14 rfl ?_
 refine .append hOr (RS.lits (xs := [i]) rfl (by simp [encNt]) (by simp [encNt, oneCell])) (by simp only [List.length_singleton]; omega) (λ v5 T5 hv5 => ?_)
 obtain ⟨pp5, c5, rfl, _⟩ := hv5.shape
 refine .nil (Next.mod rfl ?_)
 refine RA.indexO 15 rfl to hOb hq1 rfl rfl rfl (by kernel_rfl) (λ p88 => ?_)
 refine .sT 16 rfl ?_
 refine .storeO1 to hOb hq1 ((.slice pp5 (r ++ [i]).length c5, r ++ [i]) : NlM) (λ Tn hOn => ?_)
 refine .nil (Next.mod rfl ?_)
 refine RA.nil (by kernel_rfl) ?_
 ·exact joinQ_n (LL.set to ((.slice pp5 (r ++ [i]).length c5, r ++ [i]), T5), Tn) ⟨⟨by simp only; rw [List.map_set]; exact hOn, λ q hq => by
    simp only at hq
    rw [hset] at hq
    rcases List.mem_append.1 hq with hq | hq
    ·exact hOI q (by rw [hLL]; exact List.mem_append_left _ hq)
    ·rcases List.mem_cons.1 hq with rfl | hq
     ·exact hv5
     ·exact hOI q (by rw [hLL]; exact List.mem_append_right _ (List.mem_cons_of_mem _ hq))⟩, by
    simp only
    refine rows_put hrows (λ x hx => ?_) htl
    rw [hstep, hrd]
    by_cases e : x = to
    ·subst e; rw [if_pos ⟨rfl, hns⟩, if_pos rfl]
    ·rw [if_neg λ h => e h.1, if_neg e]⟩ kE.c.c.c.c.c.c.c.c.c.c.c.c (by
    simp only
    rw [hset]
    refine (pkH [3, 1, 1, 1, 1, 1, 1, 1]).trans (HLe.ofPerm ?_)
    simp only [take, rest, dropAt, List.getD_cons_zero, List.getD_cons_succ, List.flatMap_append, List.flatMap_cons, List.flatten_cons, List.flatten_nil, List.append_nil, List.cons_append, List.nil_append]
    refine .cons _ (.append_left _ ?_)
    simp only [<- List.append_assoc]
    refine .append_right _ (.append_right _ (.append_right _ (.append_right _ (.append_right _ ?_))))
    exact List.perm_append_comm)
 have hns : to ∈ seen := by simpa using h4
 refine .skip ?_
 ·exact joinQ_n (LL, To) ⟨⟨hOb, hOI⟩, by
    simp only
    rw [hrows]
    refine List.map_congr_left λ x _ => ?_
    rw [hstep, if_neg λ h => h.2 hns]⟩ kE.c.c.c.c.c.c.c.c.c.c.c.c rH
 intro x hx
 obtain ⟨LL2, To2⟩ := x
 obtain ⟨hRW2, hrows2⟩ := hx
 simp only at hRW2 hrows2 ⊢
 rw [<- hnx] at hrows2
 refine blkQ_n<|seqQ_n<|.region ?_
 refine .ia (j + 1) .add ?_
 refine .mo rfl<|.nil ?_
 ·exact loopQ_i (j + 1, LL2, To2) ⟨hjt, hRW2, hrows2⟩ (by simp only; omega) kE.c.c.c.c.c.c.c.c.c.c.c.c rH
 have hje : row.length <= j := by have := odf h3; omega
 rw [take_end hje, <- hseen] at hrows
 refine .exit<|seqQ_x<|loopQ_x<|blkQ_x<|blkQ_n<|seqQ_n<|.region ?_
 refine .ia (m + 1) .add ?_
 refine .mo rfl<|.nil ?_
 ·exact loopQ_i (m + 1, LL, To) ⟨hmt, hRW, hrows⟩ (by simp only; omega) kE.c.c.c.c.c.c.c.c.c rH
 have hme : ll.length <= m := by have := odf h2; omega
 rw [take_end hme] at hrows
 have hrows : LL.map (·.1.2) = (List.range ps.length).map λ j => bseen P (i + 1) [] j := by rw [hrows]; exact List.map_congr_left λ x _ => hbd x
 refine .exit<|seqQ_x<|loopQ_x<|blkQ_x<|seqQ_n<|.sr<|.fa rfl<|.lo rfl<|.zn ?_
 refine .cond rfl (λ h5 => ?_) λ h5 => ?_
 have hft : fo = true := h5
 subst hft
 refine .region<|.mo rfl<|.mo rfl ?_
 refine .call [3, 3] (sowait_spec sb vp e us vv vb vw L Ta Tw hQI ps _ hps.rx hpo (qi P i) hOw (by rw [qi_len (by omega), hPl]) (hP ▸ hQW) i hlt (by omega)) (λ u H' hu => ?_)
 obtain ⟨Ta2, Tw2, L2_, rfl, hQI2, hOw2, hQW2⟩ := hu
 rw [<- hP] at hQW2
 conv => arg 8; simp only [rest, dropAt, List.cons_append, List.nil_append]
 refine .nil<|blkQ_n<|seqQ_n<|.region ?_
 refine .ia (i + 1) .add ?_
 refine .mo rfl<|.nil ?_
 ·exact loopQ_i (i + 1, L2_, LL, (Ta2, Tw2, To)) ⟨hlt, hQI2, by simp only; rw [hqn]; exact hQW2, by simp only; rw [hqn]; exact hOw2, hRW, hrows⟩ (by simp only; omega) kE.c.c.c.c (pkH [3, 3, 0, 0, 1, 1])
 have hff : fo = false := h5
 subst hff
 refine .skip<|blkQ_n<|seqQ_n<|.region ?_
 refine .ia (i + 1) .add ?_
 refine .mo rfl<|.nil ?_
 ·exact loopQ_i (i + 1, L, LL, (Ta, Tw, To)) ⟨hlt, hQI, by simp only; rw [hqs rfl]; exact hQW, by simp only; rw [hqs rfl]; exact hOw, hRW, hrows⟩ (by simp only; omega) kE.c.c.c.c (pkH [1, 1, 1, 1, 1, 1])
 have hie : i = ps.length := by have := odf h1; omega
 rw [hie, <- hPl, qi_all] at hQW hOw
 have hrows : LL.map (·.1.2) = (List.range ps.length).map (backs P) := by
  rw [hrows, hie]
  refine List.map_congr_left λ x _ => ?_
  rw [<- hPl]
  exact congrFun (bseen_all P) x
 refine .exit<|seqQ_x<|loopQ_x<|blkQ_x<|seqQ_n<|.sr<|.mo rfl<|.az rfl ?_
 refine .ret (retQ_r _ (.one (.tmp rfl)) (pkH [2, 2, 2, 0, 0]) ?_)
 ·exact ⟨sb, vv, vb, vw, L, LL, Ta, Tw, Tv, To, rfl, rfl, i1, i2, i3, hQI, hQW, hOw, hOv, hRW, hrows⟩
structure SolOK (ps : List PlM) (us : ByteArray) : Prop where
 ok : PsOK (ps.map PlM.plain) us
 tr : ∀ p ∈ ps, ∀ i, i < p.nodes.length -> (tree isWord p.nodes (i + 1)).isSome = true
 nl : ∀ p ∈ ps, p.nodes.length <= 1000000
 rl : ∀ p ∈ ps, ∀ q ∈ p.ll, q.2.length <= 1000000
 n : ps.length <= 2000000
 ed : nedges (ps.map PlM.plain) <= 1000000000
theorem SolOK.ll {ps : List PlM} {us : ByteArray} (h : SolOK ps us) : ∀ p ∈ ps, p.ll.length = p.nodes.length := λ p hp => by
 have := h.ok.ln p.plain (List.mem_map.2 ⟨p, hp, rfl⟩)
 have h2 : p.plain.leads.length = p.ll.length := by unfold PlM.plain; simp
 have h3 : p.plain.nodes = p.nodes := rfl
 rw [h2, h3] at this
 exact this
theorem SolOK.jl {ps : List PlM} {us : ByteArray} (h : SolOK ps us) : ∀ p ∈ ps, ∀ q ∈ p.ll, ∀ j ∈ q.2, j < ps.length := λ p hp q hq j hj => by
 have := h.ok.lt p.plain (List.mem_map.2 ⟨p, hp, rfl⟩) j (List.mem_flatten.2 ⟨q.2, List.mem_map.2 ⟨q, hq, rfl⟩, hj⟩)
 rwa [List.length_map] at this
def solV (b : Int) (K : Nat) (v : List Bool) : List Bool × Nat × Int :=
 if b < 1 then ([], 0, 2) else if b < K then ([], b.toNat + 1, 16) else (v, K, 0)
theorem ntrue_le (l : List Bool) : ntrue l <= l.length := List.countP_le_length
theorem QRun.more {ps : List Plc} {us : ByteArray} {K k : Nat} {s t : QS} (h : QRun ps us K s) (hs : qnone s.2) (h' : QRun ps us k t) (ht : ¬ qnone t.2) : k < K := by
 rcases Nat.lt_trichotomy k K with h1 | h1 | h1
 ·exact h1
 ·subst h1
  rw [h.uniq h'] at hs
  exact absurd hs ht
 ·obtain ⟨u, i, hu, hi⟩ := h'.upto h1
  have e := h.uniq hu
  subst e
  have := hi.1
  rw [hs i] at this
  cases this
theorem values_spec (vp : Value) (e : Nat) (us : ByteArray) (ps : List PlM) (R : Rds) (hps : RS R 8 PlM.enc vp ps) (hal : ∀ p ∈ ps, p.is R) (hok : SolOK ps us) (b : Int) (hb : b <= 9223372036854775807) (K : Nat) (s : QS) (hK : QRun (ps.map PlM.plain) us K s) (hs : qnone s.2) :
  Spec prog 60 [.agg [vp, iN e].toArray, .string us, .int .i64 b] R [] λ u H' => ∃ T, H' = [T] /\ ∃ vo, u = .tuple [vo, .int .i64 ((solV b K s.1).2.1 : Nat), .int .i64 (solV b K s.1).2.2].toArray /\ OS 4 1 encBo vo (solV b K s.1).1 T := by
 have ivp := hps.oneCell
 have hpo : ∀ p ∈ ps, ∀ u ∈ p.enc, oneCell u = true := λ p hp => (hal p hp).ones
 have hlen := hok.n
 have hll := hok.ll
 have hjl := hok.jl
 have hnl := hok.nl
 have htr := hok.tr
 have hpl : ∀ (i : Nat) (p : PlM), ps[i]? = some p -> (ps.map PlM.plain)[i]? = some p.plain := λ i p hp => by rw [List.getElem?_map, hp]; rfl
 have hnw := sonew_spec vp e us ps
 have hwt := sowait_spec
 have hed := hok.ed
 have hpok := hok.ok
 have hPl0 : (ps.map PlM.plain).length = ps.length := List.length_map _
 have hbk : ∀ i, ∀ k ∈ backs (ps.map PlM.plain) i, k < ps.length := λ i k hk => by
  have := (hpok.back_found hk).1
  rwa [hPl0] at this
 have hbkl : ∀ i, (backs (ps.map PlM.plain) i).length <= ps.length := λ i => by
  unfold backs
  refine Nat.le_trans (List.length_filter_le _ _) ?_
  rw [List.length_range, hPl0]
  exact Nat.le_refl _
 have hmost := λ k t (h : QRun (ps.map PlM.plain) us k t) => (h.inv hpok).most hpok
 have hinv := λ k t (h : QRun (ps.map PlM.plain) us k t) => h.inv hpok
 have hnf : nfound (ps.map PlM.plain) <= 2000000 := by
  unfold nfound
  refine Nat.le_trans (ntrue_le _) ?_
  rw [List.length_map, hPl0]
  exact hlen
 have hex : ∀ (i : Nat) (p : PlM) (vf : Nat -> Bool), ps[i]? = some p -> (netOf (ps.map PlM.plain) us).ex i vf = nodeV p.plain us vf p.nodes.length := λ i p vf hp => by
  show (match (ps.map PlM.plain)[i]? with | none => false | some p => nodeV p us vf p.nodes.length) = _
  rw [hpl i p hp]; rfl
 obtain ⟨P, hP⟩ : ∃ P, P = ps.map PlM.plain := ⟨_, rfl⟩
 rw [<- hP] at hK hpl hed hpok hbk hbkl hmost hinv hnf hnw hPl0 hex
 have hq0 : (List.replicate P.length false, founds P) = (List.replicate P.length false, P.map (·.found)) := rfl
 refine Spec.body Tryz.func60 rfl Tryz.results60 Tryz.ntmps60 rfl ?_
 refine .sr ?_
 refine .boxA rfl (λ b3 => ?_)
 refine .ag rfl<|.ag rfl<|.ag rfl<|.zs<|.sr<|.mo rfl<|.q .lss<|.zn ?_
 refine .cond rfl (λ h1 => ?_) λ h1 => ?_
 have hb1 : b < 1 := odt h1
 refine .sr<|.ag rfl<|.ag rfl<|.az rfl ?_
 refine .ret (seqQ_r (retQ_r _ (.three (.tmp rfl) (.tmp rfl) (.tmp rfl)) (HLe.new0.trans (pkH [0])) ?_))
 ·exact ⟨[], rfl, sZ, by unfold solV; rw [if_pos hb1]; rfl, by unfold solV; rw [if_pos hb1]; exact OS.nil⟩
 have hb1 : ¬ b < 1 := odf h1
 refine .kn<|.sr<|.q (.loadA rfl)<|.mo rfl ?_
 refine .call [] (hnw _ hps.rx (λ p hp => (hal p hp).mono λ b o hb => .inl hb) hlen (λ p hp => by rw [hll p hp]; exact hnl p hp) (λ p hp q hq => ⟨hok.rl p hp q hq, hjl p hp q hq⟩)) (λ u H' hu => ?_)
 obtain ⟨sb, vv, vb, vw, L, LL, Ta, Tw, Tv, To, rfl, rfl, i1, i2, i3, hQI, hQW, hOw, hOv, hRW, hrows⟩ := hu
 conv => arg 8; simp only [rest, dropAt, List.cons_append, List.nil_append]
 refine .ag rfl<|.z<|.ag rfl<|.zs<|.block ?_
 refine .loopS [(2, _), (3, _), (9, _)] (X := Nat × (List Bool × List Bool) × List Itm × (Seg × Seg × Seg)) (λ y => QRun P us y.1 y.2.1 /\ (y.1 : Int) <= b /\ QI sb vp e us vv vb vw y.2.2.1 y.2.2.2.1 /\ QW P y.2.1.2 y.2.2.1 /\ OS 4 1 encBo vw y.2.1.2 y.2.2.2.2.1 /\ OS 4 1 encBo vv y.2.1.1 y.2.2.2.2.2) (λ y E => (10, iN y.1) :: E) (λ y G => y.2.2.2.1 :: y.2.2.2.2.1 :: y.2.2.2.2.2 :: G) (λ y => nfound P + nedges P - y.1) (0, (List.replicate P.length false, founds P), L, (Ta, Tw, Tv)) ⟨.start, by simp only; omega, hQI, hQW, hOw, by simp only; rw [hPl0]; exact hOv⟩ kE.c.c.c.c rH ?_
 rintro ⟨k, ⟨v, q⟩, L, ⟨Ta, Tw, Tv⟩⟩ ⟨hrun, hkb, hQI, hQW, hOw, hOv⟩
 simp only at hrun hkb hQI hQW hOw hOv ⊢
 have hkm := hmost _ _ hrun
 have hiv := hinv _ _ hrun
 have hvl : v.length = ps.length := by rw [<- hPl0]; exact hiv.l1
 have hql : q.length = ps.length := by rw [<- hPl0]; exact hiv.l2
 obtain ⟨vq, Tq, hTa, hOq, hLq⟩ := hQI
 have hQI : QI sb vp e us vv vb vw L Ta := ⟨vq, Tq, hTa, hOq, hLq⟩
 have i5 := hOq.oneCell
 have ps1 : PS Ta (pT sb) [vp, iN e, .string us, vv, vb, vw, vq] := PS.of (E := 228) (fr := (0, 0)) (by rw [hTa]; simp)
 have hrq : RS (sg Ta) 2 Itm.enc vq L := hOq.rs λ p hp => by rw [hTa]; exact List.mem_append_right _ hp
 refine .seq<|.sr<|.mo rfl<|.nc rfl<|.fa rfl<|.lo rfl ?_
 refine .callR (solen_spec vq L _ hrq.seg) (λ u hu => ?_)
 subst hu
 refine .q .gtr<|.zn ?_
 refine .cond rfl (λ h2 => ?_) λ h2 => ?_
 have hL1 : 0 < L.length := lt_i h2
 obtain ⟨x, hx⟩ := exg hL1
 obtain ⟨hnx0, _, hxl0⟩ := heap_next hQW.p hQW.h hx
 have hkK : k < K := hK.more hs hrun λ h => by have := hnx0.1; rw [h x.2] at this; cases this
 have hKm := hmost _ _ hK
 refine .kn<|.block<|.seq<|.sr<|.mo rfl<|.mo rfl<|.q .eqI<|.zn ?_
 refine .cond rfl (λ h3 => ?_) λ h3 => ?_
 have hkb2 : (k : Int) = b := by simpa using h3
 refine .sr<|.mo rfl ?_
 refine .ia (k + 1) .add ?_
 refine .ag rfl<|.ag rfl<|.az rfl ?_
 refine .ret (seqQ_r (blkQ_r (loopQ_r (blkQ_r (seqQ_r (retQ_r _ (.three (.tmp rfl) (.tmp rfl) (.tmp rfl)) (HLe.new0.trans (pkH [0])) ?_))))))
 ·have hbK : b < (K : Int) := by omega
  exact ⟨[], rfl, sZ, by unfold solV; rw [if_neg hb1, if_pos hbK]; simp only; rw [<- hkb2]; rfl, by unfold solV; rw [if_neg hb1, if_pos hbK]; exact OS.nil⟩
 have hkb2 : (k : Int) ≠ b := by simpa using h3
 refine .kn<|.sr<|.mo rfl ?_
 refine .ia (k + 1) .add ?_
 refine .ag rfl<|.z<|.mo rfl ?_
 refine .call [0, 0] (sonext_spec sb vp e us vv vb vw L Ta Tw hQI _ P q hOw hQW x hx) (λ u H' hu => ?_)
 obtain ⟨Ta2, Tw2, L2_, rfl, rfl, hQI2, hOw2, hQW2, hnx, hxl⟩ := hu
 obtain ⟨xa, i⟩ := x
 simp only at hnx hxl hOw2 hQW2
 conv => arg 8; simp only [rest, dropAt, List.cons_append, List.nil_append]
 have hil : i < ps.length := by omega
 obtain ⟨bi, hbi⟩ : ∃ b, v[i]? = some b := ⟨_, gge (by omega)⟩
 have hvi : v.getD i false = bi := by rw [List.getD_eq_getElem?_getD, hbi]; rfl
 obtain ⟨p, hp⟩ := exg hil
 have hpm := mog hp
 have ip0 : Ones p.enc := ⟨hpo p hpm⟩
 have hex1 := hex i p (λ j => v.getD j false) hp
 obtain ⟨vq2, Tq2, hTa2, hOq2, hLq2⟩ := hQI2
 have hQI2 : QI sb vp e us vv vb vw L2_ Ta2 := ⟨vq2, Tq2, hTa2, hOq2, hLq2⟩
 have i6 := hOq2.oneCell
 have ps2 : PS Ta2 (pT sb) [vp, iN e, .string us, vv, vb, vw, vq2] := PS.of (E := 228) (fr := (0, 0)) (by rw [hTa2]; simp)
 have hstep := QRun.step hrun hnx
 have hqa : qafter P us (v, q) i = if v.getD i false || !(netOf P us).ex i (λ j => v.getD j false) then (v, q.set i false) else (v.set i true, (backs P i).foldl (wput (v.set i true)) (q.set i false)) := rfl
 rw [hqa, hvi, hex1] at hstep
 refine .ag rfl<|.zs<|.seq ?_
 refine Tri.cutS [(2, _), (3, _), (9, _), (10, _), (11, _)] kE.c.c.c.c.c (X := Unit) (λ _ => True) (λ _ E => (50, .bool (bi || !nodeV p.plain us (λ j => v.getD j false) p.nodes.length)) :: E) (λ _ => [Ta2, Tw2, Tv, To, LL.flatMap (·.2), bl b3 [vp, iN e] 55]) ?_ ?_
 refine .region<|.mo rfl<|.nc rfl<|.fa rfl<|.lo rfl<|.mo rfl ?_
 refine .indexO i hOv hbi (λ p39 => ?_)
 refine .lo rfl<|.mo rfl ?_
 refine .split (t := 41) rfl (λ g10_7 => ?_) (λ g10_7 => ?_)
 refine .gF g10_7<|.gF g10_7<|.gF g10_7<|.gF g10_7<|.gF g10_7<|.gF g10_7<|.gF g10_7<|.gF g10_7<|.q (.pickTh g10_7) ?_
 refine .nil ?_
 ·exact joinQ_n () trivial (kE.c.c.c.c.c.consB rfl (by rw [g10_7]; rfl)) rH
 refine .gT g10_7<|.mo rfl<|.gT g10_7<|.fa rfl<|.gT g10_7<|.lo rfl<|.gT g10_7<|.mo rfl<|.gT g10_7 ?_
 refine .indexR i hps hp (λ p46 => ?_)
 refine .gT g10_7<|.q (.loadA rfl)<|.gT g10_7 ?_
 refine .callR (soreckon_spec sb vp e us vv vb vw vq2 p v _ ((hal p hpm).mono λ b o hb => .inl hb) (hOv.sg.seg) (ps2.h.mono λ b o hb => .inr (by simp [sg] at hb; simp [hb])) (hll p hpm) (hnl p hpm) (λ q hq j hj => by rw [hvl]; exact hjl p hpm q hq j hj) (htr p hpm)) (λ u hu => ?_)
 subst hu
 refine .gT g10_7<|.q .not<|.q (.pickFh g10_7) ?_
 refine .nil ?_
 ·exact joinQ_n () trivial (kE.c.c.c.c.c.consB rfl (by rw [g10_7]; rfl)) rH
 intro y hy
 refine seqQ_n ?_
 refine .cond rfl (λ h4 => ?_) λ h4 => ?_
 rw [h4] at hstep
 simp only [if_true] at hstep
 refine .exit<|seqQ_x<|blkQ_x ?_
 ·exact loopQ_i (k + 1, (v, q.set i false), L2_, (Ta2, Tw2, Tv)) ⟨hstep, by simp only; omega, hQI2, hQW2, hOw2, hOv⟩ (by simp only; omega) kE.c.c.c.c rH
 rw [h4] at hstep
 simp only [Bool.false_eq_true, if_false] at hstep
 obtain ⟨vk, Tk, hk⟩ := rows_get hrows hil
 have hOb := hRW.1
 have hOr := hRW.2 _ (mog hk)
 simp only at hOr
 have i7 : One vk := hOr.oneCell
 have hq1 : (LL.map (·.1))[i]? = some (vk, backs P i) := by rw [List.getElem?_map, hk]; rfl
 have pob : PS To (baseP vb (i * 1)) (encV1 (vk, backs P i)) := ⟨hOb.pc hq1⟩
 have hbki := hbk i
 have hbkli := hbkl i
 generalize backs P i = row at *
 obtain ⟨v', hv'⟩ : ∃ v', v' = v.set i true := ⟨_, rfl⟩
 rw [<- hv'] at hstep
 have hvl' : v'.length = ps.length := by rw [hv', List.length_set]; exact hvl
 have hrs : RS (sg (LL.flatMap (·.2))) 1 encNt vk row := hOr.rs λ p hp => List.mem_flatMap.2 ⟨_, mog hk, hp⟩
 refine .kn<|.sr<|.mo rfl<|.nc rfl<|.fa rfl<|.lo rfl<|.mo rfl ?_
 refine .indexO i hOv hbi (λ p56 => ?_)
 refine .storeO1 i hOv hbi true (λ Tv2 hOv2 => ?_)
 rw [<- hv'] at hOv2
 refine .z<|.mo rfl<|.nc rfl<|.fa rfl<|.lo rfl<|.mo rfl<|.q (.indexR i hOb.sg hq1 rfl rfl rfl) ?_
 refine .lo rfl<|.q (.lenR hOr.sg) ?_
 refine .mo rfl<|.zn<|.block ?_
 refine .loopS [(2, _), (3, _), (9, _), (10, _), (63, _), (64, _)] (X := Nat × List Bool × List Itm × (Seg × Seg)) (λ y => y.1 <= row.length /\ y.2.1 = (row.take y.1).foldl (wput v') (q.set i false) /\ QI sb vp e us vv vb vw y.2.2.1 y.2.2.2.1 /\ QW P y.2.1 y.2.2.1 /\ OS 4 1 encBo vw y.2.1 y.2.2.2.2) (λ y E => (65, iN y.1) :: E) (λ y G => y.2.2.2.1 :: y.2.2.2.2 :: G) (λ y => row.length - y.1) (0, q.set i false, L2_, (Ta2, Tw2)) ⟨Nat.zero_le _, rfl, hQI2, hQW2, hOw2⟩ kE.c.c.c.c.c.c.c rH ?_
 rintro ⟨m, q3, L3, ⟨Ta3, Tw3⟩⟩ ⟨hm, hq3, hQI3, hQW3, hOw3⟩
 simp only at hm hq3 hQI3 hQW3 hOw3 ⊢
 have hq3l : q3.length = ps.length := by rw [hq3, wfold_len, List.length_set]; exact hql
 obtain ⟨vq3, Tq3, hTa3, hOq3, hLq3⟩ := hQI3
 have hQI3 : QI sb vp e us vv vb vw L3 Ta3 := ⟨vq3, Tq3, hTa3, hOq3, hLq3⟩
 have i8 := hOq3.oneCell
 have ps3 : PS Ta3 (pT sb) [vp, iN e, .string us, vv, vb, vw, vq3] := PS.of (E := 228) (fr := (0, 0)) (by rw [hTa3]; simp)
 refine .sr<|.q .lss<|.zs ?_
 refine .cond rfl (λ h5 => ?_) λ h5 => ?_
 have hmt : m < row.length := lt_i h5
 obtain ⟨t, ht⟩ := exg hmt
 have htl : t < ps.length := hbki t (mog ht)
 have prt : PS (LL.flatMap (·.2)) (baseP vk (m * 1)) (encNt t) := ⟨hrs.pc ht⟩
 obtain ⟨bt, hbt⟩ : ∃ b, v'[t]? = some b := ⟨_, gge (by omega)⟩
 have hvt : v'.getD t false = bt := by rw [List.getD_eq_getElem?_getD, hbt]; rfl
 have hnx3 : (row.take (m + 1)).foldl (wput v') (q.set i false) = if bt then q3 else q3.set t true := by
  rw [take_next ht, List.foldl_append, <- hq3]
  show wput v' q3 t = _
  unfold wput
  rw [hvt]
 refine .kn<|.seq<|.block<|.sr<|.q (.indexR m hrs ht rfl rfl rfl) ?_
 refine .lo rfl<|.ag rfl<|.z<|.mo rfl ?_
 refine .nc rfl<|.fa rfl<|.lo rfl<|.mo rfl ?_
 refine .indexO t hOv2 hbt (λ p74 => ?_)
 refine .lo rfl<|.q .not<|.zn ?_
 refine .cond rfl (λ h6 => ?_) λ h6 => ?_
 have hbf : bt = false := by simpa using h6
 rw [hbf] at hnx3
 simp only [Bool.false_eq_true, if_false] at hnx3
 refine .region<|.mo rfl<|.mo rfl ?_
 refine .call [0, 0] (hwt sb vp e us vv vb vw L3 Ta3 Tw3 hQI3 ps _ hps.rx hpo q3 hOw3 hq3l (hP ▸ hQW3) t htl (by omega)) (λ u H' hu => ?_)
 obtain ⟨Ta4, Tw4, L4, rfl, hQI4, hOw4, hQW4⟩ := hu
 rw [<- hP] at hQW4
 conv => arg 8; simp only [rest, dropAt, List.cons_append, List.nil_append]
 refine .nil<|blkQ_n<|seqQ_n<|.region ?_
 refine .ia (m + 1) .add ?_
 refine .mo rfl<|.nil ?_
 ·exact loopQ_i (m + 1, q3.set t true, L4, (Ta4, Tw4)) ⟨hmt, hnx3.symm, hQI4, hQW4, hOw4⟩ (by simp only; omega) kE.c.c.c.c.c.c.c rH
 have hbf : bt = true := by simpa using h6
 rw [hbf] at hnx3
 simp only [if_true] at hnx3
 refine .skip<|blkQ_n<|seqQ_n<|.region ?_
 refine .ia (m + 1) .add ?_
 refine .mo rfl<|.nil ?_
 ·exact loopQ_i (m + 1, q3, L3, (Ta3, Tw3)) ⟨hmt, hnx3.symm, hQI3, hQW3, hOw3⟩ (by simp only; omega) kE.c.c.c.c.c.c.c rH
 have hme : row.length <= m := by have := odf h5; omega
 rw [take_end hme] at hq3
 refine .exit<|seqQ_x<|loopQ_x<|blkQ_x<|blkQ_n ?_
 ·exact loopQ_i (k + 1, (v', q3), L3, (Ta3, Tw3, Tv2)) ⟨by rw [hq3]; exact hstep, by simp only; omega, hQI3, hQW3, hOw3, hOv2⟩ (by simp only; omega) kE.c.c.c.c rH
 have hL0 : L = [] := List.eq_nil_of_length_eq_zero (by have := odf h2; omega)
 obtain ⟨hKk, hKs⟩ := hK.last hs hrun (items_none hQW.p hL0)
 have hKb : ¬ b < (K : Int) := by omega
 refine .exit<|seqQ_x<|loopQ_x<|blkQ_x<|seqQ_n<|.sr<|.mo rfl<|.nc rfl<|.fa rfl<|.lo rfl<|.mo rfl<|.ag rfl<|.ag rfl<|.az rfl ?_
 refine .ret (retQ_r _ (.three (.tmp rfl) (.tmp rfl) (.tmp rfl)) (pkH [2]) ?_)
 ·exact ⟨Tv, rfl, vv, by unfold solV; rw [if_neg hb1, if_neg hKb, hKk], by unfold solV; rw [if_neg hb1, if_neg hKb, hKs]; exact hOv⟩
def PlM.zero (k : Obr) : PlM := ⟨k, false, sZ, [], sZ, [], sZ, [], 0⟩
def PU (R : Rds) (A : List (ByteArray × Rl)) (num : List Nat) (k : Obr) (m : Nat) (p : PlM) : Prop :=
 (p = PlM.zero k /\ ∀ j x, j < m -> A[j]? = some x -> rkey x ≠ ⟨k.os, k.rel⟩) \/
 ∃ j x vn, j < m /\ A[j]? = some x /\ rkey x = ⟨k.os, k.rel⟩ /\ p = ⟨k, true, vn, x.2.nodes, sZ, [], sZ, [], num.getD j 0⟩ /\ RS R 5 Nd.enc vn x.2.nodes
theorem PU.skip {R : Rds} {A : List (ByteArray × Rl)} {num : List Nat} {k : Obr} {m : Nat} {p : PlM} {x : ByteArray × Rl} (h : PU R A num k m p) (hx : A[m]? = some x) (hn : rkey x ≠ ⟨k.os, k.rel⟩) : PU R A num k (m + 1) p := by
 rcases h with ⟨e, h1⟩ | ⟨j, y, vn, h1, h2⟩
 ·refine .inl ⟨e, λ j y hj hy => ?_⟩
  rcases Nat.lt_or_ge j m with h3 | h3
  ·exact h1 j y h3 hy
  ·obtain rfl : j = m := by omega
   rw [hx] at hy; cases hy; exact hn
 ·exact .inr ⟨j, y, vn, by omega, h2⟩
theorem no_other {A : List (ByteArray × Rl)} (hu : (A.map rkey).Nodup) {i j : Nat} {x y : ByteArray × Rl} {t : Ty} (hx : A[i]? = some x) (hy : A[j]? = some y) (h1 : rkey x = t) (h2 : rkey y = t) : i = j := by
 have hx' : (A.map rkey)[i]? = some t := by rw [List.getElem?_map, hx, <- h1]; rfl
 have hy' : (A.map rkey)[j]? = some t := by rw [List.getElem?_map, hy, <- h2]; rfl
 rcases Nat.lt_trichotomy i j with h | h | h
 ·exact absurd hu (not_nodup h hy' hx' rfl)
 ·exact h
 ·exact absurd hu (not_nodup h hx' hy' rfl)
theorem PU.same {R : Rds} {A : List (ByteArray × Rl)} {num : List Nat} {k : Obr} {m : Nat} {p : PlM} (h : PU R A num k m p) (hm : A.length <= m) (hu : (A.map rkey).Nodup) {c : Cf} (hA : c.all = A) : p.plain = one c num k /\ p.is R := by
 unfold one
 rw [hA]
 rcases h with ⟨rfl, h1⟩ | ⟨j, x, vn, h1, h2, h3, rfl, h4⟩
 ·rw [find_none λ j y hj hy => h1 j y (by omega) hy]
  exact ⟨rfl, RS.nil0, RS.nil0, NN.nil⟩
 ·rw [find_some h2 h3 λ i y hi hy he => by have := no_other hu h2 hy h3 he; omega]
  refine ⟨?_, h4, RS.nil0, NN.nil⟩
  simp only [PlM.plain, List.getD_eq_getElem?_getD, List.getElem?_map, h2]
  rfl
def subW (S : Sto) (L : List SRow) (rev : Int) (k : Obr) : List Sub := if scan S rev then (L.filter λ y => y.there rev && decide (y.t.obr = k)).map (·.t.sub) else []
structure WS (R : Rds) (cp : Cf) (c : CfM) (hb g x : Nat) (S : Sto) (num : List Nat) (L : List SRow) : Prop where
 ci : c.is R
 pl : c.plain = cp
 h : ∃ vl e, HV R hb vl [e] 0 /\ e.rev = 0 /\ e.c.plain = cp /\ e.ll.map (·.2) = rows cp.spaces num
 s : ∃ ps vf vr Mf Mr, SV R g S ps vf vr Mf Mr
 d : ∃ vL, DV R x S vL L
 rl : RL S L
 sok : SOK S
 len : S.rows.length <= 512
 m : Means isWord isRef cp num
 nm : (cp.numbers isWord isRef).2 = rows cp.spaces num
 six : cp.spaces.length <= 5 /\ ∀ y ∈ cp.spaces, y.rels.length <= 6
theorem WS.mono {R R' : Rds} {cp : Cf} {c : CfM} {hb g x : Nat} {S : Sto} {num : List Nat} {L : List SRow} (h : WS R cp c hb g x S num L) (hR : ∀ b o, R b o -> R' b o) : WS R' cp c hb g x S num L := by
 obtain ⟨vl, e, h1, h2, h3, h4⟩ := h.h
 obtain ⟨ps, vf, vr, Mf, Mr, h5⟩ := h.s
 obtain ⟨vL, h6⟩ := h.d
 exact ⟨h.ci.mono hR, h.pl, ⟨vl, e, h1.mono hR, h2, h3, h4⟩, ⟨ps, vf, vr, Mf, Mr, h5.mono hR⟩, ⟨vL, h6.mono hR⟩, h.rl, h.sok, h.len, h.m, h.nm, h.six⟩
theorem cfFew_six (c : Cf) : (cfFew c).spaces.length <= 5 /\ ∀ y ∈ (cfFew c).spaces, y.rels.length <= 6 := by
 unfold cfFew
 refine ⟨by simp only [List.length_map, List.length_take]; omega, λ y hy => ?_⟩
 simp only at hy
 obtain ⟨s, _, rfl⟩ := List.mem_map.1 hy
 unfold fewS
 simp only [List.length_map, List.length_take]
 omega
section
variable {R : Rds} {cp : Cf} {c : CfM} {hb g x : Nat} {S : Sto} {num : List Nat} {L : List SRow}
theorem WS.ll (h : WS R cp c hb g x S num L) : L.length <= 512 := by rw [h.rl.pm.length_eq]; exact h.len
theorem subW_of (S : Sto) (L : List SRow) (rev : Int) : ∃ M : List (Obr × Sub), M.length <= L.length /\ (∀ y ∈ M, ∃ r ∈ L, y = (r.t.obr, r.t.sub)) /\ subOf M = subW S L rev := by
 refine ⟨if scan S rev then (L.filter λ y => y.there rev).map λ y => (y.t.obr, y.t.sub) else [], ?_, ?_, ?_⟩
 ·split
  ·rw [List.length_map]; exact List.length_filter_le _ _
  ·simp
 ·intro y hy
  split at hy
  ·obtain ⟨r, hr, rfl⟩ := List.mem_map.1 hy
   exact ⟨r, (List.mem_filter.1 hr).1, rfl⟩
  ·cases hy
 ·funext k
  unfold subOf subW
  split
  ·rw [List.filter_map, List.map_map, List.filter_filter]
   have : (λ a : SRow => ((λ x : Obr × Sub => decide (x.1 = k)) ∘ λ y : SRow => (y.t.obr, y.t.sub)) a && a.there rev) = λ y : SRow => y.there rev && decide (y.t.obr = k) := by
    funext y
    simp [Bool.and_comm]
   rw [this]
   rfl
  ·rfl
theorem subW_mem {rev : Int} {k : Obr} {s : Sub} (h : s ∈ subW S L rev k) : ∃ r ∈ L, s = r.t.sub := by
 unfold subW at h
 split at h
 ·obtain ⟨r, hr, rfl⟩ := List.mem_map.1 h
  exact ⟨r, (List.mem_filter.1 hr).1, rfl⟩
 ·cases h
theorem WS.lim (h : WS R cp c hb g x S num L) (rev : Int) (k : Obr) (i : Nat) (hi : ∀ j, j < i -> j < (opened cp num (subW S L rev) k j).1.length) : (opened cp num (subW S L rev) k i).1.length + (opened cp num (subW S L rev) k i).2 <= 1048576 := by
 obtain ⟨M, h1, _, h2⟩ := subW_of S L rev
 rw [<- h2] at hi ⊢
 obtain ⟨E, hE, _⟩ := h.m.ex
 exact total_le hE h.m.right h.m.uniq h.six.2 (Nat.le_trans h1 h.ll) k i hi
theorem WS.fin (h : WS R cp c hb g x S num L) (rev : Int) (k : Obr) : ∃ N, AtEnd cp num (subW S L rev) k N := by
 have hsub : ∀ k, ∀ s ∈ subW S L rev k, s ∈ L.map (·.t.sub) := λ k s hs => by
  obtain ⟨r, hr, rfl⟩ := subW_mem hs
  exact List.mem_map.2 ⟨r, hr, rfl⟩
 exact AtEnd.ex λ i => opened_len (reachU_closed hsub) self_reachU i
theorem WS.sets_le (h : WS R cp c hb g x S num L) (rev : Int) (k : Obr) : (fitting cp (subW S L rev) k).length <= 512 := by
 unfold fitting
 refine Nat.le_trans (List.length_filter_le _ _) ?_
 unfold subW
 split
 ·rw [List.length_map]
  exact Nat.le_trans (List.length_filter_le _ _) h.ll
 ·simp
theorem WS.ahead_le (h : WS R cp c hb g x S num L) (rev : Int) (k : Obr) (n : Nd) : (aheadK cp (subW S L rev) k n).length <= 512 := by
 have hs : ∀ k, (setsOf cp (subW S L rev) k).length <= 512 := λ k => Nat.le_trans (List.length_filter_le _ _) (h.sets_le rev k)
 unfold aheadK
 split
 ·rw [List.length_map]; exact hs _
 ·split
  ·rw [List.length_map]; exact hs _
  ·split <;> simp
theorem WS.disc (h : WS R cp c hb g x S num L) (rev : Int) (hr : 0 <= rev) (k : Obr) (b : Int) (hb63 : b <= 9223372036854775807) {N : Nat} (hN : AtEnd cp num (subW S L rev) k N) :
  Spec prog 47 [pT hb, pT g, .int .u64 rev, .agg [.string k.os, .string k.oi].toArray, .string k.rel, .int .i64 b] R [] (DiscT R (disc cp num (subW S L rev) k b (scan S rev) N)) := by
 obtain ⟨vl, e, hV, he1, he2, he3⟩ := h.h
 obtain ⟨ps, vf, vr, Mf, Mr, hS⟩ := h.s
 have hat : atC [e] rev = some e := by
  unfold atC
  have : hl [e] rev 1 = some 0 := by
   simp only [hl, List.getElem?_cons_zero, he1]
   simp [hr]
  rw [show ([e] : List EnM).length = 1 from rfl, this]
  rfl
 have hlim := h.lim rev k
 subst he2
 exact discover_spec hV hS h.rl h.len rev e hat num h.m he3 (by simp) (λ e' h' => by
  rw [List.mem_singleton] at h'
  subst h'
  have hl0 : e'.ll.length = e'.c.plain.spaces.length := by rw [<- rows_len e'.c.plain.spaces num, <- he3, List.length_map]
  refine ⟨by have := h.six.1; omega, λ q hq => ?_⟩
  have hq2 : q.2 ∈ rows e'.c.plain.spaces num := by rw [<- he3]; exact List.mem_map.2 ⟨q, hq, rfl⟩
  obtain ⟨i, hi, e9⟩ := List.mem_iff_getElem.1 hq2
  rw [rows_len] at hi
  have h1 := rows_at (n := num) (gge hi)
  rw [gge (by rw [rows_len]; exact hi), e9] at h1
  have h2 := Option.some.inj h1
  rw [h2, List.length_take]
  have := h.six.2 _ (List.getElem_mem hi)
  omega) k b hb63 (subW S L rev) rfl hlim N hN
end
theorem made_flat (w : WoM) (R : Rds) (h : w.is R) : Spec prog 19 [.agg w.enc.toArray] R [] λ u H' => ∃ T, H' = [T] /\ ∃ (c : CfM) (p1 p2 p3 : Value) (ok : Bool), u = .tuple [p1, p2, .agg c.enc.toArray, p3, .bool ok].toArray /\ One p1 /\ One p2 /\ One p3 /\ c.is (λ b o => R b o \/ (b, o) ∈ T) /\ c.plain = cfFew w.c.plain /\ ok = decide (((cfFew w.c.plain).numbers isWord isRef).1 = 0) /\
  (ok = true -> ∃ hb g x S num L, p1 = pT hb /\ p2 = pT g /\ p3 = pT x /\ WS (λ b o => R b o \/ (b, o) ∈ T) (cfFew w.c.plain) c hb g x S num L) := by
 refine Spec.flat ((made_spec w R h).mono λ u H' hu => ?_)
 rcases hu with hu | ⟨T, c, x, rfl, rfl, hc, hp, hn⟩
 ·obtain ⟨Tc, Th, Ts, Tx, hb, g, x, e, S, c, rfl, rfl, hc, hp, hn, her, hec, hH, hS, hSO, hD, hl⟩ := hu
  obtain ⟨num, hnm, hmn⟩ := numbers_means hn
  refine ⟨_, Tc ++ (Th ++ (Ts ++ Tx)), rfl, by simp, _, rfl, c, _, _, _, true, rfl, ⟨rfl⟩, ⟨rfl⟩, ⟨rfl⟩, hc.mono λ b o hb => hb.imp id λ hb => List.mem_append_left _ hb, hp, by rw [hn]; rfl, λ _ => ?_⟩
  obtain ⟨vl, hV⟩ := hH.view (R := λ b o => R b o \/ (b, o) ∈ Tc ++ (Th ++ (Ts ++ Tx))) λ p hp => .inr (List.mem_append_right _ (List.mem_append_left _ hp))
  obtain ⟨ps, vf, vr, Mf, Mr, hSV⟩ := hS.view (R := λ b o => R b o \/ (b, o) ∈ Tc ++ (Th ++ (Ts ++ Tx))) λ p hp => .inr (List.mem_append_right _ (List.mem_append_right _ (List.mem_append_left _ hp)))
  obtain ⟨vL, L, hDV, hRL⟩ := hD.view (R := λ b o => R b o \/ (b, o) ∈ Tc ++ (Th ++ (Ts ++ Tx))) λ p hp => .inr (List.mem_append_right _ (List.mem_append_right _ (List.mem_append_right _ hp)))
  have he := hV.all e (by simp)
  exact ⟨hb, g, x, S, num, L, rfl, rfl, rfl, hc.mono λ b o hb => hb.imp id λ hb => List.mem_append_left _ hb, hp, ⟨vl, e, hV, her, hec, by rw [he.eq, hec, hnm]⟩, ⟨ps, vf, vr, Mf, Mr, hSV⟩, ⟨vL, hDV⟩, hRL, hSO, hl, hmn, hnm, cfFew_six _⟩
 ·exact ⟨_, T, rfl, by simp, _, rfl, c, _, _, _, false, rfl, ⟨rfl⟩, ⟨rfl⟩, ⟨rfl⟩, hc, hp, (decide_eq_false hn).symm, λ h => (by cases h)⟩
theorem deep_pre {W : ByteArray -> Bool} {l : List Nd} (h : deepD W l ≠ 0) : ∀ i, i < l.length -> (tree W l (i + 1)).isSome = true := λ i hi => by
 unfold deepD at h
 cases ht : tree W l l.length with
 | none => rw [ht] at h; exact absurd rfl h
 | some p =>
  obtain ⟨b, x⟩ := p
  rw [ht] at h
  simp only at h
  have hb : b = 0 := by
   by_cases h0 : b = 0
   ·exact h0
   ·rw [if_neg h0] at h; exact absurd rfl h
  subst hb
  exact (tree_some _ _ ht).2.2.2 i (Nat.zero_le _) hi
theorem one_tree {W : ByteArray -> Bool} {F : ByteArray -> ByteArray -> Bool} {c : Cf} {num : List Nat} {k : Obr} (hc : c.right W F = true) : ∀ i, i < (one c num k).nodes.length -> (tree W (one c num k).nodes (i + 1)).isSome = true := by
 unfold one
 split
 ·intro i hi; exact absurd hi (by simp)
 ·rename_i i hi
  simp only [List.getD_eq_getElem?_getD, List.getElem?_map]
  cases hy : c.all[i]? with
  | none => intro i hi; exact absurd hi (by simp)
  | some y =>
   have h1 := (right_rel hc y (mog hy)).1
   unfold relOK at h1
   simp only [Bool.and_eq_true, bne_iff_ne, ne_eq] at h1
   simp only [Option.map_some, Option.getD_some]
   exact deep_pre h1.1.2
section
variable {R R' : Rds} {cp : Cf} {c : CfM} {hb g x : Nat} {S : Sto} {num : List Nat} {L : List SRow}
theorem WS.sol (h : WS R cp c hb g x S num L) {rev : Int} {k : Obr} {N : Nat} (hN : AtEnd cp num (subW S L rev) k N) {ps : List PlM} (e : ps.map PlM.plain = (opened cp num (subW S L rev) k N).1) (us : ByteArray) : SolOK ps us := by
 have hg := hN.gr
 have hmem : ∀ p ∈ ps, p.plain ∈ (opened cp num (subW S L rev) k N).1 := λ p hp => by rw [<- e]; exact List.mem_map.2 ⟨p, hp, rfl⟩
 have hnd : ∀ p ∈ ps, p.nodes = (one cp num p.k).nodes := λ p hp => (hg.one p.plain (hmem p hp)).2.1
 have hlim := h.lim rev k N hN.2
 have hed := hN.edges
 have hlen : (opened cp num (subW S L rev) k N).1.length = ps.length := by rw [<- e, List.length_map]
 refine ⟨by rw [e]; exact h.m.ps hN us, λ p hp => by rw [hnd p hp]; exact one_tree h.m.right, λ p hp => by rw [hnd p hp]; exact Nat.le_trans (one_len h.m.right) (by decide), λ p hp q hq => ?_, by omega, by rw [e, hed]; omega⟩
 obtain ⟨i, hi, e9⟩ := List.mem_iff_getElem.1 hp
 have hp2 : (opened cp num (subW S L rev) k N).1[i]? = some p.plain := by rw [<- e, List.getElem?_map, gge hi, e9]; rfl
 obtain ⟨⟨h1, h2⟩, h3⟩ := hg.op i p.plain (by omega) hp2
 have h1' : p.ll.length = p.nodes.length := by have : (p.ll.map (·.2)).length = p.nodes.length := h1; rwa [List.length_map] at this
 obtain ⟨j, hj, e8⟩ := List.mem_iff_getElem.1 hq
 have hj' : j < p.nodes.length := by rw [<- h1']; exact hj
 obtain ⟨n, hn⟩ : ∃ n, p.nodes[j]? = some n := ⟨_, gge hj'⟩
 have h4 := h2 j n hn
 have h5 : (p.plain.leads.getD j []) = q.2 := by
  show ((p.ll.map (·.2)).getD j []) = q.2
  rw [List.getD_eq_getElem?_getD, List.getElem?_map, gge hj, e8]; rfl
 rw [h5] at h4
 have h6 := congrArg List.length h4
 rw [List.length_map, List.length_map] at h6
 have := h.ahead_le rev p.plain.k n
 omega
end
theorem discN_of {P : Program} {f : FuncId} {args : List Value} {R R0 : Rds} {H : Segs} {out : List Plc × Nat × Int} (h : Spec P f args R0 H (DiscT R out)) : Spec P f args R0 H λ u H' => ∃ T, H' = [T] /\ ∃ vp ps, u = .tuple [.agg [vp, iN out.2.1].toArray, .int .i64 out.2.2].toArray /\ RS (λ b o => R b o \/ (b, o) ∈ T) 8 PlM.enc vp ps /\ (∀ p ∈ ps, PlM.is (λ b o => R b o \/ (b, o) ∈ T) p) /\ ps.map PlM.plain = out.1 := h.mono λ u H' hu => by
 obtain ⟨vp, ps, T, h1, h2⟩ := hu
 exact ⟨T, h1, vp, ps, h2⟩
def chkV (us : ByteArray) (D : List Plc × Nat × Int) (b : Int) (K : Nat) (v : List Bool) : Bool × Int :=
 if isID us = false then (false, 9) else if D.2.2 ≠ 0 then (false, D.2.2)
 else if (solV b K v).2.2 ≠ 0 then (false, (solV b K v).2.2) else ((solV b K v).1.getD 0 false, 0)
theorem disc_zero {c : Cf} {num : List Nat} {sub : Obr -> List Sub} {k : Obr} {b : Int} {can : Bool} {N : Nat} (h : (disc c num sub k b can N).2.2 = 0) : (disc c num sub k b can N).1 = (opened c num sub k N).1 /\ (disc c num sub k b can N).2.1 = (opened c num sub k N).2 /\ 1 <= b := by
 unfold disc at h ⊢
 split
 ·rename_i h1; rw [if_pos h1] at h; cases h
 ·rename_i h1
  rw [if_neg h1] at h
  split
  ·rename_i h2; rw [if_pos h2] at h; cases h
  ·rename_i h2
   rw [if_neg h2] at h
   split
   ·exact ⟨rfl, rfl, by omega⟩
   ·rename_i h3; rw [if_neg h3] at h; cases h
theorem opened_pos (c : Cf) (num : List Nat) (sub : Obr -> List Sub) (k : Obr) (N : Nat) : 0 < (opened c num sub k N).1.length := by
 have := (opened_mono (c := c) (num := num) (sub := sub) (k := k) (Nat.zero_le N)).1
 have h0 : (opened c num sub k 0).1.length = 1 := by simp [opened]
 omega
theorem solV_len {ps : List Plc} {us : ByteArray} {K : Nat} {s : QS} (ok : PsOK ps us) (hK : QRun ps us K s) {b : Int} (h0 : (solV b K s.1).2.2 = 0) : (solV b K s.1).1 = s.1 /\ (solV b K s.1).1.length = ps.length := by
 have hl := (hK.inv ok).l1
 unfold solV at h0 ⊢
 split
 ·rename_i h1; rw [if_pos h1] at h0; cases h0
 ·rename_i h1
  rw [if_neg h1] at h0
  split
  ·rename_i h2; rw [if_pos h2] at h0; cases h0
  ·exact ⟨rfl, hl⟩
theorem socheck_spec {R R' : Rds} {cp : Cf} {c : CfM} {hb g x : Nat} {S : Sto} {num : List Nat} {L : List SRow} (h : WS R cp c hb g x S num L) (rev : Int) (hr : 0 <= rev) (k : Obr) (us : ByteArray) (hus : us.size <= 9223372036854775807) (b : Int) (hb63 : b <= 9223372036854775807) {N : Nat} (hN : AtEnd cp num (subW S L rev) k N) {K : Nat} {s : QS} (hK : QRun (opened cp num (subW S L rev) k N).1 us K s) (hs : qnone s.2) :
  Spec prog 32 [pT hb, pT g, .int .u64 rev, .agg [.string k.os, .string k.oi].toArray, .string k.rel, .string us, .int .i64 b] R [] λ u H' => u = .tuple [.bool (chkV us (disc cp num (subW S L rev) k b (scan S rev) N) b K s.1).1, .int .i64 (chkV us (disc cp num (subW S L rev) k b (scan S rev) N) b K s.1).2].toArray /\ H' = [] := by
 have hdc := h.disc rev hr k b hb63 hN
 have hsol := λ (ps : List PlM) e => h.sol hN (ps := ps) e us
 have hz := disc_zero (c := cp) (num := num) (sub := subW S L rev) (k := k) (b := b) (can := scan S rev) (N := N)
 have hpos := opened_pos cp num (subW S L rev) k N
 obtain ⟨D, hD⟩ : ∃ D, D = disc cp num (subW S L rev) k b (scan S rev) N := ⟨_, rfl⟩
 rw [<- hD] at hdc hz ⊢
 have hcd : chkV us D b K s.1 = if isID us = false then (false, 9) else if D.2.2 ≠ 0 then (false, D.2.2)
  else if (solV b K s.1).2.2 ≠ 0 then (false, (solV b K s.1).2.2) else ((solV b K s.1).1.getD 0 false, 0) := rfl
 generalize chkV us D b K s.1 = out at *
 generalize (opened cp num (subW S L rev) k N).1 = OP at *
 refine Spec.body Tryz.func32 rfl Tryz.results32 Tryz.ntmps32 rfl<|.sr ?_
 refine .boxA rfl (λ b10 => ?_)
 refine .ag rfl<|.ag rfl<|.zs<|.sr<|.mo rfl<|.callR ((id_spec us hus R).weaken rxl) (λ u hu => ?_)
 subst hu
 refine .q .not<|.zn<|.cond rfl (λ h1 => ?_) λ h1 => ?_
 have hid : isID us = false := by simpa using h1
 rw [if_pos hid] at hcd
 subst hcd
 refine .sr<|.ag rfl<|.az rfl<|.ret (seqQ_r (retQ_r _ (.two (.tmp rfl) (.tmp rfl)) (.none _) ?_))
 ·exact ⟨rfl, rfl⟩
 have hid : ¬ isID us = false := by simpa using h1
 rw [if_neg hid] at hcd
 refine .kn<|.sr<|.mo rfl<|.mo rfl<|.mo rfl<|.q (.loadA rfl)<|.mo rfl<|.mo rfl<|.callN ((discN_of hdc).weaken rxl) (λ u T30 hu => ?_)
 obtain ⟨vp, ps, rfl, hrs, hall, heq⟩ := hu
 have ivp := hrs.oneCell
 refine .mo rfl<|.q .extract<|.q .extract ?_
 refine .allocA (λ b16 => ?_)
 refine .storeA rfl rfl<|.ag rfl<|.zs<|.sr<|.mo rfl<|.q .neI<|.zn<|.cond rfl (λ h2 => ?_) λ h2 => ?_
 have hne : D.2.2 ≠ 0 := by simpa using h2
 rw [if_pos hne] at hcd
 subst hcd
 refine .sr<|.mo rfl<|.ag rfl<|.az rfl<|.ret (seqQ_r (retQ_r _ (.two (.tmp rfl) (.tmp rfl)) (.none _) ?_))
 ·exact ⟨rfl, rfl⟩
 have hz0 : D.2.2 = 0 := by simpa using h2
 rw [if_neg (by rw [hz0]; simp)] at hcd
 obtain ⟨hz1, hz2, hz3⟩ := hz hz0
 rw [hz1] at heq
 have hso := hsol ps heq
 rw [<- heq] at hK hpos
 have hsl := λ h0 => solV_len hso.ok hK (b := b) h0
 rw [List.length_map] at hpos hsl
 refine .kn<|.sr<|.q (.loadA rfl)<|.mo rfl<|.mo rfl<|.callN (values_spec vp _ us ps _ (hrs.mono λ b o hb => hb.elim .inl λ hb => .inr (by simp [hb])) (λ p hp => (hall p hp).mono λ b o hb => hb.elim .inl λ hb => .inr (by simp [hb])) hso b hb63 K s hK hs) (λ u T40 hu => ?_)
 obtain ⟨vo, rfl, hO⟩ := hu
 have ivo := hO.oneCell
 refine .mo rfl<|.q .extract<|.q .extract<|.q .extract<|.ag rfl<|.ag rfl<|.ag rfl<|.zs<|.sr<|.mo rfl<|.q .neI<|.zn<|.cond rfl (λ h3 => ?_) λ h3 => ?_
 have hne : (solV b K s.1).2.2 ≠ 0 := by simpa using h3
 rw [if_pos hne] at hcd
 subst hcd
 refine .sr<|.mo rfl<|.ag rfl<|.az rfl<|.ret (seqQ_r (retQ_r _ (.two (.tmp rfl) (.tmp rfl)) (.none _) ?_))
 ·exact ⟨rfl, rfl⟩
 have hz9 : (solV b K s.1).2.2 = 0 := by simpa using h3
 rw [if_neg (by rw [hz9]; simp)] at hcd
 obtain ⟨_, hsl2⟩ := hsl hz9
 obtain ⟨b0, hb0⟩ : ∃ b0, (solV b K s.1).1[0]? = some b0 := ⟨_, gge (by omega)⟩
 have hbd : (solV b K s.1).1.getD 0 false = b0 := by rw [List.getD_eq_getElem?_getD, hb0]; rfl
 rw [hbd] at hcd
 subst hcd
 refine .kn<|.sr<|.mo rfl ?_
 refine .indexO 0 hO hb0 (λ p48 => ?_)
 refine .lo rfl<|.ag rfl<|.az rfl<|.ret (retQ_r _ (.two (.tmp rfl) (.tmp rfl)) (.none _) ?_)
 ·exact ⟨rfl, rfl⟩
def DeadM (R : Rds) (p : Value) : Prop := p = .pointer none \/ ∃ q, p = pT q /\ R q (.cells [.bool false, .int .i64 0, .map none, sZ, .int .i64 0].toArray 72 (0, 0))
theorem DeadM.rx {R : Rds} {H : Segs} {p : Value} (h : DeadM R p) : DeadM (Rx R H) p := h.imp id λ ⟨q, h1, h2⟩ => ⟨q, h1, .inl h2⟩
theorem DeadM.mono {R R' : Rds} {p : Value} (h : DeadM R p) (hR : ∀ b o, R b o -> R' b o) : DeadM R' p := h.imp id λ ⟨q, h1, h2⟩ => ⟨q, h1, hR _ _ h2⟩
theorem DeadM.one {R : Rds} {p : Value} (h : DeadM R p) : One p := ⟨by rcases h with rfl | ⟨q, rfl, _⟩ <;> rfl⟩
theorem mdok_nil (R : Rds) : Spec prog 87 [.pointer none] R [] λ v H' => v = .bool false /\ H' = [] := by
 refine Spec.body Tryz.func87 rfl Tryz.results87 Tryz.ntmps87 rfl<|.sr<|.ag rfl<|.z<|.mo rfl<|.q (.neNilA rfl rfl)<|.mo rfl<|.gX<|.gX<|.gX<|.gX<|.q .pickF<|.az rfl<|.ret (rq1 rfl ?_)
 ·exact ⟨rfl, rfl⟩
theorem mdok_spec (p : Value) (R : Rds) (h : DeadM R p) : Spec prog 87 [p] R [] λ v H' => v = .bool false /\ H' = [] := by
 rcases h with rfl | ⟨q, rfl, hq⟩
 ·exact mdok_nil R
 ·have pc := PC.of hq
  exact Mem.ok_spec q false _ R []
theorem mdput_spec (p : Value) (q : Mem.Quest) (b : Bool) (R : Rds) (h : DeadM R p) : Spec prog 28 [p, .agg q.enc.toArray, .bool b] R [] λ v H' => v = .tuple #[] /\ H' = [] := by
 have i0 := h.one
 refine Spec.body Tryz.func28 rfl Tryz.results28 Tryz.ntmps28 rfl<|.sr ?_
 refine .boxA rfl (λ b4 => ?_)
 refine .zs<|.sr<|.mo rfl<|.callR (mdok_spec p _ h.rx) (λ v hv => ?_)
 subst hv
 refine .q .not<|.zn<|.condT<|.ret (seqQ_r (retQ_r _ .none (.none _) ?_))
 ·exact ⟨rfl, rfl⟩
theorem mdforget_spec (p : Value) (r : Int) (R : Rds) (h : DeadM R p) : Spec prog 29 [p, .int .u64 r] R [] λ v H' => v = .tuple #[] /\ H' = [] := by
 have i0 := h.one
 refine Spec.body Tryz.func29 rfl Tryz.results29 Tryz.ntmps29 rfl<|.sr ?_
 refine .box1 rfl (λ b2 => ?_)
 refine .box1 rfl (λ b3 => ?_)
 refine .zs<|.sr<|.lo rfl<|.callR (mdok_spec p _ h.rx) (λ v hv => ?_)
 subst hv
 refine .q .not<|.zn<|.condT<|.ret (seqQ_r (retQ_r _ .none (HLe.none _) ?_))
 ·exact ⟨rfl, rfl⟩
theorem mdget_spec (p : Value) (q : Mem.Quest) (R : Rds) (h : DeadM R p) : Spec prog 30 [p, .agg q.enc.toArray] R [] λ v H' => v = .tuple [.bool false, .bool false].toArray /\ H' = [] := by
 have i0 := h.one
 refine Spec.body Tryz.func30 rfl Tryz.results30 Tryz.ntmps30 rfl<|.sr ?_
 refine .boxA rfl (λ b3 => ?_)
 refine .ag rfl<|.ag rfl<|.zs<|.sr<|.mo rfl<|.callR (mdok_spec p _ h.rx) (λ v hv => ?_)
 subst hv
 refine .q .not<|.zn<|.condT<|.sr<|.ag rfl<|.az rfl<|.ret (seqQ_r (retQ_r _ (.two (.tmp rfl) (.tmp rfl)) (.none _) ?_))
 ·exact ⟨rfl, rfl⟩
theorem mdlen_spec (p : Value) (R : Rds) (h : DeadM R p) : Spec prog 33 [p] R [] λ v H' => v = .int .i64 0 /\ H' = [] := by
 have i0 := h.one
 refine Spec.body Tryz.func33 rfl Tryz.results33 Tryz.ntmps33 rfl<|.sr<|.ag rfl<|.zs<|.sr<|.mo rfl<|.callR (mdok_spec p _ h.rx) (λ v hv => ?_)
 subst hv
 refine .q .not<|.zn<|.condT<|.sr<|.az rfl<|.ret (seqQ_r (rq1 rfl ?_))
 ·exact ⟨rfl, rfl⟩
theorem mdhits_spec (p : Value) (R : Rds) (h : DeadM R p) : Spec prog 34 [p] R [] λ v H' => v = .int .i64 0 /\ H' = [] := by
 have i0 := h.one
 refine Spec.body Tryz.func34 rfl Tryz.results34 Tryz.ntmps34 rfl<|.sr<|.ag rfl<|.zs<|.sr<|.mo rfl<|.callR (mdok_spec p _ h.rx) (λ v hv => ?_)
 subst hv
 refine .q .not<|.zn<|.condT<|.sr<|.az rfl<|.ret (seqQ_r (rq1 rfl ?_))
 ·exact ⟨rfl, rfl⟩
def DeadH (R : Rds) (p : Value) : Prop := p = .pointer none \/ ∃ q, p = pT q /\ R q (.cells [.bool false, sZ, .int .i64 0].toArray 116 (0, 0))
theorem DeadH.rx {R : Rds} {H : Segs} {p : Value} (h : DeadH R p) : DeadH (Rx R H) p := h.imp id λ ⟨q, h1, h2⟩ => ⟨q, h1, .inl h2⟩
theorem DeadH.one {R : Rds} {p : Value} (h : DeadH R p) : One p := ⟨by rcases h with rfl | ⟨q, rfl, _⟩ <;> rfl⟩
theorem hdmade_nil (R : Rds) : Spec prog 91 [.pointer none] R [] λ v H' => v = .bool false /\ H' = [] := by
 refine Spec.body Tryz.func91 rfl Tryz.results91 Tryz.ntmps91 rfl<|.sr<|.ag rfl<|.z<|.mo rfl<|.q (.neNilA rfl rfl)<|.mo rfl<|.gX<|.gX<|.gX<|.gX<|.q .pickF<|.az rfl<|.ret (rq1 rfl ?_)
 ·exact ⟨rfl, rfl⟩
theorem hdmade_zero (q : Nat) (R : Rds) [pc : PC R (pT q) [.bool false, sZ, .int .i64 0]] : Spec prog 91 [pT q] R [] λ v H' => v = .bool false /\ H' = [] := by
 refine Spec.body Tryz.func91 rfl Tryz.results91 Tryz.ntmps91 rfl<|.sr<|.ag rfl<|.z<|.mo rfl<|.q (.neNilP rfl rfl)<|.mo rfl<|.gt rfl<|.mo rfl<|.gt rfl<|.nc rfl<|.gt rfl<|.fa rfl<|.gt rfl<|.lo rfl<|.q .pickT<|.az rfl<|.ret (rq1 rfl ?_)
 ·exact ⟨rfl, rfl⟩
theorem hdmade_spec (p : Value) (R : Rds) (h : DeadH R p) : Spec prog 91 [p] R [] λ v H' => v = .bool false /\ H' = [] := by
 rcases h with rfl | ⟨q, rfl, hq⟩
 ·exact hdmade_nil R
 ·have pc := PC.of hq
  exact hdmade_zero q R
theorem hdlast_spec (p : Value) (r : Int) (R : Rds) (h : DeadH R p) : Spec prog 101 [p, .int .u64 r] R [] λ v H' => v = .int .i64 (-1) /\ H' = [] := by
 have i0 := h.one
 refine Spec.body Tryz.func101 rfl Tryz.results101 Tryz.ntmps101 rfl<|.sr<|.ag rfl<|.zs<|.sr<|.mo rfl<|.callR (hdmade_spec p _ h.rx) (λ v hv => ?_)
 subst hv
 refine .q .not<|.zn<|.condT<|.sr<|.az rfl<|.ret (seqQ_r (rq1 rfl ?_))
 ·exact ⟨rfl, rfl⟩
theorem hdat_spec (p : Value) (r : Int) (R : Rds) (h : DeadH R p) : Spec prog 44 [p, .int .u64 r] R [] λ v H' => v = .tuple [.agg [sZ, sZ].toArray, .int .i64 0].toArray /\ H' = [] := by
 have i0 := h.one
 refine Spec.body Tryz.func44 rfl Tryz.results44 Tryz.ntmps44 rfl<|.sr ?_
 refine .allocA (λ b4 => ?_)
 refine .ag rfl<|.z<|.mo rfl<|.mo rfl<|.callR (hdlast_spec p r _ h.rx) (λ v hv => ?_)
 subst hv
 refine .ag rfl<|.zs<|.sr<|.mo rfl<|.q .lss<|.zn<|.condT<|.sr<|.q .bld<|.storeA rfl rfl<|.az rfl ?_
 refine .ret (seqQ_r (retQ_r _ (.two (.cellA rfl rfl) (.tmp rfl)) (HLe.none _) ?_))
 ·exact ⟨rfl, rfl⟩
theorem ddisc_spec (ph pst : Value) [i1 : One ph] [i2 : One pst] (mk : Bool) (e : Int) (rev : Int) (k : Obr) (b : Int) (R : Rds) (hm : ∀ R', (∀ b o, R b o -> R' b o) -> Spec prog 91 [ph] R' [] λ u H' => u = .bool mk /\ H' = [])
  (hr : ∀ R', (∀ b o, R b o -> R' b o) -> Spec prog 92 [pst, .agg (Tpl.enc ⟨k.os, k.oi, k.rel, ⟨#[]⟩, ⟨#[]⟩, ⟨#[]⟩, ⟨#[]⟩⟩).toArray, .int .u64 rev] R' [] λ u H' => ∃ T, H' = [T] /\ ∃ w, One w /\ u = .tuple [w, .int .i64 e].toArray) (h : mk = false \/ e = 1) :
  Spec prog 47 [ph, pst, .int .u64 rev, .agg [.string k.os, .string k.oi].toArray, .string k.rel, .int .i64 b] R [] λ u H' => u = .tuple [.agg [sZ, .int .i64 0].toArray, .int .i64 1].toArray /\ H' = [] := by
 refine Spec.body Tryz.func47 rfl Tryz.results47 Tryz.ntmps47 rfl<|.sr ?_
 refine .boxA rfl (λ b9 => ?_)
 refine .allocA (λ b12 => ?_)
 refine .ag rfl<|.z<|.mo rfl<|.fa rfl<|.lo rfl<|.fa rfl<|.lo rfl<|.mo rfl ?_
 refine .q .bld ?_
 refine .mo rfl<|.callN (hr _ λ b o hb => .inl hb) (λ u T29 hu => ?_)
 obtain ⟨wr, iwr, rfl⟩ := hu
 refine .mo rfl<|.q .extract<|.q .extract<|.ag rfl<|.ag rfl<|.zs<|.block<|.sr<|.mo rfl<|.callR (hm _ λ b o hb => .inl hb) (λ u hu => ?_)
 subst hu
 refine .q .not<|.mo rfl<|.split (t := 36) rfl (λ g2_3 => ?_) (λ g2_3 => ?_)
 refine .gF g2_3<|.gF g2_3<|.q (.pickTh g2_3)<|.az rfl<|.condT<|.sr<|.q .bld<|.storeA rfl rfl<|.az rfl ?_
 refine .ret (blkQ_r (seqQ_r (retQ_r _ (.two (.cellA rfl rfl) (.tmp rfl)) (HLe.none _) ?_)))
 ·exact ⟨rfl, rfl⟩
 refine .gT g2_3<|.mo rfl<|.gT g2_3<|.q .eqI<|.q (.pickFh g2_3)<|.az rfl<|.cond rfl (λ h1 => ?_) λ h1 => ?_
 refine .sr<|.q .bld<|.storeA rfl rfl<|.az rfl ?_
 refine .ret (blkQ_r (seqQ_r (retQ_r _ (.two (.cellA rfl rfl) (.tmp rfl)) (HLe.none _) ?_)))
 ·exact ⟨rfl, rfl⟩
 ·exfalso
  rcases h with h | h
  ·subst h; simp_all
  ·subst h; simp_all
theorem dcheck_spec (ph pst : Value) [i1 : One ph] [i2 : One pst] (mk : Bool) (e : Int) (rev : Int) (k : Obr) (us : ByteArray) (hus : us.size <= 9223372036854775807) (hid : isID us = true) (b : Int) (R : Rds) (hm : ∀ R', (∀ b o, R b o -> R' b o) -> Spec prog 91 [ph] R' [] λ u H' => u = .bool mk /\ H' = [])
  (hr : ∀ R', (∀ b o, R b o -> R' b o) -> Spec prog 92 [pst, .agg (Tpl.enc ⟨k.os, k.oi, k.rel, ⟨#[]⟩, ⟨#[]⟩, ⟨#[]⟩, ⟨#[]⟩⟩).toArray, .int .u64 rev] R' [] λ u H' => ∃ T, H' = [T] /\ ∃ w, One w /\ u = .tuple [w, .int .i64 e].toArray) (h : mk = false \/ e = 1) :
  Spec prog 32 [ph, pst, .int .u64 rev, .agg [.string k.os, .string k.oi].toArray, .string k.rel, .string us, .int .i64 b] R [] λ u H' => u = .tuple [.bool false, .int .i64 1].toArray /\ H' = [] := by
 refine Spec.body Tryz.func32 rfl Tryz.results32 Tryz.ntmps32 rfl<|.sr ?_
 refine .boxA rfl (λ b10 => ?_)
 refine .ag rfl<|.ag rfl<|.zs<|.sr<|.mo rfl<|.callR ((id_spec us hus R).weaken rxl) (λ u hu => ?_)
 subst hu
 refine .q .not<|.zn<|.cond rfl (λ h1 => ?_) λ h1 => ?_
 ·rw [hid] at h1; cases h1
 refine .kn<|.sr<|.mo rfl<|.mo rfl<|.mo rfl<|.q (.loadA rfl)<|.mo rfl<|.mo rfl<|.callR (ddisc_spec ph pst mk e rev k b _ (λ R' hR => hm R' λ b o hb => hR b o (.inl hb)) (λ R' hR => hr R' λ b o hb => hR b o (.inl hb)) h) (λ u hu => ?_)
 subst hu
 refine .mo rfl<|.q .extract<|.q .extract ?_
 refine .allocA (λ b16 => ?_)
 refine .storeA rfl rfl<|.ag rfl<|.zs<|.sr<|.mo rfl<|.q .neI<|.zn<|.cond rfl (λ h2 => ?_) λ h2 => ?_
 refine .sr<|.mo rfl<|.ag rfl<|.az rfl<|.ret (seqQ_r (retQ_r _ (.two (.tmp rfl) (.tmp rfl)) (HLe.none _) ?_))
 ·exact ⟨rfl, rfl⟩
 ·simp at h2
theorem ty_of {H : Type} {enc : TypeId × Value -> H} {W : World} {f : Nat} {cs : List Value} {x : DataW H × List MemPlace} (h : DataW.trod enc prog W 0 (λ _ => true) true f 252 cs = some x) : ∃ t : Ty, cs = t.enc /\ t.fits := by
 obtain ⟨hl, hp⟩ := parts_of Tryz.underlying252 h
 have hc : Tryz.prog.cellsOf 252 = 2 := by kernel_rfl
 rw [hc] at hl
 have c9 : Tryz.prog.cellsOf 9 = 1 := by kernel_rfl
 match cs, hl with
 | [a0, a1], _ =>
  obtain ⟨n0, y0, h0⟩ : ∃ n y, DataW.trod enc prog W 0 (λ _ => true) true n 9 (([a0, a1].drop 0).take (Tryz.prog.cellsOf 9)) = some y := hp 0 _ rfl
  obtain ⟨n1, y1, h1⟩ : ∃ n y, DataW.trod enc prog W 0 (λ _ => true) true n 9 (([a0, a1].drop 1).take (Tryz.prog.cellsOf 9)) = some y := hp 1 _ rfl
  simp only [c9, List.drop_zero, List.drop_succ_cons, List.take_succ_cons, List.take_zero] at h0 h1
  obtain ⟨s0, e0, l0⟩ := str_fit h0
  obtain ⟨s1, e1, l1⟩ := str_fit h1
  cases e0; cases e1
  exact ⟨⟨s0, s1⟩, rfl, l0, l1⟩
theorem nd_of {H : Type} {enc : TypeId × Value -> H} {W : World} {f : Nat} {cs : List Value} {x : DataW H × List MemPlace} (h : DataW.trod enc prog W 0 (λ _ => true) true f 168 cs = some x) : ∃ t : Nd, cs = t.enc /\ t.fits := by
 obtain ⟨hl, hp⟩ := parts_of Tryz.underlying168 h
 have hc : Tryz.prog.cellsOf 168 = 5 := by kernel_rfl
 rw [hc] at hl
 have c3 : Tryz.prog.cellsOf 3 = 1 := by kernel_rfl
 have c9 : Tryz.prog.cellsOf 9 = 1 := by kernel_rfl
 match cs, hl with
 | [a0, a1, a2, a3, a4], _ =>
  obtain ⟨n0, y0, h0⟩ : ∃ n y, DataW.trod enc prog W 0 (λ _ => true) true n 3 (([a0, a1, a2, a3, a4].drop 0).take (Tryz.prog.cellsOf 3)) = some y := hp 0 _ rfl
  obtain ⟨n1, y1, h1⟩ : ∃ n y, DataW.trod enc prog W 0 (λ _ => true) true n 9 (([a0, a1, a2, a3, a4].drop 1).take (Tryz.prog.cellsOf 9)) = some y := hp 1 _ rfl
  obtain ⟨n2, y2, h2⟩ : ∃ n y, DataW.trod enc prog W 0 (λ _ => true) true n 9 (([a0, a1, a2, a3, a4].drop 2).take (Tryz.prog.cellsOf 9)) = some y := hp 2 _ rfl
  obtain ⟨n3, y3, h3⟩ : ∃ n y, DataW.trod enc prog W 0 (λ _ => true) true n 3 (([a0, a1, a2, a3, a4].drop 3).take (Tryz.prog.cellsOf 3)) = some y := hp 3 _ rfl
  obtain ⟨n4, y4, h4⟩ : ∃ n y, DataW.trod enc prog W 0 (λ _ => true) true n 3 (([a0, a1, a2, a3, a4].drop 4).take (Tryz.prog.cellsOf 3)) = some y := hp 4 _ rfl
  simp only [c3, c9, List.drop_zero, List.drop_succ_cons, List.take_succ_cons, List.take_zero] at h0 h1 h2 h3 h4
  obtain ⟨z0, e0⟩ := int_of (k := .i64) h0
  obtain ⟨s1, e1, l1⟩ := str_fit h1
  obtain ⟨s2, e2, l2⟩ := str_fit h2
  obtain ⟨z3, e3⟩ := int_of (k := .i64) h3
  obtain ⟨z4, e4⟩ := int_of (k := .i64) h4
  cases e0; cases e1; cases e2; cases e3; cases e4
  exact ⟨⟨z0, s1, s2, z3, z4⟩, rfl, l1, l2⟩
theorem sc_of {H : Type} {enc : TypeId × Value -> H} {W : World} {f : Nat} {cs : List Value} {x : DataW H × List MemPlace} (h : DataW.trod enc prog W 0 (λ _ => true) true f 209 cs = some x) : ∃ t : Sc, cs = t.enc /\ t.fits := by
 obtain ⟨hl, hp⟩ := parts_of Tryz.underlying209 h
 have hc : Tryz.prog.cellsOf 209 = 4 := by kernel_rfl
 rw [hc] at hl
 have c9 : Tryz.prog.cellsOf 9 = 1 := by kernel_rfl
 have c30 : Tryz.prog.cellsOf 30 = 2 := by kernel_rfl
 match cs, hl with
 | [a0, a1, a2, a3], _ =>
  obtain ⟨n0, y0, h0⟩ : ∃ n y, DataW.trod enc prog W 0 (λ _ => true) true n 9 (([a0, a1, a2, a3].drop 0).take (Tryz.prog.cellsOf 9)) = some y := hp 0 _ rfl
  obtain ⟨n1, y1, h1⟩ : ∃ n y, DataW.trod enc prog W 0 (λ _ => true) true n 30 (([a0, a1, a2, a3].drop 1).take (Tryz.prog.cellsOf 30)) = some y := hp 1 _ rfl
  obtain ⟨n2, y2, h2⟩ : ∃ n y, DataW.trod enc prog W 0 (λ _ => true) true n 9 (([a0, a1, a2, a3].drop 3).take (Tryz.prog.cellsOf 9)) = some y := hp 2 _ rfl
  simp only [c9, c30, List.drop_zero, List.drop_succ_cons, List.take_succ_cons, List.take_zero] at h0 h1 h2
  obtain ⟨s0, e0, l0⟩ := str_fit h0
  obtain ⟨s1, s2, e1, l1, l2⟩ := ref_of h1
  obtain ⟨s3, e2, l3⟩ := str_fit h2
  cases e0; cases e1; cases e2
  exact ⟨⟨s0, s1, s2, s3⟩, rfl, l0, l1, l2, l3⟩
theorem tys_of {H : Type} {enc : TypeId × Value -> H} {W : World} {f : Nat} {cs : List Value} {x : DataW H × List MemPlace} (h : DataW.trod enc prog W 0 (λ _ => true) true f 205 cs = some x) : ∃ v l, cs = [v] /\ RS (Rw W) 2 Ty.enc v l /\ ∀ t ∈ l, t.fits :=
 RS.ofCells (D := λ t : Ty => t.fits) (sz := 2) (en := Ty.enc) Tryz.underlying205 (by kernel_rfl) (by omega) h λ n cs x hx => by
  obtain ⟨t, rfl, ht⟩ := ty_of hx
  exact ⟨rfl, (Ty.one t).h, t, rfl, ht⟩
theorem nds_of {H : Type} {enc : TypeId × Value -> H} {W : World} {f : Nat} {cs : List Value} {x : DataW H × List MemPlace} (h : DataW.trod enc prog W 0 (λ _ => true) true f 119 cs = some x) : ∃ v l, cs = [v] /\ RS (Rw W) 5 Nd.enc v l /\ ∀ t ∈ l, t.fits :=
 RS.ofCells (D := λ t : Nd => t.fits) (sz := 5) (en := Nd.enc) Tryz.underlying119 (by kernel_rfl) (by omega) h λ n cs x hx => by
  obtain ⟨t, rfl, ht⟩ := nd_of hx
  exact ⟨rfl, (Nd.one t).h, t, rfl, ht⟩
theorem scs_of {H : Type} {enc : TypeId × Value -> H} {W : World} {f : Nat} {cs : List Value} {x : DataW H × List MemPlace} (h : DataW.trod enc prog W 0 (λ _ => true) true f 23 cs = some x) : ∃ v l, cs = [v] /\ RS (Rw W) 4 Sc.enc v l /\ ∀ t ∈ l, t.fits :=
 RS.ofCells (D := λ t : Sc => t.fits) (sz := 4) (en := Sc.enc) Tryz.underlying23 (by kernel_rfl) (by omega) h λ n cs x hx => by
  obtain ⟨t, rfl, ht⟩ := sc_of hx
  exact ⟨rfl, (Sc.one t).h, t, rfl, ht⟩
theorem rl_of {H : Type} {enc : TypeId × Value -> H} {W : World} {f : Nat} {cs : List Value} {x : DataW H × List MemPlace} (h : DataW.trod enc prog W 0 (λ _ => true) true f 207 cs = some x) : ∃ t : RlM, cs = t.enc /\ t.is (Rw W) := by
 obtain ⟨hl, hp⟩ := parts_of Tryz.underlying207 h
 have hc : Tryz.prog.cellsOf 207 = 3 := by kernel_rfl
 rw [hc] at hl
 have c9 : Tryz.prog.cellsOf 9 = 1 := by kernel_rfl
 have c119 : Tryz.prog.cellsOf 119 = 1 := by kernel_rfl
 have c205 : Tryz.prog.cellsOf 205 = 1 := by kernel_rfl
 match cs, hl with
 | [a0, a1, a2], _ =>
  obtain ⟨n0, y0, h0⟩ : ∃ n y, DataW.trod enc prog W 0 (λ _ => true) true n 9 (([a0, a1, a2].drop 0).take (Tryz.prog.cellsOf 9)) = some y := hp 0 _ rfl
  obtain ⟨n1, y1, h1⟩ : ∃ n y, DataW.trod enc prog W 0 (λ _ => true) true n 205 (([a0, a1, a2].drop 1).take (Tryz.prog.cellsOf 205)) = some y := hp 1 _ rfl
  obtain ⟨n2, y2, h2⟩ : ∃ n y, DataW.trod enc prog W 0 (λ _ => true) true n 119 (([a0, a1, a2].drop 2).take (Tryz.prog.cellsOf 119)) = some y := hp 2 _ rfl
  simp only [c9, c119, c205, List.drop_zero, List.drop_succ_cons, List.take_succ_cons, List.take_zero] at h0 h1 h2
  obtain ⟨s0, e0, l0⟩ := str_fit h0
  obtain ⟨v1, l1, e1, r1, f1⟩ := tys_of h1
  obtain ⟨v2, l2, e2, r2, f2⟩ := nds_of h2
  cases e0; cases e1; cases e2
  exact ⟨⟨_, _, ⟨s0, l1, l2⟩⟩, rfl, l0, r1, r2, f1, f2⟩
theorem rls_of {H : Type} {enc : TypeId × Value -> H} {W : World} {f : Nat} {cs : List Value} {x : DataW H × List MemPlace} (h : DataW.trod enc prog W 0 (λ _ => true) true f 185 cs = some x) : ∃ v l, cs = [v] /\ RS (Rw W) 3 RlM.enc v l /\ ∀ t ∈ l, t.is (Rw W) :=
 RS.ofCells (D := λ t : RlM => t.is (Rw W)) (sz := 3) (en := RlM.enc) Tryz.underlying185 (by kernel_rfl) (by omega) h λ n cs x hx => by
  obtain ⟨t, rfl, ht⟩ := rl_of hx
  exact ⟨rfl, ht.ones, t, rfl, ht⟩
theorem sp_of {H : Type} {enc : TypeId × Value -> H} {W : World} {f : Nat} {cs : List Value} {x : DataW H × List MemPlace} (h : DataW.trod enc prog W 0 (λ _ => true) true f 187 cs = some x) : ∃ t : SpM, cs = t.enc /\ t.is (Rw W) := by
 obtain ⟨hl, hp⟩ := parts_of Tryz.underlying187 h
 have hc : Tryz.prog.cellsOf 187 = 2 := by kernel_rfl
 rw [hc] at hl
 have c9 : Tryz.prog.cellsOf 9 = 1 := by kernel_rfl
 have c185 : Tryz.prog.cellsOf 185 = 1 := by kernel_rfl
 match cs, hl with
 | [a0, a1], _ =>
  obtain ⟨n0, y0, h0⟩ : ∃ n y, DataW.trod enc prog W 0 (λ _ => true) true n 9 (([a0, a1].drop 0).take (Tryz.prog.cellsOf 9)) = some y := hp 0 _ rfl
  obtain ⟨n1, y1, h1⟩ : ∃ n y, DataW.trod enc prog W 0 (λ _ => true) true n 185 (([a0, a1].drop 1).take (Tryz.prog.cellsOf 185)) = some y := hp 1 _ rfl
  simp only [c9, c185, List.drop_zero, List.drop_succ_cons, List.take_succ_cons, List.take_zero] at h0 h1
  obtain ⟨s0, e0, l0⟩ := str_fit h0
  obtain ⟨v1, l1, e1, r1, f1⟩ := rls_of h1
  cases e0; cases e1
  exact ⟨⟨s0, _, l1⟩, rfl, l0, r1, f1⟩
theorem sps_of {H : Type} {enc : TypeId × Value -> H} {W : World} {f : Nat} {cs : List Value} {x : DataW H × List MemPlace} (h : DataW.trod enc prog W 0 (λ _ => true) true f 22 cs = some x) : ∃ v l, cs = [v] /\ RS (Rw W) 2 SpM.enc v l /\ ∀ t ∈ l, t.is (Rw W) :=
 RS.ofCells (D := λ t : SpM => t.is (Rw W)) (sz := 2) (en := SpM.enc) Tryz.underlying22 (by kernel_rfl) (by omega) h λ n cs x hx => by
  obtain ⟨t, rfl, ht⟩ := sp_of hx
  exact ⟨rfl, ht.ones, t, rfl, ht⟩
theorem cf_of {H : Type} {enc : TypeId × Value -> H} {W : World} {f : Nat} {cs : List Value} {x : DataW H × List MemPlace} (h : DataW.trod enc prog W 0 (λ _ => true) true f 25 cs = some x) : ∃ c : CfM, cs = c.enc /\ c.is (Rw W) := by
 obtain ⟨hl, hp⟩ := parts_of Tryz.underlying25 h
 have hc : Tryz.prog.cellsOf 25 = 2 := by kernel_rfl
 rw [hc] at hl
 have c22 : Tryz.prog.cellsOf 22 = 1 := by kernel_rfl
 have c23 : Tryz.prog.cellsOf 23 = 1 := by kernel_rfl
 match cs, hl with
 | [a0, a1], _ =>
  obtain ⟨n0, y0, h0⟩ : ∃ n y, DataW.trod enc prog W 0 (λ _ => true) true n 22 (([a0, a1].drop 0).take (Tryz.prog.cellsOf 22)) = some y := hp 0 _ rfl
  obtain ⟨n1, y1, h1⟩ : ∃ n y, DataW.trod enc prog W 0 (λ _ => true) true n 23 (([a0, a1].drop 1).take (Tryz.prog.cellsOf 23)) = some y := hp 1 _ rfl
  simp only [c22, c23, List.drop_zero, List.drop_succ_cons, List.take_succ_cons, List.take_zero] at h0 h1
  obtain ⟨v0, l0, e0, r0, f0⟩ := sps_of h0
  obtain ⟨v1, l1, e1, r1, f1⟩ := scs_of h1
  cases e0; cases e1
  exact ⟨⟨_, _, l0, l1⟩, rfl, r0, r1, f0, f1⟩
theorem world_of {H : Type} {enc : TypeId × Value -> H} {W : World} {f : Nat} {cs : List Value} {x : DataW H × List MemPlace} (h : DataW.trod enc prog W 0 (λ _ => true) true f 28 cs = some x) : ∃ w : WoM, cs = w.enc /\ w.is (Rw W) := by
 obtain ⟨hl, hp⟩ := parts_of Tryz.underlying28 h
 have hc : Tryz.prog.cellsOf 28 = 3 := by kernel_rfl
 rw [hc] at hl
 have c25 : Tryz.prog.cellsOf 25 = 2 := by kernel_rfl
 have c26 : Tryz.prog.cellsOf 26 = 1 := by kernel_rfl
 match cs, hl with
 | [a0, a1, a2], _ =>
  obtain ⟨n0, y0, h0⟩ : ∃ n y, DataW.trod enc prog W 0 (λ _ => true) true n 25 (([a0, a1, a2].drop 0).take (Tryz.prog.cellsOf 25)) = some y := hp 0 _ rfl
  obtain ⟨n1, y1, h1⟩ : ∃ n y, DataW.trod enc prog W 0 (λ _ => true) true n 26 (([a0, a1, a2].drop 2).take (Tryz.prog.cellsOf 26)) = some y := hp 1 _ rfl
  simp only [c25, c26, List.drop_zero, List.drop_succ_cons, List.take_succ_cons, List.take_zero] at h0 h1
  obtain ⟨c, e0, hc⟩ := cf_of h0
  obtain ⟨v1, l1, e1, r1, f1⟩ := scalls_of h1
  cases e0; cases e1
  exact ⟨⟨c, _, l1⟩, rfl, hc, r1, f1⟩
end Go.Proofs.YtenilfmlfldogaaGreat
