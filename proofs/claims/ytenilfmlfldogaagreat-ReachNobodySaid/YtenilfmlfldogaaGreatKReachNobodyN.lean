/- What the law 'ReachNobody' uses. No condition. -/
import Derived.Test.YtenilfmlfldogaaGreatKReachNobodyA
import Derived.Test.YtenilfmlfldogaaGreatKReachNobodyB
import Derived.Test.YtenilfmlfldogaaGreatKReachNobodyD
import Derived.Test.YtenilfmlfldogaaGreatKReachNobodyE
import Derived.Test.YtenilfmlfldogaaGreatKReachNobodyF
import Derived.Test.YtenilfmlfldogaaGreatKReachNobodyH
import Derived.Test.YtenilfmlfldogaaGreatKReachNobodyI
import Derived.Test.YtenilfmlfldogaaGreatKReachNobodyK
import Derived.Test.YtenilfmlfldogaaGreatKReachNobodyM
namespace Go.Proofs.YtenilfmlfldogaaGreat
open Tryz (prog)
set_option linter.unusedVariables false
set_option linter.unusedSimpArgs false
set_option maxRecDepth 4000
structure DV (R : Rds) (b : Nat) (S : Sto) (vL : Value) (L : List SRow) : Prop where
 pc : PC R (pT b) [vL, .int .u64 S.head, .int .u64 S.hor]
 rs : RS R 9 SRow.enc vL L
section
variable {R : Rds} {b : Nat} {S : Sto} {vL : Value} {L : List SRow}
theorem DV.can (h : DV R b S vL L) (r : Int) : Spec prog 70 [pT b, .int .u64 r] R [] λ v H' => v = .bool (scan S r) /\ H' = [] := by
 have pc := h.pc
 have ivl := h.rs.oneCell
 refine Spec.body Tryz.func70 rfl Tryz.results70 Tryz.ntmps70 rfl<|.sr<|.ag rfl<|.z<|.mo rfl<|.nc rfl<|.fa rfl<|.lo rfl<|.mo rfl<|.q .leq<|.mo rfl<|.split (t := 11) rfl (λ g1_6 => ?_) (λ g1_6 => ?_)
 refine .gT g1_6<|.mo rfl<|.gT g1_6<|.mo rfl<|.gT g1_6<|.nc rfl<|.gT g1_6<|.fa rfl<|.gT g1_6<|.lo rfl<|.gT g1_6<|.q .leq<|.q (.pickTh g1_6)<|.az rfl<|.ret (rq1 rfl ?_)
 ·refine ⟨congrArg _ ?_, rfl⟩
  unfold scan
  simp_all
  try omega
 refine .gF g1_6<|.gF g1_6<|.gF g1_6<|.gF g1_6<|.gF g1_6<|.gF g1_6<|.q (.pickFh g1_6)<|.az rfl<|.ret (rq1 rfl ?_)
 ·refine ⟨congrArg _ ?_, rfl⟩
  unfold scan
  simp_all
  try omega
end
theorem SV.subs {R : Rds} {g : Nat} {S : Sto} {ps : List RB} {vf vr : Value} {Mf : List (Obr × (Value × Seg))} {Mr : List (Sub × (Value × Seg))} (h : SV R g S ps vf vr Mf Mr) (hl : S.rows.length <= 4096) (k : Obr) (r : Int) {L : List SRow} (hL : RL S L) :
  Spec prog 202 [pT g, .agg [.string k.os, .string k.oi].toArray, .string k.rel, .int .u64 r] R [] λ u H' => ∃ T, H' = [T] /\ OS 149 4 Sub.enc u (if scan S r then (L.filter λ x => x.there r && decide (x.t.obr = k)).map (·.t.sub) else []) T := by
 have pc := h.pc
 have iof := h.of
 have ior := h.or
 have hpl : ps.length <= 4096 := by rw [<- h.eq, List.length_map] at hl; exact hl
 obtain ⟨pf, cf, hlk, hrs⟩ := h.lf k
 have hF : RS R 1 encRB (.slice pf (ids (λ x => x.t.obr) k ps).length cf) (frows (λ x => x.t.obr) k ps) := RS.of_map (enc := encPt) (f := λ p : RB => p.1) hrs
 have hFl : (frows (λ x => x.t.obr) k ps).length <= 4096 := Nat.le_trans (List.length_filter_le _ _) hpl
 refine Spec.segs (H' := [[]]) (by simp)<|Spec.body Tryz.func202 rfl Tryz.results202 Tryz.ntmps202 rfl<|.sr ?_
 refine .boxA rfl (λ b5 => ?_)
 refine .ag rfl<|.zs<|.sr<|.mo rfl<|.mo rfl<|.callR ((h.mono λ b o hb => .inl hb).can r) (λ v hv => ?_)
 subst hv
 refine .q .not<|.zn<|.cond rfl (λ h1 => ?_) λ h1 => ?_
 have hsc : scan S r = false := by simpa using h1
 refine .sr<|.az rfl<|.ret (seqQ_r (retQ_r _ (.one (.tmp rfl)) ((pkH [1])) ?_))
 ·exact ⟨_, by simp [take]; rfl, by rw [hsc]; exact OS.nil⟩
 have hsc : scan S r = true := by simpa using h1
 refine .kn<|.sr<|.ag rfl<|.zs<|.seq<|.region_all [] mixed<|.tO 0 rfl .move<|.tO 1 rfl (.nilCheck rfl)<|.tO 2 rfl (.fieldAddr rfl)<|.tO 3 rfl (.load1 rfl)<|.tO 4 rfl (.loadA rfl)<|.tO 5 rfl .move<|.tO 6 rfl .bld<|.tO 7 rfl (.lookupE (h.mono λ b o hb => .inl hb).mf rfl rfl (key := k) hlk)<|.tO 8 rfl .move<|.tO 11 rfl .move<|.sT 9 rfl<|.callN (at_spec _ (frows (λ x => x.t.obr) k ps) r _ hF.rx (λ p hp => (h.pr p (List.mem_filter.1 hp).1).mono λ b o hb => .inl hb) (by omega)) (λ u T1 hu => ?_)
 obtain ⟨ys, hY, hyp, hyo⟩ := hu
 have iu := hY.oneCell
 have hyl : ys.length <= 4096 := by
  rw [hyp.length_eq, List.length_map]
  exact Nat.le_trans (List.length_filter_le _ _) hFl
 have hyL : ys = (L.filter λ x => x.there r && decide (x.t.obr = k)).map (·.t) := hL.at_ (by
  refine hyp.trans (.of_eq ?_)
  rw [<- h.eq, List.filter_map, List.map_map]
  unfold frows
  rw [List.filter_filter]; rfl) hyo
 refine .nil<|Next.sub<|.tO 10 rfl (.lenO hY)<|RA.nil (by kernel_rfl)<|seqQ_n<|.block<|.loop (X := Nat × Value × Seg) (λ y => y.1 <= ys.length /\ OS 149 4 Sub.enc y.2.1 ((ys.take y.1).map Tpl.sub) y.2.2) (λ y => [(9, y.2.1), (25, u), (26, iN ys.length), (27, iN y.1)]) (λ y => [T1, y.2.2]) (λ y => ys.length - y.1) (0, sZ, []) ⟨Nat.zero_le _, OS.nil⟩ kE.c.c.c.c (pkH [0, 1]) ?_
 rintro ⟨i, vo, To⟩ ⟨hi, hO⟩
 simp only at hi hO ⊢
 have io := hO.oneCell
 refine .sr<|.q .lss<|.zs<|.cond rfl (λ h2 => ?_) λ h2 => ?_
 have hlt : i < ys.length := lt_i h2
 obtain ⟨x, hx⟩ := exg hlt
 have htk : ys.take (i + 1) = ys.take i ++ [x] := by rw [List.take_add_one, hx]; rfl
 refine .kn<|.seq<|.block<|.sr ?_
 refine .indexO i hY hx (λ p29 => ?_)
 refine .q (.loadA rfl) ?_
 refine .allocA (λ b11 => ?_)
 refine .storeA rfl rfl<|.zn<|.region<|.mo rfl<|.fa rfl<|.q (.loadT rfl) ?_
 refine .buildSlice1A (λ b34 => ?_)
 refine .append hO (RS.lits (xs := [x.sub]) rfl (by simp [Sub.enc]) (by simp [Sub.enc, oneCell])) (by simp only [List.length_singleton, List.length_map, List.length_take]; omega) (λ v5 T5 hO5 => ?_)
 refine .ag rfl<|.nil<|blkQ_n<|seqQ_n<|.region<|.ia (i + 1) .add<|.mo rfl<|.nil ?_
 ·exact loopQ_i (i + 1, v5, T5) ⟨hlt, by simp only; rw [htk, List.map_append]; exact hO5⟩ (by simp only; omega) kE.c.c.c.c (pkH [2, 2])
 refine .exit<|seqQ_x<|loopQ_x<|blkQ_x<|seqQ_n<|.sr<|.mo rfl<|.az rfl<|.ret (retQ_r _ (.one (.tmp rfl)) ((pkH [1])) ?_)
 ·have hie : i = ys.length := by have := odf h2; omega
  subst hie
  rw [List.take_length, hyL, List.map_map] at hO
  exact ⟨To, by simp [take, dropAt], by rw [hsc]; exact hO⟩
def mSp (s : SpM) : Bool := decide (16 < s.rels.length) || s.rels.any λ r => muchR isWord r.r
theorem much_eq (c : CfM) : c.plain.much isWord = (decide (16 < c.spaces.length) || decide (16 < c.scopes.length) || c.spaces.any mSp) := by
 unfold Cf.much CfM.plain
 simp only [List.length_map, List.any_map]
 congr 1
 congr 1
 funext s
 simp [mSp, SpM.plain, List.any_map, Function.comp_def]
def rTy (r : RlM) : Bool := r.r.types.all (kindOK isWord)
def rRl (r : RlM) : Bool := isWord r.r.name && deepD isWord r.r.nodes != 0 && rTy r
def rSp (s : SpM) : Bool := isWord s.name && s.rels.all rRl
theorem right_eq (c : CfM) : c.plain.right isWord isRef = (c.spaces.all rSp && c.scopes.all (scOK isWord isRef) && !c.plain.much isWord) := by
 unfold Cf.right
 congr 1
 congr 1
 unfold CfM.plain
 simp only [List.all_map]
 congr 1
 funext s
 simp only [rSp, relOK, SpM.plain, List.all_map, Function.comp_def]
 rfl
abbrev Nm := ByteArray × RlM
def Nm.p (x : Nm) : ByteArray × Rl := (x.1, x.2.r)
def CfM.nms (c : CfM) : List Nm := c.spaces.flatMap λ s => s.rels.map λ r => (s.name, r)
theorem nms_all (c : CfM) : c.nms.map Nm.p = c.plain.all := by
 unfold CfM.nms Cf.all CfM.plain
 simp [List.map_flatMap, List.flatMap_map, SpM.plain, Nm.p, Function.comp_def]
def CfM.few (c : CfM) : Prop := c.spaces.length <= 16 /\ ∀ s ∈ c.spaces, s.rels.length <= 16
theorem flat_len {α β : Type} {f : α -> List β} {n : Nat} : ∀ {l : List α}, (∀ x ∈ l, (f x).length <= n) -> (l.flatMap f).length <= l.length * n
 | [], _ => by simp
 | x :: l, h => by
  have h1 := h x List.mem_cons_self
  have h2 := flat_len λ y hy => h y (List.mem_cons_of_mem _ hy)
  rw [List.flatMap_cons, List.length_append, List.length_cons, Nat.succ_mul]
  omega
theorem CfM.few.nms {c : CfM} (h : c.few) : c.nms.length <= 256 := by
 have := flat_len (f := λ s : SpM => s.rels.map λ r => (s.name, r)) (n := 16) (l := c.spaces) λ s hs => by rw [List.length_map]; exact h.2 s hs
 have h1 := h.1
 unfold CfM.nms
 omega
def fI (o : Option Nat) : Int := match o with | none => -1 | some i => i
theorem not_nodup {α : Type} {l : List α} {i k : Nat} {x y : α} (hk : k < i) (hx : l[i]? = some x) (hy : l[k]? = some y) (e : x = y) : ¬ l.Nodup := by
 intro h
 obtain ⟨h1, h2⟩ := List.getElem?_eq_some_iff.1 hx
 obtain ⟨h3, h4⟩ := List.getElem?_eq_some_iff.1 hy
 have := (List.nodup_iff_pairwise_ne.1 h)
 rw [List.pairwise_iff_getElem] at this
 exact this k i h3 h1 hk (by rw [h4, h2, e])
def encNt (n : Nat) : List Value := [iN n]
abbrev EdM := Int × Int × Bool
def encE (e : EdM) : List Value := [.int .i64 e.1, .int .i64 e.2.1, .bool e.2.2]
instance (e : EdM) : Ones (encE e) := ⟨by simp [encE, oneCell]⟩
def Ed.m (e : Ed) : EdM := (e.f, e.t, e.a)
def WE (ok : Bool) (E : List EdM) (o : Option (List Ed)) : Prop := match o with
 | some E' => ok = true /\ E = E'.map Ed.m
 | none => ok = false
def keyT (thn : ByteArray) (t : Ty) : Ty := ⟨t.space, if thn = ⟨#[]⟩ then t.rel else thn⟩
theorem findAll_all (l : List (ByteArray × Rl)) : ∀ ks : List Ty, match findAll l ks with
  | some o => (ks.all λ t => (rfind l t).isSome) = true /\ (o.map λ k : Nat => (k : Int)) = ks.map λ t => fI (rfind l t)
  | none => (ks.all λ t => (rfind l t).isSome) = false
 | [] => ⟨rfl, rfl⟩
 | t :: ks => by
  have ih := findAll_all l ks
  unfold findAll
  cases h : rfind l t with
  | none => simp [h]
  | some i =>
   simp only [Option.bind_some, List.all_cons, h, Option.isSome_some, Bool.true_and, List.map_cons]
   cases h2 : findAll l ks with
   | none => rw [h2] at ih; exact ih
   | some o => rw [h2] at ih; exact ⟨ih.1, by rw [<- ih.2]; rfl⟩
def oks (l : List (ByteArray × Rl)) (thn : ByteArray) (ts : List Ty) : Bool := (setsT ts).all λ t => (rfind l (keyT thn t)).isSome
theorem setsT_next {ts : List Ty} {j : Nat} {t : Ty} (h : ts[j]? = some t) : setsT (ts.take (j + 1)) = setsT (ts.take j) ++ if t.space = ⟨#[]⟩ then [] else [t] := by
 unfold setsT
 rw [take_next h, List.filter_append]
 congr 1
 by_cases e : t.space = ⟨#[]⟩
 ·simp [e]
 ·simp [e]
theorem WE.all {l : List (ByteArray × Rl)} {i : Nat} {ab : Bool} (ks : List Ty) : WE (ks.all λ t => (rfind l t).isSome) (ks.map λ t => ((i : Int), fI (rfind l t), ab)) ((findAll l ks).map λ ts => ts.map λ t => (⟨i, t, ab⟩ : Ed)) := by
 have h := findAll_all l ks
 cases h2 : findAll l ks with
 | none => rw [h2] at h; exact h
 | some o =>
  rw [h2] at h
  refine ⟨h.1, ?_⟩
  have : (ks.map λ t => ((i : Int), fI (rfind l t), ab)) = (ks.map λ t => fI (rfind l t)).map λ z => ((i : Int), z, ab) := by rw [List.map_map]; rfl
  rw [this, <- h.2]
  simp [Ed.m, Function.comp_def]
def NmsR (L : List Nm) : Prop := ∀ x ∈ L, x.2.r.types.length <= 8 /\ x.2.r.nodes.length <= 64 /\ deepD isWord x.2.r.nodes ≠ 0
theorem enum_app {α : Type} {x : α} : ∀ {l : List α} {i b : Nat}, l[i]? = some x -> enum b (l.take (i + 1)) = enum b (l.take i) ++ [(b + i, x)]
 | [], i, b, h => by simp at h
 | y :: l, 0, b, h => by simp only [List.getElem?_cons_zero, Option.some.injEq] at h; subst h; rfl
 | y :: l, i + 1, b, h => by
  rw [List.take_succ_cons, List.take_succ_cons, enum, enum, enum_app (l := l) (i := i) (b := b + 1) (by simpa using h), show b + 1 + i = b + (i + 1) by omega]
  rfl
def tyOK (l : List (ByteArray × Rl)) (t : Ty) : Bool := decide (t.space = ⟨#[]⟩) || (rfind l t).isSome
theorem sets_found {l : List (ByteArray × Rl)} {ts : List Ty} : (findAll l (setsT ts)).isSome = ts.all (tyOK l) := by
 have h := findAll_all l (setsT ts)
 have e : ((setsT ts).all λ t => (rfind l t).isSome) = ts.all (tyOK l) := by
  unfold setsT
  rw [List.all_filter]
  congr 1
  funext t
  unfold tyOK
  cases decide (t.space = ⟨#[]⟩) <;> simp
 rw [<- e]
 cases hf : findAll l (setsT ts) with
 | none => rw [hf] at h; exact h.symm
 | some o => rw [hf] at h; exact h.1.symm
theorem WE.rel {l : List (ByteArray × Rl)} {i : Nat} {sp : ByteArray} {r : Rl} {ok : Bool} {E : List EdM} (h : WE ok E (cat (λ p : Nat × Bool => (r.nodes[p.1]?).bind λ n => nodeE l i sp r p.2 n) (walkL r.nodes r.nodes.length false))) :
  WE (r.types.all (tyOK l) && ok) E (relD l i sp r) := by
 unfold relD
 rw [<- sets_found]
 cases (findAll l (setsT r.types)).isSome with
 | true => simpa using h
 | false => exact Bool.false_and _
theorem deep_tree {l : List Nd} (h : deepD isWord l ≠ 0) : ∃ d, tree isWord l l.length = some (0, d) := by
 unfold deepD at h
 cases ht : tree isWord l l.length with
 | none => rw [ht] at h; exact absurd rfl h
 | some r =>
  obtain ⟨b, d⟩ := r
  rw [ht] at h
  simp only at h
  split at h
  ·rename_i hb; subst hb; exact ⟨d, rfl⟩
  ·exact absurd rfl h
theorem RS.nil0 {α : Type} {R : Rds} {sz : Nat} {enc : α -> List Value} : RS R sz enc (sZ) ([] : List α) := (OS.nil (E := 0) (sz := sz) (enc := enc)).rs λ p hp => (by cases hp)
abbrev NlM := Value × List Nat
def encV1 (q : NlM) : List Value := [q.1]
structure NN (R : Rds) (w : Value) (ll : List NlM) : Prop where
 rs : RS R 1 encV1 w ll
 all : ∀ q ∈ ll, RS R 1 encNt q.1 q.2
theorem NN.mono {R R' : Rds} {w : Value} {ll : List NlM} (h : NN R w ll) (hR : ∀ b o, R b o -> R' b o) : NN R' w ll := ⟨h.rs.mono hR, λ q hq => (h.all q hq).mono hR⟩
theorem NN.nil {R : Rds} : NN R (sZ) [] := ⟨RS.nil0, λ q hq => (by cases hq)⟩
theorem offs_next : ∀ {l : List Sp} {i : Nat} {s : Sp}, l[i]? = some s -> offs l (i + 1) = offs l i + s.rels.length
 | [], i, s, h => by simp at h
 | x :: l, 0, s, h => by
  simp only [List.getElem?_cons_zero, Option.some.injEq] at h
  subst h
  cases l <;> simp [offs]
 | x :: l, i + 1, s, h => by
  have := offs_next (l := l) (i := i) (by simpa using h)
  rw [offs, offs, this]
  omega
theorem few_of_right {c : CfM} (h : c.plain.right isWord isRef = true) : c.few /\ NmsR c.nms := by
 have hr := right_rel h
 have hm : c.plain.much isWord = false := by
  unfold Cf.right at h
  simp only [Bool.and_eq_true, Bool.not_eq_true'] at h
  exact h.2
 rw [much_eq] at hm
 simp only [Bool.or_eq_false_iff, decide_eq_false_iff_not, List.any_eq_false, Nat.not_lt] at hm
 refine ⟨⟨by omega, λ s hs => ?_⟩, λ x hx => ?_⟩
 ·have := hm.2 s hs
  unfold mSp at this
  simp only [Bool.or_eq_true, decide_eq_true_eq, not_or, Nat.not_lt] at this
  exact this.1
 ·have hx' : x.p ∈ c.plain.all := by rw [<- nms_all]; exact List.mem_map.2 ⟨x, hx, rfl⟩
  obtain ⟨h1, h2⟩ := hr _ hx'
  unfold relOK at h1
  unfold muchR at h2
  simp only [Bool.and_eq_true, bne_iff_ne, ne_eq] at h1
  simp only [Bool.or_eq_false_iff, decide_eq_false_iff_not, Nat.not_lt] at h2
  exact ⟨h2.1.1, h2.1.2, h1.1.2⟩
abbrev pblk (pb : Nat) (v : Value) (b : Bool) : Seg := (bl pb [v, .bool b] 237)
def tokOK (t : LTok) : Prop := t.kind ≠ 0 /\ t.text.size <= 9223372036854775807 /\ (t.kind = 2 \/ (t.text ≠ tLp /\ t.text ≠ tRp /\ t.text ≠ tAnd /\ t.text ≠ tBar /\ t.text ≠ tMinus /\ t.text ≠ tArrow /\ t.text ≠ tScope))
instance (t : LTok) : Decidable (tokOK t) := by unfold tokOK; infer_instance
structure PaI (R : Rds) (pb : Nat) (st : PSt) (T : Seg) : Prop where
 h : ∃ v, T = pblk pb v st.2 /\ RS R 3 LTok.enc v st.1
 ok : ∀ t ∈ st.1, tokOK t
theorem PaI.nil {R : Rds} {pb : Nat} : PaI R pb pFail (pblk pb (sZ) true) := ⟨⟨_, rfl, RS.nil0⟩, λ t ht => (by cases ht)⟩
def tok0 : List LTok -> LTok
 | [] => ⟨0, ⟨#[]⟩, 0⟩
 | t :: _ => t
theorem next_spec (pb : Nat) (v : Value) (b : Bool) (l : List LTok) (R : Rds) (h : RS R 3 LTok.enc v l) [pc : PC R (pT pb) [v, .bool b]] : Spec prog 226 [pT pb] R [] λ u H' => u = .agg (tok0 l).enc.toArray /\ H' = [] := by
 have iv := h.oneCell
 refine Spec.body Tryz.func226 rfl Tryz.results226 Tryz.ntmps226 rfl ?_
 refine .sr ?_
 refine .allocA (λ b2 => ?_)
 refine .zs<|.sr<|.mo rfl<|.nc rfl<|.fa rfl<|.lo rfl<|.q (.lenR h) ?_
 refine .q .eqI<|.zn ?_
 refine .cond rfl (λ h1 => ?_) λ h1 => ?_
 have h9 : (l.length : Int) = 0 := by simpa using h1
 have hnil : l = [] := List.eq_nil_of_length_eq_zero (by omega)
 subst hnil
 refine .sr ?_
 refine .q .bld ?_
 refine .storeA rfl rfl<|.zn ?_
 refine .ret (seqQ_r (retQ_r _ (.one (.cellA rfl rfl)) (.none _) ?_))
 ·exact ⟨rfl, rfl⟩
 have h9 : ¬ (l.length : Int) = 0 := by simpa using h1
 obtain ⟨t, r, rfl⟩ : ∃ t r, l = t :: r := by
  cases l with
  | nil => simp at h9
  | cons t r => exact ⟨t, r, rfl⟩
 have h0 : (t :: r)[0]? = some t := rfl
 refine .kn<|.sr<|.mo rfl<|.nc rfl<|.fa rfl<|.lo rfl ?_
 refine .indexR 0 h h0 (λ p14 => ?_)
 refine .q (.loadA rfl)<|.storeA rfl rfl<|.zn ?_
 refine .ret (retQ_r _ (.one (.cellA rfl rfl)) (.none _) ?_)
 ·exact ⟨rfl, rfl⟩
theorem fail_spec (pb : Nat) (v : Value) [iv : One v] (b : Bool) (R : Rds) : Spec prog 179 [pT pb] R [pblk pb v b] λ _ H' => ∃ T', H' = [T'] /\ T' = pblk pb (sZ) true := by
 refine Spec.body Tryz.func179 rfl Tryz.results179 Tryz.ntmps179 rfl ?_
 refine .sr<|.mo rfl<|.nc rfl<|.fa rfl<|.store1 rfl rfl<|.zn<|.region<|.mo rfl<|.nc rfl<|.fa rfl<|.store1 rfl rfl<|.nil<|retQ_n _ .none rH ?_
 ·exact ⟨_, rfl, rfl⟩
theorem take_spec (pb : Nat) (st : PSt) (T : Seg) (R : Rds) (hI : PaI R pb st T) (s : ByteArray) : Spec prog 176 [pT pb, .string s] R [T] λ u H' => ∃ T', H' = [T'] /\ u = .bool (pTake s st).isSome /\ PaI R pb ((pTake s st).getD st) T' := by
 obtain ⟨⟨v, rfl, h⟩, hok⟩ := hI
 obtain ⟨l, b⟩ := st
 simp only at h hok ⊢
 have iv := h.oneCell
 have hle := h.le
 have hT0 : pTake s ([], b) = none := rfl
 have hT1 : ∀ t r, pTake s (t :: r, b) = if t.kind = 2 \/ t.text ≠ s then none else some (r, b) := λ _ _ => rfl
 refine Spec.body Tryz.func176 rfl Tryz.results176 Tryz.ntmps176 rfl ?_
 refine .sr<|.ag rfl<|.z<|.mo rfl ?_
 refine .callR (next_spec pb v b l _ h.rx) (λ u hu => ?_)
 subst hu
 refine .allocA (λ b5 => ?_)
 refine .storeA rfl rfl<|.zs<|.sr<|.fa rfl<|.lo rfl<|.q .eqI<|.mo rfl ?_
 refine .split (t := 11) rfl (λ g2_3 => ?_) (λ g2_3 => ?_)
 refine .gF g2_3<|.gF g2_3<|.gF g2_3<|.q (.pickTh g2_3) ?_
 refine .mo rfl<|.gX<|.gX<|.gX<|.gX<|.q .pickT<|.zn<|.condT ?_
 have hnone : pTake s (l, b) = none := by
  cases l with
  | nil => exact hT0
  | cons t r =>
   rw [hT1]
   obtain ⟨o1, _, _⟩ := hok t List.mem_cons_self
   simp only [tok0] at *
   rw [if_pos]
   by_cases e : t.kind = 2
   ·exact .inl e
   ·exact .inr (by grind)
 refine .sr<|.az rfl ?_
 refine .ret (seqQ_r (retQ_r _ (.one (.tmp rfl)) (pkH [1]) ?_))
 ·first
   |exact ⟨_, rfl, by rw [hnone]; rfl, by rw [hnone]; exact ⟨⟨v, rfl, h⟩, hok⟩⟩
   |exact ⟨_, rfl, by rw [hsome]; rfl, by rw [hsome]; exact ⟨⟨v2, rfl, hv2⟩, λ t ht => hok t (List.mem_cons_of_mem _ ht)⟩⟩
 refine .gT g2_3<|.fa rfl<|.gT g2_3<|.lo rfl<|.gT g2_3<|.q .eqI<|.q (.pickFh g2_3) ?_
 refine .mo rfl ?_
 refine .split (t := 16) rfl (λ g2_8 => ?_) (λ g2_8 => ?_)
 refine .gF g2_8<|.gF g2_8<|.gF g2_8<|.gF g2_8<|.q (.pickTh g2_8) ?_
 refine .zn<|.condT ?_
 have hnone : pTake s (l, b) = none := by
  cases l with
  | nil => exact hT0
  | cons t r =>
   rw [hT1]
   obtain ⟨o1, _, _⟩ := hok t List.mem_cons_self
   simp only [tok0] at *
   rw [if_pos]
   by_cases e : t.kind = 2
   ·exact .inl e
   ·exact .inr (by grind)
 refine .sr<|.az rfl ?_
 refine .ret (seqQ_r (retQ_r _ (.one (.tmp rfl)) (pkH [1]) ?_))
 ·first
   |exact ⟨_, rfl, by rw [hnone]; rfl, by rw [hnone]; exact ⟨⟨v, rfl, h⟩, hok⟩⟩
   |exact ⟨_, rfl, by rw [hsome]; rfl, by rw [hsome]; exact ⟨⟨v2, rfl, hv2⟩, λ t ht => hok t (List.mem_cons_of_mem _ ht)⟩⟩
 refine .gT g2_8<|.fa rfl<|.gT g2_8<|.lo rfl<|.gT g2_8<|.mo rfl<|.gT g2_8<|.q .neS<|.q (.pickFh g2_8) ?_
 refine .zn ?_
 refine .cond rfl (λ h1 => ?_) λ h1 => ?_
 have hnone : pTake s (l, b) = none := by
  cases l with
  | nil => exact hT0
  | cons t r =>
   rw [hT1]
   obtain ⟨o1, _, _⟩ := hok t List.mem_cons_self
   simp only [tok0] at *
   rw [if_pos]
   by_cases e : t.kind = 2
   ·exact .inl e
   ·exact .inr (by grind)
 refine .sr<|.az rfl ?_
 refine .ret (seqQ_r (retQ_r _ (.one (.tmp rfl)) (pkH [1]) ?_))
 ·first
   |exact ⟨_, rfl, by rw [hnone]; rfl, by rw [hnone]; exact ⟨⟨v, rfl, h⟩, hok⟩⟩
   |exact ⟨_, rfl, by rw [hsome]; rfl, by rw [hsome]; exact ⟨⟨v2, rfl, hv2⟩, λ t ht => hok t (List.mem_cons_of_mem _ ht)⟩⟩
 obtain ⟨t, r, rfl⟩ : ∃ t r, l = t :: r := by
  cases l with
  | nil => simp [tok0] at *
  | cons t r => exact ⟨t, r, rfl⟩
 have hsome : pTake s (t :: r, b) = some (r, b) := by
  rw [hT1, if_neg]
  simp only [tok0] at *
  grind
 refine .kn<|.sr<|.mo rfl<|.mo rfl<|.nc rfl<|.fa rfl<|.lo rfl ?_
 refine .sliceR 1 (r.length + 1) h ⟨_, rfl⟩ rfl (by omega) (by simp) (λ v2 hv2 => ?_)
 rw [show ((t :: r).drop 1).take (r.length + 1 - 1) = r by simp] at hv2
 have iv2 := hv2.oneCell
 refine .nc rfl<|.fa rfl<|.store1 rfl rfl<|.z<|.az rfl ?_
 refine .ret (retQ_r _ (.one (.tmp rfl)) (pkH [1]) ?_)
 ·first
   |exact ⟨_, rfl, by rw [hnone]; rfl, by rw [hnone]; exact ⟨⟨v, rfl, h⟩, hok⟩⟩
   |exact ⟨_, rfl, by rw [hsome]; rfl, by rw [hsome]; exact ⟨⟨v2, rfl, hv2⟩, λ t ht => hok t (List.mem_cons_of_mem _ ht)⟩⟩
theorem must_spec (pb : Nat) (st : PSt) (T : Seg) (R : Rds) (hI : PaI R pb st T) (s : ByteArray) : Spec prog 228 [pT pb, .string s] R [T] λ _ H' => ∃ T', H' = [T'] /\ PaI R pb (pMust s st) T' := by
 have ht := take_spec pb st T R hI s
 have hm : pMust s st = (pTake s st).getD pFail := rfl
 refine Spec.body Tryz.func228 rfl Tryz.results228 Tryz.ntmps228 rfl ?_
 refine .sr<|.mo rfl<|.mo rfl ?_
 refine .callM (R := R) ht (λ u T' hu => ?_)
 obtain ⟨rfl, hI2⟩ := hu
 refine .q .not<|.zn ?_
 refine .cond rfl (λ h1 => ?_) λ h1 => ?_
 have hn : pTake s st = none := by
  cases hh : pTake s st with
  | none => rfl
  | some x => rw [hh] at h1; simp at h1
 rw [hn] at hI2 hm
 simp only [Option.getD_none] at hI2
 obtain ⟨⟨v, rfl, hv⟩, _⟩ := hI2
 have iv := hv.oneCell
 refine .region<|.mo rfl ?_
 refine .callM (R := R) (fail_spec pb v st.2 R) (λ u T' hu => ?_)
 subst hu
 refine .nil<|retQ_n _ .none rH ?_
 ·first
   |exact ⟨_, rfl, by rw [hm]; exact PaI.nil⟩
   |exact ⟨_, rfl, by rw [hm]; exact hI2⟩
 obtain ⟨x, hx⟩ : ∃ x, pTake s st = some x := by
  cases hh : pTake s st with
  | none => rw [hh] at h1; simp at h1
  | some x => exact ⟨x, rfl⟩
 rw [hx] at hI2 hm
 refine .skip<|retQ_n _ .none rH ?_
 ·first
   |exact ⟨_, rfl, by rw [hm]; exact PaI.nil⟩
   |exact ⟨_, rfl, by rw [hm]; exact hI2⟩
theorem pword_spec (pb : Nat) (st : PSt) (T : Seg) (R : Rds) (hI : PaI R pb st T) : Spec prog 227 [pT pb] R [T] λ u H' => ∃ T', H' = [T'] /\ u = .string (pWord isWord st).1 /\ PaI R pb (pWord isWord st).2 T' := by
 obtain ⟨⟨v, rfl, h⟩, hok⟩ := hI
 obtain ⟨l, b⟩ := st
 simp only at h hok ⊢
 have iv := h.oneCell
 have hle := h.le
 have hT0 : pWord isWord ([], b) = (⟨#[]⟩, pFail) := rfl
 have hT1 : ∀ t r, pWord isWord (t :: r, b) = if t.kind ≠ 1 \/ isWord t.text = false then (⟨#[]⟩, pFail) else (t.text, (r, b)) := λ _ _ => rfl
 have hts : (tok0 l).text.size <= 9223372036854775807 := by
  cases l with
  | nil => exact Nat.zero_le _
  | cons t r => exact (hok t List.mem_cons_self).2.1
 refine Spec.body Tryz.func227 rfl Tryz.results227 Tryz.ntmps227 rfl ?_
 refine .sr<|.ag rfl<|.z<|.mo rfl ?_
 refine .callR (next_spec pb v b l _ h.rx) (λ u hu => ?_)
 subst hu
 refine .allocA (λ b3 => ?_)
 refine .storeA rfl rfl<|.zs<|.sr<|.fa rfl<|.lo rfl<|.q .neI<|.mo rfl ?_
 refine .split (t := 9) rfl (λ g2_3 => ?_) (λ g2_3 => ?_)
 refine .gF g2_3<|.gF g2_3<|.gF g2_3<|.gF g2_3<|.q (.pickTh g2_3) ?_
 refine .zn<|.condT ?_
 have hnone : pWord isWord (l, b) = (⟨#[]⟩, pFail) := by
  cases l with
  | nil => exact hT0
  | cons t r =>
   rw [hT1, if_pos]
   simp only [tok0] at *
   by_cases e : t.kind = 1
   ·right; simp_all
   ·exact .inl e
 refine .sr<|.mo rfl ?_
 refine .callM (R := R) (fail_spec pb v b R) (λ u T' hu => ?_)
 subst hu
 refine .z<|.az rfl ?_
 refine .ret (seqQ_r (retQ_r _ (.one (.tmp rfl)) (pkH [1]) ?_))
 ·first
   |exact ⟨_, rfl, by rw [hnone], by rw [hnone]; exact PaI.nil⟩
   |exact ⟨_, rfl, by rw [hsome]; rfl, by rw [hsome]; exact ⟨⟨v2, rfl, hv2⟩, λ t ht => hok t (List.mem_cons_of_mem _ ht)⟩⟩
 refine .gT g2_3<|.fa rfl<|.gT g2_3<|.lo rfl<|.gT g2_3 ?_
 refine .callR ((word_spec _ hts R).weaken rxl) (λ u hu => ?_)
 subst hu
 refine .gT g2_3<|.q .not<|.q (.pickFh g2_3) ?_
 refine .zn ?_
 refine .cond rfl (λ h1 => ?_) λ h1 => ?_
 have hnone : pWord isWord (l, b) = (⟨#[]⟩, pFail) := by
  cases l with
  | nil => exact hT0
  | cons t r =>
   rw [hT1, if_pos]
   simp only [tok0] at *
   by_cases e : t.kind = 1
   ·right; simp_all
   ·exact .inl e
 refine .sr<|.mo rfl ?_
 refine .callM (R := R) (fail_spec pb v b R) (λ u T' hu => ?_)
 subst hu
 refine .z<|.az rfl ?_
 refine .ret (seqQ_r (retQ_r _ (.one (.tmp rfl)) (pkH [1]) ?_))
 ·first
   |exact ⟨_, rfl, by rw [hnone], by rw [hnone]; exact PaI.nil⟩
   |exact ⟨_, rfl, by rw [hsome]; rfl, by rw [hsome]; exact ⟨⟨v2, rfl, hv2⟩, λ t ht => hok t (List.mem_cons_of_mem _ ht)⟩⟩
 obtain ⟨t, r, rfl⟩ : ∃ t r, l = t :: r := by
  cases l with
  | nil => simp [tok0] at *
  | cons t r => exact ⟨t, r, rfl⟩
 have hsome : pWord isWord (t :: r, b) = (t.text, (r, b)) := by
  rw [hT1, if_neg]
  simp_all [tok0]
 refine .kn<|.sr<|.mo rfl<|.mo rfl<|.nc rfl<|.fa rfl<|.lo rfl ?_
 refine .sliceR 1 (r.length + 1) h ⟨_, rfl⟩ rfl (by omega) (by simp) (λ v2 hv2 => ?_)
 rw [show ((t :: r).drop 1).take (r.length + 1 - 1) = r by simp] at hv2
 have iv2 := hv2.oneCell
 refine .nc rfl<|.fa rfl<|.store1 rfl rfl<|.z<|.fa rfl<|.lo rfl<|.az rfl ?_
 refine .ret (retQ_r _ (.one (.tmp rfl)) (pkH [1]) ?_)
 ·first
   |exact ⟨_, rfl, by rw [hnone], by rw [hnone]; exact PaI.nil⟩
   |exact ⟨_, rfl, by rw [hsome]; rfl, by rw [hsome]; exact ⟨⟨v2, rfl, hv2⟩, λ t ht => hok t (List.mem_cons_of_mem _ ht)⟩⟩
theorem tok_none {s : ByteArray} {st : PSt} (h : ∀ t ∈ st.1, tokOK t) (hs : s = tLp \/ s = tRp \/ s = tAnd \/ s = tBar \/ s = tMinus \/ s = tArrow \/ s = tScope) : pTake s st = none := by
 unfold pTake
 split
 ·rfl
 ·rename_i t r e
  have ht := (h t (by rw [e]; exact List.mem_cons_self)).2.2
  rw [if_pos]
  rcases ht with ht | ⟨h1, h2, h3, h4, h5, h6, h7⟩
  ·exact .inl ht
  ·right
   rcases hs with rfl | rfl | rfl | rfl | rfl | rfl | rfl <;> assumption
theorem pword_fit {W : ByteArray -> Bool} {st : PSt} (h : ∀ t ∈ st.1, tokOK t) : (pWord W st).1.size <= 9223372036854775807 := by
 unfold pWord
 split
 ·exact Nat.zero_le _
 ·rename_i t r e
  split
  ·exact Nat.zero_le _
  ·exact (h t (by rw [e]; exact List.mem_cons_self)).2.1
section
variable {R : Rds}
theorem takeN_spec (pb : Nat) (st : PSt) (T : Seg) (hI : PaI R pb st T) (s : ByteArray) (hs : s = tLp \/ s = tRp \/ s = tAnd \/ s = tBar \/ s = tMinus \/ s = tArrow \/ s = tScope) : Spec prog 176 [pT pb, .string s] R [T] λ u H' => ∃ T', H' = [T'] /\ u = .bool false /\ PaI R pb st T' :=
 (take_spec pb st T R hI s).mono λ u H' hu => by
  obtain ⟨T', rfl, rfl, h⟩ := hu
  rw [tok_none hI.ok hs] at h ⊢
  exact ⟨T', rfl, rfl, h⟩
theorem kind_spec (pb : Nat) (st : PSt) (T : Seg) (hI : PaI R pb st T) : Spec prog 265 [pT pb] R [T] λ u H' => ∃ T', H' = [T'] /\ u = .agg (pKind isWord st).1.enc.toArray /\ PaI R pb (pKind isWord st).2 T' := by
 have hk : pKind isWord st = match pTake tUser st with
  | some s => (⟨⟨#[]⟩, ⟨#[]⟩⟩, s)
  | none => (⟨(pWord isWord st).1, (pWord isWord (pMust tHash (pWord isWord st).2)).1⟩, (pWord isWord (pMust tHash (pWord isWord st).2)).2) := rfl
 generalize pKind isWord st = out at *
 refine Spec.body Tryz.func265 rfl Tryz.results265 Tryz.ntmps265 rfl ?_
 refine .sr ?_
 refine .allocA (λ b2 => ?_)
 refine .zs<|.sr<|.mo rfl ?_
 refine .callM (R := R) (take_spec pb st T R hI tUser) (λ u T' hu => ?_)
 obtain ⟨rfl, hI1⟩ := hu
 refine .zn ?_
 refine .cond rfl (λ h1 => ?_) λ h1 => ?_
 obtain ⟨s, hs⟩ := Option.isSome_iff_exists.1 h1
 rw [hs] at hI1 hk
 simp only [Option.getD_some] at hI1 hk
 subst hk
 refine .sr ?_
 refine .q .bld ?_
 refine .storeA rfl rfl<|.zn ?_
 refine .ret (seqQ_r (retQ_r _ (.one (.cellA rfl rfl)) (pkH [1]) ?_))
 ·exact ⟨_, rfl, rfl, hI1⟩
 have hs : pTake tUser st = none := by
  cases hh : pTake tUser st with
  | none => rfl
  | some x => rw [hh] at h1; cases h1
 rw [hs] at hI1 hk
 simp only [Option.getD_none] at hI1 hk
 subst hk
 refine .kn<|.sr<|.mo rfl ?_
 refine .callM (R := R) (pword_spec pb st _ R hI1) (λ u T2 hu => ?_)
 obtain ⟨rfl, hI2⟩ := hu
 refine .q .bld ?_
 refine .allocA (λ b3 => ?_)
 refine .storeA rfl rfl<|.z<|.mo rfl ?_
 refine .callM (R := R) (must_spec pb _ _ R hI2 tHash) (λ u T3 hI3 => ?_)
 refine .z<|.mo rfl ?_
 refine .callM (R := R) (pword_spec pb _ _ R hI3) (λ u T4 hu => ?_)
 obtain ⟨rfl, hI4⟩ := hu
 refine .fa rfl<|.store1 rfl rfl<|.z<|.q (.loadA rfl)<|.storeA rfl rfl<|.zn ?_
 refine .ret (retQ_r _ (.one (.cellA rfl rfl)) (pkH [2]) ?_)
 ·exact ⟨_, rfl, rfl, hI4⟩
def facS (l : List Nd) (st : PSt) : List Nd × PSt :=
 match pTake tThis st with
 | some s => (l ++ [⟨1, ⟨#[]⟩, ⟨#[]⟩, 0, 0⟩], s)
 | none => (l ++ [⟨2, (pWord isWord st).1, ⟨#[]⟩, 0, 0⟩], (pWord isWord st).2)
theorem facS_suf (l : List Nd) (st : PSt) : Suf (facS l st).2 st := by
 unfold facS
 split
 ·rename_i s h; exact (take_suf h).1
 ·exact word_suf st
theorem factor_facS {st : PSt} (h : ∀ t ∈ st.1, tokOK t) (f : Nat) (l : List Nd) : pFactor isWord (f + 1) l st = facS l st := by
 rw [pFactor]
 unfold facS
 cases hh : pTake tThis st with
 | some s => rfl
 | none =>
  rw [tok_none h (by simp)]
  simp only
  rw [tok_none (λ t ht => h t ((word_suf st).mem ht)) (by simp)]
theorem term_facS {st : PSt} (h : ∀ t ∈ st.1, tokOK t) (f : Nat) (l : List Nd) : pTerm (pFactor isWord (f + 1)) l st = facS l st := by
 unfold pTerm
 rw [factor_facS h, termLoop]
 split
 ·rfl
 ·rw [tok_none (λ t ht => h t ((facS_suf l st).mem ht)) (by simp)]
theorem expr_facS {st : PSt} (h : ∀ t ∈ st.1, tokOK t) (f : Nat) (l : List Nd) : pExpr (pFactor isWord (f + 1)) l st = facS l st := by
 unfold pExpr
 rw [term_facS h, exprLoop]
 have h2 : ∀ t ∈ (facS l st).2.1, tokOK t := λ t ht => h t ((facS_suf l st).mem ht)
 have : pOper (facS l st).2 = none := by
  unfold pOper
  rw [tok_none h2 (by simp), tok_none h2 (by simp)]
  rfl
 rw [this]
theorem factor_spec (pb : Nat) (st : PSt) (T : Seg) (hI : PaI R pb st T) (v : Value) (l : List Nd) (Tl : Seg) (hO : OS 168 5 Nd.enc v l Tl) (hl : l.length <= 1000000) : Spec prog 285 [pT pb, v] R [T, Tl] λ u H' => ∃ T' Tl', H' = [T', Tl'] /\ OS 168 5 Nd.enc u (facS l st).1 Tl' /\ PaI R pb (facS l st).2 T' := by
 have hk : facS l st = match pTake tThis st with
  | some s => (l ++ [⟨1, ⟨#[]⟩, ⟨#[]⟩, 0, 0⟩], s)
  | none => (l ++ [⟨2, (pWord isWord st).1, ⟨#[]⟩, 0, 0⟩], (pWord isWord st).2) := rfl
 generalize facS l st = out at *
 have iv := hO.oneCell
 refine Spec.body Tryz.func285 rfl Tryz.results285 Tryz.ntmps285 rfl ?_
 refine .sr<|.ag rfl<|.zs<|.block<|.sr<|.mo rfl ?_
 refine .callM (R := R) (take_spec pb st T R hI tThis) (λ u T' hu => ?_)
 obtain ⟨rfl, hI1⟩ := hu
 refine .az rfl ?_
 refine .cond rfl (λ h1 => ?_) λ h1 => ?_
 obtain ⟨s, hs⟩ := Option.isSome_iff_exists.1 h1
 rw [hs] at hI1 hk
 simp only [Option.getD_some] at hI1 hk
 subst hk
 refine .sr<|.mo rfl ?_
 refine .q .bld ?_
 refine .buildSlice1A (λ b11 => ?_)
 refine .append hO (RS.lits (xs := [(⟨1, ⟨#[]⟩, ⟨#[]⟩, 0, 0⟩ : Nd)]) rfl (by simp [Nd.enc]) (by simp [Nd.enc, oneCell])) (by simp only [List.length_singleton]; omega) (λ v5 T5 hv5 => ?_)
 have i5 := hv5.oneCell
 refine .az rfl ?_
 refine .ret (blkQ_r (seqQ_r (retQ_r _ (.one (.tmp rfl)) (pkH [1, 1]) ?_)))
 ·exact ⟨_, _, rfl, hv5, hI1⟩
 have hs : pTake tThis st = none := by
  cases hh : pTake tThis st with
  | none => rfl
  | some x => rw [hh] at h1; cases h1
 rw [hs] at hI1 hk
 simp only [Option.getD_none] at hI1 hk
 subst hk
 refine .sr<|.mo rfl ?_
 refine .callM (R := R) (takeN_spec pb st _ hI1 tLp (by simp)) (λ u T' hu => ?_)
 obtain ⟨rfl, hI2⟩ := hu
 refine .az rfl<|.condF<|.skip<|blkQ_n<|seqQ_n<|.sr<|.mo rfl ?_
 refine .callM (R := R) (pword_spec pb st _ R hI2) (λ u T2 hu => ?_)
 obtain ⟨rfl, hI3⟩ := hu
 refine .q .bld ?_
 refine .allocA (λ b5 => ?_)
 refine .storeA rfl rfl<|.zs<|.sr<|.mo rfl ?_
 refine .callM (R := R) (takeN_spec pb _ _ hI3 tArrow (by simp)) (λ u T' hu => ?_)
 obtain ⟨rfl, hI4⟩ := hu
 refine .zn<|.condF<|.kn<|.sr<|.mo rfl<|.q (.loadA rfl) ?_
 refine .buildSlice1A (λ b33 => ?_)
 refine .append hO (RS.lits (xs := [(⟨2, (pWord isWord st).1, ⟨#[]⟩, 0, 0⟩ : Nd)]) rfl (by simp [Nd.enc]) (by simp [Nd.enc, oneCell])) (by simp only [List.length_singleton]; omega) (λ v5 T5 hv5 => ?_)
 have i5 := hv5.oneCell
 refine .az rfl ?_
 refine .ret (retQ_r _ (.one (.tmp rfl)) (pkH [2, 2]) ?_)
 ·exact ⟨_, _, rfl, hv5, hI4⟩
theorem term_spec (pb : Nat) (st : PSt) (T : Seg) (hI : PaI R pb st T) (v : Value) (l : List Nd) (Tl : Seg) (hO : OS 168 5 Nd.enc v l Tl) (hl : l.length <= 1000000) : Spec prog 278 [pT pb, v] R [T, Tl] λ u H' => ∃ T' Tl', H' = [T', Tl'] /\ OS 168 5 Nd.enc u (facS l st).1 Tl' /\ PaI R pb (facS l st).2 T' := by
 have iv := hO.oneCell
 refine Spec.body Tryz.func278 rfl Tryz.results278 Tryz.ntmps278 rfl ?_
 refine .sr<|.ag rfl<|.z<|.mo rfl<|.mo rfl ?_
 refine .call [0, 0] (factor_spec (R := Rx R []) pb st T ⟨hI.h.imp λ v h => ⟨h.1, h.2.rx⟩, hI.ok⟩ v l Tl hO hl) (λ u H' hu => ?_)
 obtain ⟨T1, Tl1, rfl, hO1, hI1⟩ := hu
 have hI1 : PaI R pb (facS l st).2 T1 := ⟨hI1.h.imp λ v h => ⟨h.1, h.2.mono λ b o hb => hb.elim id λ hb => (by cases hb)⟩, hI1.ok⟩
 have i1 := hO1.oneCell
 conv => arg 8; simp only [rest, dropAt, List.cons_append, List.nil_append]
 refine .ag rfl<|.zs<|.block ?_
 refine .loopS [(0, _)] (X := Seg) (λ T => PaI R pb (facS l st).2 T) (λ _ E => (1, _) :: E) (λ T G => T :: G) (λ _ => 0) T1 hI1 kE.c.c rH ?_
 rintro T2 hI2
 obtain ⟨⟨v2, hT2, hr2⟩, hok2⟩ := hI2
 have hI2 : PaI R pb (facS l st).2 T2 := ⟨⟨v2, hT2, hr2⟩, hok2⟩
 have i2 := hr2.oneCell
 have ps2 : PS T2 (pT pb) [v2, .bool (facS l st).2.2] := PS.of (E := 237) (fr := (0, 0)) (by rw [hT2]; simp)
 refine .seq<|.seq ?_
 refine Tri.cutS [(0, _), (1, _)] kE.c.c (X := Seg) (λ T => PaI R pb (facS l st).2 T) (λ _ E => (17, .bool false) :: E) (λ T => [T, Tl1]) ?_ ?_
 refine .region<|.mo rfl<|.nc rfl<|.fa rfl<|.lo rfl<|.q .not<|.mo rfl ?_
 refine .split (t := 14) rfl (λ g2_5 => ?_) (λ g2_5 => ?_)
 refine .gT g2_5<|.mo rfl<|.gT g2_5 ?_
 refine .callM (R := R) (takeN_spec pb _ _ hI2 tAnd (by simp)) (λ u T' hu => ?_)
 obtain ⟨rfl, hI3⟩ := hu
 refine .q (.pickTh g2_5) ?_
 refine .nil ?_
 ·first
   |exact joinQ_n _ hI3 kE.c.c.c rH
   |exact joinQ_n _ hI2 kE.c.c.c rH
 refine .gF g2_5<|.gF g2_5<|.q (.pickFh g2_5) ?_
 refine .nil ?_
 ·first
   |exact joinQ_n _ hI3 kE.c.c.c rH
   |exact joinQ_n _ hI2 kE.c.c.c rH
 intro y hy
 refine seqQ_n<|.condF<|.exit<|seqQ_x<|loopQ_x<|blkQ_x<|seqQ_n<|.sr<|.mo rfl<|.az rfl ?_
 refine .ret (retQ_r _ (.one (.tmp rfl)) rH ?_)
 ·exact ⟨_, _, rfl, hO1, by assumption⟩
theorem oper_spec (pb : Nat) (st : PSt) (T : Seg) (hI : PaI R pb st T) : Spec prog 279 [pT pb] R [T] λ u H' => ∃ T', H' = [T'] /\ u = .int .i64 0 /\ PaI R pb st T' := by
 refine Spec.body Tryz.func279 rfl Tryz.results279 Tryz.ntmps279 rfl ?_
 refine .sr<|.ag rfl<|.zs<|.block<|.sr<|.mo rfl ?_
 refine .callM (R := R) (takeN_spec pb _ _ hI tBar (by simp)) (λ u T' hu => ?_)
 obtain ⟨rfl, hI1⟩ := hu
 refine .az rfl<|.condF<|.sr<|.mo rfl ?_
 refine .callM (R := R) (takeN_spec pb _ _ hI1 tMinus (by simp)) (λ u T' hu => ?_)
 obtain ⟨rfl, hI2⟩ := hu
 refine .az rfl<|.condF<|.skip<|blkQ_n<|seqQ_n<|.sr<|.az rfl ?_
 refine .ret (retQ_r _ (.one (.tmp rfl)) rH ?_)
 ·exact ⟨_, rfl, rfl, hI2⟩
theorem expr_spec (pb : Nat) (st : PSt) (T : Seg) (hI : PaI R pb st T) (v : Value) (l : List Nd) (Tl : Seg) (hO : OS 168 5 Nd.enc v l Tl) (hl : l.length <= 1000000) : Spec prog 266 [pT pb, v] R [T, Tl] λ u H' => ∃ T' Tl', H' = [T', Tl'] /\ OS 168 5 Nd.enc u (facS l st).1 Tl' /\ PaI R pb (facS l st).2 T' := by
 have iv := hO.oneCell
 refine Spec.body Tryz.func266 rfl Tryz.results266 Tryz.ntmps266 rfl ?_
 refine .sr<|.ag rfl<|.z<|.mo rfl<|.mo rfl ?_
 refine .call [0, 0] (term_spec (R := Rx R []) pb st T ⟨hI.h.imp λ v h => ⟨h.1, h.2.rx⟩, hI.ok⟩ v l Tl hO hl) (λ u H' hu => ?_)
 obtain ⟨T1, Tl1, rfl, hO1, hI1⟩ := hu
 have hI1 : PaI R pb (facS l st).2 T1 := ⟨hI1.h.imp λ v h => ⟨h.1, h.2.mono λ b o hb => hb.elim id λ hb => (by cases hb)⟩, hI1.ok⟩
 have i1 := hO1.oneCell
 conv => arg 8; simp only [rest, dropAt, List.cons_append, List.nil_append]
 refine .ag rfl<|.zs<|.sr<|.mo rfl ?_
 refine .callM (R := R) (oper_spec pb _ _ hI1) (λ u T' hu => ?_)
 obtain ⟨rfl, hI2⟩ := hu
 refine .az rfl<|.block ?_
 refine .loopS [(0, _)] (X := Unit) (λ _ => True) (λ _ E => (5, .int .i64 0) :: (1, _) :: E) (λ _ G => G) (λ _ => 0) () trivial kE.c.c.c rH ?_
 rintro _ _
 refine .seq<|.sr<|.mo rfl<|.q .neI<|.mo rfl ?_
 refine .split (t := 14) rfl (λ g3_2 => ?_) (λ g3_2 => ?_)
 ·cases g3_2
 refine .gF g3_2<|.gF g3_2<|.gF g3_2<|.gF g3_2<|.gF g3_2<|.q (.pickFh g3_2) ?_
 refine .zn<|.condF<|.exit<|seqQ_x<|loopQ_x<|blkQ_x<|seqQ_n<|.sr<|.mo rfl<|.az rfl ?_
 refine .ret (retQ_r _ (.one (.tmp rfl)) rH ?_)
 ·exact ⟨_, _, rfl, hO1, hI2⟩
end
theorem leaf_spec (n : Nd) (hf : n.fits) (R : Rds) : Spec prog 247 [.agg n.enc.toArray] R [] λ u H' => u = .bool (n.leaf isWord) /\ H' = [] := by
 obtain ⟨k, rel, thn, a, b⟩ := n
 obtain ⟨f1, f2⟩ := hf
 simp only at f1 f2
 refine Spec.body Tryz.func247 rfl Tryz.results247 Tryz.ntmps247 rfl<|.sr ?_
 refine .boxA rfl (λ b1 => ?_)
 refine .ag rfl<|.zs<|.seq ?_
 refine Tri.cutS [(1, _)] kE.c (X := Unit) (λ _ => True) (λ _ E => (10, .bool (!(a == 0 && b == 0))) :: E) (λ _ => [bl b1 (Nd.enc ⟨k, rel, thn, a, b⟩) 168]) ?_ ?_
 refine .region<|.fa rfl<|.lo rfl<|.q .neI<|.mo rfl<|.split (t := 6) rfl (λ g1_3 => ?_) (λ g1_3 => ?_)
 refine .gF g1_3<|.gF g1_3<|.gF g1_3<|.q (.pickTh g1_3)<|.nil ?_
 ·exact joinQ_n () trivial (kE.c.consB rfl (by grind)) rH
 refine .gT g1_3<|.fa rfl<|.gT g1_3<|.lo rfl<|.gT g1_3<|.q .neI<|.q (.pickFh g1_3)<|.nil ?_
 ·exact joinQ_n () trivial (kE.c.consB rfl (by grind)) rH
 intro y hy
 refine seqQ_n<|.cond rfl (λ h1 => ?_) λ h1 => ?_
 refine .sr<|.az rfl<|.ret (seqQ_r (rq1 rfl ?_))
 ·refine ⟨congrArg _ ?_, rfl⟩
  simp only [Nd.leaf]
  grind
 refine .kn<|.seq<|.sr<|.fa rfl<|.lo rfl<|.zn<|.block<|.sr<|.q .eqI<|.az rfl<|.cond rfl (λ h2 => ?_) λ h2 => ?_
 refine .sr<|.fa rfl<|.lo rfl<|.q .eqS<|.mo rfl<|.split (t := 18) rfl (λ g5_3 => ?_) (λ g5_3 => ?_)
 refine .gT g5_3<|.fa rfl<|.gT g5_3<|.lo rfl<|.gT g5_3<|.q .eqS<|.q (.pickTh g5_3)<|.az rfl<|.ret (blkQ_r (seqQ_r (rq1 rfl ?_)))
 ·refine ⟨congrArg _ ?_, rfl⟩
  simp only [Nd.leaf]
  grind
 refine .gF g5_3<|.gF g5_3<|.gF g5_3<|.q (.pickFh g5_3)<|.az rfl<|.ret (blkQ_r (seqQ_r (rq1 rfl ?_)))
 ·refine ⟨congrArg _ ?_, rfl⟩
  simp only [Nd.leaf]
  grind
 refine .sr<|.q .eqI<|.az rfl<|.cond rfl (λ h3 => ?_) λ h3 => ?_
 refine .sr<|.fa rfl<|.lo rfl<|.callR (word_spec rel f1 _) (λ u hu => ?_)
 subst hu
 refine .mo rfl<|.split (t := 28) rfl (λ g7_3 => ?_) (λ g7_3 => ?_)
 refine .gT g7_3<|.fa rfl<|.gT g7_3<|.lo rfl<|.gT g7_3<|.q .eqS<|.q (.pickTh g7_3)<|.az rfl<|.ret (blkQ_r (seqQ_r (rq1 rfl ?_)))
 ·refine ⟨congrArg _ ?_, rfl⟩
  simp only [Nd.leaf]
  grind
 refine .gF g7_3<|.gF g7_3<|.gF g7_3<|.q (.pickFh g7_3)<|.az rfl<|.ret (blkQ_r (seqQ_r (rq1 rfl ?_)))
 ·refine ⟨congrArg _ ?_, rfl⟩
  simp only [Nd.leaf]
  grind
 refine .sr<|.q .eqI<|.az rfl<|.cond rfl (λ h4 => ?_) λ h4 => ?_
 refine .sr<|.fa rfl<|.lo rfl<|.callR (word_spec rel f1 _) (λ u hu => ?_)
 subst hu
 refine .mo rfl<|.split (t := 38) rfl (λ g9_3 => ?_) (λ g9_3 => ?_)
 refine .gT g9_3<|.fa rfl<|.gT g9_3<|.lo rfl<|.gT g9_3<|.callR (word_spec thn f2 _) (λ u hu => ?_)
 subst hu
 refine .q (.pickTh g9_3)<|.az rfl<|.ret (blkQ_r (seqQ_r (rq1 rfl ?_)))
 ·refine ⟨congrArg _ ?_, rfl⟩
  simp only [Nd.leaf]
  grind
 refine .gF g9_3<|.gF g9_3<|.gF g9_3<|.q (.pickFh g9_3)<|.az rfl<|.ret (blkQ_r (seqQ_r (rq1 rfl ?_)))
 ·refine ⟨congrArg _ ?_, rfl⟩
  simp only [Nd.leaf]
  grind
 refine .skip<|blkQ_n<|seqQ_n<|.sr<|.az rfl<|.ret (rq1 rfl ?_)
 ·refine ⟨congrArg _ ?_, rfl⟩
  simp only [Nd.leaf]
  grind
theorem dsteps_app (W : ByteArray -> Bool) : ∀ (a b : List Nd) (S : List (Nat × Nat)), dsteps W (a ++ b) S = (dsteps W a S).bind (dsteps W b)
 | [], b, S => rfl
 | n :: a, b, S => by
  rw [List.cons_append, dsteps, dsteps]
  cases dstep W S n with
  | none => rfl
  | some S' => exact dsteps_app W a b S'
theorem set_grow {α : Type} {A : List α} {i k : Nat} {x z : α} (hA : A.length = i) : (A ++ List.replicate (k + 1) z).set i x = (A ++ [x]) ++ List.replicate k z := by
 subst hA
 rw [List.set_append_right _ _ (Nat.le_refl _), Nat.sub_self, List.replicate_succ, List.set_cons_zero]
 simp
theorem grow_get {A : List Nat} {j k : Nat} {a : Nat} (h : A[j]? = some a) : (A ++ List.replicate k 0)[j]? = some a := by
 rw [List.getElem?_append_left (List.getElem?_eq_some_iff.1 h).1]
 exact h
def dbad (S : List (Nat × Nat)) (n : Nd) : Prop := n.rel ≠ ⟨#[]⟩ \/ n.thn ≠ ⟨#[]⟩ \/ n.b ≠ (S.length : Int) - 1 \/ n.b < 0 \/ n.a ≠ (S.length : Int) - 1 - (S.getD (S.length - 1) (0, 0)).1 \/ n.a < 0
instance (S : List (Nat × Nat)) (n : Nd) : Decidable (dbad S n) := by unfold dbad; infer_instance
theorem dstep_bad {S : List (Nat × Nat)} {n : Nd} (ho : n.op = true) (h : dbad S n) : dstep isWord S n = none := by
 unfold dstep
 rw [if_pos ho]
 exact if_pos h
theorem dstep_good {S : List (Nat × Nat)} {n : Nd} (ho : n.op = true) (h : ¬ dbad S n) : dstep isWord S n = some (S ++ [((S.getD n.a.toNat (0, 0)).1 + (S.getD n.b.toNat (0, 0)).1 + 1, max (S.getD n.a.toNat (0, 0)).2 (S.getD n.b.toNat (0, 0)).2 + 1)]) := by
 unfold dstep
 rw [if_pos ho]
 exact if_neg h
theorem deep_none {l : List Nd} {i : Nat} {n : Nd} {S : List (Nat × Nat)} (hn : l[i]? = some n) (hS : dsteps isWord (l.take i) [] = some S) (h : dstep isWord S n = none) : deepC isWord l = 0 := by
 have hl : l = l.take i ++ n :: l.drop (i + 1) := by
  rw [<- List.take_append_drop i l]
  congr 1
  ·rw [List.take_append_drop]
  ·rw [List.take_append_drop]; exact drop_at hn
 have : dsteps isWord l [] = none := by
  rw [hl, dsteps_app, hS, Option.bind_some, dsteps, h]
  rfl
 unfold deepC
 rw [this]
theorem deep_spec (v : Value) (l : List Nd) (R : Rds) (h : RS R 5 Nd.enc v l) (hf : ∀ x ∈ l, x.fits) (hlen : l.length <= 1000000) :
    Spec prog 193 [v] R [] λ u H' => u = .int .i64 (deepD isWord l : Nat) /\ H' = [] := by
  rw [<- deep_doc]
  have iv := h.oneCell
  refine Spec.body Tryz.func193 rfl Tryz.results193 Tryz.ntmps193 rfl ?_
  refine .sr<|.ag rfl<|.zs ?_
  refine Tri.cutS [(0, _)] kE.c (X := (Nat × Seg) × (Nat × Seg)) (λ y => OS 3 1 encNt (.slice (some ⟨y.1.1, 0, none⟩) l.length l.length) (List.replicate l.length 0) y.1.2 /\ OS 3 1 encNt (.slice (some ⟨y.2.1, 0, none⟩) l.length l.length) (List.replicate l.length 0) y.2.2) (λ y E => (3, .slice (some ⟨y.1.1, 0, none⟩) l.length l.length) :: (4, .slice (some ⟨y.2.1, 0, none⟩) l.length l.length) :: E) (λ y => [y.1.2, y.2.2]) ?_ ?_
  refine .region_all [2, 5] mixed ?_
  refine .tK 0 rfl .move ?_
  refine .tK 1 rfl (.lenR h) ?_
  refine .tK 3 rfl .move ?_
  refine .tK 4 rfl (.lenR h) ?_
  refine RA.step2 2 5 rfl rfl (by kernel_rfl) rfl ?_ ?_
  refine .makeSlice (enc := encNt) l.length 0 rfl rfl (by decide) (by simp [encNt, oneCell]) rfl rfl (by omega) (by omega) (λ bA TA hA => ?_)
  refine .nil (Next.mod rfl ?_)
  refine .tK 6 rfl .assign ?_
  refine .sT 5 rfl ?_
  refine .makeSlice (enc := encNt) l.length 0 rfl rfl (by decide) (by simp [encNt, oneCell]) rfl rfl (by omega) (by omega) (λ bB TB hB => ?_)
  refine .nil (Next.mod rfl ?_)
  refine .tK 7 rfl .assign ?_
  refine RA.nil (by kernel_rfl) ?_
  · first
      | exact joinQ_n ((bA, TA), (bB, TB)) ⟨hA, hB⟩ kE.c.c.c (pkH [0, 0])
      | exact joinQ_n ((bA, TA), (bB, TB)) ⟨hA, hB⟩ kE.c.c.c (pkH [1, 0])
  refine .makeSlice (enc := encNt) l.length 0 rfl rfl (by decide) (by simp [encNt, oneCell]) rfl rfl (by omega) (by omega) (λ bB TB hB => ?_)
  refine .nil (Next.mod rfl ?_)
  refine .sT 2 rfl ?_
  refine .makeSlice (enc := encNt) l.length 0 rfl rfl (by decide) (by simp [encNt, oneCell]) rfl rfl (by omega) (by omega) (λ bA TA hA => ?_)
  refine .nil (Next.mod rfl ?_)
  refine .tK 6 rfl .assign<|.tK 7 rfl .assign ?_
  refine RA.nil (by kernel_rfl) ?_
  · first
      | exact joinQ_n ((bA, TA), (bB, TB)) ⟨hA, hB⟩ kE.c.c.c (pkH [0, 0])
      | exact joinQ_n ((bA, TA), (bB, TB)) ⟨hA, hB⟩ kE.c.c.c (pkH [1, 0])
  intro y hy
  obtain ⟨⟨bA, TA⟩, ⟨bB, TB⟩⟩ := y
  obtain ⟨hA, hB⟩ := hy
  simp only at hA hB ⊢
  refine seqQ_n<|.seq<|.sr<|.mo rfl<|.q (.lenR h) ?_
  refine .mo rfl<|.zn<|.block ?_
  refine .loopS [(0, _), (3, _), (4, _), (13, _), (14, _)] (X := Nat × List (Nat × Nat) × Seg × Seg) (λ y => y.1 <= l.length /\ y.2.1.length = y.1 /\ dsteps isWord (l.take y.1) [] = some y.2.1 /\ DI isWord l y.2.1 /\ OS 3 1 encNt (.slice (some ⟨bA, 0, none⟩) l.length l.length) (y.2.1.map (·.1) ++ List.replicate (l.length - y.1) 0) y.2.2.1 /\ OS 3 1 encNt (.slice (some ⟨bB, 0, none⟩) l.length l.length) (y.2.1.map (·.2) ++ List.replicate (l.length - y.1) 0) y.2.2.2) (λ y E => (15, iN y.1) :: E) (λ y _ => [y.2.2.1, y.2.2.2]) (λ y => l.length - y.1) (0, [], TA, TB) ⟨Nat.zero_le _, rfl, rfl, ⟨Nat.zero_le _, λ j hj => absurd hj (by simp)⟩, by simpa using hA, by simpa using hB⟩ kE.c.c.c.c.c.c rH (G := []) ?_
  rintro ⟨i, S, TA, TB⟩ ⟨hi, hSl, hS, hDI, hA, hB⟩
  simp only at hi hSl hS hDI hA hB ⊢
  refine .sr<|.q .lss<|.zs ?_
  refine .cond rfl (λ h1 => ?_) λ h1 => ?_
  have hlt : i < l.length := lt_i h1
  obtain ⟨n, hn⟩ := exg hlt
  obtain ⟨k, hk⟩ : ∃ k, l.length - i = k + 1 := ⟨l.length - i - 1, by omega⟩
  have hk' : l.length - (i + 1) = k := by omega
  rw [hk] at hA hB
  have hSn : dsteps isWord (l.take (i + 1)) [] = dstep isWord S n := by
    rw [take_next hn, dsteps_app, hS, Option.bind_some, dsteps]
    cases dstep isWord S n <;> rfl
  have hm1 : (S.map (·.1)).length = i := by rw [List.length_map, hSl]
  have hm2 : (S.map (·.2)).length = i := by rw [List.length_map, hSl]
  have hgi : ∀ j, j < i -> (S.map (·.1))[j]? = some (S.getD j (0, 0)).1 /\ (S.map (·.2))[j]? = some (S.getD j (0, 0)).2 /\ (S.getD j (0, 0)).1 <= j + 1 /\ (S.getD j (0, 0)).2 <= j + 1 /\ 1 <= (S.getD j (0, 0)).1 := λ j hj => by
    obtain ⟨d1, d2, d3⟩ := hDI.t j (by omega)
    have d4 := tree_depth _ _ _ d3
    refine ⟨?_, ?_, d2, d4, d1⟩
    · rw [List.getElem?_map, gge (by omega), List.getD_eq_getElem?_getD, gge (by omega)]; rfl
    · rw [List.getElem?_map, gge (by omega), List.getD_eq_getElem?_getD, gge (by omega)]; rfl
  obtain ⟨z1, hz1⟩ : ∃ z, (S.map (·.1) ++ List.replicate (k + 1) 0)[i]? = some z := ⟨_, gge (by rw [List.length_append, hm1, List.length_replicate]; omega)⟩
  obtain ⟨z2, hz2⟩ : ∃ z, (S.map (·.2) ++ List.replicate (k + 1) 0)[i]? = some z := ⟨_, gge (by rw [List.length_append, hm2, List.length_replicate]; omega)⟩
  have hle := h.le
  refine .kn<|.seq<|.block<|.sr<|.mo rfl ?_
  refine .indexR i h hn (λ p18 => ?_)
  refine .q (.loadA rfl) ?_
  refine .allocA (λ b6 => ?_)
  refine .ag rfl<|.storeA rfl rfl<|.zs<|.seq ?_
  refine Tri.cutS [(0, _), (3, _), (4, _), (5, _), (6, _), (13, _), (14, _), (15, _)] kE.c.c.c.c.c.c.c.c (X := Unit) (λ _ => True) (λ _ E => (32, .bool (!n.op)) :: E) (λ _ => [bl b6 n.enc 168, TA, TB]) ?_ ?_
  refine .region<|.fa rfl<|.lo rfl<|.q .neI<|.mo rfl ?_
  refine .split (t := 23) rfl (λ g5_3 => ?_) (λ g5_3 => ?_)
  refine .gT g5_3<|.fa rfl<|.gT g5_3<|.lo rfl<|.gT g5_3<|.q .neI<|.q (.pickTh g5_3) ?_
  refine .mo rfl ?_
  refine .split (t := 28) rfl (λ g5_8 => ?_) (λ g5_8 => ?_)
  refine .gT g5_8<|.fa rfl<|.gT g5_8<|.lo rfl<|.gT g5_8<|.q .neI<|.q (.pickTh g5_8) ?_
  refine .nil ?_
  · exact joinQ_n () trivial (kE.c.c.c.c.c.c.c.c.consB rfl (by clear hgi hDI hA hB hf; grind [Nd.op])) rH
  refine .gF g5_8<|.gF g5_8<|.gF g5_8<|.q (.pickFh g5_8) ?_
  refine .nil ?_
  · exact joinQ_n () trivial (kE.c.c.c.c.c.c.c.c.consB rfl (by clear hgi hDI hA hB hf; grind [Nd.op])) rH
  refine .gF g5_3<|.gF g5_3<|.gF g5_3<|.q (.pickFh g5_3) ?_
  refine .mo rfl<|.gX<|.gX<|.gX<|.q .pickF<|.nil ?_
  · exact joinQ_n () trivial (kE.c.c.c.c.c.c.c.c.consB rfl (by clear hgi hDI hA hB hf; grind [Nd.op])) rH
  intro y hy
  refine seqQ_n ?_
  refine .cond rfl (λ h2 => ?_) λ h2 => ?_
  refine .seq<|.sr<|.q (.loadA rfl) ?_
  refine .callR (leaf_spec n (hf n (mog hn)) _) (λ u hu => ?_)
  subst hu
  refine .q .not<|.zn ?_
  refine .cond rfl (λ h3 => ?_) λ h3 => ?_
  refine .sr<|.az rfl ?_
  refine .ret (seqQ_r (seqQ_r (blkQ_r (seqQ_r (loopQ_r (blkQ_r (seqQ_r (rq1 rfl ?_))))))))
  · refine ⟨?_, rfl⟩
    rw [deep_none hn hS (by unfold dstep; rw [if_neg (by have hno : n.op = false := by simpa using h2
                                                         rw [hno]; simp), if_neg (by simpa using h3)])]
    rfl
  have hno : n.op = false := by simpa using h2
  have hlf : n.leaf isWord = true := by simpa using h3
  have hds : dstep isWord S n = some (S ++ [(1, 1)]) := by unfold dstep; rw [if_neg (by rw [hno]; simp), if_pos hlf]
  refine .kn<|.sr<|.mo rfl<|.mo rfl<|.mo rfl<|.mo rfl ?_
  refine .indexO i hA hz1 (λ p40 => ?_)
  refine .storeO1 i hA hz1 1 (λ T1 hA1 => ?_)
  rw [set_grow hm1] at hA1
  refine .indexO i hB hz2 (λ p41 => ?_)
  refine .storeO1 i hB hz2 1 (λ T2 hB1 => ?_)
  rw [set_grow hm2] at hB1
  refine .zn<|.exit<|seqQ_x<|blkQ_x<|seqQ_n<|.region ?_
  refine .ia (i + 1) .add ?_
  refine .mo rfl<|.nil ?_
  · first
      | exact loopQ_i (i + 1, S ++ [(1, 1)], T1, T2) ⟨hlt, by simp [hSl], by simp only; rw [hSn, hds], hDI.step (by rw [hSl]; exact hn) hds, by simp only; rw [hk', List.map_append]; exact hA1, by simp only; rw [hk', List.map_append]; exact hB1⟩ (by simp only; omega) kE.c.c.c.c.c.c (pkH [1, 1])
      | exact loopQ_i (i + 1, S ++ [((S.getD n.a.toNat (0, 0)).1 + (S.getD (i - 1) (0, 0)).1 + 1, max (S.getD n.a.toNat (0, 0)).2 (S.getD (i - 1) (0, 0)).2 + 1)], T1, T2) ⟨hlt, by simp [hSl], by simp only; rw [hSn, hds], hDI.step (by rw [hSl]; exact hn) hds, by simp only; rw [hk', List.map_append]; exact hA1, by simp only; rw [hk', List.map_append]; exact hB1⟩ (by simp only; omega) kE.c.c.c.c.c.c (pkH [1, 1])
  refine .kn<|.seq<|.seq ?_
  refine Tri.cutS [(0, _), (3, _), (4, _), (5, _), (6, _), (13, _), (14, _), (15, _)] kE.c.c.c.c.c.c.c.c (X := Unit) (λ _ => True) (λ _ E => (79, .bool (decide (n.rel ≠ ⟨#[]⟩ \/ n.thn ≠ ⟨#[]⟩ \/ n.b ≠ (i : Int) - 1 \/ n.b < 0 \/ n.a ≠ (i : Int) - 1 - ((S.getD (i - 1) (0, 0)).1 : Nat) \/ n.a < 0))) :: E) (λ _ => [bl b6 n.enc 168, TA, TB]) ?_ ?_
  refine .region_still mixed (by kernel_rfl) ?_
  refine .fa rfl<|.lo rfl<|.q .neS<|.mo rfl ?_
  refine .split (t := 45) rfl (λ g9_3 => ?_) (λ g9_3 => ?_)
  refine .gF g9_3<|.gF g9_3<|.gF g9_3<|.q (.pickTh g9_3) ?_
  refine .mo rfl<|.gX<|.gX<|.gX<|.gX<|.gX<|.q .pickT<|.mo rfl<|.gX<|.gX<|.gX<|.q .pickT<|.mo rfl<|.gX<|.gX<|.gX<|.gX<|.gX<|.gX<|.gX<|.gX<|.gX<|.gX<|.gX<|.q .pickT<|.mo rfl<|.gX<|.gX<|.gX<|.q .pickT<|.nil ?_
  · exact joinQ_n () trivial (kE.c.c.c.c.c.c.c.c.consB rfl (by clear hgi hDI hA hB hf; grind)) rH
  refine .gT g9_3<|.fa rfl<|.gT g9_3<|.lo rfl<|.gT g9_3<|.q .neS<|.q (.pickFh g9_3) ?_
  refine .mo rfl ?_
  refine .split (t := 50) rfl (λ g9_8 => ?_) (λ g9_8 => ?_)
  refine .gF g9_8<|.gF g9_8<|.gF g9_8<|.gF g9_8<|.gF g9_8<|.q (.pickTh g9_8) ?_
  refine .mo rfl<|.gX<|.gX<|.gX<|.q .pickT<|.mo rfl<|.gX<|.gX<|.gX<|.gX<|.gX<|.gX<|.gX<|.gX<|.gX<|.gX<|.gX<|.q .pickT<|.mo rfl<|.gX<|.gX<|.gX<|.q .pickT<|.nil ?_
  · exact joinQ_n () trivial (kE.c.c.c.c.c.c.c.c.consB rfl (by clear hgi hDI hA hB hf; grind)) rH
  refine .gT g9_8<|.fa rfl<|.gT g9_8<|.lo rfl<|.gT g9_8<|.mo rfl<|.gT g9_8 ?_
  refine .q (.i64 ((i : Int) - 1) .sub ⟨rfl, by omega, by omega⟩) ?_
  refine .gT g9_8<|.q .neI<|.q (.pickFh g9_8) ?_
  refine .mo rfl ?_
  refine .split (t := 57) rfl (λ g9_15 => ?_) (λ g9_15 => ?_)
  refine .gF g9_15<|.gF g9_15<|.gF g9_15<|.q (.pickTh g9_15) ?_
  refine .mo rfl<|.gX<|.gX<|.gX<|.gX<|.gX<|.gX<|.gX<|.gX<|.gX<|.gX<|.gX<|.q .pickT<|.mo rfl<|.gX<|.gX<|.gX<|.q .pickT<|.nil ?_
  · exact joinQ_n () trivial (kE.c.c.c.c.c.c.c.c.consB rfl (by clear hgi hDI hA hB hf; grind)) rH
  refine .gT g9_15<|.fa rfl<|.gT g9_15<|.lo rfl<|.gT g9_15<|.q .lss<|.q (.pickFh g9_15) ?_
  refine .mo rfl ?_
  refine .split (t := 62) rfl (λ g9_20 => ?_) (λ g9_20 => ?_)
  refine .gF g9_20<|.gF g9_20<|.gF g9_20<|.gF g9_20<|.gF g9_20<|.gF g9_20<|.gF g9_20<|.gF g9_20<|.gF g9_20<|.gF g9_20<|.gF g9_20<|.q (.pickTh g9_20) ?_
  refine .mo rfl<|.gX<|.gX<|.gX<|.q .pickT<|.nil ?_
  · exact joinQ_n () trivial (kE.c.c.c.c.c.c.c.c.consB rfl (by clear hgi hDI hA hB hf; grind)) rH
  have hi1 : 1 <= i := by clear hgi hDI hA hB; grind
  obtain ⟨q1, q2, q3, q4, q5⟩ := hgi (i - 1) (by omega)
  have q1' := grow_get (k := k + 1) q1
  refine .gT g9_20<|.fa rfl<|.gT g9_20<|.lo rfl<|.gT g9_20<|.mo rfl<|.gT g9_20 ?_
  refine .q (.i64 ((i : Int) - 1) .sub ⟨rfl, by omega, by omega⟩) ?_
  refine .gT g9_20<|.mo rfl<|.gT g9_20<|.mo rfl<|.gT g9_20 ?_
  refine .q (.i64 ((i : Int) - 1) .sub ⟨rfl, by omega, by omega⟩) ?_
  refine .gT g9_20 ?_
  refine .indexO (i - 1) hA q1' (λ p70 => ?_) rfl rfl (by omega)
  refine .gT g9_20<|.lo rfl<|.gT g9_20 ?_
  refine .q (.i64 ((i : Int) - 1 - ((S.getD (i - 1) (0, 0)).1 : Nat)) .sub ⟨rfl, by omega, by omega⟩) ?_
  refine .gT g9_20<|.q .neI<|.q (.pickFh g9_20) ?_
  refine .mo rfl ?_
  refine .split (t := 75) rfl (λ g9_33 => ?_) (λ g9_33 => ?_)
  refine .gF g9_33<|.gF g9_33<|.gF g9_33<|.q (.pickTh g9_33) ?_
  refine .nil ?_
  · exact joinQ_n () trivial (kE.c.c.c.c.c.c.c.c.consB rfl (by clear hgi hDI hA hB hf; grind)) rH
  refine .gT g9_33<|.fa rfl<|.gT g9_33<|.lo rfl<|.gT g9_33<|.q .lss<|.q (.pickFh g9_33) ?_
  refine .nil ?_
  · exact joinQ_n () trivial (kE.c.c.c.c.c.c.c.c.consB rfl (by clear hgi hDI hA hB hf; grind)) rH
  intro y hy
  refine seqQ_n ?_
  refine .cond rfl (λ h4 => ?_) λ h4 => ?_
  have hop : n.op = true := by simpa using h2
  have hbad : dbad S n := by unfold dbad; rw [hSl]; exact odt h4
  refine .sr<|.az rfl ?_
  refine .ret (seqQ_r (blkQ_r (seqQ_r (loopQ_r (blkQ_r (seqQ_r (rq1 rfl ?_)))))))
  · refine ⟨?_, rfl⟩
    rw [deep_none hn hS (dstep_bad hop hbad)]
    rfl
  have hop : n.op = true := by simpa using h2
  have hbad : ¬ dbad S n := by unfold dbad; rw [hSl]; exact odf h4
  have hb2 := hbad
  unfold dbad at hb2
  simp only [not_or, Decidable.not_not, hSl] at hb2
  obtain ⟨b1_, b2_, b3_, b4_, b5_, b6_⟩ := hb2
  obtain ⟨q1, q2, q3, q4, q5⟩ := hgi (i - 1) (by omega)
  obtain ⟨r1, r2, r3, r4, r5⟩ := hgi n.a.toNat (by omega)
  have hbi : n.b.toNat = i - 1 := by omega
  have q1' := grow_get (k := k + 1) q1
  have q2' := grow_get (k := k + 1) q2
  have r1' := grow_get (k := k + 1) r1
  have r2' := grow_get (k := k + 1) r2
  have hds : dstep isWord S n = some (S ++ [((S.getD n.a.toNat (0, 0)).1 + (S.getD (i - 1) (0, 0)).1 + 1, max (S.getD n.a.toNat (0, 0)).2 (S.getD (i - 1) (0, 0)).2 + 1)]) := by
    rw [dstep_good hop hbad, hbi]
  refine .kn<|.seq ?_
  refine .region_tail 15 mixed (by kernel_rfl) ?_
  conv => arg 6; dsimp only [List.take]
  refine .mo rfl<|.mo rfl<|.mo rfl<|.fa rfl<|.lo rfl ?_
  refine .indexO n.a.toNat hA r1' (λ p85 => ?_) rfl rfl (by omega)
  refine .lo rfl<|.mo rfl<|.fa rfl<|.lo rfl ?_
  refine .indexO (i - 1) hA q1' (λ p90 => ?_) rfl rfl (by omega)
  refine .lo rfl ?_
  refine .q (.i64 (((S.getD n.a.toNat (0, 0)).1 + (S.getD (i - 1) (0, 0)).1 : Nat) : Int) .add ⟨by push_cast; rfl, by omega, by omega⟩) ?_
  refine .q (.i64 (((S.getD n.a.toNat (0, 0)).1 + (S.getD (i - 1) (0, 0)).1 + 1 : Nat) : Int) .add ⟨by push_cast; rfl, by omega, by omega⟩) ?_
  refine .indexO i hA hz1 (λ p94 => ?_)
  refine .nil ?_
  refine .storeO1 i hA hz1 ((S.getD n.a.toNat (0, 0)).1 + (S.getD (i - 1) (0, 0)).1 + 1) (λ T1 hA1 => ?_)
  rw [set_grow hm1] at hA1
  refine .zn ?_
  refine .region_tail 15 mixed (by kernel_rfl) ?_
  conv => arg 6; dsimp only [List.take]
  refine .mo rfl<|.mo rfl<|.mo rfl<|.fa rfl<|.lo rfl ?_
  refine .indexO n.a.toNat hB r2' (λ p100 => ?_) rfl rfl (by omega)
  refine .lo rfl<|.mo rfl<|.fa rfl<|.lo rfl ?_
  refine .indexO (i - 1) hB q2' (λ p105 => ?_) rfl rfl (by omega)
  refine .lo rfl<|.q .maxI ?_
  refine .q (.i64 ((max (S.getD n.a.toNat (0, 0)).2 (S.getD (i - 1) (0, 0)).2 + 1 : Nat) : Int) .add ⟨by omega, by omega, by omega⟩) ?_
  refine .indexO i hB hz2 (λ p109 => ?_)
  refine .nil ?_
  refine .storeO1 i hB hz2 (max (S.getD n.a.toNat (0, 0)).2 (S.getD (i - 1) (0, 0)).2 + 1) (λ T2 hB1 => ?_)
  rw [set_grow hm2] at hB1
  refine .nil<|blkQ_n<|seqQ_n<|.region ?_
  refine .ia (i + 1) .add ?_
  refine .mo rfl<|.nil ?_
  · first
      | exact loopQ_i (i + 1, S ++ [(1, 1)], T1, T2) ⟨hlt, by simp [hSl], by simp only; rw [hSn, hds], hDI.step (by rw [hSl]; exact hn) hds, by simp only; rw [hk', List.map_append]; exact hA1, by simp only; rw [hk', List.map_append]; exact hB1⟩ (by simp only; omega) kE.c.c.c.c.c.c (pkH [1, 1])
      | exact loopQ_i (i + 1, S ++ [((S.getD n.a.toNat (0, 0)).1 + (S.getD (i - 1) (0, 0)).1 + 1, max (S.getD n.a.toNat (0, 0)).2 (S.getD (i - 1) (0, 0)).2 + 1)], T1, T2) ⟨hlt, by simp [hSl], by simp only; rw [hSn, hds], hDI.step (by rw [hSl]; exact hn) hds, by simp only; rw [hk', List.map_append]; exact hA1, by simp only; rw [hk', List.map_append]; exact hB1⟩ (by simp only; omega) kE.c.c.c.c.c.c (pkH [1, 1])
  have hie : i = l.length := by have := odf h1; omega
  subst hie
  rw [List.take_length] at hS
  rw [Nat.sub_self] at hA hB
  simp only [List.replicate_zero, List.append_nil] at hA hB
  have hle := h.le
  refine .exit<|seqQ_x<|loopQ_x<|blkQ_x<|seqQ_n<|.seq<|.seq ?_
  refine Tri.cutS [(0, _), (4, _)] kE.c.c (X := Unit) (λ _ => True) (λ _ E => (124, .bool (decide (l = [] \/ (S.getD (l.length - 1) (0, 0)).1 ≠ l.length))) :: E) (λ _ => [TA, TB]) ?_ ?_
  refine .region<|.mo rfl<|.q (.lenR h) ?_
  refine .q .eqI<|.mo rfl ?_
  refine .split (t := 114) rfl (λ g14_3 => ?_) (λ g14_3 => ?_)
  refine .gF g14_3<|.gF g14_3<|.gF g14_3<|.gF g14_3<|.gF g14_3<|.gF g14_3<|.gF g14_3<|.gF g14_3<|.gF g14_3<|.q (.pickTh g14_3) ?_
  refine .nil ?_
  · exact joinQ_n () trivial (kE.c.c.consB rfl (by clear hf hDI hA hB; rcases l with _ | ⟨x, l⟩ <;> simp at * <;> grind)) rH
  have hl1 : 1 <= l.length := by have := odf g14_3; omega
  have hgl : (S.map (·.1))[l.length - 1]? = some (S.getD (l.length - 1) (0, 0)).1 := by rw [List.getElem?_map, gge (by omega), List.getD_eq_getElem?_getD, gge (by omega)]; rfl
  refine .gT g14_3<|.mo rfl<|.gT g14_3<|.mo rfl<|.gT g14_3<|.q (.lenR h) ?_
  refine .gT g14_3 ?_
  refine .q (.i64 ((l.length : Int) - 1) .sub ⟨rfl, by omega, by omega⟩) ?_
  refine .gT g14_3 ?_
  refine .indexO (l.length - 1) hA hgl (λ p119 => ?_) rfl rfl (by omega)
  refine .gT g14_3<|.lo rfl<|.gT g14_3<|.mo rfl<|.gT g14_3<|.q (.lenR h) ?_
  refine .gT g14_3<|.q .neI<|.q (.pickFh g14_3) ?_
  refine .nil ?_
  · exact joinQ_n () trivial (kE.c.c.consB rfl (by clear hf hDI hA hB; rcases l with _ | ⟨x, l⟩ <;> simp at * <;> grind)) rH
  intro y hy
  refine seqQ_n ?_
  refine .cond rfl (λ h5 => ?_) λ h5 => ?_
  refine .sr<|.az rfl ?_
  refine .ret (seqQ_r (rq1 rfl ?_))
  · refine ⟨?_, rfl⟩
    unfold deepC
    rw [hS]
    simp only
    rw [if_pos (odt h5)]
    rfl
  have hcn := odf h5
  have hl1 : 1 <= l.length := by rcases l with _ | ⟨x, l⟩ <;> simp at hcn ⊢
  have hgl2 : (S.map (·.2))[l.length - 1]? = some (S.getD (l.length - 1) (0, 0)).2 := by rw [List.getElem?_map, gge (by omega), List.getD_eq_getElem?_getD, gge (by omega)]; rfl
  refine .kn<|.sr<|.mo rfl<|.mo rfl<|.q (.lenR h) ?_
  refine .q (.i64 ((l.length : Int) - 1) .sub ⟨rfl, by omega, by omega⟩) ?_
  refine .indexO (l.length - 1) hB hgl2 (λ p129 => ?_) rfl rfl (by omega)
  refine .lo rfl<|.az rfl ?_
  refine .ret (rq1 rfl ?_)
  · refine ⟨?_, rfl⟩
    unfold deepC
    rw [hS]
    simp only
    rw [if_neg hcn]
theorem Ty.kinds (t : Ty) : HasK [.s, .s] t.enc := ⟨trivial, trivial, trivial⟩
theorem Ty.eq (a b : Ty) : cellsEq a.enc b.enc = decide (a = b) := by
 obtain ⟨a1, a2⟩ := a
 obtain ⟨b1, b2⟩ := b
 rw [Bool.eq_iff_iff]
 simp [Ty.enc, cellsEq, cellEq]
theorem kindOK_spec (t : Ty) (hf : t.fits) (R : Rds) : Spec prog 196 [.agg t.enc.toArray] R [] λ u H' => u = .bool (kindOK isWord t) /\ H' = [] := by
 obtain ⟨s, r⟩ := t
 obtain ⟨f1, f2⟩ := hf
 simp only at f1 f2
 refine Spec.body Tryz.func196 rfl Tryz.results196 Tryz.ntmps196 rfl<|.sr ?_
 refine .boxA rfl (λ b1 => ?_)
 refine .ag rfl<|.z<|.q (.loadA rfl)<|.q .bld<|.q (.cast (.eqA (xs := Ty.enc ⟨s, r⟩) (ys := Ty.enc ⟨⟨#[]⟩, ⟨#[]⟩⟩) rfl rfl (Ty.kinds _) (Ty.kinds _)) (congrArg Value.bool (Ty.eq _ _)))<|.mo rfl<|.split (t := 6) rfl (λ g1_3 => ?_) (λ g1_3 => ?_)
 refine .gF g1_3<|.gF g1_3<|.gF g1_3<|.gF g1_3<|.gfU rfl<|.gfU rfl<|.gfU rfl<|.gF g1_3<|.q (.pickTh g1_3)<|.az rfl<|.ret (rq1 rfl ?_)
 ·refine ⟨congrArg _ ?_, rfl⟩
  simp only [kindOK]
  grind
 refine .gT g1_3<|.fa rfl<|.gT g1_3<|.lo rfl<|.gT g1_3<|.callR (word_spec s f1 _) (λ u hu => ?_)
 subst hu
 refine .gT g1_3<|.mo rfl<|.split (t := 10) rfl (λ g1_7 => ?_) (λ g1_7 => ?_)
 refine .gT g1_7<|.fa rfl<|.gT g1_7<|.lo rfl<|.gT g1_7<|.callR (word_spec r f2 _) (λ u hu => ?_)
 subst hu
 refine .gT g1_3<|.q (.pickTh g1_7)<|.q (.pickFh g1_3)<|.az rfl<|.ret (rq1 rfl ?_)
 ·refine ⟨congrArg _ ?_, rfl⟩
  simp only [kindOK]
  grind
 refine .gF g1_7<|.gF g1_7<|.gF g1_7<|.gT g1_3<|.q (.pickFh g1_7)<|.q (.pickFh g1_3)<|.az rfl<|.ret (rq1 rfl ?_)
 ·refine ⟨congrArg _ ?_, rfl⟩
  simp only [kindOK]
  grind
theorem right1_spec (t : Ty) (hf : t.fits) (R : Rds) : Spec prog 195 [.agg t.enc.toArray] R [] λ u H' => u = .bool (!kindOK isWord t) /\ H' = [] := by
 refine Spec.body Tryz.func195 rfl Tryz.results195 Tryz.ntmps195 rfl<|.sr ?_
 refine .boxA rfl (λ b1 => ?_)
 refine .ag rfl<|.z<|.q (.loadA rfl)<|.callR (kindOK_spec t hf _) (λ u hu => ?_)
 subst hu
 refine .q .not<|.az rfl<|.ret (rq1 rfl ?_)
 ·exact ⟨rfl, rfl⟩
theorem right2_spec (s : Sc) (hf : s.fits) (R : Rds) : Spec prog 198 [.agg s.enc.toArray] R [] λ u H' => u = .bool (!scOK isWord isRef s) /\ H' = [] := by
 obtain ⟨n, os, oi, r⟩ := s
 obtain ⟨f1, f2, f3, f4⟩ := hf
 simp only at f1 f2 f3 f4
 refine Spec.body Tryz.func198 rfl Tryz.results198 Tryz.ntmps198 rfl<|.sr ?_
 refine .boxA rfl (λ b1 => ?_)
 refine .ag rfl<|.z<|.fa rfl<|.lo rfl<|.callR (word_spec n f1 _) (λ u hu => ?_)
 subst hu
 refine .q .not<|.mo rfl<|.split (t := 7) rfl (λ g1_4 => ?_) (λ g1_4 => ?_)
 refine .gF g1_4<|.gF g1_4<|.gF g1_4<|.gF g1_4<|.q (.pickTh g1_4)<|.mo rfl<|.gX<|.gX<|.gX<|.gX<|.q .pickT<|.az rfl<|.ret (rq1 rfl ?_)
 ·refine ⟨congrArg _ ?_, rfl⟩
  simp only [scOK]
  grind
 refine .gT g1_4<|.fa rfl<|.gT g1_4<|.q (.loadT rfl)<|.gT g1_4<|.callR (checkRef_spec os oi f2 f3 _) (λ u hu => ?_)
 subst hu
 refine .gT g1_4<|.q .neI<|.q (.pickFh g1_4)<|.mo rfl<|.split (t := 13) rfl (λ g1_10 => ?_) (λ g1_10 => ?_)
 refine .gF g1_10<|.gF g1_10<|.gF g1_10<|.gF g1_10<|.q (.pickTh g1_10)<|.az rfl<|.ret (rq1 rfl ?_)
 ·refine ⟨congrArg _ ?_, rfl⟩
  simp only [scOK]
  grind
 refine .gT g1_10<|.fa rfl<|.gT g1_10<|.lo rfl<|.gT g1_10<|.callR (word_spec r f4 _) (λ u hu => ?_)
 subst hu
 refine .gT g1_10<|.q .not<|.q (.pickFh g1_10)<|.az rfl<|.ret (rq1 rfl ?_)
 ·refine ⟨congrArg _ ?_, rfl⟩
  simp only [scOK]
  grind
theorem much1_spec (p : RlM) (R : Rds) (h : p.is R) (R' : Rds) (hR : ∀ b o, R b o -> R' b o) : Spec prog 181 [.agg p.enc.toArray] R' [] λ u H' => u = .bool (muchR isWord p.r) /\ H' = [] := by
 obtain ⟨vt, vn, r⟩ := p
 have hrt : RS R 2 Ty.enc vt r.types := h.t
 have hrd : RS R 5 Nd.enc vn r.nodes := h.d
 have irt := hrt.oneCell
 have ird := hrd.oneCell
 refine Spec.body Tryz.func181 rfl Tryz.results181 Tryz.ntmps181 rfl<|.sr ?_
 refine .boxA rfl (λ b1 => ?_)
 refine .ag rfl<|.z<|.fa rfl<|.lo rfl<|.q (.lenR hrt)<|.q .gtr<|.mo rfl<|.split (t := 7) rfl (λ g1_4 => ?_) (λ g1_4 => ?_)
 refine .gF g1_4<|.gF g1_4<|.gF g1_4<|.gF g1_4<|.q (.pickTh g1_4)<|.mo rfl<|.gX<|.gX<|.gX<|.gX<|.q .pickT<|.az rfl<|.ret (rq1 rfl ?_)
 ·refine ⟨congrArg _ ?_, rfl⟩
  simp only [muchR]
  grind
 refine .gT g1_4<|.fa rfl<|.gT g1_4<|.lo rfl<|.gT g1_4<|.q (.lenR hrd)<|.gT g1_4<|.q .gtr<|.q (.pickFh g1_4)<|.mo rfl<|.split (t := 13) rfl (λ g1_10 => ?_) (λ g1_10 => ?_)
 refine .gF g1_10<|.gF g1_10<|.gF g1_10<|.gF g1_10<|.q (.pickTh g1_10)<|.az rfl<|.ret (rq1 rfl ?_)
 ·refine ⟨congrArg _ ?_, rfl⟩
  simp only [muchR]
  grind
 have hn64 : r.nodes.length <= 64 := by grind
 refine .gT g1_10<|.fa rfl<|.gT g1_10<|.lo rfl<|.gT g1_10<|.callR ((deep_spec vn r.nodes R hrd h.fd (by omega)).weaken λ b o hb => .inl (hR b o hb)) (λ u hu => ?_)
 subst hu
 refine .gT g1_10<|.q .gtr<|.q (.pickFh g1_10)<|.az rfl<|.ret (rq1 rfl ?_)
 ·refine ⟨congrArg _ ?_, rfl⟩
  simp only [muchR]
  grind
theorem within_spec (c : CfM) (R : Rds) (h : c.is R) : Spec prog 119 [.agg c.enc.toArray] R [] λ u H' => u = .bool (!c.plain.much isWord) /\ H' = [] := by
 rw [much_eq]
 obtain ⟨vs, vc, sps, scs⟩ := c
 have hss := h.ss
 have hsc := h.sc
 have i1 := hss.oneCell
 have i2 := hsc.oneCell
 simp only at hss hsc i1 i2 ⊢
 have hle := hss.le
 refine Spec.body Tryz.func119 rfl Tryz.results119 Tryz.ntmps119 rfl<|.sr ?_
 refine .boxA rfl (λ b1 => ?_)
 refine .ag rfl<|.zs<|.seq ?_
 refine Tri.cutS [(1, _)] kE.c (X := Unit) (λ _ => True) (λ _ E => (14, .bool (decide (16 < sps.length) || decide (16 < scs.length))) :: E) (λ _ => [bl b1 [vs, vc] 25]) ?_ ?_
 refine .region<|.fa rfl<|.lo rfl<|.q (.lenR hss)<|.q .gtr<|.mo rfl<|.split (t := 9) rfl (λ g1_4 => ?_) (λ g1_4 => ?_)
 refine .gF g1_4<|.gF g1_4<|.gF g1_4<|.gF g1_4<|.q (.pickTh g1_4)<|.nil ?_
 ·exact joinQ_n () trivial (kE.c.consB rfl (by grind)) rH
 refine .gT g1_4<|.fa rfl<|.gT g1_4<|.lo rfl<|.gT g1_4<|.q (.lenR hsc)<|.gT g1_4<|.q .gtr<|.q (.pickFh g1_4)<|.nil ?_
 ·exact joinQ_n () trivial (kE.c.consB rfl (by grind)) rH
 intro y hy
 refine seqQ_n<|.cond rfl (λ h1 => ?_) λ h1 => ?_
 refine .sr<|.az rfl<|.ret (seqQ_r (rq1 rfl ?_))
 ·exact ⟨by rw [h1]; rfl, rfl⟩
 refine .kn<|.seq<|.sr<|.fa rfl<|.lo rfl<|.q (.lenR hss)<|.mo rfl<|.zn<|.block<|.loopS [(16, _), (17, _)] (X := Nat) (λ i => i <= sps.length /\ (sps.take i).any mSp = false) (λ i E => (18, iN i) :: E) (λ _ G => G) (λ i => sps.length - i) 0 ⟨Nat.zero_le _, rfl⟩ kE.c.c.c rH ?_
 rintro i ⟨hi, hq⟩
 refine .sr<|.q .lss<|.zs<|.cond rfl (λ h2 => ?_) λ h2 => ?_
 have hlt : i < sps.length := lt_i h2
 obtain ⟨⟨sn, sv, rls⟩, hs⟩ := exg hlt
 have hsi := h.all _ (mog hs)
 have hrs : RS R 3 RlM.enc sv rls := hsi.rs
 have irs := hrs.oneCell
 have isp : Ones (SpM.enc ⟨sn, sv, rls⟩) := ⟨hsi.ones⟩
 refine .kn<|.seq<|.block<|.sr ?_
 refine .indexR i hss hs (λ p20 => ?_)
 refine .q (.loadA rfl) ?_
 refine .allocA (λ b4 => ?_)
 refine .storeA rfl rfl<|.zs ?_
 refine Tri.cutS [(16, _), (17, _), (18, _)] kE.c.c.c (X := Unit) (λ _ => True) (λ _ E => (30, .bool (mSp ⟨sn, sv, rls⟩)) :: E) (λ _ => [bl b1 [vs, vc] 25]) ?_ ?_
 refine .region<|.fa rfl<|.lo rfl<|.q (.lenR hrs)<|.q .gtr<|.mo rfl<|.split (t := 26) rfl (λ g6_4 => ?_) (λ g6_4 => ?_)
 refine .gF g6_4<|.gF g6_4<|.gF g6_4<|.q (.pickTh g6_4)<|.nil ?_
 ·exact joinQ_n () trivial (kE.c.c.c.consB rfl (by unfold mSp; simp only; grind)) (pkH [1])
 refine .gT g6_4<|.fa rfl<|.gT g6_4<|.lo rfl<|.gT g6_4<|.callR (LRE.containsF_spec 181 [] (λ r => muchR isWord r.r) sv rls _ hrs.rx (λ r hr R' hR' => much1_spec r R (hsi.all r hr) R' λ b o hb => hR' b o (.inl hb))) (λ u hu => ?_)
 subst hu
 refine .q (.pickFh g6_4)<|.nil ?_
 ·exact joinQ_n () trivial (kE.c.c.c.consB rfl (by unfold mSp; simp only; grind)) (pkH [1])
 intro y hy
 refine seqQ_n<|.cond rfl (λ h3 => ?_) λ h3 => ?_
 refine .sr<|.az rfl<|.ret (blkQ_r (seqQ_r (loopQ_r (blkQ_r (seqQ_r (rq1 rfl ?_))))))
 ·refine ⟨?_, rfl⟩
  rw [any_hit hs (f := mSp) h3, Bool.or_true]
  rfl
 refine .skip<|blkQ_n<|seqQ_n<|.region<|.ia (i + 1) .add<|.mo rfl<|.nil ?_
 ·exact loopQ_i (i + 1) ⟨hlt, any_next hs hq h3⟩ (by omega) kE.c.c.c rH
 refine .exit<|seqQ_x<|loopQ_x<|blkQ_x<|seqQ_n<|.sr<|.az rfl<|.ret (rq1 rfl ?_)
 ·refine ⟨?_, rfl⟩
  have h1' : (decide (16 < sps.length) || decide (16 < scs.length)) = false := h1
  have hend : sps.any mSp = false := by rw [<- take_end (l := sps) (i := i) (by have := odf h2; omega)]; exact hq
  rw [h1', hend]
  rfl
theorem right_spec (c : CfM) (R : Rds) (h : c.is R) : Spec prog 156 [.agg c.enc.toArray] R [] λ u H' => u = .bool (c.plain.right isWord isRef) /\ H' = [] := by
 have hw := within_spec c R h
 have hr : c.plain.much isWord = false -> c.few /\ ∀ s ∈ c.spaces, ∀ r ∈ s.rels, r.r.nodes.length <= 64 := λ hm => by
  rw [much_eq] at hm
  simp only [Bool.or_eq_false_iff, decide_eq_false_iff_not, List.any_eq_false, Nat.not_lt] at hm
  refine ⟨⟨by omega, λ s hs => ?_⟩, λ s hs r hr => ?_⟩
  ·have := hm.2 s hs
   unfold mSp at this
   simp only [Bool.or_eq_true, decide_eq_true_eq, not_or, Nat.not_lt] at this
   exact this.1
  ·have := hm.2 s hs
   unfold mSp at this
   simp only [Bool.or_eq_true, decide_eq_true_eq, not_or, Nat.not_lt, List.any_eq_true, not_exists, not_and] at this
   have h2 := this.2 r hr
   unfold muchR at h2
   simp only [Bool.or_eq_true, decide_eq_true_eq, not_or, Nat.not_lt] at h2
   exact h2.1.2
 rw [right_eq]
 generalize hmu : c.plain.much isWord = mu at *
 obtain ⟨vs, vc, sps, scs⟩ := c
 have hss := h.ss
 have hsc := h.sc
 have i1 := hss.oneCell
 have i2 := hsc.oneCell
 simp only at hss hsc i1 i2 ⊢
 have hle := hss.le
 refine Spec.body Tryz.func156 rfl Tryz.results156 Tryz.ntmps156 rfl<|.sr ?_
 refine .boxA rfl (λ b1 => ?_)
 refine .ag rfl<|.zs<|.sr<|.q (.loadA rfl)<|.callR (hw.weaken rxl) (λ u hu => ?_)
 subst hu
 refine .q .not<|.zn<|.cond rfl (λ h1 => ?_) λ h1 => ?_
 have hmt : mu = true := by simpa using h1
 refine .sr<|.az rfl<|.ret (seqQ_r (rq1 rfl ?_))
 ·refine ⟨?_, rfl⟩
  rw [hmt]
  simp
 have hmf : mu = false := by simpa using h1
 obtain ⟨hfew, hn64⟩ := hr hmf
 simp only at hn64
 refine .kn<|.seq<|.sr<|.fa rfl<|.lo rfl<|.q (.lenR hss)<|.mo rfl<|.zn<|.block<|.loopS [(1, _), (11, _), (12, _)] (X := Nat) (λ i => i <= sps.length /\ (sps.take i).all rSp = true) (λ i E => (13, iN i) :: E) (λ _ G => G) (λ i => sps.length - i) 0 ⟨Nat.zero_le _, rfl⟩ kE.c.c.c.c rH ?_
 rintro i ⟨hi, hq⟩
 refine .sr<|.q .lss<|.zs<|.cond rfl (λ h2 => ?_) λ h2 => ?_
 have hlt : i < sps.length := lt_i h2
 obtain ⟨⟨sn, sv, rls⟩, hs⟩ := exg hlt
 have hsi := h.all _ (mog hs)
 have hrs : RS R 3 RlM.enc sv rls := hsi.rs
 have irs := hrs.oneCell
 have hler := hrs.le
 have isp : Ones (SpM.enc ⟨sn, sv, rls⟩) := ⟨hsi.ones⟩
 refine .kn<|.seq<|.block<|.sr ?_
 refine .indexR i hss hs (λ p15 => ?_)
 refine .q (.loadA rfl) ?_
 refine .allocA (λ b4 => ?_)
 refine .storeA rfl rfl<|.zs<|.sr<|.fa rfl<|.lo rfl<|.callR (word_spec sn hsi.n _) (λ u hu => ?_)
 subst hu
 refine .q .not<|.zn<|.cond rfl (λ h3 => ?_) λ h3 => ?_
 refine .sr<|.az rfl<|.ret (seqQ_r (blkQ_r (seqQ_r (loopQ_r (blkQ_r (seqQ_r (rq1 rfl ?_)))))))
 ·refine ⟨?_, rfl⟩
  rw [all_miss hs (f := rSp) (by unfold rSp; simp only; rw [show isWord sn = false by simpa using h3]; rfl)]
  rfl
 refine .kn<|.sr<|.fa rfl<|.lo rfl<|.q (.lenR hrs)<|.mo rfl<|.zn<|.block<|.loopS [(1, _), (11, _), (12, _), (13, _), (22, _), (23, _)] (X := Nat) (λ k => k <= rls.length /\ (rls.take k).all rRl = true) (λ k E => (24, iN k) :: E) (λ _ G => G) (λ k => rls.length - k) 0 ⟨Nat.zero_le _, rfl⟩ kE.c.c.c.c.c.c.c rH ?_
 rintro k ⟨hk, hqk⟩
 refine .sr<|.q .lss<|.zs<|.cond rfl (λ h4 => ?_) λ h4 => ?_
 have hkt : k < rls.length := lt_i h4
 obtain ⟨⟨vt, vn, r⟩, hr⟩ := exg hkt
 have hri := hsi.all _ (mog hr)
 have hrt : RS R 2 Ty.enc vt r.types := hri.t
 have hrd : RS R 5 Nd.enc vn r.nodes := hri.d
 have irt := hrt.oneCell
 have ird := hrd.oneCell
 have hone : Ones (RlM.enc ⟨vt, vn, r⟩) := ⟨hri.ones⟩
 have hrn : r.nodes.length <= 64 := hn64 _ (mog hs) _ (mog hr)
 refine .kn<|.seq<|.block<|.sr ?_
 refine .indexR k hrs hr (λ p26 => ?_)
 refine .q (.loadA rfl) ?_
 refine .allocA (λ b6 => ?_)
 refine .storeA rfl rfl<|.zs ?_
 refine Tri.cutS [(1, _), (11, _), (12, _), (13, _), (22, _), (23, _), (24, _)] kE.c.c.c.c.c.c.c (X := Unit) (λ _ => True) (λ _ E => (42, .bool (!rRl ⟨vt, vn, r⟩)) :: E) (λ _ => [bl b4 (SpM.enc ⟨sn, sv, rls⟩) 187, bl b1 [vs, vc] 25]) ?_ ?_
 refine .region<|.fa rfl<|.lo rfl<|.callR (word_spec r.name hri.n _) (λ u hu => ?_)
 subst hu
 refine .q .not<|.mo rfl<|.split (t := 32) rfl (λ g11_4 => ?_) (λ g11_4 => ?_)
 refine .gF g11_4<|.gF g11_4<|.gF g11_4<|.gF g11_4<|.q (.pickTh g11_4)<|.mo rfl<|.gX<|.gX<|.gX<|.q .pickT<|.nil ?_
 ·exact joinQ_n () trivial (kE.c.c.c.c.c.c.c.consB rfl (by
   have e : (r.types.any λ t => !kindOK isWord t) = !rTy ⟨vt, vn, r⟩ := by unfold rTy; simp [List.not_all_eq_any_not]
   unfold rRl
   simp only [e] at *
   grind)) (pkH [1, 1])
 refine .gT g11_4<|.fa rfl<|.gT g11_4<|.lo rfl<|.gT g11_4<|.callR ((deep_spec vn r.nodes R hrd hri.fd (by omega)).weaken rxl) (λ u hu => ?_)
 subst hu
 refine .gT g11_4<|.q .eqI<|.q (.pickFh g11_4)<|.mo rfl<|.split (t := 38) rfl (λ g11_10 => ?_) (λ g11_10 => ?_)
 refine .gF g11_10<|.gF g11_10<|.gF g11_10<|.q (.pickTh g11_10)<|.nil ?_
 ·exact joinQ_n () trivial (kE.c.c.c.c.c.c.c.consB rfl (by
   have e : (r.types.any λ t => !kindOK isWord t) = !rTy ⟨vt, vn, r⟩ := by unfold rTy; simp [List.not_all_eq_any_not]
   unfold rRl
   simp only [e] at *
   grind)) (pkH [1, 1])
 refine .gT g11_10<|.fa rfl<|.gT g11_10<|.lo rfl<|.gT g11_10<|.callR (LTY.containsF_spec 195 [] (λ t => !kindOK isWord t) vt r.types _ hrt.rx (λ t ht R' hR' => right1_spec t (hri.ft t ht) R')) (λ u hu => ?_)
 subst hu
 refine .q (.pickFh g11_10)<|.nil ?_
 ·exact joinQ_n () trivial (kE.c.c.c.c.c.c.c.consB rfl (by
   have e : (r.types.any λ t => !kindOK isWord t) = !rTy ⟨vt, vn, r⟩ := by unfold rTy; simp [List.not_all_eq_any_not]
   unfold rRl
   simp only [e] at *
   grind)) (pkH [1, 1])
 intro y hy
 refine seqQ_n<|.cond rfl (λ h5 => ?_) λ h5 => ?_
 refine .sr<|.az rfl<|.ret (blkQ_r (seqQ_r (loopQ_r (blkQ_r (blkQ_r (seqQ_r (loopQ_r (blkQ_r (seqQ_r (rq1 rfl ?_))))))))))
 ·refine ⟨?_, rfl⟩
  rw [all_miss hs (f := rSp) (by unfold rSp; simp only; rw [all_miss hr (f := rRl) (by simpa using h5), Bool.and_false])]
  rfl
 refine .skip<|blkQ_n<|seqQ_n<|.region<|.ia (k + 1) .add<|.mo rfl<|.nil ?_
 ·exact loopQ_i (k + 1) ⟨hkt, all_next hr hqk (by simpa using h5)⟩ (by omega) kE.c.c.c.c.c.c.c rH
 have hm : rSp ⟨sn, sv, rls⟩ = true := by
  have h5 : rls.all rRl = true := by rw [<- take_end (l := rls) (i := k) (by have := odf h4; omega)]; exact hqk
  unfold rSp
  simp only [h5, Bool.and_true]
  simpa using h3
 refine .exit<|seqQ_x<|loopQ_x<|blkQ_x<|blkQ_n<|seqQ_n<|.region<|.ia (i + 1) .add<|.mo rfl<|.nil ?_
 ·exact loopQ_i (i + 1) ⟨hlt, all_next hs hq hm⟩ (by omega) kE.c.c.c.c (pkH [1])
 have hend : sps.all rSp = true := by rw [<- take_end (l := sps) (i := i) (by have := odf h2; omega)]; exact hq
 refine .exit<|seqQ_x<|loopQ_x<|blkQ_x<|seqQ_n<|.sr<|.fa rfl<|.lo rfl<|.callR (LSC.containsF_spec 198 [] (λ s => !scOK isWord isRef s) vc scs _ hsc.rx (λ s hs R' hR' => right2_spec s (h.fc s hs) R')) (λ u hu => ?_)
 subst hu
 refine .q .not<|.az rfl<|.ret (rq1 rfl ?_)
 ·refine ⟨?_, rfl⟩
  rw [hend, hmf]
  simp [List.not_all_eq_any_not]
instance Ty.keyP : KeyT prog 252 (λ k : Ty => .agg k.enc.toArray) := KeyT.agg fQ252 Tryz.underlying252 rfl Ty.kinds Ty.eq
abbrev Spot := Nat × Nat
def encSp (p : Spot) : List Value := [iN p.1, iN p.2]
instance (p : Spot) : Ones (encSp p) := ⟨by simp [encSp, oneCell]⟩
abbrev kTy (k : Ty) : Value := .agg k.enc.toArray
abbrev vSp (p : Spot) : Value := .agg (encSp p).toArray
theorem spotsR_at (i : Nat) (sp : ByteArray) : ∀ {rs : List Rl} {b k : Nat} {r : Rl}, rs[k]? = some r -> (spotsR i sp b rs)[k]? = some ((⟨sp, r.name⟩ : Ty), (i, b + k))
 | [], b, k, r, h => by simp at h
 | x :: rs, b, 0, r, h => by simp only [List.getElem?_cons_zero, Option.some.injEq] at h; subst h; rfl
 | x :: rs, b, k + 1, r, h => by
  rw [spotsR, List.getElem?_cons_succ, spotsR_at i sp (rs := rs) (b := b + 1) (k := k) (r := r) (by simpa using h)]
  rw [show b + 1 + k = b + (k + 1) by omega]
theorem spots_at : ∀ {l : List Sp} {b i k : Nat} {s : Sp} {r : Rl}, l[i]? = some s -> s.rels[k]? = some r -> (spots b l)[offs l i + k]? = some ((⟨s.name, r.name⟩ : Ty), (b + i, k))
 | [], b, i, k, s, r, h, _ => by simp at h
 | x :: l, b, 0, k, s, r, h, hr => by
  simp only [List.getElem?_cons_zero, Option.some.injEq] at h
  subst h
  have hk := (List.getElem?_eq_some_iff.1 hr).1
  rw [spots, List.getElem?_append_left (by rw [spotsR_len]; simpa [offs] using hk)]
  simpa [offs] using spotsR_at b x.name (b := 0) hr
 | x :: l, b, i + 1, k, s, r, h, hr => by
  rw [spots, offs, List.getElem?_append_right (by rw [spotsR_len]; omega), spotsR_len, show x.rels.length + offs l i + k - x.rels.length = offs l i + k by omega, spots_at (l := l) (b := b + 1) (by simpa using h) hr, show b + 1 + i = b + (i + 1) by omega]
theorem spots_len : ∀ (l : List Sp) (b : Nat), (spots b l).length = total l
 | [], b => rfl
 | s :: l, b => by
  have := spots_len l (b + 1)
  unfold total at this ⊢
  rw [spots, List.length_append, spotsR_len, this, List.length_cons, offs]
theorem mget_look (t : Ty) : ∀ M : List (Ty × Spot), mget t M = look t M
 | [] => rfl
 | (k, x) :: M => by
  have ih := mget_look t M
  unfold look at ih ⊢
  rw [mget, List.find?_cons]
  by_cases e : t = k
  ·subst e; simp
  ·rw [if_neg e, ih]
   have : decide (k = t) = false := decide_eq_false λ h => e h.symm
   simp only [this]
def txtMap (M : List (ByteArray × Bool)) (l : List ByteArray) : Prop := ∀ k, mget k M = if k ∈ l then some true else none
theorem txtMap.nil : txtMap [] [] := λ k => by simp [mget]
theorem txtMap.add {M : List (ByteArray × Bool)} {l : List ByteArray} (h : txtMap M l) (t : ByteArray) : txtMap (mset t true M) (l ++ [t]) := λ k => by
 rw [mget_mset, h k]
 by_cases e : k = t
 ·simp [e]
 ·simp [e]
def IXs (xb : Nat) (c : CfM) (T : Seg) : Prop := ∃ vm Tm, T = (xb, .cells [c.vs, c.vc, vm].toArray 335 (0, 0)) :: Tm /\ MS kTy vSp vm (spots 0 c.plain.spaces) Tm
theorem newIndex_spec (c : CfM) (R : Rds) (h : c.is R) : Spec prog 157 [.agg c.enc.toArray] R [] λ u H' => ∃ T, H' = [T] /\ ((c.plain.uniq /\ ∃ xb, u = .tuple [pT xb, .bool true].toArray /\ IXs xb c T) \/ (¬ c.plain.uniq /\ u = .tuple [.pointer none, .bool false].toArray)) := by
 have hsp : ∀ (i : Nat) s, c.spaces[i]? = some s -> c.plain.spaces[i]? = some s.plain := λ i s hs => by unfold CfM.plain; simp only; rw [List.getElem?_map, hs]; rfl
 have hspl : c.plain.spaces.length = c.spaces.length := by unfold CfM.plain; simp
 have hu : c.plain.uniq ↔ (c.spaces.map (·.name)).Nodup /\ ((spots 0 c.plain.spaces).map (·.1)).Nodup /\ (c.scopes.map (·.name)).Nodup := by
  unfold Cf.uniq
  rw [spots_keys]
  simp only [CfM.plain, List.map_map]
  exact Iff.rfl
 have hIX : ∀ xb T, IXs xb c T ↔ ∃ vm Tm, T = (xb, .cells [c.vs, c.vc, vm].toArray 335 (0, 0)) :: Tm /\ MS kTy vSp vm (spots 0 c.plain.spaces) Tm := λ _ _ => Iff.rfl
 have hsl := spots_len c.plain.spaces 0
 generalize hpl : c.plain = pl at *
 generalize hS : spots 0 pl.spaces = S at *
 have hsat : ∀ i k s (r : Rl), pl.spaces[i]? = some s -> s.rels[k]? = some r -> S[offs pl.spaces i + k]? = some ((⟨s.name, r.name⟩ : Ty), (i, k)) := λ i k s r h1 h2 => by
  have := spots_at (b := 0) h1 h2
  rw [hS, Nat.zero_add] at this
  exact this
 obtain ⟨vs, vc, sps, scs⟩ := c
 have hss := h.ss
 have hsc := h.sc
 have i1 := hss.oneCell
 have i2 := hsc.oneCell
 simp only at hss hsc i1 i2 hsp hspl hu hIX ⊢
 have hle := hss.le
 have hlc := hsc.le
 refine Spec.body Tryz.func157 rfl Tryz.results157 Tryz.ntmps157 rfl ?_
 refine .sr ?_
 refine .boxA rfl (λ b1 => ?_)
 refine .ag rfl<|.ag rfl<|.z<|.q (.loadA rfl) ?_
 refine .makeMap (λ b17 => ?_)
 refine .q .bld ?_
 refine .boxA rfl (λ b19 => ?_)
 refine .ag rfl<|.z ?_
 refine .makeMap (λ b20 => ?_)
 refine .ag rfl<|.zs<|.sr<|.fa rfl<|.lo rfl<|.q (.lenR hss) ?_
 refine .mo rfl<|.zn<|.block ?_
 refine .loopS [(1, _), (4, _), (5, _), (22, _), (23, _)] (G := [bl b19 [vs, vc, .map (some b17)] 335, bl b1 [vs, vc] 25]) (X := Nat × List (ByteArray × Bool) × Seg × Seg) (λ y => y.1 <= sps.length /\ ((sps.map (·.name)).take y.1).Nodup /\ txtMap y.2.1 ((sps.map (·.name)).take y.1) /\ MS kTy vSp (.map (some b17)) (S.take (offs pl.spaces y.1)) y.2.2.1 /\ MS (λ s : ByteArray => .string s) (λ b : Bool => .bool b) (.map (some b20)) y.2.1 y.2.2.2) (λ y E => (24, iN y.1) :: E) (λ y G => y.2.2.1 :: y.2.2.2 :: G) (λ y => sps.length - y.1) (0, [], [(b17, .map #[] 0)], [(b20, .map #[] 0)]) ⟨Nat.zero_le _, by simp, by simpa using txtMap.nil, by rw [show offs pl.spaces 0 = 0 by cases pl.spaces <;> rfl]; exact MS.nil, MS.nil⟩ kE.c.c.c.c.c.c (pkH [2, 0, 0, 0]) ?_
 rintro ⟨i, M, Ta, Tb⟩ ⟨hi, hnd, htm, hMa, hMb⟩
 simp only at hi hnd htm hMa hMb ⊢
 refine .sr<|.q .lss<|.zs ?_
 refine .cond rfl (λ h1 => ?_) λ h1 => ?_
 have hlt : i < sps.length := lt_i h1
 obtain ⟨⟨sn, sv, rls⟩, hs⟩ := exg hlt
 have hsi := h.all _ (mog hs)
 have hrs : RS R 3 RlM.enc sv rls := hsi.rs
 have irs := hrs.oneCell
 have hler := hrs.le
 have isp : Ones (SpM.enc ⟨sn, sv, rls⟩) := ⟨hsi.ones⟩
 have hs' : (sps.map (·.name))[i]? = some sn := by rw [List.getElem?_map, hs]; rfl
 have hs1 := hsp i _ hs
 have hof := offs_next hs1
 rw [show (SpM.plain ⟨sn, sv, rls⟩).rels.length = rls.length by simp [SpM.plain]] at hof
 refine .kn<|.seq<|.block<|.sr<|.mo rfl ?_
 refine .indexR i hss hs (λ p27 => ?_)
 refine .q (.loadA rfl) ?_
 refine .allocA (λ b7 => ?_)
 refine .ag rfl<|.storeA rfl rfl<|.zs<|.sr<|.mo rfl<|.fa rfl<|.lo rfl ?_
 refine .q (.lookupE hMb.rx rfl (key := sn) rfl (show _ = Value.bool (decide (sn ∈ (sps.map (·.name)).take i)) from by rw [htm sn]; split <;> simp_all)) ?_
 refine .zn ?_
 refine .cond rfl (λ h2 => ?_) λ h2 => ?_
 refine .sr<|.ag rfl<|.az rfl ?_
 refine .ret (seqQ_r (blkQ_r (seqQ_r (loopQ_r (blkQ_r (seqQ_r (retQ_r _ (.two (.tmp rfl) (.tmp rfl)) (.one [0] _) ?_)))))))
 ·refine ⟨_, rfl, .inr ⟨λ hh => ?_, rfl⟩⟩
  have hm : sn ∈ (sps.map (·.name)).take i := by simpa using h2
  obtain ⟨q, hq, e⟩ := List.mem_iff_getElem.1 hm
  rw [List.length_take] at hq
  rw [List.getElem_take] at e
  exact not_nodup (show q < i by omega) hs' (gge (by omega)) e.symm (hu.1 hh).1
 have hni : sn ∉ (sps.map (·.name)).take i := by simpa using h2
 have hnd2 : ((sps.map (·.name)).take (i + 1)).Nodup := by rw [take_next hs', List.nodup_append]; exact ⟨hnd, by simp, λ a ha b hb => by rw [List.mem_singleton] at hb; subst hb; intro e; subst e; exact hni ha⟩
 have htm2 : txtMap (mset sn true M) ((sps.map (·.name)).take (i + 1)) := by rw [take_next hs']; exact htm.add sn
 refine .kn<|.sr<|.mo rfl<|.fa rfl<|.lo rfl ?_
 refine .update (key := sn) (u := true) hMb rfl rfl rfl (λ Tb2 hMb2 _ => ?_)
 refine .z<|.fa rfl<|.lo rfl<|.q (.lenR hrs) ?_
 refine .mo rfl<|.zn<|.block ?_
 refine .loopS [(1, _), (4, _), (5, _), (6, _), (7, _), (22, _), (23, _), (24, _), (37, _), (38, _)] (G := [Tb2, bl b7 (SpM.enc ⟨sn, sv, rls⟩) 187, bl b19 [vs, vc, .map (some b17)] 335, bl b1 [vs, vc] 25]) (X := Nat × Seg) (λ y => y.1 <= rls.length /\ MS kTy vSp (.map (some b17)) (S.take (offs pl.spaces i + y.1)) y.2) (λ y E => (39, iN y.1) :: E) (λ y G => y.2 :: G) (λ y => rls.length - y.1) (0, Ta) ⟨Nat.zero_le _, hMa⟩ kE.c.c.c.c.c.c.c.c.c.c.c (pkH [1, 1, 0, 0, 0]) ?_
 rintro ⟨k, Ta⟩ ⟨hk, hMa⟩
 simp only at hk hMa ⊢
 refine .sr<|.q .lss<|.zs ?_
 refine .cond rfl (λ h3 => ?_) λ h3 => ?_
 have hkt : k < rls.length := lt_i h3
 obtain ⟨⟨vt, vn, r⟩, hr⟩ := exg hkt
 have hri := hsi.all _ (mog hr)
 have irt : One vt := RS.oneCell hri.t
 have ird : One vn := RS.oneCell hri.d
 have hone : Ones (RlM.enc ⟨vt, vn, r⟩) := ⟨hri.ones⟩
 have hr' : (SpM.plain ⟨sn, sv, rls⟩).rels[k]? = some r := by unfold SpM.plain; simp only; rw [List.getElem?_map, hr]; rfl
 have hSk : S[offs pl.spaces i + k]? = some ((⟨sn, r.name⟩ : Ty), (i, k)) := hsat i k _ r hs1 hr'
 obtain ⟨ps, ok, hps, hok⟩ : ∃ (ps : Spot) (ok : Bool), [((mget (⟨sn, r.name⟩ : Ty) (S.take (offs pl.spaces i + k))).map vSp).getD (vSp (0, 0)), Value.bool (mget (⟨sn, r.name⟩ : Ty) (S.take (offs pl.spaces i + k))).isSome] = [vSp ps, .bool ok] /\ (mget (⟨sn, r.name⟩ : Ty) (S.take (offs pl.spaces i + k))).isSome = ok := by
  cases mget (⟨sn, r.name⟩ : Ty) (S.take (offs pl.spaces i + k)) with
  | none => exact ⟨(0, 0), false, rfl, rfl⟩
  | some p => exact ⟨p, true, rfl, rfl⟩
 refine .kn<|.seq<|.block<|.sr<|.mo rfl ?_
 refine .indexR k hrs hr (λ p42 => ?_)
 refine .q (.loadA rfl) ?_
 refine .allocA (λ b9 => ?_)
 refine .ag rfl<|.storeA rfl rfl<|.z<|.fa rfl<|.lo rfl<|.fa rfl<|.lo rfl ?_
 refine .q .bld ?_
 refine .allocA (λ b10 => ?_)
 refine .storeA rfl rfl<|.zs<|.seq<|.region_all [10] mixed ?_
 refine .tO 0 rfl .move<|.tO 1 rfl (.nilCheck rfl)<|.tO 2 rfl (.fieldAddr rfl)<|.tO 3 rfl (.load1 rfl)<|.tO 4 rfl (.loadA rfl) ?_
 refine .takeO 5 rfl (.cast (.lookup2 hMa.rx rfl rfl) (congrArg (λ l : List Value => Value.tuple l.toArray) hps)) (by kernel_rfl) ?_
 refine .tO 6 rfl .move<|.tO 7 rfl .extract<|.tK 8 rfl .extract ?_
 refine .sT 9 rfl ?_
 refine .allocA (λ b11 => ?_)
 refine .nil (Next.sub ?_)
 refine .sT 10 rfl ?_
 refine .storeA rfl rfl ?_
 refine .nil (Next.mod rfl ?_)
 refine .tK 11 rfl .assign ?_
 refine RA.nil (by kernel_rfl) ?_
 refine seqQ_n<|.sr<|.mo rfl<|.zn ?_
 refine .cond rfl (λ h4 => ?_) λ h4 => ?_
 refine .sr<|.ag rfl<|.az rfl ?_
 refine .ret (seqQ_r (blkQ_r (seqQ_r (loopQ_r (blkQ_r (blkQ_r (seqQ_r (loopQ_r (blkQ_r (seqQ_r (retQ_r _ (.two (.tmp rfl) (.tmp rfl)) (.one [0] _) ?_)))))))))))
 ·refine ⟨_, rfl, .inr ⟨λ hh => ?_, rfl⟩⟩
  have h5 : ok = true := h4
  rw [h5] at hok
  obtain ⟨p, hp⟩ := Option.isSome_iff_exists.1 hok
  have hm := mget_some hp
  obtain ⟨q, hq, e⟩ := List.mem_iff_getElem.1 hm
  rw [List.length_take] at hq
  rw [List.getElem_take] at e
  have hSk' : (S.map (·.1))[offs pl.spaces i + k]? = some ⟨sn, r.name⟩ := by rw [List.getElem?_map, hSk]; rfl
  have hq' : (S.map (·.1))[q]? = some ⟨sn, r.name⟩ := by rw [List.getElem?_map, gge (by omega), e]; rfl
  exact not_nodup (show q < offs pl.spaces i + k by omega) hSk' hq' rfl (hu.1 hh).2.1
 refine .kn ?_
 refine .region_tail 8 mixed (by kernel_rfl) ?_
 conv => arg 6; dsimp only [List.take]
 refine .mo rfl<|.nc rfl<|.fa rfl<|.lo rfl<|.q (.loadA rfl)<|.mo rfl<|.mo rfl ?_
 refine .q .bld ?_
 refine .nil ?_
 refine .update (key := (⟨sn, r.name⟩ : Ty)) (u := ((i, k) : Spot)) hMa rfl rfl rfl (λ Ta2 hMa2 _ => ?_)
 rw [mset_new (by
  have h5 : ok = false := h4
  rw [h5] at hok
  intro hm
  rw [Option.isSome_eq_false_iff, Option.isNone_iff_eq_none] at hok
  exact mget_none.1 hok hm), <- take_next hSk] at hMa2
 refine .nil<|blkQ_n<|seqQ_n<|.region ?_
 refine .ia (k + 1) .add ?_
 refine .mo rfl<|.nil ?_
 ·exact loopQ_i (k + 1, Ta2) ⟨hkt, hMa2⟩ (by simp only; omega) kE.c.c.c.c.c.c.c.c.c.c.c (pkH [3, 3, 3, 3, 3])
 have hke : k = rls.length := by have := odf h3; omega
 rw [hke, <- hof] at hMa
 refine .exit<|seqQ_x<|loopQ_x<|blkQ_x<|blkQ_n<|seqQ_n<|.region ?_
 refine .ia (i + 1) .add ?_
 refine .mo rfl<|.nil ?_
 ·exact loopQ_i (i + 1, mset sn true M, Ta, Tb2) ⟨hlt, hnd2, htm2, hMa, hMb2⟩ (by simp only; omega) kE.c.c.c.c.c.c (pkH [0, 0, 1, 1])
 have hie : i = sps.length := by have := odf h1; omega
 subst hie
 rw [show offs pl.spaces sps.length = S.length by rw [<- hspl, hsl]; rfl, List.take_length] at hMa
 rw [show sps.length = (sps.map (·.name)).length by rw [List.length_map], List.take_length] at hnd
 refine .exit<|seqQ_x<|loopQ_x<|blkQ_x<|seqQ_n<|.sr ?_
 refine .makeMap (λ b69 => ?_)
 refine .ag rfl<|.zs<|.sr<|.fa rfl<|.lo rfl<|.q (.lenR hsc) ?_
 refine .mo rfl<|.zn<|.block ?_
 refine .loopS [(4, _), (13, _), (71, _), (72, _)] (X := Nat × List (ByteArray × Bool) × Seg) (λ y => y.1 <= scs.length /\ ((scs.map (·.name)).take y.1).Nodup /\ txtMap y.2.1 ((scs.map (·.name)).take y.1) /\ MS (λ s : ByteArray => .string s) (λ b : Bool => .bool b) (.map (some b69)) y.2.1 y.2.2) (λ y E => (73, iN y.1) :: E) (λ y G => y.2.2 :: G) (λ y => scs.length - y.1) (0, [], [(b69, .map #[] 0)]) ⟨Nat.zero_le _, by simp, by simpa using txtMap.nil, MS.nil⟩ kE.c.c.c.c.c rH ?_
 rintro ⟨j, M3, Tc⟩ ⟨hj, hndj, htmj, hMc⟩
 simp only at hj hndj htmj hMc ⊢
 refine .sr<|.q .lss<|.zs ?_
 refine .cond rfl (λ h5 => ?_) λ h5 => ?_
 have hjt : j < scs.length := lt_i h5
 obtain ⟨s, hs⟩ := exg hjt
 have hs' : (scs.map (·.name))[j]? = some s.name := by rw [List.getElem?_map, hs]; rfl
 refine .kn<|.seq<|.block<|.sr ?_
 refine .indexR j hsc hs (λ p75 => ?_)
 refine .q (.loadA rfl) ?_
 refine .allocA (λ b15 => ?_)
 refine .storeA rfl rfl<|.zs<|.sr<|.mo rfl<|.fa rfl<|.lo rfl ?_
 refine .q (.lookupE hMc.rx rfl (key := s.name) rfl (show _ = Value.bool (decide (s.name ∈ (scs.map (·.name)).take j)) from by rw [htmj s.name]; split <;> simp_all)) ?_
 refine .zn ?_
 refine .cond rfl (λ h6 => ?_) λ h6 => ?_
 refine .sr<|.ag rfl<|.az rfl ?_
 refine .ret (seqQ_r (blkQ_r (seqQ_r (loopQ_r (blkQ_r (seqQ_r (retQ_r _ (.two (.tmp rfl) (.tmp rfl)) (.one [0] _) ?_)))))))
 ·refine ⟨_, rfl, .inr ⟨λ hh => ?_, rfl⟩⟩
  have hm : s.name ∈ (scs.map (·.name)).take j := by simpa using h6
  obtain ⟨q, hq, e⟩ := List.mem_iff_getElem.1 hm
  rw [List.length_take] at hq
  rw [List.getElem_take] at e
  exact not_nodup (show q < j by omega) hs' (gge (by omega)) e.symm (hu.1 hh).2.2
 have hni : s.name ∉ (scs.map (·.name)).take j := by simpa using h6
 refine .kn<|.region<|.mo rfl<|.fa rfl<|.lo rfl ?_
 refine .update (key := s.name) (u := true) hMc rfl rfl rfl (λ Tc2 hMc2 _ => ?_)
 refine .nil<|blkQ_n<|seqQ_n<|.region ?_
 refine .ia (j + 1) .add ?_
 refine .mo rfl<|.nil ?_
 ·exact loopQ_i (j + 1, mset s.name true M3, Tc2) ⟨hjt, by rw [take_next hs', List.nodup_append]; exact ⟨hndj, by simp, λ a ha b hb => by rw [List.mem_singleton] at hb; subst hb; intro e; subst e; exact hni ha⟩, by simp only; rw [take_next hs']; exact htmj.add s.name, hMc2⟩ (by simp only; omega) kE.c.c.c.c.c (pkH [1, 1, 1, 1, 1])
 refine .exit<|seqQ_x<|loopQ_x<|blkQ_x<|seqQ_n<|.sr<|.mo rfl<|.ag rfl<|.az rfl ?_
 refine .ret (retQ_r _ (.two (.tmp rfl) (.tmp rfl)) (.one [3, 1] _) ?_)
 ·refine ⟨_, rfl, .inl ⟨hu.2 ⟨hnd, hMa.nd, ?_⟩, b19, rfl, (hIX _ _).2 ⟨_, Ta, by simp [take, dropAt], hMa⟩⟩⟩
  rw [take_end (by rw [List.length_map]; have := odf h5; omega)] at hndj
  exact hndj
theorem HLe.nil1 {H : Segs} : HLe H [[]] := ⟨H.flatten, by simp⟩
structure IX (R : Rds) (xb : Nat) (vm : Value) (c : CfM) : Prop where
 pc : PC R (pT xb) [c.vs, c.vc, vm]
 om : One vm
 ci : c.is R
 rm : RM R kTy vSp vm (spots 0 c.plain.spaces)
theorem RM.mono' {κ β : Type} [DecidableEq κ] {R R' : Rds} {encK : κ -> Value} {encV : β -> Value} {m : Value} {M : List (κ × β)} (h : RM R encK encV m M) (hR : ∀ b o, R b o -> R' b o) : RM R' encK encV m M := by
 obtain ⟨b, es, c, h1, h2, h3⟩ := h
 exact ⟨b, es, c, h1, hR _ _ h2, h3⟩
theorem IX.mono {R R' : Rds} {xb : Nat} {vm : Value} {c : CfM} (h : IX R xb vm c) (hR : ∀ b o, R b o -> R' b o) : IX R' xb vm c := ⟨h.pc.mono hR, h.om, h.ci.mono hR, h.rm.mono' hR⟩
theorem IXs.view {R : Rds} {xb : Nat} {c : CfM} {T : Seg} (h : IXs xb c T) (hc : c.is R) : ∃ vm, IX (λ b o => R b o \/ (b, o) ∈ T) xb vm c := by
 obtain ⟨vm, Tm, rfl, hM⟩ := h
 refine ⟨vm, ⟨PC.of (E := 335) (fr := (0, 0)) ?_, hM.one, hc.mono λ b o hb => .inl hb, hM.rm λ p hp => .inr (by simp [hp])⟩⟩
 exact .inr (by simp)
def CfM.valid (c : CfM) (p : Spot) : Prop := ∃ s r, c.spaces[p.1]? = some s /\ s.rels[p.2]? = some r
def CfM.ix (c : CfM) (p : Spot) : Nat := offs c.plain.spaces p.1 + p.2
theorem plain_space {c : CfM} {i : Nat} {s' : Sp} (h : c.plain.spaces[i]? = some s') : ∃ s, c.spaces[i]? = some s /\ s' = s.plain := by
 unfold CfM.plain at h
 simp only at h
 rw [List.getElem?_map] at h
 cases hs : c.spaces[i]? with
 | none => rw [hs] at h; cases h
 | some s => rw [hs] at h; exact ⟨s, rfl, by simpa using h.symm⟩
theorem plain_at {c : CfM} {i : Nat} {s : SpM} (h : c.spaces[i]? = some s) : c.plain.spaces[i]? = some s.plain := by unfold CfM.plain; simp only; rw [List.getElem?_map, h]; rfl
theorem plain_rel {s : SpM} {k : Nat} {r : RlM} (h : s.rels[k]? = some r) : s.plain.rels[k]? = some r.r := by unfold SpM.plain; simp only; rw [List.getElem?_map, h]; rfl
theorem rel_plain {s : SpM} {k : Nat} {r' : Rl} (h : s.plain.rels[k]? = some r') : ∃ r, s.rels[k]? = some r /\ r' = r.r := by
 unfold SpM.plain at h
 simp only at h
 rw [List.getElem?_map] at h
 cases hs : s.rels[k]? with
 | none => rw [hs] at h; cases h
 | some s => rw [hs] at h; exact ⟨s, rfl, by simpa using h.symm⟩
def Looked (c : CfM) (t : Ty) (ps : Spot) (ok : Bool) : Prop := match rfind c.plain.all t with
 | none => ok = false
 | some j => ok = true /\ c.ix ps = j /\ c.valid ps
theorem looked (c : CfM) (t : Ty) : ∃ (ps : Spot) (ok : Bool), [((mget t (spots 0 c.plain.spaces)).map vSp).getD (vSp (0, 0)), Value.bool (mget t (spots 0 c.plain.spaces)).isSome] = [vSp ps, .bool ok] /\ Looked c t ps ok := by
 have h := look_rfind c.plain t
 rw [mget_look]
 unfold Looked
 cases hl : look t (spots 0 c.plain.spaces) with
 | none => rw [hl] at h; exact ⟨(0, 0), false, rfl, by rw [h]⟩
 | some p =>
  obtain ⟨i, k⟩ := p
  rw [hl] at h
  obtain ⟨h1, s, r, h2, h3, _⟩ := h
  obtain ⟨s2, h4, rfl⟩ := plain_space h2
  obtain ⟨r2, h5, rfl⟩ := rel_plain h3
  exact ⟨(i, k), true, rfl, by rw [h1]; exact ⟨rfl, rfl, s2, r2, h4, h5⟩⟩
theorem rel_spec {R : Rds} {xb : Nat} {vm : Value} {c : CfM} (h : IX R xb vm c) (p : Spot) (s : SpM) (r : RlM) (hs : c.spaces[p.1]? = some s) (hr : s.rels[p.2]? = some r) :
  Spec prog 250 [pT xb, .agg (encSp p).toArray] R [] λ u H' => u = .agg r.enc.toArray /\ H' = [] := by
 obtain ⟨i, k⟩ := p
 obtain ⟨vs, vc, sps, scs⟩ := c
 obtain ⟨vt, vn, r⟩ := r
 have pc := h.pc
 have om := h.om
 have hss := h.ci.ss
 have i1 := hss.oneCell
 have i2 : One vc := RS.oneCell h.ci.sc
 simp only at hss i1 i2 hs hr pc ⊢
 have hsi := h.ci.all _ (mog hs)
 have hri := hsi.all _ (mog hr)
 have irs : One s.v := RS.oneCell hsi.rs
 have hone : Ones (RlM.enc ⟨vt, vn, r⟩) := ⟨hri.ones⟩
 have irt : One vt := RS.oneCell hri.t
 have ird : One vn := RS.oneCell hri.d
 refine Spec.body Tryz.func250 rfl Tryz.results250 Tryz.ntmps250 rfl<|.sr ?_
 refine .boxA rfl (λ b3 => ?_)
 refine .allocA (λ b4 => ?_)
 refine .zs<|.region_tail 14 mixed (by kernel_rfl) ?_
 conv => arg 6; dsimp only [List.take]
 refine .mo rfl<|.nc rfl<|.fa rfl<|.fa rfl<|.lo rfl<|.fa rfl<|.lo rfl ?_
 refine .indexR i hss hs (λ p12 => ?_)
 refine .fa rfl<|.lo rfl<|.fa rfl<|.lo rfl ?_
 refine .indexR k hsi.rs hr (λ p17 => ?_)
 refine .q (.loadA rfl)<|.nil<|.storeA rfl rfl<|.zn ?_
 refine .ret (retQ_r _ (.one (.cellA rfl rfl)) (.none _) ?_)
 ·exact ⟨rfl, rfl⟩
theorem sets_spec (v : Value) (l : List Ty) (R : Rds) (h : RS R 2 Ty.enc v l) (hl : l.length <= 100000) : Spec prog 251 [v] R [] λ u H' => ∃ T, H' = [T] /\ OS 252 2 Ty.enc u (setsT l) T := by
 have iv := h.oneCell
 have hle := h.le
 refine Spec.body Tryz.func251 rfl Tryz.results251 Tryz.ntmps251 rfl<|.sr<|.ag rfl<|.z<|.ag rfl<|.zs<|.sr<|.mo rfl<|.q (.lenR h)<|.mo rfl<|.zn<|.block<|.loopS [(6, _), (7, _)] (X := Nat × Value × Seg) (λ y => y.1 <= l.length /\ OS 252 2 Ty.enc y.2.1 (setsT (l.take y.1)) y.2.2) (λ y E => (8, iN y.1) :: (3, y.2.1) :: E) (λ y G => y.2.2 :: G) (λ y => l.length - y.1) (0, sZ, []) ⟨Nat.zero_le _, OS.nil⟩ kE.c.c.c.c HLe.new0 ?_
 rintro ⟨i, vo, To⟩ ⟨hi, hO⟩
 simp only at hi hO ⊢
 have io := hO.oneCell
 have hol : (setsT (l.take i)).length <= 100000 := Nat.le_trans (List.length_filter_le _ _) (by rw [List.length_take]; omega)
 refine .sr<|.q .lss<|.zs<|.cond rfl (λ h1 => ?_) λ h1 => ?_
 have hlt : i < l.length := lt_i h1
 obtain ⟨t, ht⟩ := exg hlt
 have hn := setsT_next ht
 refine .kn<|.seq<|.block<|.sr ?_
 refine .indexR i h ht (λ p10 => ?_)
 refine .q (.loadA rfl) ?_
 refine .allocA (λ b5 => ?_)
 refine .storeA rfl rfl<|.z<|.fa rfl<|.lo rfl<|.q .neS<|.zn<|.cond rfl (λ h2 => ?_) λ h2 => ?_
 refine .region<|.mo rfl<|.q (.loadA rfl) ?_
 refine .buildSlice1A (λ b17 => ?_)
 refine .append hO (RS.lits (xs := [t]) rfl (by simp [Ty.enc]) (by simp [Ty.enc, oneCell])) (by simp only [List.length_singleton]; omega) (λ v1 T1 hv1 => ?_)
 have iv1 := hv1.oneCell
 refine .ag rfl<|.nil<|blkQ_n<|seqQ_n<|.region<|.ia (i + 1) .add<|.mo rfl<|.nil ?_
 ·exact loopQ_i (i + 1, v1, T1) ⟨hlt, by simp only; rw [hn, if_neg (by simpa using h2)]; exact hv1⟩ (by simp only; omega) kE.c.c.c.c (pkH [2])
 refine .skip<|blkQ_n<|seqQ_n<|.region<|.ia (i + 1) .add<|.mo rfl<|.nil ?_
 ·exact loopQ_i (i + 1, vo, To) ⟨hlt, by simp only; rw [hn, if_pos (by simpa using h2), List.append_nil]; exact hO⟩ (by simp only; omega) kE.c.c.c.c (pkH [1])
 refine .exit<|seqQ_x<|loopQ_x<|blkQ_x<|seqQ_n<|.sr<|.mo rfl<|.az rfl<|.ret (retQ_r _ (.one (.tmp rfl)) (.one [0] _) ?_)
 ·refine ⟨To, by simp [take], ?_⟩
  rw [take_end (ge_i h1)] at hO
  exact hO
def encBl (b : Bool) : List Value := [.bool b]
theorem absences_spec (v : Value) (l : List Nd) (R : Rds) (h : RS R 5 Nd.enc v l) (hd : deepD isWord l ≠ 0) (hl : l.length <= 100000) : Spec prog 252 [v] R [] λ u H' => ∃ T, H' = [T] /\ OS 4 1 encBl u (absC l) T := by
 have iv := h.oneCell
 have hle := h.le
 obtain ⟨d, htr⟩ := deep_tree hd
 obtain ⟨_, _, _, hall⟩ := tree_some _ _ htr
 have hrep : (List.replicate l.length false).length = l.length := List.length_replicate
 generalize hout : List.replicate l.length false = out0 at *
 refine Spec.body Tryz.func252 rfl Tryz.results252 Tryz.ntmps252 rfl<|.sr<|.ag rfl<|.z<|.mo rfl<|.q (.lenR h)<|.makeSlice (enc := encBl) l.length false rfl rfl (by decide) (by simp [encBl, oneCell]) rfl rfl (by omega) (by omega) (λ b8 T8 hO8 => ?_)
 rw [hout] at hO8
 refine .ag rfl<|.zs<|.sr<|.mo rfl<|.q (.lenR h)<|.q (.i64 ((l.length : Int) - 1) .sub ⟨rfl, by omega, by omega⟩)<|.az rfl<|.block<|.loopS [(0, _), (3, _)] (X := Nat × Seg) (λ y => y.1 <= l.length /\ OS 4 1 encBl (.slice (some ⟨b8, 0, none⟩) l.length l.length) (down l y.1 (l.length - y.1) out0) y.2) (λ y E => (4, .int .i64 ((y.1 : Int) - 1)) :: E) (λ y G => y.2 :: G) (λ y => y.1) (l.length, T8) ⟨Nat.le_refl _, by simp only; rw [Nat.sub_self]; exact hO8⟩ kE.c.c.c rH ?_
 rintro ⟨m, To⟩ ⟨hm, hO⟩
 simp only at hm hO ⊢
 refine .seq<|.sr<|.mo rfl<|.q .geq<|.zn<|.cond rfl (λ h1 => ?_) λ h1 => ?_
 obtain ⟨e, rfl⟩ : ∃ e, m = e + 1 := ⟨m - 1, by have := odt h1; omega⟩
 obtain ⟨n, hn⟩ : ∃ n, l[e]? = some n := ⟨_, gge (by omega)⟩
 have hee : ((e + 1 : Nat) : Int) - 1 = (e : Int) := by omega
 have hts := hall e (Nat.zero_le _) (by omega)
 have hdn : down l e (l.length - e) out0 = absStep l (down l (e + 1) (l.length - (e + 1)) out0) e := by
  rw [show l.length - e = 1 + (l.length - (e + 1)) by omega, down_add]
  rfl
 have hdl : (down l (e + 1) (l.length - (e + 1)) out0).length = l.length := by rw [down_len, hrep]
 generalize hX : down l (e + 1) (l.length - (e + 1)) out0 = X at *
 have hab : absStep l X e = if n.op then (X.set n.a.toNat (X.getD e false)).set n.b.toNat ((X.set n.a.toNat (X.getD e false)).getD e false || n.kind == 6) else X := by unfold absStep; rw [hn]
 have hop : decide (4 <= n.kind) = n.op := by
  cases ho : n.op with
  | true => unfold Nd.op at ho; simp only [Bool.or_eq_true, beq_iff_eq] at ho; exact decide_eq_true (by omega)
  | false =>
   rw [tree_leaf hn ho] at hts
   split at hts
   ·rename_i hlf
    unfold Nd.leaf at hlf
    refine decide_eq_false λ h4 => ?_
    rw [if_neg (by omega), if_neg (by omega), if_neg (by omega), Bool.and_false] at hlf
    cases hlf
   ·cases hts
 rw [hee]
 refine .kn<|.seq<|.block<|.sr<|.mo rfl<|.mo rfl ?_
 refine .indexR e h hn (λ p18 => ?_)
 refine .q (.loadA rfl) ?_
 refine .allocA (λ b5 => ?_)
 refine .storeA rfl rfl<|.z<|.fa rfl<|.lo rfl<|.q .geq<|.zn<|.cond rfl (λ h2 => ?_) λ h2 => ?_
 have hopt : n.op = true := by rw [<- hop]; exact h2
 obtain ⟨rr, hrr⟩ := Option.isSome_iff_exists.1 hts
 obtain ⟨b', x', y', t1, t2, t3, t4, t5, _, _, _⟩ := tree_op hn hopt hrr
 have hb' := tree_some_le t1
 have hb'' := (tree_some _ _ t3).1
 obtain ⟨za, hza⟩ : ∃ z, X[n.a.toNat]? = some z := ⟨_, gge (by omega)⟩
 obtain ⟨zi, hzi⟩ : ∃ z, X[e]? = some z := ⟨_, gge (by omega)⟩
 have hzd : X.getD e false = zi := by rw [List.getD_eq_getElem?_getD, hzi]; rfl
 rw [if_pos hopt, hzd] at hab
 obtain ⟨z2, hz2⟩ : ∃ z, (X.set n.a.toNat zi)[e]? = some z := ⟨_, gge (by rw [List.length_set]; omega)⟩
 obtain ⟨z3, hz3⟩ : ∃ z, (X.set n.a.toNat zi)[n.b.toNat]? = some z := ⟨_, gge (by rw [List.length_set]; omega)⟩
 have hzd2 : (X.set n.a.toNat zi).getD e false = z2 := by rw [List.getD_eq_getElem?_getD, hz2]; rfl
 rw [hzd2] at hab
 refine .seq<|.region_tail 8 mixed (by kernel_rfl) ?_
 conv => arg 6; dsimp only [List.take]
 refine .mo rfl<|.fa rfl<|.lo rfl<|.mo rfl<|.mo rfl ?_
 refine .indexO e hO hzi (λ p28 => ?_)
 refine .lo rfl<|.indexO n.a.toNat hO hza (λ p30 => ?_) rfl rfl (by omega)
 refine .nil ?_
 refine .storeO1 n.a.toNat hO hza zi (λ T1 hO1 => ?_)
 refine .zn ?_
 refine Tri.cutS [(0, _), (3, _), (4, _)] kE.c.c.c (X := Seg) (λ T => OS 4 1 encBl (.slice (some ⟨b8, 0, none⟩) l.length l.length) (absStep l X e) T) (λ _ E => E) (λ T => [T]) ?_ ?_
 refine .region_tail 13 mixed (by kernel_rfl) ?_
 conv => arg 6; dsimp only [List.take]
 refine .mo rfl<|.fa rfl<|.lo rfl<|.mo rfl<|.mo rfl ?_
 refine .indexO e hO1 hz2 (λ p36 => ?_)
 refine .lo rfl<|.mo rfl<|.split (t := 38) rfl (λ g8_7 => ?_) (λ g8_7 => ?_)
 refine .gF g8_7<|.gF g8_7<|.gF g8_7<|.q (.pickTh g8_7)<|.indexO n.b.toNat hO1 hz3 (λ p43 => ?_) rfl rfl (by omega)
 refine .nil ?_
 refine .storeO1 n.b.toNat hO1 hz3 _ (λ T2 hO2 => ?_)
 refine .nil ?_
 ·exact joinQ_n T2 (by rw [hab]; simpa only [h1, h2, g8_7, Bool.true_or, Bool.false_or] using hO2) kE.c.c.c (pkH [1])
 refine .gT g8_7<|.fa rfl<|.gT g8_7<|.lo rfl<|.gT g8_7<|.q .eqI<|.q (.pickFh g8_7)<|.indexO n.b.toNat hO1 hz3 (λ p43 => ?_) rfl rfl (by omega)
 refine .nil ?_
 refine .storeO1 n.b.toNat hO1 hz3 _ (λ T2 hO2 => ?_)
 refine .nil ?_
 ·exact joinQ_n T2 (by rw [hab]; simpa only [h1, h2, g8_7, Bool.true_or, Bool.false_or] using hO2) kE.c.c.c (pkH [1])
 intro y hy
 have hO9 : OS 4 1 encBl (.slice (some ⟨b8, 0, none⟩) l.length l.length) (absStep l X e) y := hy
 refine blkQ_n<|seqQ_n<|.region<|.mo rfl<|.q (.i64 ((e : Int) - 1) .sub ⟨rfl, by omega, by omega⟩)<|.ag rfl<|.nil ?_
 ·exact loopQ_i (e, y) ⟨by simp only; omega, by simp only; rw [hdn]; exact hO9⟩ (by simp only; omega) kE.c.c.c rH
 have hopf : ¬ n.op = true := by rw [<- hop, h2]; simp
 rw [if_neg hopf] at hab
 refine .skip<|blkQ_n<|seqQ_n<|.region<|.mo rfl<|.q (.i64 ((e : Int) - 1) .sub ⟨rfl, by omega, by omega⟩)<|.ag rfl<|.nil ?_
 ·exact loopQ_i (e, To) ⟨by simp only; omega, by simp only; rw [hdn, hab]; exact hO⟩ (by simp only; omega) kE.c.c.c (pkH [1])
 refine .exit<|seqQ_x<|loopQ_x<|blkQ_x<|seqQ_n<|.sr<|.mo rfl<|.az rfl<|.ret (retQ_r _ (.one (.tmp rfl)) (.one [0] _) ?_)
 ·refine ⟨To, by simp [take], ?_⟩
  have hm0 : m = 0 := by have := odf h1; omega
  subst hm0
  unfold absC
  rw [hout]
  exact hO
def NA (c : CfM) (ok : Bool) (S : List Spot) (o : Option (List Nat)) : Prop := match o with
 | none => ok = false
 | some ts => ok = true /\ S.map c.ix = ts /\ ∀ p ∈ S, c.valid p
def TN (l : List (ByteArray × Rl)) (sp : ByteArray) (r : Rl) (n : Nd) (tys : List Ty) : Prop := targets l sp r.types n = findAll l tys /\ tys.length <= 8
theorem setsT_le {ts : List Ty} {n : Nat} (h : ts.length <= n) : (setsT ts).length <= n := Nat.le_trans (List.length_filter_le _ _) h
theorem findAll_app (l : List (ByteArray × Rl)) : ∀ (a : List Ty) (t : Ty), findAll l (a ++ [t]) = (findAll l a).bind λ x => (rfind l t).map λ i => x ++ [i]
 | [], t => by
  rw [List.nil_append, findAll, findAll]
  cases rfind l t <;> rfl
 | x :: a, t => by
  rw [List.cons_append, findAll, findAll, findAll_app l a t]
  cases rfind l x with
  | none => rfl
  | some i =>
   cases findAll l a with
   | none => rfl
   | some u => cases rfind l t <;> rfl
theorem findAll_none {l : List (ByteArray × Rl)} {t : Ty} {ts : List Ty} (h : t ∈ ts) (hn : rfind l t = none) : findAll l ts = none := by
 cases hf : findAll l ts with
 | none => rfl
 | some o => obtain ⟨i, h1, _⟩ := findAll_get hf h; rw [hn] at h1; cases h1
theorem nms_typesC {c : CfM} {p : Spot} {s : SpM} {r : RlM} (hs : c.spaces[p.1]? = some s) (hr : s.rels[p.2]? = some r) : c.plain.all[c.ix p]? = some (s.name, r.r) := by
 have := all_at (plain_at hs) (plain_rel hr)
 unfold CfM.ix Cf.all
 exact this
def CfM.few8 (c : CfM) : Prop := ∀ s ∈ c.spaces, ∀ r ∈ s.rels, r.r.types.length <= 8 /\ r.r.nodes.length <= 64 /\ deepD isWord r.r.nodes ≠ 0
theorem named_spec {R : Rds} {xb : Nat} {vm : Value} {c : CfM} (h : IX R xb vm c) (h8 : c.few8) (p : Spot) (s : SpM) (r : RlM) (hs : c.spaces[p.1]? = some s) (hr : s.rels[p.2]? = some r) (n : Nd) :
  Spec prog 253 [pT xb, .agg (encSp p).toArray, .agg n.enc.toArray] R [] λ u H' => ∃ T, H' = [T] /\ ∃ w S ok, u = .tuple [w, .bool ok].toArray /\ OS 338 2 encSp w S T /\ S.length <= 8 /\
   NA c ok S (targets c.plain.all s.name r.r.types n) := by
 have hrel := rel_spec h p s r hs hr
 have hix := h
 have hty8 := (h8 s (mog hs) r (mog hr)).1
 have hlook := looked c
 obtain ⟨i, k⟩ := p
 have pc := h.pc
 have om := h.om
 have hss := h.ci.ss
 have i1 := hss.oneCell
 have i2 : One c.vc := RS.oneCell h.ci.sc
 have hsi := h.ci.all _ (mog hs)
 have hri := hsi.all _ (mog hr)
 have irs : One s.v := RS.oneCell hsi.rs
 have hone : Ones (RlM.enc r) := ⟨hri.ones⟩
 simp only at hs hr
 have psc := hss.pc hs
 generalize hA : c.plain.all = A at *
 refine Spec.body Tryz.func253 rfl Tryz.results253 Tryz.ntmps253 rfl<|.sr ?_
 refine .boxA rfl (λ b4 => ?_)
 refine .boxA rfl (λ b5 => ?_)
 refine .ag rfl<|.ag rfl<|.zs ?_
 refine Tri.cutS [(0, _), (5, _)] kE.c.c (X := Nat) (λ _ => True) (λ y E => (9, pT y) :: (8, .string s.name) :: E) (λ y => [bl y r.enc 207, bl b5 n.enc 168, bl b4 (encSp (i, k)) 338]) ?_ ?_
 refine .region_all [15] mixed<|.tO 0 rfl .move<|.tO 1 rfl (.nilCheck rfl)<|.tO 2 rfl (.fieldAddr rfl)<|.tO 3 rfl (.fieldAddr rfl)<|.tO 4 rfl (.load1 rfl)<|.tO 5 rfl (.fieldAddr rfl)<|.tO 6 rfl (.load1 rfl)<|.tO 7 rfl (.indexR i hss hs rfl rfl rfl)<|.tO 8 rfl (.fieldAddr rfl)<|.tO 9 rfl (.load1 rfl)<|.tO 10 rfl .move<|.tO 11 rfl (.loadA rfl)<|RA.step2 12 13 rfl rfl (by kernel_rfl) rfl ?_ ?_
 refine .callR (hrel.weaken rxl) (λ u hu => ?_)
 subst hu
 refine .nil<|Next.sub<|.sT 13 rfl ?_
 refine .allocA (λ b9 => ?_)
 refine .nil<|Next.sub<|.tO 14 rfl .assign<|.sT 15 rfl<|.storeA rfl rfl<|.nil<|Next.mod rfl<|RA.nil (by kernel_rfl) ?_
 ·exact joinQ_n b9 trivial kE.c.c.c.c rH
 refine .allocA (λ b9 => ?_)
 refine .nil<|Next.sub<|.sT 12 rfl<|.callR (hrel.weaken rxl) (λ u hu => ?_)
 subst hu
 refine .nil<|Next.sub<|.tO 14 rfl .assign<|.sT 15 rfl<|.storeA rfl rfl<|.nil<|Next.mod rfl<|RA.nil (by kernel_rfl) ?_
 ·exact joinQ_n b9 trivial kE.c.c.c.c rH
 intro y hy
 obtain ⟨vt, vn, r⟩ := r
 have hrt : RS R 2 Ty.enc vt r.types := hri.t
 have irt : One vt := hrt.oneCell
 have ird : One vn := RS.oneCell hri.d
 refine seqQ_n<|.sr<|.ag rfl<|.zs<|.sr<|.fa rfl<|.lo rfl<|.zn<|.block<|.sr<|.q .eqI<|.az rfl ?_
 refine Tri.cutS [(0, _)] kE.c (X := Value × List Ty × Seg) (λ y => OS 252 2 Ty.enc y.1 y.2.1 y.2.2 /\ TN A s.name r n y.2.1) (λ y E => (10, y.1) :: E) (λ y => [y.2.2]) ?_ ?_
 refine .cond rfl (λ h1 => ?_) λ h1 => ?_
 refine .region<|.fa rfl<|.lo rfl<|.callN (sets_spec vt r.types _ hrt.rx (by simp only at hty8; omega)) (λ u T1 hu => ?_)
 have iu := hu.oneCell
 refine .ag rfl<|.nil ?_
 ·exact joinQ_n (u, setsT r.types, T1) ⟨hu, by unfold targets; rw [if_pos (by simpa using h1)], setsT_le hty8⟩ kE.c.c (pkH [0])
 refine .sr<|.q .eqI<|.az rfl<|.cond rfl (λ h2 => ?_) λ h2 => ?_
 refine .region<|.mo rfl<|.fa rfl<|.lo rfl ?_
 refine .q .bld ?_
 refine .buildSlice1A (λ b46 => ?_)
 refine .ag rfl<|.nil ?_
 ·exact joinQ_n (_, [(⟨s.name, n.rel⟩ : Ty)], _) ⟨OS.lits (xs := [(⟨s.name, n.rel⟩ : Ty)]) rfl (by simp [Ty.enc]) (by simp [Ty.enc, oneCell]), by unfold targets; rw [if_neg (by simpa using h1), if_pos (by simpa using h2)], by simp⟩ ((kE.d rfl).d rfl) (pkH [0])
 refine .sr<|.q .eqI<|.az rfl<|.cond rfl (λ h3 => ?_) λ h3 => ?_
 obtain ⟨ps, ok, hps, hok⟩ := hlook (⟨s.name, n.rel⟩ : Ty)
 refine .seq<|.region_all [13] mixed<|.tO 0 rfl .move<|.tO 1 rfl (.nilCheck rfl)<|.tO 2 rfl (.fieldAddr rfl)<|.tO 3 rfl (.load1 rfl)<|.tO 4 rfl .move<|.tO 5 rfl (.fieldAddr rfl)<|.tO 6 rfl (.load1 rfl)<|.tO 7 rfl .bld<|.takeO 8 rfl (.cast (.lookup2 (hix.rm.mono' λ b o hb => .inl hb) rfl rfl) (congrArg (λ l : List Value => Value.tuple l.toArray) hps)) (by kernel_rfl)<|.tO 9 rfl .move<|.tO 10 rfl .extract<|.tK 11 rfl .extract<|.sT 12 rfl ?_
 refine .allocA (λ b11 => ?_)
 refine .nil<|Next.sub<|.sT 13 rfl<|.storeA rfl rfl<|.nil<|Next.mod rfl<|.tK 14 rfl .assign<|RA.nil (by kernel_rfl)<|seqQ_n<|.seq<|.sr<|.mo rfl<|.q .not<|.zn<|.cond rfl (λ h4 => ?_) λ h4 => ?_
 refine .sr<|.ag rfl<|.az rfl<|.ret (seqQ_r (joinQ_r (blkQ_r (seqQ_r (retQ_r _ (.two (.tmp rfl) (.tmp rfl)) HLe.nil1 ?_)))))
 ·refine ⟨[], rfl, _, [], false, rfl, OS.nil, by simp, ?_⟩
  have hokf : ok = false := by simpa using h4
  have hj : rfind A ⟨s.name, n.rel⟩ = none := by
   unfold Looked at hok
   rw [hA] at hok
   cases hf : rfind A ⟨s.name, n.rel⟩ with
   | none => rfl
   | some j => rw [hf] at hok; rw [hok.1] at hokf; cases hokf
  unfold targets
  rw [if_neg (by simpa using h1), if_neg (by simpa using h2), if_pos (by simpa using h3), hj]
  rfl
 have hokt : ok = true := by simpa using h4
 subst hokt
 obtain ⟨j, hj, hjx, s2, r2, hs2, hr2⟩ : ∃ j, rfind A ⟨s.name, n.rel⟩ = some j /\ c.ix ps = j /\ c.valid ps := by
  unfold Looked at hok
  rw [hA] at hok
  cases hf : rfind A ⟨s.name, n.rel⟩ with
  | none => rw [hf] at hok; cases hok
  | some j => rw [hf] at hok; exact ⟨j, rfl, hok.2.1, hok.2.2⟩
 have hrel2 := rel_spec hix ps s2 r2 hs2 hr2
 obtain ⟨vt2, vn2, r2⟩ := r2
 have hri2 := (h.ci.all _ (mog hs2)).all _ (mog hr2)
 have hrt2 : RS R 2 Ty.enc vt2 r2.types := hri2.t
 have ht28 : r2.types.length <= 8 := (h8 _ (mog hs2) _ (mog hr2)).1
 have hAj : (A.map (·.2.types)).getD j [] = r2.types := by
  have := nms_typesC hs2 hr2
  rw [hA, hjx] at this
  rw [List.getD_eq_getElem?_getD, List.getElem?_map, this]
  rfl
 refine .kn<|.seq<|.sr<|.mo rfl<|.q (.loadA rfl)<|.callR (hrel2.weaken rxl) (λ u hu => ?_)
 subst hu
 refine .q (.field1 Tryz.underlying207 rfl rfl fA205 rfl)<|.callN (sets_spec vt2 r2.types _ hrt2.rx (by omega)) (λ u T2 hu2 => ?_)
 have iu2 := hu2.oneCell
 have hzl := setsT_le ht28
 refine .q (.lenO hu2)<|.mo rfl<|.zn<|.block<|.loopS [(0, _), (5, _), (67, _), (68, _)] (X := Nat × Value × Seg) (λ y => y.1 <= (setsT r2.types).length /\ OS 252 2 Ty.enc y.2.1 (((setsT r2.types).take y.1).map λ t => (⟨t.space, n.thn⟩ : Ty)) y.2.2) (λ y E => (69, iN y.1) :: (10, y.2.1) :: E) (λ y G => y.2.2 :: G) (λ y => (setsT r2.types).length - y.1) (0, sZ, []) ⟨Nat.zero_le _, OS.nil⟩ kE.c.c.c.c.c.c HLe.new0 ?_
 rintro ⟨q, vo, To⟩ ⟨hq, hO⟩
 simp only at hq hO ⊢
 have io := hO.oneCell
 refine .sr<|.q .lss<|.zs<|.cond rfl (λ h5 => ?_) λ h5 => ?_
 have hqt : q < (setsT r2.types).length := by have := odt h5; omega
 obtain ⟨t, htx⟩ := exg hqt
 refine .kn<|.seq<|.block<|.sr ?_
 refine .indexO q hu2 htx (λ p71 => ?_)
 refine .q (.loadA rfl) ?_
 refine .allocA (λ b14 => ?_)
 refine .storeA rfl rfl<|.zn<|.region<|.mo rfl<|.fa rfl<|.lo rfl<|.fa rfl<|.lo rfl ?_
 refine .q .bld ?_
 refine .buildSlice1A (λ b79 => ?_)
 refine .append hO (RS.lits (xs := [(⟨t.space, n.thn⟩ : Ty)]) rfl (by simp [Ty.enc]) (by simp [Ty.enc, oneCell])) (by simp only [List.length_map, List.length_take, List.length_singleton]; omega) (λ v1 T1 hv1 => ?_)
 have iv1 := hv1.oneCell
 refine .ag rfl<|.nil<|blkQ_n<|seqQ_n<|.region<|.ia (q + 1) .add<|.mo rfl<|.nil ?_
 ·exact loopQ_i (q + 1, v1, T1) ⟨hqt, by simp only; rw [take_next htx, List.map_append]; exact hv1⟩ (by simp only; omega) kE.c.c.c.c.c.c (pkH [2, 2, 2, 2, 2, 2])
 rw [take_end (ge_i h5)] at hO
 refine .exit<|seqQ_x<|loopQ_x<|blkQ_x<|seqQ_n<|.sr<|.mo rfl<|.q (.lenO hO)<|.q .eqI<|.zn<|.cond rfl (λ h6 => ?_) λ h6 => ?_
 have hnil : setsT r2.types = [] := by have h7 := eq_of_beq h6; rw [List.length_map] at h7; exact List.eq_nil_of_length_eq_zero (by omega)
 refine .sr<|.ag rfl<|.az rfl<|.ret (joinQ_r (blkQ_r (seqQ_r (retQ_r _ (.two (.tmp rfl) (.tmp rfl)) HLe.nil1 ?_))))
 ·refine ⟨[], rfl, _, [], false, rfl, OS.nil, by simp, ?_⟩
  unfold targets
  rw [if_neg (by simpa using h1), if_neg (by simpa using h2), if_pos (by simpa using h3), hj]
  simp only
  rw [hAj, hnil]
  rfl
 have hne : setsT r2.types ≠ [] := by intro e; rw [e] at h6; simp at h6
 refine .skip ?_
 ·exact joinQ_n (vo, (setsT r2.types).map λ t => (⟨t.space, n.thn⟩ : Ty), To) ⟨hO, by
   unfold targets
   rw [if_neg (by simpa using h1), if_neg (by simpa using h2), if_pos (by simpa using h3), hj]
   simp only
   rw [hAj]
   cases hz : setsT r2.types with
   | nil => exact absurd hz hne
   | cons z zs => rfl, by rw [List.length_map]; exact hzl⟩ kE.c.c (pkH [0])
 refine .skip ?_
 ·exact joinQ_n (sZ, [], []) ⟨OS.nil, by unfold targets; rw [if_neg (by simpa using h1), if_neg (by simpa using h2), if_neg (by simpa using h3)]; rfl, by simp⟩ kE.c.c HLe.nil1
 intro x hx
 obtain ⟨w, tys, Tt⟩ := x
 obtain ⟨hOt, hT1, hT2⟩ := hx
 simp only at hOt hT1 hT2 ⊢
 have iw := hOt.oneCell
 rw [hT1]
 refine blkQ_n<|seqQ_n<|.sr<|.ag rfl<|.zs<|.sr<|.mo rfl<|.q (.lenO hOt)<|.mo rfl<|.zn<|.block<|.loopS [(0, _), (85, _), (86, _)] (X := Nat × Value × List Spot × Seg) (λ y => y.1 <= tys.length /\ OS 338 2 encSp y.2.1 y.2.2.1 y.2.2.2 /\ y.2.2.1.length = y.1 /\ NA c true y.2.2.1 (findAll A (tys.take y.1))) (λ y E => (87, iN y.1) :: (15, y.2.1) :: E) (λ y G => y.2.2.2 :: G) (λ y => tys.length - y.1) (0, sZ, [], []) ⟨Nat.zero_le _, OS.nil, rfl, ⟨rfl, rfl, λ p hp => (by cases hp)⟩⟩ kE.c.c.c.c.c HLe.new0 ?_
 rintro ⟨q, vo, S, To⟩ ⟨hq, hO, hSl, hN⟩
 simp only at hq hO hSl hN ⊢
 have io := hO.oneCell
 refine .sr<|.q .lss<|.zs<|.cond rfl (λ h7 => ?_) λ h7 => ?_
 have hqt : q < tys.length := lt_i h7
 obtain ⟨t, htx⟩ := exg hqt
 obtain ⟨ps, ok, hps, hok⟩ := hlook t
 unfold Looked at hok
 rw [hA] at hok
 refine .kn<|.seq<|.block<|.sr ?_
 refine .indexO q hOt htx (λ p89 => ?_)
 refine .q (.loadA rfl) ?_
 refine .allocA (λ b17 => ?_)
 refine .storeA rfl rfl<|.zs<|.region_all [10] mixed<|.tO 0 rfl .move<|.tO 1 rfl (.nilCheck rfl)<|.tO 2 rfl (.fieldAddr rfl)<|.tO 3 rfl (.load1 rfl)<|.tO 4 rfl (.loadA rfl)<|.takeO 5 rfl (.cast (.lookup2 (hix.rm.mono' λ b o hb => .inl hb) rfl rfl) (congrArg (λ l : List Value => Value.tuple l.toArray) hps)) (by kernel_rfl)<|.tO 6 rfl .move<|.tO 7 rfl .extract<|.tK 8 rfl .extract<|.sT 9 rfl ?_
 refine .allocA (λ b18 => ?_)
 refine .nil<|Next.sub<|.sT 10 rfl<|.storeA rfl rfl<|.nil<|Next.mod rfl<|.tK 11 rfl .assign<|RA.nil (by kernel_rfl)<|seqQ_n<|.seq<|.sr<|.mo rfl<|.q .not<|.zn<|.cond rfl (λ h8 => ?_) λ h8 => ?_
 refine .sr<|.ag rfl<|.az rfl<|.ret (seqQ_r (blkQ_r (seqQ_r (loopQ_r (blkQ_r (seqQ_r (retQ_r _ (.two (.tmp rfl) (.tmp rfl)) HLe.nil1 ?_)))))))
 ·refine ⟨[], rfl, _, [], false, rfl, OS.nil, by simp, ?_⟩
  have hokf : ok = false := by simpa using h8
  have hj : rfind A t = none := by
   cases hf : rfind A t with
   | none => rfl
   | some j => rw [hf] at hok; rw [hok.1] at hokf; cases hokf
  rw [findAll_none (mog htx) hj]
  rfl
 have hokt : ok = true := by simpa using h8
 subst hokt
 obtain ⟨j, hj, hjx, hval⟩ : ∃ j, rfind A t = some j /\ c.ix ps = j /\ c.valid ps := by
  cases hf : rfind A t with
  | none => rw [hf] at hok; cases hok
  | some j => rw [hf] at hok; exact ⟨j, rfl, hok.2.1, hok.2.2⟩
 refine .kn<|.region<|.mo rfl<|.q (.loadA rfl) ?_
 refine .buildSlice1A (λ b104 => ?_)
 refine .append hO (RS.lits (xs := [ps]) rfl (by simp [encSp]) (by simp [encSp, oneCell])) (by simp only [List.length_singleton]; omega) (λ v1 T1 hv1 => ?_)
 have iv1 := hv1.oneCell
 refine .ag rfl<|.nil<|blkQ_n<|seqQ_n<|.region<|.ia (q + 1) .add<|.mo rfl<|.nil ?_
 ·exact loopQ_i (q + 1, v1, S ++ [ps], T1) ⟨hqt, hv1, by simp [hSl], by
   simp only
   rw [take_next htx, findAll_app, hj]
   cases hf : findAll A (tys.take q) with
   | none => rw [hf] at hN; cases hN
   | some o =>
    rw [hf] at hN
    obtain ⟨_, n1, n2⟩ := hN
    refine ⟨rfl, by rw [List.map_append, n1]; simp [hjx], λ p hp => ?_⟩
    rcases List.mem_append.1 hp with hp | hp
    ·exact n2 p hp
    ·rw [List.mem_singleton] at hp; subst hp; exact hval⟩ (by simp only; omega) kE.c.c.c.c.c (pkH [3, 3])
 rw [take_end (ge_i h7)] at hN
 refine .exit<|seqQ_x<|loopQ_x<|blkQ_x<|seqQ_n<|.sr<|.mo rfl<|.ag rfl<|.az rfl<|.ret (retQ_r _ (.two (.tmp rfl) (.tmp rfl)) (.one [0] _) ?_)
 ·exact ⟨To, by simp [take], vo, S, true, rfl, hO, by omega, hN⟩
abbrev EdS := Spot × Spot × Bool
def encEs (e : EdS) : List Value := [iN e.1.1, iN e.1.2, iN e.2.1.1, iN e.2.1.2, .bool e.2.2]
instance (e : EdS) : Ones (encEs e) := ⟨by simp [encEs, oneCell]⟩
def CfM.ed (c : CfM) (e : EdS) : Ed := ⟨c.ix e.1, c.ix e.2.1, e.2.2⟩
def EA (c : CfM) (ok : Bool) (Es : List EdS) (o : Option (List Ed)) : Prop := match o with
 | none => ok = false
 | some E => ok = true /\ Es.map c.ed = E /\ ∀ e ∈ Es, c.valid e.1 /\ c.valid e.2.1
theorem cat_none {α β : Type} {f : α -> Option (List β)} {x : α} : ∀ {l : List α}, x ∈ l -> f x = none -> cat f l = none
 | [], hx, _ => by cases hx
 | y :: l, hx, h => by
  rw [cat]
  rcases List.mem_cons.1 hx with rfl | hx
  ·rw [h]; rfl
  ·rw [cat_none hx h]
   cases f y <;> rfl
theorem EA.app {c : CfM} {Es Fs : List EdS} {a b : Option (List Ed)} (ha : EA c true Es a) (hb : EA c true Fs b) : EA c true (Es ++ Fs) (a.bind λ x => b.map (x ++ ·)) := by
 cases a with
 | none => cases ha
 | some a =>
  cases b with
  | none => cases hb
  | some b =>
   obtain ⟨_, a1, a2⟩ := ha
   obtain ⟨_, b1, b2⟩ := hb
   refine ⟨rfl, by rw [List.map_append, a1, b1], λ e he => ?_⟩
   rcases List.mem_append.1 he with he | he
   ·exact a2 e he
   ·exact b2 e he
theorem EA.nil {c : CfM} : EA c true [] (some []) := ⟨rfl, rfl, λ e he => (by cases he)⟩
theorem edges_spec {R : Rds} {xb : Nat} {vm : Value} {c : CfM} (h : IX R xb vm c) (h8 : c.few8) (p : Spot) (s : SpM) (r : RlM) (hs : c.spaces[p.1]? = some s) (hr : s.rels[p.2]? = some r) :
  Spec prog 200 [pT xb, .agg (encSp p).toArray] R [] λ u H' => ∃ T, H' = [T] /\ ∃ w Es ok, u = .tuple [w, .bool ok].toArray /\ OS 342 5 encEs w Es T /\ Es.length <= 512 /\
   EA c ok Es (relC c.plain.all (c.ix p) s.name r.r) := by
 have hrel := rel_spec h p s r hs hr
 have hnamed := λ n => named_spec h h8 p s r hs hr n
 have hix := h
 obtain ⟨hty8, hn64, hdp⟩ := h8 s (mog hs) r (mog hr)
 have hlook := looked c
 have hvp : c.valid p := ⟨s, r, hs, hr⟩
 have pc := h.pc
 have om := h.om
 have hri := (h.ci.all _ (mog hs)).all _ (mog hr)
 generalize hA : c.plain.all = A at *
 generalize hj0 : c.ix p = j0 at *
 have hrC : relC A j0 s.name r.r = if (findAll A (setsT r.r.types)).isSome then cat (λ k : Nat => (r.r.nodes[k]?).bind λ n => nodeE A j0 s.name r.r ((absC r.r.nodes).getD k false) n) (List.range' 0 r.r.nodes.length) else none := rfl
 obtain ⟨vt, vn, r⟩ := r
 have hrt : RS R 2 Ty.enc vt r.types := hri.t
 have hrd : RS R 5 Nd.enc vn r.nodes := hri.d
 have irt : One vt := hrt.oneCell
 have ird : One vn := hrd.oneCell
 have hone : Ones (RlM.enc ⟨vt, vn, r⟩) := ⟨hri.ones⟩
 have hzl := setsT_le hty8
 simp only at hty8 hn64 hdp hrC hnamed hzl ⊢
 have hal : (absC r.nodes).length = r.nodes.length := by unfold absC; rw [down_len, List.length_replicate]
 refine Spec.body Tryz.func200 rfl Tryz.results200 Tryz.ntmps200 rfl<|.sr ?_
 refine .boxA rfl (λ b3 => ?_)
 refine .ag rfl<|.ag rfl<|.z<|.mo rfl<|.q (.loadA rfl)<|.callR (hrel.weaken rxl) (λ u hu => ?_)
 subst hu
 refine .allocA (λ b6 => ?_)
 refine .storeA rfl rfl<|.zs<|.sr<|.fa rfl<|.lo rfl<|.callN (sets_spec vt r.types _ hrt.rx (by omega)) (λ u T2 hu2 => ?_)
 have iu2 := hu2.oneCell
 refine .q (.lenO hu2)<|.mo rfl<|.zn<|.block<|.loopS [(0, _), (3, _), (6, _), (24, _), (25, _)] (X := Nat) (λ q => q <= (setsT r.types).length /\ ((setsT r.types).take q).all (λ t => (rfind A t).isSome) = true) (λ q E => (26, iN q) :: E) (λ _ G => G) (λ q => (setsT r.types).length - q) 0 ⟨Nat.zero_le _, rfl⟩ kE.c.c.c.c.c.c rH ?_
 rintro q ⟨hq, hqa⟩
 refine .sr<|.q .lss<|.zs<|.cond rfl (λ h1 => ?_) λ h1 => ?_
 have hqt : q < (setsT r.types).length := by have := odt h1; omega
 obtain ⟨t, htx⟩ := exg hqt
 obtain ⟨ps, ok, hps, hok⟩ := hlook t
 unfold Looked at hok
 rw [hA] at hok
 refine .kn<|.seq<|.block<|.sr ?_
 refine .indexO q hu2 htx (λ p28 => ?_)
 refine .q (.loadA rfl) ?_
 refine .allocA (λ b8 => ?_)
 refine .storeA rfl rfl<|.zs<|.region_all [10] mixed<|.tO 0 rfl .move<|.tO 1 rfl (.nilCheck rfl)<|.tO 2 rfl (.fieldAddr rfl)<|.tO 3 rfl (.load1 rfl)<|.tO 4 rfl (.loadA rfl)<|.takeO 5 rfl (.cast (.lookup2 (hix.rm.mono' λ b o hb => .inl hb) rfl rfl) (congrArg (λ l : List Value => Value.tuple l.toArray) hps)) (by kernel_rfl)<|.tO 6 rfl .move<|.tO 7 rfl .extract<|.tK 8 rfl .extract<|.sT 9 rfl ?_
 refine .allocA (λ b9 => ?_)
 refine .nil<|Next.sub<|.sT 10 rfl<|.storeA rfl rfl<|.nil<|Next.mod rfl<|.tK 11 rfl .assign<|RA.nil (by kernel_rfl)<|seqQ_n<|.sr<|.mo rfl<|.q .not<|.zn<|.cond rfl (λ h2 => ?_) λ h2 => ?_
 refine .sr<|.ag rfl<|.az rfl<|.ret (blkQ_r (seqQ_r (loopQ_r (blkQ_r (seqQ_r (retQ_r _ (.two (.tmp rfl) (.tmp rfl)) HLe.nil1 ?_))))))
 ·refine ⟨[], rfl, _, [], false, rfl, OS.nil, by simp, ?_⟩
  have hokf : ok = false := by simpa using h2
  have hj : rfind A t = none := by
   cases hf : rfind A t with
   | none => rfl
   | some j => rw [hf] at hok; rw [hok.1] at hokf; cases hokf
  rw [hrC, findAll_none (mog htx) hj]
  rfl
 have hf : (rfind A t).isSome = true := by
  have hokt : ok = true := by simpa using h2
  cases hf : rfind A t with
  | none => rw [hf] at hok; rw [hok] at hokt; cases hokt
  | some j => rfl
 refine .skip<|blkQ_n<|seqQ_n<|.region<|.ia (q + 1) .add<|.mo rfl<|.nil ?_
 ·exact loopQ_i (q + 1) ⟨hqt, all_next htx hqa hf⟩ (by omega) kE.c.c.c.c.c.c (pkH [2, 2, 2, 2])
 have hfa : (findAll A (setsT r.types)).isSome = true := by
  have h5 := findAll_all A (setsT r.types)
  rw [take_end (ge_i h1)] at hqa
  cases hf : findAll A (setsT r.types) with
  | none => rw [hf] at h5; rw [show _ = false from h5] at hqa; cases hqa
  | some o => rfl
 rw [if_pos hfa] at hrC
 rw [hrC]
 generalize hg : (λ k : Nat => (r.nodes[k]?).bind λ n => nodeE A j0 s.name r ((absC r.nodes).getD k false) n) = g at *
 refine .exit<|seqQ_x<|loopQ_x<|blkQ_x<|seqQ_n<|.sr<|.fa rfl<|.lo rfl<|.callN (absences_spec vn r.nodes _ hrd.rx hdp (by omega)) (λ u T9 hu9 => ?_)
 have iu9 := hu9.oneCell
 refine .ag rfl<|.z<|.ag rfl<|.zs<|.sr<|.fa rfl<|.lo rfl<|.q (.lenR hrd)<|.mo rfl<|.zn<|.block<|.loopS [(0, _), (3, _), (11, _), (46, _), (47, _)] (X := Nat × Value × List EdS × Seg) (λ y => y.1 <= r.nodes.length /\ OS 342 5 encEs y.2.1 y.2.2.1 y.2.2.2 /\ y.2.2.1.length <= 8 * y.1 /\ EA c true y.2.2.1 (cat g (List.range' 0 y.1))) (λ y E => (48, iN y.1) :: (12, y.2.1) :: E) (λ y G => y.2.2.2 :: G) (λ y => r.nodes.length - y.1) (0, sZ, [], []) ⟨Nat.zero_le _, OS.nil, by simp, EA.nil⟩ kE.c.c.c.c.c.c.c HLe.new0 ?_
 rintro ⟨m, vo, Es, To⟩ ⟨hm, hO, hEl, hE⟩
 simp only at hm hO hEl hE ⊢
 have io := hO.oneCell
 refine .sr<|.q .lss<|.zs<|.cond rfl (λ h3 => ?_) λ h3 => ?_
 have hmt : m < r.nodes.length := lt_i h3
 obtain ⟨n, hnx⟩ := exg hmt
 obtain ⟨ab, hab⟩ : ∃ b, (absC r.nodes)[m]? = some b := ⟨_, gge (by omega)⟩
 have hgm : g m = nodeE A j0 s.name r ab n := by
  rw [<- hg]
  simp only [hnx, Option.bind_some]
  rw [List.getD_eq_getElem?_getD, hab]
  rfl
 have hrg : List.range' 0 (m + 1) = List.range' 0 m ++ [m] := by rw [List.range'_1_concat]; simp
 refine .kn<|.seq<|.block<|.sr<|.mo rfl ?_
 refine .indexR m hrd hnx (λ p51 => ?_)
 refine .q (.loadA rfl) ?_
 refine .allocA (λ b14 => ?_)
 refine .ag rfl<|.storeA rfl rfl<|.z<|.mo rfl<|.q (.loadA rfl)<|.q (.loadA rfl)<|.callN ((hnamed n).weaken rxl) (λ u T4 hu4 => ?_)
 obtain ⟨w4, S, ok, rfl, hO4, hS8, hNA⟩ := hu4
 have i4 := hO4.oneCell
 refine .mo rfl<|.q .extract<|.q .extract<|.ag rfl<|.ag rfl<|.zs<|.sr<|.mo rfl<|.q .not<|.zn<|.cond rfl (λ h4 => ?_) λ h4 => ?_
 refine .sr<|.ag rfl<|.az rfl<|.ret (seqQ_r (blkQ_r (seqQ_r (loopQ_r (blkQ_r (seqQ_r (retQ_r _ (.two (.tmp rfl) (.tmp rfl)) HLe.nil1 ?_)))))))
 ·refine ⟨[], rfl, _, [], false, rfl, OS.nil, by simp, ?_⟩
  have hokf : ok = false := by simpa using h4
  have ht : targets A s.name r.types n = none := by
   cases ht : targets A s.name r.types n with
   | none => rfl
   | some ts => rw [ht] at hNA; rw [hNA.1] at hokf; cases hokf
  rw [cat_none (x := m) (by rw [List.mem_range'_1]; omega) (by rw [hgm]; unfold nodeE; rw [ht]; rfl)]
  rfl
 have hokt : ok = true := by simpa using h4
 subst hokt
 obtain ⟨ts, hts, hSts, hSv⟩ : ∃ ts, targets A s.name r.types n = some ts /\ S.map c.ix = ts /\ ∀ q ∈ S, c.valid q := by
  cases ht : targets A s.name r.types n with
  | none => rw [ht] at hNA; cases hNA
  | some ts => rw [ht] at hNA; exact ⟨ts, rfl, hNA.2.1, hNA.2.2⟩
 refine .kn<|.sr<|.mo rfl<|.q (.lenO hO4)<|.mo rfl<|.zn<|.block<|.loopS [(0, _), (3, _), (11, _), (13, _), (46, _), (47, _), (48, _), (62, _), (63, _)] (X := Nat × Value × Seg) (λ y => y.1 <= S.length /\ OS 342 5 encEs y.2.1 (Es ++ (S.take y.1).map λ q => ((p, q, ab) : EdS)) y.2.2) (λ y E => (64, iN y.1) :: (12, y.2.1) :: E) (λ y G => T4 :: bl b14 n.enc 168 :: y.2.2 :: G) (λ y => S.length - y.1) (0, vo, To) ⟨Nat.zero_le _, by simpa using hO⟩ kE.c.c.c.c.c.c.c.c.c.c.c rH ?_
 rintro ⟨q, v3, T3⟩ ⟨hq3, hO3⟩
 simp only at hq3 hO3 ⊢
 have io3 := hO3.oneCell
 refine .sr<|.q .lss<|.zs<|.cond rfl (λ h5 => ?_) λ h5 => ?_
 have hqt3 : q < S.length := lt_i h5
 obtain ⟨ps3, hpx⟩ := exg hqt3
 refine .kn<|.seq<|.block<|.sr ?_
 refine .indexO q hO4 hpx (λ p66 => ?_)
 refine .q (.loadA rfl) ?_
 refine .allocA (λ b18 => ?_)
 refine .storeA rfl rfl<|.zn<|.region_all [9] mixed<|.tO 0 rfl .move<|.tO 1 rfl (.loadA rfl)<|.tO 2 rfl (.loadA rfl)<|.tO 3 rfl .move<|.tO 4 rfl .move ?_
 refine RA.indexO 5 rfl m hu9 hab rfl rfl rfl (by kernel_rfl) (λ p73 => ?_)
 refine .tO 6 rfl (.load1 rfl)<|.tO 7 rfl .bld<|.sT 8 rfl ?_
 refine .buildSlice1A (λ b76 => ?_)
 refine .nil<|Next.sub<|.sT 9 rfl<|.append hO3 (RS.lits (xs := [((p, ps3, ab) : EdS)]) rfl (by simp [encEs]) (by simp [encEs, oneCell])) (by simp only [List.length_append, List.length_map, List.length_take, List.length_singleton]; omega) (λ v1 T1 hv1 => ?_)
 have iv1 := hv1.oneCell
 refine .nil<|Next.mod rfl<|.tK 10 rfl .assign<|RA.nil (by kernel_rfl)<|blkQ_n<|seqQ_n<|.region<|.ia (q + 1) .add<|.mo rfl<|.nil ?_
 ·exact loopQ_i (q + 1, v1, T1) ⟨hqt3, by simp only; rw [take_next hpx, List.map_append, <- List.append_assoc]; exact hv1⟩ (by simp only; omega) kE.c.c.c.c.c.c.c.c.c.c.c (pkH [2, 2, 2, 2, 2, 2, 2])
 rw [take_end (ge_i h5)] at hO3
 refine .exit<|seqQ_x<|loopQ_x<|blkQ_x<|blkQ_n<|seqQ_n<|.region<|.ia (m + 1) .add<|.mo rfl<|.nil ?_
 ·exact loopQ_i (m + 1, v3, Es ++ S.map (λ q => ((p, q, ab) : EdS)), T3) ⟨hmt, hO3, by simp only [List.length_append, List.length_map]; omega, by
   simp only
   rw [hrg, cat_append]
   refine hE.app ?_
   rw [cat, hgm]
   unfold nodeE
   rw [hts]
   simp only [cat, Option.map_some, Option.bind_some, List.append_nil]
   refine ⟨rfl, ?_, λ e he => ?_⟩
   ·rw [<- hSts, List.map_map, List.map_map]
    congr 1
    funext q
    simp only [Function.comp_def, CfM.ed, hj0]
   ·obtain ⟨q, hq, rfl⟩ := List.mem_map.1 he
    exact ⟨hvp, hSv q hq⟩⟩ (by simp only; omega) kE.c.c.c.c.c.c.c (pkH [2, 2, 2, 2, 2])
 have hme : m = r.nodes.length := by have := odf h3; omega
 refine .exit<|seqQ_x<|loopQ_x<|blkQ_x<|seqQ_n<|.sr<|.mo rfl<|.ag rfl<|.az rfl<|.ret (retQ_r _ (.two (.tmp rfl) (.tmp rfl)) (.one [0] _) ?_)
 ·refine ⟨To, by simp [take], vo, Es, true, rfl, hO, by omega, ?_⟩
  rw [<- hme]
  exact hE
theorem few8_of {c : CfM} (h : NmsR c.nms) : c.few8 := λ s hs r hr => h (s.name, r) (List.mem_flatMap.2 ⟨s, hs, List.mem_map.2 ⟨r, hr, rfl⟩⟩)
theorem sall_spec {R : Rds} {xb : Nat} {vm : Value} {c : CfM} (h : IX R xb vm c) (h8 : c.few8) (hf : c.few) :
  Spec prog 158 [pT xb] R [] λ u H' => ∃ T, H' = [T] /\ ∃ w Es ok, u = .tuple [w, .bool ok].toArray /\ OS 342 5 encEs w Es T /\ Es.length <= 131072 /\ EA c ok Es c.plain.edgesC := by
 have hedges := λ p s r hs hr => edges_spec h h8 p s r hs hr
 have hix := h
 have hlook := looked c
 have pc := h.pc
 have om := h.om
 have hss := h.ci.ss
 have hsc := h.ci.sc
 have i1 := hss.oneCell
 have i2 := hsc.oneCell
 have hle := hss.le
 have hlc := hsc.le
 have hal := h.ci.all
 have htot := total_all c.plain
 have hnm := hf.nms
 have hlal : c.plain.all.length = c.nms.length := by rw [<- nms_all, List.length_map]
 have hspl : c.plain.spaces.length = c.spaces.length := by unfold CfM.plain; simp
 have hpa : ∀ (i : Nat) (s : SpM), c.spaces[i]? = some s -> c.plain.spaces[i]? = some s.plain := λ i s hs => plain_at hs
 have hty := λ (p : Spot) (s : SpM) (r : RlM) => nms_typesC (c := c) (p := p) (s := s) (r := r)
 have heC : c.plain.edgesC = if scopesOK c.plain then cat (λ p : Nat × (ByteArray × Rl) => relC c.plain.all p.1 p.2.1 p.2.2) (enum 0 c.plain.all) else none := rfl
 have hscO : scopesOK c.plain = c.scopes.all λ s : Sc => (rfind c.plain.all ⟨s.ospace, s.rel⟩).isSome := rfl
 have hixd : ∀ i k, c.ix (i, k) = offs c.plain.spaces i + k := λ _ _ => rfl
 generalize hA : c.plain.all = A at *
 generalize hO_ : offs c.plain.spaces = of at *
 generalize hg : (λ p : Nat × (ByteArray × Rl) => relC A p.1 p.2.1 p.2.2) = g at *
 have hof0 : of 0 = 0 := by rw [<- hO_]; cases c.plain.spaces <;> rfl
 refine Spec.body Tryz.func158 rfl Tryz.results158 Tryz.ntmps158 rfl<|.sr<|.ag rfl<|.ag rfl<|.z<|.ag rfl<|.zs<|.sr<|.mo rfl<|.nc rfl<|.fa rfl<|.fa rfl<|.lo rfl<|.q (.lenR hss)<|.mo rfl<|.zn<|.block<|.loopS [(0, _), (18, _), (19, _)] (X := Nat × Value × List EdS × Seg) (λ y => y.1 <= c.spaces.length /\ OS 342 5 encEs y.2.1 y.2.2.1 y.2.2.2 /\ y.2.2.1.length <= 512 * of y.1 /\ EA c true y.2.2.1 (cat g (enum 0 (A.take (of y.1))))) (λ y E => (20, iN y.1) :: (4, y.2.1) :: E) (λ y G => y.2.2.2 :: G) (λ y => c.spaces.length - y.1) (0, sZ, [], []) ⟨Nat.zero_le _, OS.nil, by simp, by simp only; rw [hof0]; exact EA.nil⟩ kE.c.c.c.c.c HLe.new0 ?_
 rintro ⟨i, vo, Es, To⟩ ⟨hi, hO, hEl, hE⟩
 simp only at hi hO hEl hE ⊢
 have io := hO.oneCell
 refine .sr<|.q .lss<|.zs<|.cond rfl (λ h1 => ?_) λ h1 => ?_
 have hlt : i < c.spaces.length := lt_i h1
 obtain ⟨⟨sn, sv, rls⟩, hs⟩ := exg hlt
 have hsi := hal _ (mog hs)
 have hrs : RS R 3 RlM.enc sv rls := hsi.rs
 have irs := hrs.oneCell
 have hler := hrs.le
 have isp : Ones (SpM.enc ⟨sn, sv, rls⟩) := ⟨hsi.ones⟩
 have hp1 := hpa i _ hs
 have hofn := offs_next hp1
 have hofl := offs_le hp1
 rw [hO_, show (SpM.plain ⟨sn, sv, rls⟩).rels.length = rls.length by simp [SpM.plain]] at hofn hofl
 rw [htot, hlal] at hofl
 refine .kn<|.seq<|.block<|.sr<|.mo rfl ?_
 refine .indexR i hss hs (λ p23 => ?_)
 refine .q (.loadA rfl) ?_
 refine .allocA (λ b6 => ?_)
 refine .ag rfl<|.storeA rfl rfl<|.z<|.fa rfl<|.lo rfl<|.q (.lenR hrs)<|.mo rfl<|.zn<|.block<|.loopS [(0, _), (5, _), (18, _), (19, _), (20, _), (27, _)] (X := Nat × Value × List EdS × Seg) (λ y => y.1 <= rls.length /\ OS 342 5 encEs y.2.1 y.2.2.1 y.2.2.2 /\ y.2.2.1.length <= 512 * (of i + y.1) /\ EA c true y.2.2.1 (cat g (enum 0 (A.take (of i + y.1))))) (λ y E => (28, iN y.1) :: (4, y.2.1) :: E) (λ y G => bl b6 (SpM.enc ⟨sn, sv, rls⟩) 187 :: y.2.2.2 :: G) (λ y => rls.length - y.1) (0, vo, Es, To) ⟨Nat.zero_le _, hO, hEl, hE⟩ kE.c.c.c.c.c.c.c.c rH ?_
 rintro ⟨k, vo, Es, To⟩ ⟨hk, hO, hEl, hE⟩
 simp only at hk hO hEl hE ⊢
 have io := hO.oneCell
 refine .sr<|.q .lss<|.zs<|.cond rfl (λ h2 => ?_) λ h2 => ?_
 have hkt : k < rls.length := lt_i h2
 obtain ⟨r, hr⟩ := exg hkt
 have hed := hedges (i, k) _ r hs hr
 have hax := hty (i, k) _ r hs hr
 rw [hixd] at hed hax
 have hgx : g (of i + k, (sn, r.r)) = relC A (of i + k) sn r.r := by rw [<- hg]
 have hlk : of i + k < A.length := (List.getElem?_eq_some_iff.1 hax).1
 refine .kn<|.seq<|.block<|.sr<|.mo rfl<|.ag rfl<|.z<|.mo rfl<|.mo rfl<|.mo rfl<|.q .bld<|.callN (hed.weaken rxl) (λ u T4 hu4 => ?_)
 obtain ⟨w4, Fs, ok, rfl, hO4, hF512, hEA⟩ := hu4
 have i4 := hO4.oneCell
 refine .mo rfl<|.q .extract<|.q .extract<|.ag rfl<|.ag rfl<|.zs<|.sr<|.mo rfl<|.q .not<|.zn<|.cond rfl (λ h3 => ?_) λ h3 => ?_
 refine .sr<|.ag rfl<|.az rfl<|.ret (seqQ_r (blkQ_r (seqQ_r (loopQ_r (blkQ_r (blkQ_r (seqQ_r (loopQ_r (blkQ_r (seqQ_r (retQ_r _ (.two (.tmp rfl) (.tmp rfl)) HLe.nil1 ?_)))))))))))
 ·refine ⟨[], rfl, _, [], false, rfl, OS.nil, by simp, ?_⟩
  have hokf : ok = false := by simpa using h3
  rw [heC]
  split
  ·rw [cat_none (x := (of i + k, (sn, r.r))) (by have := enum_get (i := 0) hax; rwa [Nat.zero_add] at this) (by
    rw [hgx]
    cases hrc : relC A (of i + k) sn r.r with
    | none => rfl
    | some o => rw [show relC A (of i + k) (⟨sn, sv, rls⟩ : SpM).name r.r = some o from hrc] at hEA; rw [hEA.1] at hokf; cases hokf)]
   rfl
  ·rfl
 have hokt : ok = true := by simpa using h3
 subst hokt
 refine .kn<|.region<|.mo rfl<|.mo rfl<|.append hO hO4.rx (by omega) (λ v1 T1 hv1 => ?_)
 have iv1 := hv1.oneCell
 refine .ag rfl<|.nil<|blkQ_n<|seqQ_n<|.region<|.ia (k + 1) .add<|.mo rfl<|.nil ?_
 ·exact loopQ_i (k + 1, v1, Es ++ Fs, T1) ⟨hkt, hv1, by simp only [List.length_append]; omega, by
   simp only
   rw [show of i + (k + 1) = of i + k + 1 by omega, enum_app hax, cat_append]
   refine hE.app ?_
   rw [cat, Nat.zero_add, show g (of i + k, (⟨sn, sv, rls⟩ : SpM).name, r.r) = relC A (of i + k) sn r.r from hgx]
   revert hEA
   generalize relC A (of i + k) (⟨sn, sv, rls⟩ : SpM).name r.r = o
   intro hEA
   cases o with
   | none => exact hEA
   | some o => simpa [cat] using hEA⟩ (by simp only; omega) kE.c.c.c.c.c.c.c.c (pkH [1, 1, 1])
 have hke : k = rls.length := by have := odf h2; omega
 rw [hke, <- hofn] at hEl hE
 refine .exit<|seqQ_x<|loopQ_x<|blkQ_x<|blkQ_n<|seqQ_n<|.region<|.ia (i + 1) .add<|.mo rfl<|.nil ?_
 ·exact loopQ_i (i + 1, vo, Es, To) ⟨hlt, hO, hEl, hE⟩ (by simp only; omega) kE.c.c.c.c.c (pkH [1])
 have hie : i = c.spaces.length := by have := odf h1; omega
 have hofe : of i = A.length := by rw [hie, <- hspl, <- hO_, <- htot]; rfl
 rw [hofe, List.take_length] at hE
 refine .exit<|seqQ_x<|loopQ_x<|blkQ_x<|seqQ_n<|.seq<|.sr<|.mo rfl<|.nc rfl<|.fa rfl<|.fa rfl<|.lo rfl<|.q (.lenR hsc)<|.mo rfl<|.zn<|.block<|.loopS [(0, _), (4, _), (50, _), (51, _)] (X := Nat) (λ j => j <= c.scopes.length /\ (c.scopes.take j).all (λ s : Sc => (rfind A ⟨s.ospace, s.rel⟩).isSome) = true) (λ j E => (52, iN j) :: E) (λ _ G => G) (λ j => c.scopes.length - j) 0 ⟨Nat.zero_le _, rfl⟩ kE.c.c.c.c.c rH ?_
 rintro j ⟨hj, hqj⟩
 refine .sr<|.q .lss<|.zs<|.cond rfl (λ h4 => ?_) λ h4 => ?_
 have hjt : j < c.scopes.length := lt_i h4
 obtain ⟨s, hs⟩ := exg hjt
 obtain ⟨ps, ok, hps, hok⟩ := hlook (⟨s.ospace, s.rel⟩ : Ty)
 unfold Looked at hok
 rw [hA] at hok
 refine .kn<|.seq<|.block<|.sr ?_
 refine .indexR j hsc hs (λ p54 => ?_)
 refine .q (.loadA rfl) ?_
 refine .allocA (λ b11 => ?_)
 refine .storeA rfl rfl<|.zs<|.region_all [15] mixed<|.tO 0 rfl .move<|.tO 1 rfl (.nilCheck rfl)<|.tO 2 rfl (.fieldAddr rfl)<|.tO 3 rfl (.load1 rfl)<|.tO 4 rfl (.fieldAddr rfl)<|.tO 5 rfl (.fieldAddr rfl)<|.tO 6 rfl (.load1 rfl)<|.tO 7 rfl (.fieldAddr rfl)<|.tO 8 rfl (.load1 rfl)<|.tO 9 rfl .bld<|.takeO 10 rfl (.cast (.lookup2 (hix.rm.mono' λ b o hb => .inl hb) rfl rfl) (congrArg (λ l : List Value => Value.tuple l.toArray) hps)) (by kernel_rfl)<|.tO 11 rfl .move<|.tO 12 rfl .extract<|.tK 13 rfl .extract<|.sT 14 rfl ?_
 refine .allocA (λ b12 => ?_)
 refine .nil<|Next.sub<|.sT 15 rfl<|.storeA rfl rfl<|.nil<|Next.mod rfl<|.tK 16 rfl .assign<|RA.nil (by kernel_rfl)<|seqQ_n<|.sr<|.mo rfl<|.q .not<|.zn<|.cond rfl (λ h5 => ?_) λ h5 => ?_
 refine .sr<|.ag rfl<|.az rfl<|.ret (blkQ_r (seqQ_r (loopQ_r (blkQ_r (seqQ_r (retQ_r _ (.two (.tmp rfl) (.tmp rfl)) HLe.nil1 ?_))))))
 ·refine ⟨[], rfl, _, [], false, rfl, OS.nil, by simp, ?_⟩
  have hokf : ok = false := by simpa using h5
  have hj : rfind A ⟨s.ospace, s.rel⟩ = none := by
   cases hf : rfind A ⟨s.ospace, s.rel⟩ with
   | none => rfl
   | some j => rw [hf] at hok; rw [hok.1] at hokf; cases hokf
  rw [heC, hscO, all_miss hs (by rw [hj]; rfl)]
  rfl
 have hf : (rfind A ⟨s.ospace, s.rel⟩).isSome = true := by
  have hokt : ok = true := by simpa using h5
  cases hf : rfind A ⟨s.ospace, s.rel⟩ with
  | none => rw [hf] at hok; rw [hok] at hokt; cases hokt
  | some j => rfl
 refine .skip<|blkQ_n<|seqQ_n<|.region<|.ia (j + 1) .add<|.mo rfl<|.nil ?_
 ·exact loopQ_i (j + 1) ⟨hjt, all_next hs hqj hf⟩ (by omega) kE.c.c.c.c.c (pkH [2])
 refine .exit<|seqQ_x<|loopQ_x<|blkQ_x<|seqQ_n<|.sr<|.mo rfl<|.ag rfl<|.az rfl<|.ret (retQ_r _ (.two (.tmp rfl) (.tmp rfl)) (.one [0] _) ?_)
 ·refine ⟨To, by simp [take], vo, Es, true, rfl, hO, Nat.le_trans hEl (Nat.mul_le_mul_left 512 (show of i <= 256 by omega)), ?_⟩
  rw [take_end (ge_i h4)] at hqj
  rw [heC, hscO, hqj, if_pos rfl]
  exact hE
abbrev RwM := NlM × Seg
def RWs (w : Value) (LL : List RwM) (To : Seg) : Prop := OS 127 1 encV1 w (LL.map (·.1)) To /\ ∀ q ∈ LL, OS 3 1 encNt q.1.1 q.1.2 q.2
def RWo (w : Value) (LL : List RwM) (T : Seg) : Prop := ∃ To, T = To ++ LL.flatMap (·.2) /\ RWs w LL To
theorem list_split {α : Type} {l : List α} {i : Nat} {x : α} (h : l[i]? = some x) : ∃ A B, l = A ++ x :: B /\ A.length = i /\ ∀ y, l.set i y = A ++ y :: B := by
 refine ⟨l.take i, l.drop (i + 1), ?_, ?_, λ y => ?_⟩
 ·have := drop_at h
  rw [<- this, List.take_append_drop]
 ·rw [List.length_take]; have := (List.getElem?_eq_some_iff.1 h).1; omega
 ·exact List.set_eq_take_append_cons_drop.trans (if_pos (List.getElem?_eq_some_iff.1 h).1)
theorem rise_spec (w : Value) (LL : List RwM) (T : Seg) (h : RWo w LL T) (e : EdS) (a b : Nat) (qf qt : RwM) (hqf : LL[e.1.1]? = some qf) (hqt : LL[e.2.1.1]? = some qt) (ha : qf.1.2[e.1.2]? = some a) (hb : qt.1.2[e.2.1.2]? = some b) (hb9 : b <= 1000000000) (R : Rds) :
  Spec prog 201 [w, .agg (encEs e).toArray] R [T] λ u H' => ∃ T', H' = [T'] /\ ((u = .bool false /\ b + (if e.2.2 then 1 else 0) <= a /\ RWo w LL T') \/ (u = .bool true /\ a < b + (if e.2.2 then 1 else 0) /\ ∃ Tn, RWo w (LL.set e.1.1 ((qf.1.1, qf.1.2.set e.1.2 (b + (if e.2.2 then 1 else 0))), Tn)) T')) := by
 obtain ⟨To, rfl, hO, hI⟩ := h
 obtain ⟨⟨f1, f2⟩, ⟨t1, t2⟩, ab⟩ := e
 obtain ⟨⟨vf, rf⟩, Tf⟩ := qf
 obtain ⟨⟨vt, rt⟩, Tt⟩ := qt
 simp only at hqf hqt ha hb ⊢
 have hOf := hI _ (mog hqf)
 have hOt := hI _ (mog hqt)
 simp only at hOf hOt
 have iw := hO.oneCell
 have ivf : One vf := hOf.oneCell
 have ivt : One vt := hOt.oneCell
 have hqf' : (LL.map (·.1))[f1]? = some (vf, rf) := by rw [List.getElem?_map, hqf]; rfl
 have hqt' : (LL.map (·.1))[t1]? = some (vt, rt) := by rw [List.getElem?_map, hqt]; rfl
 have hmem : ∀ (q : RwM), q ∈ LL -> ∀ p ∈ q.2, p ∈ LL.flatMap (·.2) := λ q hq p hp => List.mem_flatMap.2 ⟨q, hq, hp⟩
 obtain ⟨L1, L2, hLL, hL1, hset⟩ := list_split hqf
 have hrf : RC R [To, LL.flatMap (·.2)] (baseP vf (f2 * 1)) (encNt a) := ⟨(hOf.pc ha).mono λ b o hb => .inr (by have := hmem _ (mog hqf) _ hb; simp [this])⟩
 have hrt : RC R [To, LL.flatMap (·.2)] (baseP vt (t2 * 1)) (encNt b) := ⟨(hOt.pc hb).mono λ b o hb => .inr (by have := hmem _ (mog hqt) _ hb; simp [this])⟩
 have pof : PS To (baseP w (f1 * 1)) (encV1 (vf, rf)) := ⟨hO.pc hqf'⟩
 have pot : PS To (baseP w (t1 * 1)) (encV1 (vt, rt)) := ⟨hO.pc hqt'⟩
 refine Spec.segs (H' := [To, LL.flatMap (·.2)]) (by simp)<|Spec.body Tryz.func201 rfl Tryz.results201 Tryz.ntmps201 rfl<|.sr ?_
 refine .boxA rfl (λ b3 => ?_)
 refine .ag rfl<|.zs<|.region_still mixed (by kernel_rfl)<|.mo rfl<|.fa rfl<|.fa rfl<|.lo rfl<|.q (.indexR t1 hO.sg hqt' rfl rfl rfl)<|.lo rfl<|.fa rfl<|.fa rfl<|.lo rfl<|.q (.indexR t2 hOt.sg hb rfl rfl rfl)<|.lo rfl<|.ag rfl<|.zs<|.sr<|.fa rfl<|.lo rfl<|.zn ?_
 refine Tri.cutS [(0, _), (3, _)] kE.c.c (X := Unit) (λ _ => True) (λ _ E => (5, .int .i64 ((b + (if ab then 1 else 0) : Nat) : Int)) :: E) (λ _ => [bl b3 (encEs ((f1, f2), (t1, t2), ab)) 342, To, LL.flatMap (·.2)]) ?_ ?_
 refine .cond rfl (λ h1 => ?_) λ h1 => ?_
 refine .region<|.mo rfl<|.ia (b + 1) .add<|.ag rfl<|.nil ?_
 ·exact joinQ_n () trivial (kE.c.c.consI rfl (by have h : ab = _ := h1; simp [h])) rH
 refine .skip ?_
 ·exact joinQ_n () trivial (kE.c.c.consI rfl (by have h : ab = _ := h1; simp [h])) rH
 intro x hx
 refine seqQ_n<|.seq<|.seq<|.region_still mixed (by kernel_rfl)<|.mo rfl<|.fa rfl<|.fa rfl<|.lo rfl<|.q (.indexR f1 hO.sg hqf' rfl rfl rfl)<|.lo rfl<|.fa rfl<|.fa rfl<|.lo rfl<|.q (.indexR f2 hOf.sg ha rfl rfl rfl)<|.lo rfl<|.mo rfl<|.q .geq<|.zn<|.cond rfl (λ h2 => ?_) λ h2 => ?_
 refine .sr<|.az rfl<|.ret (seqQ_r (retQ_r _ (.one (.tmp rfl)) (.one [1, 1] _) ?_))
 ·refine ⟨_, rfl, .inl ⟨rfl, by have := odt h2; omega, To, by simp [take, dropAt], hO, hI⟩⟩
 refine .kn<|.seq<|.region_tail 11 mixed (by kernel_rfl) ?_
 conv => arg 6; dsimp only [List.take]
 refine .mo rfl<|.fa rfl<|.fa rfl<|.lo rfl<|.q (.indexR f1 hO.sg hqf' rfl rfl rfl)<|.lo rfl<|.fa rfl<|.fa rfl<|.lo rfl<|.mo rfl<|.q (.indexR f2 hOf.sg ha rfl rfl rfl)<|.nil ?_
 refine .sub (H' := [bl b3 (encEs ((f1, f2), (t1, t2), ab)) 342, To, Tf, L1.flatMap (·.2) ++ L2.flatMap (·.2)]) (HLe.ofPerm (by
  rw [hLL]
  simp only [List.flatMap_append, List.flatMap_cons, List.flatten_cons, List.flatten_nil, List.append_nil]
  refine .append_left _ (.append_left _ ?_)
  rw [<- List.append_assoc, <- List.append_assoc]
  exact List.perm_append_comm.append_right _)) ?_
 refine .storeO1 f2 hOf ha (b + (if ab then 1 else 0)) (λ Tn hOn => ?_)
 refine .z<|.az rfl<|.ret (retQ_r _ (.one (.tmp rfl)) ((pkH [1, 1, 1]).trans (HLe.ofPerm (H' := [To ++ (L1.flatMap (·.2) ++ (Tn ++ L2.flatMap (·.2)))]) (by simp only [take, dropAt, List.getD_cons_zero, List.getD_cons_succ, List.flatten_cons, List.flatten_nil, List.append_nil]; refine .append_left _ ?_; rw [<- List.append_assoc, <- List.append_assoc]; exact List.perm_append_comm.append_right _))) ?_)
 ·refine ⟨_, rfl, .inr ⟨rfl, by have := odf h2; omega, Tn, To, ?_, ?_, λ q hq => ?_⟩⟩
  ·rw [hset]; simp
  ·refine hO.congr ?_
   rw [hset, hLL]
   simp [encV1]
  ·rw [hset] at hq
   rcases List.mem_append.1 hq with hq | hq
   ·exact hI q (by rw [hLL]; exact List.mem_append_left _ hq)
   ·rcases List.mem_cons.1 hq with rfl | hq
    ·exact hOn
    ·exact hI q (by rw [hLL]; exact List.mem_append_right _ (List.mem_cons_of_mem _ hq))
theorem rows_rel {c : CfM} {X : List Nat} {p : Spot} (hv : c.valid p) (hX : X.length = total c.plain.spaces) : ∃ s : Sp, c.plain.spaces[p.1]? = some s /\ p.2 < s.rels.length /\ (rows c.plain.spaces X)[p.1]? = some ((X.drop (offs c.plain.spaces p.1)).take s.rels.length) /\ c.ix p < X.length /\
  ((X.drop (offs c.plain.spaces p.1)).take s.rels.length)[p.2]? = some (X.getD (c.ix p) 0) := by
 obtain ⟨s, r, hs, hr⟩ := hv
 have h1 := plain_at hs
 have h2 := (List.getElem?_eq_some_iff.1 (plain_rel hr)).1
 have h3 := offs_le h1
 have h4 : c.ix p < X.length := by unfold CfM.ix; omega
 refine ⟨s.plain, h1, h2, rows_at h1, h4, ?_⟩
 rw [List.getElem?_take, if_pos h2, List.getElem?_drop, List.getD_eq_getElem?_getD]
 unfold CfM.ix at h4 ⊢
 rw [gge h4]
 rfl
theorem rise2_spec {c : CfM} (w : Value) (LL : List RwM) (T : Seg) (h : RWo w LL T) (X : List Nat) (hX : X.length = total c.plain.spaces) (hr : LL.map (·.1.2) = rows c.plain.spaces X) (e : EdS) (hv : c.valid e.1 /\ c.valid e.2.1) (hb9 : ∀ x ∈ X, x <= 1000000000) (R : Rds) :
  Spec prog 201 [w, .agg (encEs e).toArray] R [T] λ u H' => ∃ T', H' = [T'] /\ ∃ ch LL', u = .bool ch /\ ch = decide (rise1 X (c.ed e) ≠ X) /\ RWo w LL' T' /\ LL'.map (·.1.2) = rows c.plain.spaces (rise1 X (c.ed e)) := by
 obtain ⟨s1, f1, f2, f3, f4, f5⟩ := rows_rel hv.1 hX
 obtain ⟨s2, t1, t2, t3, t4, t5⟩ := rows_rel hv.2 hX
 have get : ∀ {i : Nat} {row : List Nat}, (rows c.plain.spaces X)[i]? = some row -> ∃ q : RwM, LL[i]? = some q /\ q.1.2 = row := λ {i row} hh => by
  rw [<- hr, List.getElem?_map] at hh
  cases hq : LL[i]? with
  | none => rw [hq] at hh; cases hh
  | some q => rw [hq] at hh; exact ⟨q, rfl, by simpa using hh⟩
 obtain ⟨qf, hqf, hf⟩ := get f3
 obtain ⟨qt, hqt, ht⟩ := get t3
 have hb : X.getD (c.ix e.2.1) 0 <= 1000000000 := hb9 _ (by rw [List.getD_eq_getElem?_getD, gge t4]; exact List.getElem_mem _)
 have hfX : X.getD (c.ix e.1) 0 = X.getD (c.ed e).f 0 := rfl
 refine (rise_spec w LL T h e (X.getD (c.ix e.1) 0) (X.getD (c.ix e.2.1) 0) qf qt hqf hqt (by rw [hf]; exact f5) (by rw [ht]; exact t5) hb R).mono λ u H' hu => ?_
 obtain ⟨T', rfl, hu⟩ := hu
 refine ⟨T', rfl, ?_⟩
 rcases hu with ⟨rfl, h1, h2⟩ | ⟨rfl, h1, Tn, h2⟩
 ·have hri : rise1 X (c.ed e) = X := if_neg (by show ¬ X.getD (c.ix e.1) 0 < X.getD (c.ix e.2.1) 0 + _; unfold Ed.w CfM.ed; simp only; omega)
  refine ⟨false, LL, rfl, ?_, h2, ?_⟩
  ·rw [hri]; simp
  ·rw [hri]; exact hr
 ·have hri : rise1 X (c.ed e) = X.set (c.ix e.1) (X.getD (c.ix e.2.1) 0 + if e.2.2 then 1 else 0) := if_pos (by show X.getD (c.ix e.1) 0 < X.getD (c.ix e.2.1) 0 + _; unfold Ed.w CfM.ed; simp only; omega)
  refine ⟨true, _, rfl, ?_, h2, ?_⟩
  ·rw [hri, eq_comm, decide_eq_true_iff]
   intro he
   have := congrArg (λ l : List Nat => l.getD (c.ix e.1) 0) he
   rw [getD_set _ _ _ _ f4, if_pos rfl] at this
   omega
  ·rw [hri]
   have := rows_set (n := X) (x := X.getD (c.ix e.2.1) 0 + if e.2.2 then 1 else 0) f1 f2 hX
   unfold CfM.ix at this ⊢
   rw [this, List.map_set, hr, hf]
theorem rise_ne {A X : List Nat} {e : Ed} (hge : ∀ i, A.getD i 0 <= X.getD i 0) (hl : X.length = A.length) (he : e.f < X.length) : rise1 X e ≠ A ↔ (X ≠ A \/ rise1 X e ≠ X) := by
 have hg2 := λ i => rise1_ge X e he i
 constructor
 ·intro h
  by_cases hx : X = A
  ·exact .inr (by rw [hx] at h ⊢; exact h)
  ·exact .inl hx
 ·rintro (h | h) hA
  ·refine h (list_ext0 hl λ i _ => ?_)
   have h1 := hge i
   have h2 := hg2 i
   rw [hA] at h2
   omega
  ·refine h (list_ext0 (by rw [rise1_len]) λ i _ => ?_)
   have h1 := hge i
   have h2 := hg2 i
   rw [hA] at h2 ⊢
   omega
theorem rise1_le {X : List Nat} {e : Ed} {b : Nat} (h : ∀ x ∈ X, x <= b) : ∀ x ∈ rise1 X e, x <= b + 1 := by
 intro x hx
 unfold rise1 at hx
 split at hx
 ·rcases List.mem_or_eq_of_mem_set hx with hx | rfl
  ·have := h x hx; omega
  ·have hg : X.getD e.t 0 <= b := by
    rw [List.getD_eq_getElem?_getD]
    cases hq : X[e.t]? with
    | none => exact Nat.zero_le _
    | some q => exact h q (mog hq)
   have hw : e.w <= 1 := by unfold Ed.w; split <;> omega
   omega
 ·have := h x hx; omega
theorem settle_spec {R : Rds} {xb : Nat} {vm : Value} {c : CfM} (h : IX R xb vm c) (hf : c.few) (ve : Value) (Es : List EdS) (hve : RS R 5 encEs ve Es) (hEl : Es.length <= 131072) (hv : ∀ e ∈ Es, c.valid e.1 /\ c.valid e.2.1) :
  Spec prog 159 [pT xb, ve] R [] λ u H' => ∃ T, H' = [T] /\ match settle (Es.map c.ed) (total c.plain.spaces + 1) (List.replicate (total c.plain.spaces) 0) with
   | none => u = .tuple [sZ, .bool false].toArray
   | some A => ∃ w ll, u = .tuple [w, .bool true].toArray /\ NN (sg T) w ll /\ ll.map (·.2) = rows c.plain.spaces A := by
 have hix := h
 have pc := h.pc
 have om := h.om
 have hss := h.ci.ss
 have i1 := hss.oneCell
 have i2 : One c.vc := RS.oneCell h.ci.sc
 have hle := hss.le
 have hlen16 := hf.1
 have hal := h.ci.all
 have htot := total_all c.plain
 have hlal : c.plain.all.length = c.nms.length := by rw [<- nms_all, List.length_map]
 have hnm := hf.nms
 have hspl : c.plain.spaces.length = c.spaces.length := by unfold CfM.plain; simp
 have hpa : ∀ (i : Nat) (s : SpM), c.spaces[i]? = some s -> c.plain.spaces[i]? = some s.plain := λ i s hs => plain_at hs
 have hrz := rows_zero c.plain.spaces
 have hr2 := λ w LL T hh X hX hr e hv hb R => rise2_spec (c := c) w LL T hh X hX hr e hv hb R
 have hsl := spots_len c.plain.spaces 0
 have hfl : ∀ e ∈ Es, (c.ed e).f < total c.plain.spaces := λ e he => by
  obtain ⟨s, _, h2, _, h4, _⟩ := rows_rel (X := List.replicate (total c.plain.spaces) 0) (hv e he).1 (by simp)
  rw [List.length_replicate] at h4
  exact h4
 have ive := hve.oneCell
 have hlve := hve.le
 have htl : total c.plain.spaces <= 256 := by omega
 generalize htt : total c.plain.spaces = tot at *
 refine Spec.body Tryz.func159 rfl Tryz.results159 Tryz.ntmps159 rfl<|.sr<|.ag rfl<|.ag rfl<|.z<|.mo rfl<|.nc rfl<|.fa rfl<|.fa rfl<|.lo rfl<|.q (.lenR hss) ?_
 refine .makeSlice (enc := encV1) c.spaces.length ((sZ, []) : NlM) rfl rfl (by decide) (by simp [encV1, oneCell]) rfl rfl (by omega) (by omega) (λ b6 T6 hO6 => ?_)
 refine .ag rfl<|.zs<|.sr<|.mo rfl<|.nc rfl<|.fa rfl<|.fa rfl<|.lo rfl<|.q (.lenR hss)<|.mo rfl<|.zn<|.block<|.loopS [(0, _), (1, _), (6, _), (23, _), (24, _)] (X := Nat × List RwM × Seg) (λ y => y.1 <= c.spaces.length /\ y.2.1.length = y.1 /\ OS 127 1 encV1 (.slice (some ⟨b6, 0, none⟩) c.spaces.length c.spaces.length) (y.2.1.map (·.1) ++ List.replicate (c.spaces.length - y.1) ((sZ, []) : NlM)) y.2.2 /\ (∀ q ∈ y.2.1, OS 3 1 encNt q.1.1 q.1.2 q.2) /\ y.2.1.map (·.1.2) = ((c.plain.spaces.take y.1).map λ s => List.replicate s.rels.length 0)) (λ y E => (25, iN y.1) :: E) (λ y G => y.2.2 :: y.2.1.flatMap (·.2) :: G) (λ y => c.spaces.length - y.1) (0, [], T6) (G := []) ⟨Nat.zero_le _, rfl, by simp only [List.map_nil, List.nil_append, Nat.sub_zero]; exact hO6, λ q hq => (by cases hq), by simp⟩ kE.c.c.c.c.c.c ((pkH [0]).trans (HLe.ofPerm (by simp [take]))) ?_
 rintro ⟨i, D, To⟩ ⟨hi, hDl, hO, hI, hD⟩
 simp only at hi hDl hO hI hD ⊢
 refine .sr<|.q .lss<|.zs<|.cond rfl (λ h1 => ?_) λ h1 => ?_
 have hlt : i < c.spaces.length := lt_i h1
 obtain ⟨⟨sn, sv, rls⟩, hs⟩ := exg hlt
 have hsi := hal _ (mog hs)
 have hrs : RS R 3 RlM.enc sv rls := hsi.rs
 have irs := hrs.oneCell
 have hler := hrs.le
 have isp : Ones (SpM.enc ⟨sn, sv, rls⟩) := ⟨hsi.ones⟩
 have hr16 : rls.length <= 16 := hf.2 _ (mog hs)
 have hp1 := hpa i _ hs
 obtain ⟨k, hk⟩ : ∃ k, c.spaces.length - i = k + 1 := ⟨c.spaces.length - i - 1, by omega⟩
 have hk' : c.spaces.length - (i + 1) = k := by omega
 rw [hk] at hO
 have hDm : (D.map (·.1)).length = i := by rw [List.length_map, hDl]
 obtain ⟨z, hz⟩ : ∃ z, (D.map (·.1) ++ List.replicate (k + 1) ((sZ, []) : NlM))[i]? = some z := ⟨_, gge (by rw [List.length_append, hDm, List.length_replicate]; omega)⟩
 refine .kn<|.seq<|.block<|.sr<|.mo rfl ?_
 refine .indexR i hss hs (λ p28 => ?_)
 refine .q (.loadA rfl) ?_
 refine .allocA (λ b8 => ?_)
 refine .ag rfl<|.storeA rfl rfl<|.zn<|.region<|.mo rfl<|.mo rfl<|.fa rfl<|.lo rfl<|.q (.lenR hrs) ?_
 refine .makeSlice (enc := encNt) rls.length 0 rfl rfl (by decide) (by simp [encNt, oneCell]) rfl rfl (by omega) (by omega) (λ bn Tn hOn => ?_)
 refine .indexO i hO hz (λ p36 => ?_)
 refine .storeO1 i hO hz ((.slice (some ⟨bn, 0, none⟩) rls.length rls.length, List.replicate rls.length 0) : NlM) (λ T1 hO1 => ?_)
 rw [set_grow hDm] at hO1
 refine .nil<|blkQ_n<|seqQ_n<|.region<|.ia (i + 1) .add<|.mo rfl<|.nil ?_
 ·exact loopQ_i (i + 1, D ++ [((.slice (some ⟨bn, 0, none⟩) rls.length rls.length, List.replicate rls.length 0), Tn)], T1) ⟨hlt, by simp [hDl], by simp only; rw [hk', List.map_append]; exact hO1, λ q hq => by
   rcases List.mem_append.1 hq with hq | hq
   ·exact hI q hq
   ·rw [List.mem_singleton] at hq; subst hq; exact hOn, by simp only; rw [take_next hp1, List.map_append, List.map_append, hD]; simp [SpM.plain]⟩ (by simp only; omega) kE.c.c.c.c.c.c ((pkH [2, 2, 0]).trans (HLe.ofPerm (by simp [take, dropAt])))
 have hie : i = c.spaces.length := by have := odf h1; omega
 have hD0 : D.map (·.1.2) = rows c.plain.spaces (List.replicate tot 0) := by
  rw [hrz, hD, take_end (by omega)]
 rw [hie, Nat.sub_self] at hO
 simp only [List.replicate_zero, List.append_nil] at hO
 refine .exit<|seqQ_x<|loopQ_x<|blkQ_x<|seqQ_n<|.seq<|.sr<|.mo rfl<|.nc rfl<|.fa rfl<|.lo rfl<|.q (.lenM (hix.rm.mono' λ b o hb => .inl hb) rfl) ?_
 rw [hsl]
 refine .ia (tot + 1) .add<|.mo rfl<|.zn<|.block<|.loopS [(1, _), (6, _), (43, _)] (X := Nat × List Nat × List RwM × Seg) (λ y => y.1 <= tot + 1 /\ y.2.1.length = tot /\ RWo (.slice (some ⟨b6, 0, none⟩) c.spaces.length c.spaces.length) y.2.2.1 y.2.2.2 /\ y.2.2.1.map (·.1.2) = rows c.plain.spaces y.2.1 /\ (∀ x ∈ y.2.1, x <= y.1 * Es.length) /\ settle (Es.map c.ed) (tot + 1) (List.replicate tot 0) = settle (Es.map c.ed) (tot + 1 - y.1) y.2.1) (λ y E => (44, iN y.1) :: E) (λ y _ => [y.2.2.2]) (λ y => tot + 1 - y.1) (0, List.replicate tot 0, D, To ++ (D.flatMap (·.2) ++ [])) (G := []) ⟨Nat.zero_le _, by simp, ⟨To, by simp, hO, hI⟩, hD0, λ x hx => by rw [List.eq_of_mem_replicate hx]; exact Nat.zero_le _, rfl⟩ kE.c.c.c.c (HLe.one [0, 0] _) ?_
 rintro ⟨m, A, LL, T⟩ ⟨hm, hAl, hRW, hrA, hbA, hst⟩
 simp only at hm hAl hRW hrA hbA hst ⊢
 refine .sr<|.q .lss<|.zs<|.cond rfl (λ h2 => ?_) λ h2 => ?_
 have hmt : m < tot + 1 := by have := odt h2; omega
 have hmE : m * Es.length <= 256 * 131072 := Nat.mul_le_mul (by omega) hEl
 refine .kn<|.seq<|.block<|.sr<|.ag rfl<|.zs<|.sr<|.mo rfl<|.q (.lenR hve)<|.mo rfl<|.zn<|.block<|.loopS [(1, _), (6, _), (43, _), (44, _), (46, _), (47, _)] (X := Nat × List Nat × List RwM × Seg) (λ y => y.1 <= Es.length /\ y.2.1 = ((Es.take y.1).map c.ed).foldl rise1 A /\ y.2.1.length = tot /\ RWo (.slice (some ⟨b6, 0, none⟩) c.spaces.length c.spaces.length) y.2.2.1 y.2.2.2 /\ y.2.2.1.map (·.1.2) = rows c.plain.spaces y.2.1 /\ (∀ x ∈ y.2.1, x <= m * Es.length + y.1) /\ ∀ i, A.getD i 0 <= y.2.1.getD i 0) (λ y E => (48, iN y.1) :: (9, .bool (decide (y.2.1 ≠ A))) :: E) (λ y _ => [y.2.2.2]) (λ y => Es.length - y.1) (0, A, LL, T) (G := []) ⟨Nat.zero_le _, rfl, hAl, hRW, hrA, λ x hx => hbA x hx, λ i => Nat.le_refl _⟩ ((kE.c.c.c.c.c.c.consB rfl (by simp)).cons rfl) rH ?_
 rintro ⟨j, X, LX, TX⟩ ⟨hj, hX, hXl, hRX, hrX, hbX, hge⟩
 simp only at hj hX hXl hRX hrX hbX hge ⊢
 refine .sr<|.q .lss<|.zs<|.cond rfl (λ h3 => ?_) λ h3 => ?_
 have hjt : j < Es.length := lt_i h3
 obtain ⟨e, hex⟩ := exg hjt
 have hem := mog hex
 have hrise := hr2 _ LX TX hRX X hXl hrX e (hv e hem) (λ x hx => by have := hbX x hx; omega)
 have hef := hfl e hem
 refine .kn<|.seq<|.block<|.sr ?_
 refine .indexR j hve hex (λ p50 => ?_)
 refine .q (.loadA rfl) ?_
 refine .allocA (λ b11 => ?_)
 refine .storeA rfl rfl<|.z<|.mo rfl<|.q (.loadA rfl)<|.callM (hrise R) (λ u T1 hu => ?_)
 obtain ⟨ch, L1, rfl, hch, hRW1, hr1⟩ := hu
 refine .zn ?_
 refine Tri.cutS [(1, _), (6, _), (43, _), (44, _), (46, _), (47, _), (48, _)] kE.c.c.c.c.c.c.c (X := Unit) (λ _ => True) (λ _ E => (9, .bool (decide (X ≠ A) || ch)) :: E) (λ _ => [T1]) ?_ ?_
 refine .cond rfl (λ h4 => ?_) λ h4 => ?_
 refine .region<|.ag rfl<|.nil ?_
 ·exact joinQ_n () trivial (kE.c.c.c.c.c.c.c.consB rfl (by simp [h4])) (pkH [1])
 refine .skip ?_
 ·exact joinQ_n () trivial (kE.c.c.c.c.c.c.c.consB rfl (by simp [h4])) (pkH [1])
 intro x hx
 refine blkQ_n<|seqQ_n<|.region<|.ia (j + 1) .add<|.mo rfl<|.nil ?_
 ·exact loopQ_i (j + 1, rise1 X (c.ed e), L1, T1) ⟨hjt, by simp only; rw [take_next hex, List.map_append, List.foldl_append, <- hX]; rfl, by simp only; rw [rise1_len, hXl], hRW1, hr1, λ y hy => by have := rise1_le hbX y hy; simp only; omega, λ i => Nat.le_trans (hge i) (rise1_ge X _ (by rw [hXl]; exact hef) i)⟩ (by simp only; omega) ((kE.c.c.c.c.c.c.consB rfl (by
   simp only
   rw [hch, <- Bool.decide_or]
   exact decide_eq_decide.2 (rise_ne hge (by rw [hXl, hAl]) (by rw [hXl]; exact hef)).symm)).cons rfl) rH
 have hje : j = Es.length := by have := odf h3; omega
 have hXp : X = pass (Es.map c.ed) A := by rw [hX, hje, List.take_length]; rfl
 refine .exit<|seqQ_x<|loopQ_x<|blkQ_x<|seqQ_n<|.sr<|.mo rfl<|.q .not<|.zn<|.cond rfl (λ h5 => ?_) λ h5 => ?_
 have hXA : X = A := Decidable.not_not.1 (show ¬ ¬ X = A by simpa using h5)
 refine .sr<|.mo rfl<|.ag rfl<|.az rfl<|.ret (blkQ_r (seqQ_r (loopQ_r (blkQ_r (seqQ_r (retQ_r _ (.two (.tmp rfl) (.tmp rfl)) (.one [0] _) ?_))))))
 ·refine ⟨_, rfl, ?_⟩
  rw [hst, show tot + 1 - m = tot + 1 - (m + 1) + 1 by omega, settle, if_pos (by rw [<- hXp]; exact hXA)]
  obtain ⟨To2, hT2, hO2, hI2⟩ := hRX
  refine ⟨_, LX.map (·.1), rfl, ⟨hO2.rs λ p hp => ?_, λ q hq => ?_⟩, ?_⟩
  ·show p ∈ _
   simp [take, hT2, hp]
  ·obtain ⟨q2, hq2, rfl⟩ := List.mem_map.1 hq
   refine (hI2 q2 hq2).rs λ p hp => ?_
   show p ∈ _
   have : p ∈ LX.flatMap (·.2) := List.mem_flatMap.2 ⟨q2, hq2, hp⟩
   simp only [take, hT2, List.getD_cons_zero, List.flatten_cons, List.flatten_nil, List.append_nil]
   exact List.mem_append_right _ this
  ·rw [List.map_map, <- hXA]
   exact hrX
 have hXA : X ≠ A := by simpa using h5
 refine .skip<|blkQ_n<|seqQ_n<|.region<|.ia (m + 1) .add<|.mo rfl<|.nil ?_
 ·exact loopQ_i (m + 1, X, LX, TX) ⟨hmt, hXl, hRX, hrX, λ x hx => by have h6 := hbX x hx; simp only; rw [Nat.add_mul]; omega, by
   simp only
   rw [hst, show tot + 1 - m = tot + 1 - (m + 1) + 1 by omega, settle, if_neg (by rw [<- hXp]; exact hXA), <- hXp]⟩ (by simp only; omega) kE.c.c.c.c rH
 refine .exit<|seqQ_x<|loopQ_x<|blkQ_x<|seqQ_n<|.sr<|.ag rfl<|.az rfl<|.ret (retQ_r _ (.two (.tmp rfl) (.tmp rfl)) (.one [0] _) ?_)
 ·refine ⟨_, rfl, ?_⟩
  have hme : m = tot + 1 := by have := odf h2; omega
  rw [hst, hme, Nat.sub_self, settle]
theorem settle_all {c : CfM} {k : Nat} {E : List Ed} (h : c.plain.all.length = k) : settle E (k + 1) (List.replicate k 0) = settle E (c.plain.all.length + 1) (List.replicate c.plain.all.length 0) := by rw [h]
def SA (c : CfM) (ok : Bool) (w : Value) (T : Seg) (o : Option (List Nat)) : Prop := match o with
 | none => ok = false
 | some A => ok = true /\ ∃ ll, NN (sg T) w ll /\ ll.map (·.2) = rows c.plain.spaces A
theorem numbers_spec (c : CfM) (R : Rds) (h : c.is R) : Spec prog 99 [.agg c.enc.toArray] R [] λ u H' => ∃ T, H' = [T] /\ ∃ w ll, u = .tuple [w, .int .i64 (c.plain.numbers isWord isRef).1].toArray /\ NN (sg T) w ll /\ ll.map (·.2) = (c.plain.numbers isWord isRef).2 := by
 rw [<- numbers_doc]
 have hR := right_spec c R h
 have hN := newIndex_spec c R h
 have hfr := few_of_right (c := c)
 have hnm : c.plain.numbersC isWord isRef = if c.plain.right isWord isRef = false then ((4 : Int), ([] : List (List Nat))) else if ¬ c.plain.uniq then (10, []) else match c.plain.edgesC with | none => (14, []) | some E => match settle E (c.plain.all.length + 1) (List.replicate c.plain.all.length 0) with | none => (15, []) | some n => (0, rows c.plain.spaces n) := rfl
 have hal := λ (R : Rds) xb vm (hx : IX R xb vm c) h8 hf => sall_spec (R := R) (xb := xb) (vm := vm) hx h8 hf
 have hse := λ (R : Rds) xb vm (hx : IX R xb vm c) hf ve Es hve hl hv => settle_spec (R := R) (xb := xb) (vm := vm) hx hf ve Es hve hl hv
 have htot := total_all c.plain
 have i1 : One c.vs := RS.oneCell h.ss
 have i2 : One c.vc := RS.oneCell h.sc
 generalize hnn : c.plain.numbersC isWord isRef = nn at *
 refine Spec.body Tryz.func99 rfl Tryz.results99 Tryz.ntmps99 rfl<|.sr ?_
 refine .boxA rfl (λ b1 => ?_)
 refine .ag rfl<|.ag rfl<|.zs<|.sr<|.q (.loadA rfl)<|.callR (hR.weaken rxl) (λ u hu => ?_)
 subst hu
 refine .q .not<|.zn<|.cond rfl (λ h1 => ?_) λ h1 => ?_
 refine .sr<|.ag rfl<|.az rfl<|.ret (seqQ_r (retQ_r _ (.two (.tmp rfl) (.tmp rfl)) HLe.nil1 ?_))
 ·refine ⟨[], rfl, sZ, [], ?_, .nil, ?_⟩
  ·rw [hnm, if_pos (by simpa using h1)]
  ·rw [hnm, if_pos (by simpa using h1)]; rfl
 have hri : c.plain.right isWord isRef = true := by simpa using h1
 obtain ⟨hfew, hNR⟩ := hfr hri
 rw [if_neg (by rw [hri]; simp)] at hnm
 refine .kn<|.sr<|.q (.loadA rfl)<|.callN (hN.weaken rxl) (λ u T4 hu => ?_)
 obtain ⟨o, ok, rfl, hok, hu⟩ : ∃ (o : Option Addr) (ok : Bool), u = .tuple [.pointer o, .bool ok].toArray /\ ok = decide c.plain.uniq /\ (ok = true -> ∃ xb, o = some ⟨xb, 0, none⟩ /\ IXs xb c T4) := by
  rcases hu with ⟨hun, xb, rfl, hI⟩ | ⟨hun, rfl⟩
  ·exact ⟨_, true, rfl, (decide_eq_true hun).symm, λ _ => ⟨xb, rfl, hI⟩⟩
  ·exact ⟨_, false, rfl, (decide_eq_false hun).symm, λ hh => (by cases hh)⟩
 refine .mo rfl<|.q .extract<|.q .extract<|.ag rfl<|.ag rfl<|.zs<|.sr<|.mo rfl<|.q .not<|.zn<|.cond rfl (λ h2 => ?_) λ h2 => ?_
 refine .sr<|.ag rfl<|.az rfl<|.ret (seqQ_r (retQ_r _ (.two (.tmp rfl) (.tmp rfl)) HLe.nil1 ?_))
 ·have hof : ok = false := by simpa using h2
  rw [hof] at hok
  have hun : ¬ c.plain.uniq := odf hok.symm
  refine ⟨[], rfl, sZ, [], ?_, .nil, ?_⟩
  ·rw [hnm, if_pos hun]
  ·rw [hnm, if_pos hun]; rfl
 have hokt : ok = true := by simpa using h2
 obtain ⟨xb, rfl, hIs⟩ := hu hokt
 rw [hokt] at hok
 have hun : c.plain.uniq := odt hok.symm
 rw [if_neg (λ hh => hh hun)] at hnm
 obtain ⟨vm, hIX⟩ := hIs.view h
 refine .kn<|.sr<|.mo rfl<|.callN ((hal _ xb vm hIX (few8_of hNR) hfew).weaken λ b o hb => hb.elim .inl λ hb => .inr (by simp [hb])) (λ u T6 hu6 => ?_)
 obtain ⟨w6, Es, ok6, rfl, hO6, hl6, hE6⟩ := hu6
 have i6 := hO6.oneCell
 refine .mo rfl<|.q .extract<|.q .extract<|.ag rfl<|.ag rfl<|.zs<|.sr<|.mo rfl<|.q .not<|.zn<|.cond rfl (λ h3 => ?_) λ h3 => ?_
 have hof : ok6 = false := by simpa using h3
 have hed : c.plain.edgesC = none := by
  cases he : c.plain.edgesC with
  | none => rfl
  | some E => rw [he] at hE6; rw [hE6.1] at hof; cases hof
 rw [hed] at hnm
 simp only at hnm
 refine .sr<|.ag rfl<|.az rfl<|.ret (seqQ_r (retQ_r _ (.two (.tmp rfl) (.tmp rfl)) HLe.nil1 ?_))
 ·refine ⟨[], rfl, sZ, [], ?_, .nil, ?_⟩
  ·rw [hnm]
  ·rw [hnm]; rfl
 have hof : ok6 = true := by simpa using h3
 obtain ⟨E, hed, hEE, hEv⟩ : ∃ E, c.plain.edgesC = some E /\ Es.map c.ed = E /\ ∀ e ∈ Es, c.valid e.1 /\ c.valid e.2.1 := by
  cases he : c.plain.edgesC with
  | none => rw [he] at hE6; rw [show ok6 = false from hE6] at hof; cases hof
  | some E => rw [he] at hE6; exact ⟨E, rfl, hE6.2.1, hE6.2.2⟩
 subst hEE
 rw [hed] at hnm
 simp only at hnm
 rw [<- settle_all htot.symm] at hnm
 refine .kn<|.sr<|.mo rfl<|.mo rfl<|.callN ((hse _ xb vm (hIX.mono (R' := λ b o => R b o \/ (b, o) ∈ T4 \/ (b, o) ∈ T6) λ b o hb => hb.elim .inl λ hb => .inr (.inl hb)) hfew w6 Es (hO6.rs λ p hp => .inr (.inr hp)) hl6 hEv).weaken λ b o hb => hb.elim .inl λ hb => .inr (by rcases hb with hb | hb <;> simp [hb])) (λ u T9 hu9 => ?_)
 obtain ⟨w9, ok9, rfl, hS9⟩ : ∃ (w9 : Value) (ok9 : Bool), u = .tuple [w9, .bool ok9].toArray /\ SA c ok9 w9 T9 (settle (Es.map c.ed) (total c.plain.spaces + 1) (List.replicate (total c.plain.spaces) 0)) := by
  cases hst : settle (Es.map c.ed) (total c.plain.spaces + 1) (List.replicate (total c.plain.spaces) 0) with
  | none => rw [hst] at hu9; exact ⟨_, _, hu9, rfl⟩
  | some A => rw [hst] at hu9; obtain ⟨w, ll, h1, h2, h3⟩ := hu9; exact ⟨w, true, h1, rfl, ll, h2, h3⟩
 refine .mo rfl<|.q .extract<|.q .extract<|.ag rfl<|.ag rfl<|.zs<|.sr<|.mo rfl<|.q .not<|.zn<|.cond rfl (λ h4 => ?_) λ h4 => ?_
 have hof : ok9 = false := by simpa using h4
 have hst : settle (Es.map c.ed) (total c.plain.spaces + 1) (List.replicate (total c.plain.spaces) 0) = none := by
  cases hst : settle (Es.map c.ed) (total c.plain.spaces + 1) (List.replicate (total c.plain.spaces) 0) with
  | none => rfl
  | some A => rw [hst] at hS9; rw [hS9.1] at hof; cases hof
 rw [hst] at hnm
 simp only at hnm
 refine .sr<|.ag rfl<|.az rfl<|.ret (seqQ_r (retQ_r _ (.two (.tmp rfl) (.tmp rfl)) HLe.nil1 ?_))
 ·refine ⟨[], rfl, sZ, [], ?_, .nil, ?_⟩
  ·rw [hnm]
  ·rw [hnm]; rfl
 have hof : ok9 = true := by simpa using h4
 obtain ⟨A, hst, ll, hNN, hll⟩ : ∃ A, settle (Es.map c.ed) (total c.plain.spaces + 1) (List.replicate (total c.plain.spaces) 0) = some A /\ ∃ ll, NN (sg T9) w9 ll /\ ll.map (·.2) = rows c.plain.spaces A := by
  cases hst : settle (Es.map c.ed) (total c.plain.spaces + 1) (List.replicate (total c.plain.spaces) 0) with
  | none => rw [hst] at hS9; rw [show ok9 = false from hS9] at hof; cases hof
  | some A => rw [hst] at hS9; exact ⟨A, rfl, hS9.2⟩
 rw [hst] at hnm
 simp only at hnm
 have i9 : One w9 := hNN.rs.oneCell
 refine .kn<|.sr<|.mo rfl<|.ag rfl<|.az rfl<|.ret (retQ_r _ (.two (.tmp rfl) (.tmp rfl)) (.one [0] _) ?_)
 ·refine ⟨T9, by simp [take], w9, ll, ?_, hNN, ?_⟩
  ·rw [hnm]
  ·rw [hnm]; exact hll
namespace LIN
theorem clone_spec (v : Value) (xs : List Nat) (R : Rds) (h : RS R 1 encNt v xs) (hl : xs.length <= 1000000) :
  Spec prog 163 [v] R [] λ v' H' => ∃ T, H' = [T] /\ OS 3 1 encNt v' xs T := by
 obtain ⟨pr, cap, rfl⟩ := h.val
 have hx : ∀ H, RS (Rx R H) 1 encNt (.slice pr xs.length cap) xs := λ H => h.rx
 refine Spec.segs (H' := [[]]) (by simp)<|Spec.body Tryz.func163 rfl Tryz.results163 Tryz.ntmps163 rfl<|.sr<|.ag rfl<|.zs<|.sr<|.mo rfl<|.q (.eqNilS rfl rfl)<|.zn<|.cond rfl (λ h1 => ?_) λ h1 => ?_
 refine .sr<|.az rfl<|.ret (seqQ_r (retQ_r _ (.one (.tmp rfl)) (.one [0] _) ?_))
 ·obtain rfl : pr = none := by simpa using h1
  have := h.none_nil
  subst this
  exact ⟨[], rfl, OS.nil⟩
 refine .kn<|.sr ?_
 refine .buildSlice0 (λ b5 => ?_)
 refine .mo rfl ?_
 refine .append (OS.empty (enc := encNt) (sz := 1)) (hx _) (by simp; omega) (λ v' T' h3 => ?_)
 refine .az rfl<|.ret (retQ_r _ (.one (.tmp rfl)) (.one [0] _) ?_)
 ·exact ⟨T', by simp [take], by simpa using h3⟩
end LIN
def CfM.fewC (c : CfM) : Prop := c.few /\ c.few8 /\ c.scopes.length <= 16
theorem fewC_of {c : CfM} (h : c.plain.right isWord isRef = true) : c.fewC := by
 obtain ⟨h1, h2⟩ := few_of_right h
 refine ⟨h1, few8_of h2, ?_⟩
 have hm : c.plain.much isWord = false := by
  unfold Cf.right at h
  simp only [Bool.and_eq_true, Bool.not_eq_true'] at h
  exact h.2
 rw [much_eq] at hm
 simp only [Bool.or_eq_false_iff, decide_eq_false_iff_not, Nat.not_lt] at hm
 exact hm.1.2
theorem copied_spec (c : CfM) (R : Rds) (h : c.is R) (hf : c.fewC) : Spec prog 100 [.agg c.enc.toArray] R [] λ u H' => ∃ T, H' = [T] /\ ∃ c' : CfM, u = .agg c'.enc.toArray /\ c'.is (sg T) /\ c'.plain = c.plain := by
 obtain ⟨⟨hsl, hrl⟩, h8, hscl⟩ := hf
 obtain ⟨vs, vc, sps, scs⟩ := c
 have hss := h.ss
 have hsc := h.sc
 have i1 := hss.oneCell
 have i2 := hsc.oneCell
 simp only at hss hsc i1 i2 hsl hrl hscl
 have hle := hss.le
 refine Spec.body Tryz.func100 rfl Tryz.results100 Tryz.ntmps100 rfl<|.sr ?_
 refine .boxA rfl (λ b1 => ?_)
 refine .allocA (λ b2 => ?_)
 refine .z ?_
 refine .allocA (λ b3 => ?_)
 refine .zs<|.sr<|.fa rfl<|.lo rfl<|.q (.lenR hss)<|.mo rfl<|.zn<|.block<|.loopS [(1, _), (2, _), (3, _), (10, _), (11, _)] (X := Nat × Value × List SpM × Seg × Seg) (λ y => y.1 <= sps.length /\ OS 187 2 SpM.enc y.2.1 y.2.2.1 y.2.2.2.1 /\ (∀ s ∈ y.2.2.1, s.is (sg y.2.2.2.2)) /\ y.2.2.1.map (·.plain) = (sps.take y.1).map (·.plain)) (λ y E => (12, iN y.1) :: E) (λ y G => y.2.2.2.1 :: y.2.2.2.2 :: bl b3 [y.2.1, sZ] 25 :: G) (λ y => sps.length - y.1) (0, sZ, [], [], []) ⟨by simp, OS.nil, λ s hs => (by cases hs), by simp⟩ kE.c.c.c.c.c.c HLe.new00 ?_
 rintro ⟨i, w, L, To, Ti⟩ ⟨hi, hO, hI, hL⟩
 simp only at hi hO hI hL ⊢
 have io := hO.oneCell
 have hLl : L.length = i := by have := congrArg List.length hL; rw [List.length_map, List.length_map, List.length_take] at this; omega
 refine .sr<|.q .lss<|.zs<|.cond rfl (λ h1 => ?_) λ h1 => ?_
 have hlt : i < sps.length := lt_i h1
 obtain ⟨⟨sn, sv, rls⟩, hs⟩ := exg hlt
 have hsi := h.all _ (mog hs)
 have hrs : RS R 3 RlM.enc sv rls := hsi.rs
 have irs := hrs.oneCell
 have hler := hrs.le
 have isp : Ones (SpM.enc ⟨sn, sv, rls⟩) := ⟨hsi.ones⟩
 have hr16 := hrl _ (mog hs)
 simp only at hr16
 refine .kn<|.seq<|.block<|.sr ?_
 refine .indexR i hss hs (λ p14 => ?_)
 refine .q (.loadA rfl) ?_
 refine .allocA (λ b5 => ?_)
 refine .storeA rfl rfl<|.z<|.fa rfl<|.lo rfl ?_
 refine .q .bld ?_
 refine .allocA (λ b6 => ?_)
 refine .storeA rfl rfl<|.zs<|.sr<|.fa rfl<|.lo rfl<|.q (.lenR hrs)<|.mo rfl<|.zn<|.block<|.loopS [(1, _), (2, _), (3, _), (6, _), (10, _), (11, _), (12, _), (20, _), (21, _)] (X := Nat × Value × List RlM × Seg × Seg) (λ y => y.1 <= rls.length /\ OS 207 3 RlM.enc y.2.1 y.2.2.1 y.2.2.2.1 /\ (∀ r ∈ y.2.2.1, r.is (sg y.2.2.2.2)) /\ y.2.2.1.map (·.r) = (rls.take y.1).map (·.r)) (λ y E => (22, iN y.1) :: E) (λ y G => y.2.2.2.1 :: y.2.2.2.2 :: bl b6 [.string sn, y.2.1] 187 :: G) (λ y => rls.length - y.1) (0, sZ, [], [], []) ⟨by simp, OS.nil, λ s hs => (by cases hs), by simp⟩ kE.c.c.c.c.c.c.c.c.c.c HLe.new00 ?_
 rintro ⟨k, w2, L2, T2, Tp⟩ ⟨hk, hO2, hI2, hL2⟩
 simp only at hk hO2 hI2 hL2 ⊢
 have io2 := hO2.oneCell
 have hL2l : L2.length = k := by have := congrArg List.length hL2; rw [List.length_map, List.length_map, List.length_take] at this; omega
 refine .sr<|.q .lss<|.zs<|.cond rfl (λ h2 => ?_) λ h2 => ?_
 have hkt : k < rls.length := lt_i h2
 obtain ⟨⟨vt, vn, r⟩, hr⟩ := exg hkt
 have hri := hsi.all _ (mog hr)
 have hrt : RS R 2 Ty.enc vt r.types := hri.t
 have hrd : RS R 5 Nd.enc vn r.nodes := hri.d
 have irt := hrt.oneCell
 have ird := hrd.oneCell
 have hone : Ones (RlM.enc ⟨vt, vn, r⟩) := ⟨hri.ones⟩
 obtain ⟨ht8, hn64, _⟩ := h8 _ (mog hs) _ (mog hr)
 simp only at ht8 hn64
 refine .kn<|.seq<|.block<|.sr ?_
 refine .indexR k hrs hr (λ p24 => ?_)
 refine .q (.loadA rfl) ?_
 refine .allocA (λ b8 => ?_)
 refine .storeA rfl rfl<|.zn ?_
 refine Tri.cutS [(1, _), (2, _), (3, _), (6, _), (10, _), (11, _), (12, _), (20, _), (21, _), (22, _)] kE.c.c.c.c.c.c.c.c.c.c (X := (Value × Seg) × (Value × Seg) × (Value × Seg)) (λ y => OS 207 3 RlM.enc y.1.1 (L2 ++ [(⟨y.2.1.1, y.2.2.1, r⟩ : RlM)]) y.1.2 /\ OS 252 2 Ty.enc y.2.1.1 r.types y.2.1.2 /\ OS 168 5 Nd.enc y.2.2.1 r.nodes y.2.2.2) (λ _ E => E) (λ y => [y.1.2, y.2.1.2, y.2.2.2, Tp, bl b6 [.string sn, y.1.1] 187, bl b5 (SpM.enc ⟨sn, sv, rls⟩) 187, To, Ti, bl b3 [w, sZ] 25, bl b2 [sZ, sZ] 25, bl b1 [vs, vc] 25]) ?_ ?_
 refine .region_all [12, 14] mixed<|.tO 0 rfl (.fieldAddr rfl)<|.tO 1 rfl (.load1 rfl)<|.tO 2 rfl (.fieldAddr rfl)<|.tO 3 rfl (.load1 rfl)<|.tO 4 rfl (.fieldAddr rfl)<|.tO 5 rfl (.load1 rfl)<|.tO 7 rfl (.fieldAddr rfl)<|.tO 8 rfl (.load1 rfl)<|.sT 6 rfl<|.callN (LTY.clone_spec vt r.types _ hrt.rx (by omega)) (λ ut Tt hut => ?_)
 obtain ⟨pt, ct, rfl, _⟩ := hut.shape
 have iut := hut.oneCell
 refine .nil<|Next.sub<|.sT 9 rfl<|.callN (LND.clone_spec vn r.nodes _ hrd.rx (by omega)) (λ un Tn hun => ?_)
 obtain ⟨pn, cn, rfl, _⟩ := hun.shape
 have iun := hun.oneCell
 refine .nil<|Next.sub<|.tO 10 rfl .bld<|.sT 11 rfl ?_
 refine .buildSlice1A (λ b37 => ?_)
 refine .nil<|Next.sub<|.sT 12 rfl<|.append hO2 (RS.lits (xs := [(⟨.slice pt r.types.length ct, .slice pn r.nodes.length cn, r⟩ : RlM)]) rfl (by simp [RlM.enc]) (by intro y hy u hu; rw [List.mem_singleton] at hy; subst hy; simp only [RlM.enc, List.mem_cons, List.not_mem_nil, or_false] at hu; rcases hu with rfl | rfl | rfl <;> rfl)) (by simp only [List.length_singleton]; omega) (λ v5 T5 hv5 => ?_)
 have i5 := hv5.oneCell
 refine .nil<|Next.mod rfl<|.tK 13 rfl (.fieldAddrA rfl)<|.sT 14 rfl<|.store1 rfl rfl<|.nil<|Next.mod rfl<|RA.nil (by kernel_rfl) ?_
 ·exact joinQ_n ((v5, T5), (_, Tt), (_, Tn)) ⟨hv5, hut, hun⟩ ((((((((((kE.d rfl).d rfl).d rfl).d rfl).d rfl).d rfl).d rfl).d rfl).d rfl).d rfl) (pkH [4, 2, 1, 2, 2, 2, 2, 2, 2, 2, 2])
 intro y hy
 obtain ⟨⟨v5, T5⟩, ⟨ut, Tt⟩, ⟨un, Tn⟩⟩ := y
 obtain ⟨hv5, hut, hun⟩ := hy
 simp only at hv5 hut hun ⊢
 have i5 := hv5.oneCell
 refine blkQ_n<|seqQ_n<|.region<|.ia (k + 1) .add<|.mo rfl<|.nil ?_
 ·exact loopQ_i (k + 1, v5, L2 ++ [⟨ut, un, r⟩], T5, Tt ++ (Tn ++ Tp)) ⟨hkt, hv5, λ q hq => by
   rcases List.mem_append.1 hq with hq | hq
   ·exact (hI2 q hq).mono λ b o hb => sg_right (sg_right hb)
   ·rw [List.mem_singleton] at hq
    subst hq
    exact ⟨hri.n, hut.sg.mono λ b o hb => sg_left hb, hun.sg.mono λ b o hb => sg_right (sg_left hb), hri.ft, hri.fd⟩, by simp only; rw [take_next hr, List.map_append, List.map_append, hL2]; rfl⟩ (by simp only; omega) kE.c.c.c.c.c.c.c.c.c.c (HLe.ofPerm (by simp [setL, CfM.enc, SpM.enc]))
 rw [take_end (ge_i h2)] at hL2
 refine .exit<|seqQ_x<|loopQ_x<|blkQ_x<|seqQ_n<|.region<|.fa rfl<|.lo rfl<|.q (.loadA rfl) ?_
 refine .buildSlice1A (λ b44 => ?_)
 refine .append hO (RS.lits (xs := [(⟨sn, w2, L2⟩ : SpM)]) rfl (by simp [SpM.enc]) (by intro y hy u hu; rw [List.mem_singleton] at hy; subst hy; simp only [SpM.enc, List.mem_cons, List.not_mem_nil, or_false] at hu; rcases hu with rfl | rfl; rfl; exact io2.h)) (by simp only [List.length_singleton]; omega) (λ v5 T5 hv5 => ?_)
 have i5 := hv5.oneCell
 refine .fa rfl<|.store1 rfl rfl<|.nil<|blkQ_n<|seqQ_n<|.region<|.ia (i + 1) .add<|.mo rfl<|.nil ?_
 ·exact loopQ_i (i + 1, v5, L ++ [⟨sn, w2, L2⟩], T5, T2 ++ (Tp ++ Ti)) ⟨hlt, hv5, λ q hq => by
   rcases List.mem_append.1 hq with hq | hq
   ·exact (hI q hq).mono λ b o hb => sg_right (sg_right hb)
   ·rw [List.mem_singleton] at hq
    subst hq
    exact ⟨hsi.n, hO2.sg.mono λ b o hb => sg_left hb, λ r hr => (hI2 r hr).mono λ b o hb => sg_right (sg_left hb)⟩, by
   simp only
   rw [take_next hs, List.map_append, List.map_append, hL]
   simp only [List.map_cons, List.map_nil]
   congr 1
   unfold SpM.plain
   simp only
   rw [hL2]⟩ (by simp only; omega) kE.c.c.c.c.c.c ((pkH [5, 1, 1, 3, 3, 3, 3]).trans (HLe.ofPerm (by simp [take, dropAt, setL, CfM.enc])))
 rw [take_end (ge_i h1)] at hL
 refine .exit<|seqQ_x<|loopQ_x<|blkQ_x<|seqQ_n<|.sr<|.fa rfl<|.lo rfl<|.callN (LSC.clone_spec vc scs _ hsc.rx (by omega)) (λ uc Tc huc => ?_)
 have iuc := huc.oneCell
 refine .fa rfl<|.store1 rfl rfl<|.z<|.q (.loadA rfl)<|.storeA rfl rfl<|.zn ?_
 refine .ret (retQ_r _ (.one (.cellA rfl rfl)) (.one [1, 1, 0] _) ?_)
 ·refine ⟨_, rfl, ⟨w, uc, L, scs⟩, rfl, ⟨hO.sg.mono λ b o hb => ?_, huc.sg.mono λ b o hb => ?_, λ s hs => (hI s hs).mono λ b o hb => ?_, h.fc⟩, ?_⟩
  ·simp only [take, dropAt, List.getD_cons_zero, List.getD_cons_succ, List.flatten_cons, List.flatten_nil, List.append_nil]; exact sg_left hb
  ·simp only [take, dropAt, List.getD_cons_zero, List.getD_cons_succ, List.flatten_cons, List.flatten_nil, List.append_nil]; exact sg_right (sg_right hb)
  ·simp only [take, dropAt, List.getD_cons_zero, List.getD_cons_succ, List.flatten_cons, List.flatten_nil, List.append_nil]; exact sg_right (sg_left hb)
  ·unfold CfM.plain; simp only; rw [hL]
def RlM.zero : RlM := ⟨sZ, sZ, ⟨⟨#[]⟩, [], []⟩⟩
def FoundR (c : CfM) (t : Ty) (r : RlM) (ok : Bool) : Prop := match rfind c.plain.all t with
 | none => ok = false /\ r = RlM.zero
 | some j => ok = true /\ ∃ p s, c.spaces[p.1]? = some s /\ s.rels[p.2]? = some r /\ c.ix p = j
theorem find_none {l : List (ByteArray × Rl)} {t : Ty} (h : ∀ j x, j < l.length -> l[j]? = some x -> rkey x ≠ t) : rfind l t = none := by
 unfold rfind
 rw [List.findIdx?_eq_none_iff]
 intro x hx
 obtain ⟨j, hj, e⟩ := List.mem_iff_getElem.1 hx
 have := h j x hj (by rw [gge hj, e])
 simpa using this
theorem find_some {l : List (ByteArray × Rl)} {t : Ty} {i : Nat} {x : ByteArray × Rl} (hx : l[i]? = some x) (hk : rkey x = t) (h : ∀ j y, j < i -> l[j]? = some y -> rkey y ≠ t) : rfind l t = some i := by
 obtain ⟨hl, e⟩ := List.getElem?_eq_some_iff.1 hx
 unfold rfind
 rw [List.findIdx?_eq_some_iff_getElem]
 refine ⟨hl, by rw [e]; exact decide_eq_true hk, λ j hj => ?_⟩
 have := h j _ hj (gge (by omega))
 simpa using this
theorem sfind_spec (c : CfM) (R : Rds) (h : c.is R) (sp rel : ByteArray) : Spec prog 164 [.agg c.enc.toArray, .string sp, .string rel] R [] λ u H' => H' = [] /\ ∃ r ok, u = .tuple [.agg r.enc.toArray, .bool ok].toArray /\ FoundR c ⟨sp, rel⟩ r ok := by
 have hss := h.ss
 have i1 := hss.oneCell
 have i2 : One c.vc := RS.oneCell h.sc
 have hle := hss.le
 have hal := h.all
 have htot := total_all c.plain
 have hspl : c.plain.spaces.length = c.spaces.length := by unfold CfM.plain; simp
 have hpa : ∀ (i : Nat) (s : SpM), c.spaces[i]? = some s -> c.plain.spaces[i]? = some s.plain := λ i s hs => plain_at hs
 have hty := λ (p : Spot) (s : SpM) (r : RlM) => nms_typesC (c := c) (p := p) (s := s) (r := r)
 have hixd : ∀ i k, c.ix (i, k) = offs c.plain.spaces i + k := λ _ _ => rfl
 have hFR : ∀ r ok, FoundR c ⟨sp, rel⟩ r ok = (match rfind c.plain.all ⟨sp, rel⟩ with
  | none => ok = false /\ r = RlM.zero
  | some j => ok = true /\ ∃ p s, c.spaces[p.1]? = some s /\ s.rels[p.2]? = some r /\ c.ix p = j) := λ _ _ => rfl
 generalize hA : c.plain.all = A at *
 generalize hO_ : offs c.plain.spaces = of at *
 have hof0 : of 0 = 0 := by rw [<- hO_]; cases c.plain.spaces <;> rfl
 refine Spec.body Tryz.func164 rfl Tryz.results164 Tryz.ntmps164 rfl<|.sr ?_
 refine .boxA rfl (λ b3 => ?_)
 refine .allocA (λ b6 => ?_)
 refine .ag rfl<|.zs<|.sr<|.fa rfl<|.lo rfl<|.q (.lenR hss)<|.mo rfl<|.zn<|.block<|.loopS [(1, _), (2, _), (6, _), (13, _), (14, _)] (X := Nat) (λ i => i <= c.spaces.length /\ ∀ j x, j < of i -> A[j]? = some x -> rkey x ≠ ⟨sp, rel⟩) (λ i E => (15, iN i) :: E) (λ _ G => G) (λ i => c.spaces.length - i) 0 ⟨Nat.zero_le _, λ j x hj => by rw [hof0] at hj; omega⟩ kE.c.c.c.c.c.c rH ?_
 rintro i ⟨hi, hq⟩
 refine .sr<|.q .lss<|.zs<|.cond rfl (λ h1 => ?_) λ h1 => ?_
 have hlt : i < c.spaces.length := lt_i h1
 obtain ⟨⟨sn, sv, rls⟩, hs⟩ := exg hlt
 have hsi := hal _ (mog hs)
 have hrs : RS R 3 RlM.enc sv rls := hsi.rs
 have irs := hrs.oneCell
 have hler := hrs.le
 have isp : Ones (SpM.enc ⟨sn, sv, rls⟩) := ⟨hsi.ones⟩
 have hp1 := hpa i _ hs
 have hofn := offs_next hp1
 rw [hO_, show (SpM.plain ⟨sn, sv, rls⟩).rels.length = rls.length by simp [SpM.plain]] at hofn
 refine .kn<|.seq<|.block<|.sr ?_
 refine .indexR i hss hs (λ p17 => ?_)
 refine .q (.loadA rfl) ?_
 refine .allocA (λ b9 => ?_)
 refine .storeA rfl rfl<|.z<|.fa rfl<|.lo rfl<|.q (.lenR hrs)<|.mo rfl<|.zn<|.block<|.loopS [(1, _), (2, _), (6, _), (9, _), (13, _), (14, _), (15, _), (20, _), (21, _)] (X := Nat) (λ k => k <= rls.length /\ ∀ j x, j < of i + k -> A[j]? = some x -> rkey x ≠ ⟨sp, rel⟩) (λ k E => (22, iN k) :: E) (λ _ G => G) (λ k => rls.length - k) 0 ⟨Nat.zero_le _, λ j x hj => hq j x (by omega)⟩ kE.c.c.c.c.c.c.c.c.c.c rH ?_
 rintro k ⟨hk, hqk⟩
 refine .sr<|.q .lss<|.zs<|.cond rfl (λ h2 => ?_) λ h2 => ?_
 have hkt : k < rls.length := lt_i h2
 obtain ⟨⟨vt, vn, r⟩, hr⟩ := exg hkt
 have hri := hsi.all _ (mog hr)
 have irt : One vt := RS.oneCell hri.t
 have ird : One vn := RS.oneCell hri.d
 have hone : Ones (RlM.enc ⟨vt, vn, r⟩) := ⟨hri.ones⟩
 have hax := hty (i, k) _ _ hs hr
 rw [hixd] at hax
 refine .kn<|.seq<|.block<|.sr ?_
 refine .indexR k hrs hr (λ p24 => ?_)
 refine .q (.loadA rfl) ?_
 refine .allocA (λ b11 => ?_)
 refine .storeA rfl rfl<|.zs ?_
 refine Tri.cutS [(1, _), (2, _), (6, _), (9, _), (11, _), (13, _), (14, _), (15, _), (20, _), (21, _), (22, _)] kE.c.c.c.c.c.c.c.c.c.c.c (X := Unit) (λ _ => True) (λ _ E => (35, .bool (decide (sn = sp) && decide (r.name = rel))) :: E) (λ _ => [bl b11 (RlM.enc ⟨vt, vn, r⟩) 207, bl b9 (SpM.enc ⟨sn, sv, rls⟩) 187, bl b6 [.string ⟨#[]⟩, sZ, sZ] 207, bl b3 c.enc 25]) ?_ ?_
 refine .region<|.fa rfl<|.lo rfl<|.mo rfl<|.q .eqS<|.mo rfl<|.split (t := 30) rfl (λ g7_4 => ?_) (λ g7_4 => ?_)
 refine .gT g7_4<|.fa rfl<|.gT g7_4<|.lo rfl<|.gT g7_4<|.mo rfl<|.gT g7_4<|.q .eqS<|.q (.pickTh g7_4)<|.nil ?_
 ·exact joinQ_n () trivial (kE.c.c.c.c.c.c.c.c.c.c.c.consB rfl (by simp [h2, g7_4])) rH
 refine .gF g7_4<|.gF g7_4<|.gF g7_4<|.gF g7_4<|.q (.pickFh g7_4)<|.nil ?_
 ·exact joinQ_n () trivial (kE.c.c.c.c.c.c.c.c.c.c.c.consB rfl (by simp [h2, g7_4])) rH
 intro y hy
 refine seqQ_n<|.cond rfl (λ h3 => ?_) λ h3 => ?_
 refine .sr<|.q (.loadA rfl)<|.storeA rfl rfl<|.az rfl ?_
 refine .ret (blkQ_r (seqQ_r (loopQ_r (blkQ_r (blkQ_r (seqQ_r (loopQ_r (blkQ_r (seqQ_r (retQ_r _ (.two (.cellA rfl rfl) (.tmp rfl)) (.none _) ?_))))))))))
 ·refine ⟨rfl, ⟨vt, vn, r⟩, true, rfl, ?_⟩
  have h3' : sn = sp /\ r.name = rel := by simpa using h3
  rw [hFR, find_some hax (show (⟨sn, r.name⟩ : Ty) = _ by rw [h3'.1, h3'.2]) hqk]
  exact ⟨rfl, (i, k), _, hs, hr, hixd i k⟩
 refine .skip<|blkQ_n<|seqQ_n<|.region<|.ia (k + 1) .add<|.mo rfl<|.nil ?_
 ·exact loopQ_i (k + 1) ⟨hkt, λ j x hj hx => by
   rcases Nat.lt_or_ge j (of i + k) with hh | hh
   ·exact hqk j x hh hx
   ·obtain rfl : j = of i + k := by omega
    rw [hax] at hx
    cases hx
    intro he
    injection he with e1 e2
    have e1' : sn = sp := e1
    have e2' : r.name = rel := e2
    simp [e1', e2'] at h3⟩ (by omega) kE.c.c.c.c.c.c.c.c.c.c (pkH [1, 1, 1])
 have hke : k = rls.length := by have := odf h2; omega
 refine .exit<|seqQ_x<|loopQ_x<|blkQ_x<|blkQ_n<|seqQ_n<|.region<|.ia (i + 1) .add<|.mo rfl<|.nil ?_
 ·exact loopQ_i (i + 1) ⟨hlt, λ j x hj hx => hqk j x (by omega) hx⟩ (by omega) kE.c.c.c.c.c.c (pkH [1, 1])
 refine .exit<|seqQ_x<|loopQ_x<|blkQ_x<|seqQ_n<|.sr<|.q .bld<|.storeA rfl rfl<|.az rfl ?_
 refine .ret (retQ_r _ (.two (.cellA rfl rfl) (.tmp rfl)) (.none _) ?_)
 ·refine ⟨rfl, RlM.zero, false, rfl, ?_⟩
  have hie : of i = A.length := by
   have : i = c.spaces.length := by have := odf h1; omega
   rw [this, <- hspl, <- hO_, <- htot]
   rfl
  rw [hFR, find_none λ j x hj hx => hq j x (by omega) hx]
  exact ⟨rfl, rfl⟩
theorem sfits_spec (t : Ty) (s : Sub) (R : Rds) : Spec prog 255 [.agg t.enc.toArray, .agg s.enc.toArray] R [] λ u H' => u = .bool (fitT s t) /\ H' = [] := by
 obtain ⟨ts, tr⟩ := t
 obtain ⟨us, ss, si, sr⟩ := s
 refine Spec.body Tryz.func255 rfl Tryz.results255 Tryz.ntmps255 rfl<|.sr ?_
 refine .boxA rfl (λ b2 => ?_)
 refine .boxA rfl (λ b3 => ?_)
 refine .ag rfl<|.zs<|.sr<|.fa rfl<|.lo rfl<|.q .neS<|.zn<|.cond rfl (λ h1 => ?_) λ h1 => ?_
 refine .sr<|.q (.loadA rfl)<|.q .bld<|.q (.cast (.eqA (xs := Ty.enc ⟨ts, tr⟩) (ys := Ty.enc ⟨⟨#[]⟩, ⟨#[]⟩⟩) rfl rfl (Ty.kinds _) (Ty.kinds _)) (congrArg Value.bool (Ty.eq _ _)))<|.az rfl<|.ret (seqQ_r (rq1 rfl ?_))
 ·refine ⟨congrArg _ ?_, rfl⟩
  simp only [fitT]
  grind
 refine .kn<|.sr<|.fa rfl<|.lo rfl<|.q .neS<|.mo rfl<|.split (t := 14) rfl (λ g3_3 => ?_) (λ g3_3 => ?_)
 refine .gT g3_3<|.fa rfl<|.gT g3_3<|.lo rfl<|.gT g3_3<|.fa rfl<|.gT g3_3<|.fa rfl<|.gT g3_3<|.lo rfl<|.gT g3_3<|.q .eqS<|.q (.pickTh g3_3)<|.mo rfl<|.split (t := 22) rfl (λ g3_11 => ?_) (λ g3_11 => ?_)
 refine .gT g3_11<|.fa rfl<|.gT g3_11<|.lo rfl<|.gT g3_11<|.fa rfl<|.gT g3_11<|.lo rfl<|.gT g3_11<|.q .eqS<|.q (.pickTh g3_11)<|.az rfl<|.ret (rq1 rfl ?_)
 ·refine ⟨congrArg _ ?_, rfl⟩
  simp only [fitT]
  grind
 refine .gF g3_11<|.gF g3_11<|.gF g3_11<|.gF g3_11<|.gF g3_11<|.q (.pickFh g3_11)<|.az rfl<|.ret (rq1 rfl ?_)
 ·refine ⟨congrArg _ ?_, rfl⟩
  simp only [fitT]
  grind
 refine .gF g3_3<|.gF g3_3<|.gF g3_3<|.gF g3_3<|.gF g3_3<|.gF g3_3<|.q (.pickFh g3_3)<|.mo rfl<|.gX<|.gX<|.gX<|.gX<|.gX<|.q .pickF<|.az rfl<|.ret (rq1 rfl ?_)
 ·refine ⟨congrArg _ ?_, rfl⟩
  simp only [fitT]
  grind
theorem allowed1_spec (t : Ty) (s : Sub) (x1 x2 x3 : Value) (q : Nat) (R : Rds) [pc : PC R (pT q) (x1 :: x2 :: x3 :: s.enc)] : Spec prog 254 [.agg t.enc.toArray, pT q] R [] λ u H' => u = .bool (fitT s t) /\ H' = [] := by
 refine Spec.body Tryz.func254 rfl Tryz.results254 Tryz.ntmps254 rfl<|.sr ?_
 refine .boxA rfl (λ b2 => ?_)
 refine .ag rfl<|.z<|.q (.loadA rfl)<|.fa rfl<|.q (.loadT rfl)<|.callR (sfits_spec t s _) (λ u hu => ?_)
 subst hu
 refine .az rfl<|.ret (rq1 rfl ?_)
 ·exact ⟨rfl, rfl⟩
theorem allowed_spec (c : CfM) (R : Rds) (h : c.is R) (t : Tpl) : Spec prog 203 [.agg c.enc.toArray, .agg t.enc.toArray] R [] λ u H' => u = .int .i64 (if allowed c.plain t.obr t.sub then 0 else 14) /\ H' = [] := by
 have hfind := sfind_spec c R h t.os t.rel
 have hal := h.all
 have i1 : One c.vs := RS.oneCell h.ss
 have i2 : One c.vc := RS.oneCell h.sc
 have hall : allowed c.plain t.obr t.sub = match rfind c.plain.all ⟨t.os, t.rel⟩ with
  | none => false
  | some i => ((c.plain.all.map (·.2.types)).getD i []).any (fitT t.sub) := rfl
 refine Spec.body Tryz.func203 rfl Tryz.results203 Tryz.ntmps203 rfl<|.sr ?_
 refine .boxA rfl (λ b2 => ?_)
 refine .boxA rfl (λ b3 => ?_)
 refine .ag rfl<|.z<|.q (.loadA rfl)<|.fa rfl<|.fa rfl<|.lo rfl<|.fa rfl<|.lo rfl<|.callR ((hfind.mono λ u H' hu => ⟨hu.2, hu.1⟩).weaken rxl) (λ u hu => ?_)
 obtain ⟨r, ok, rfl, hF⟩ := hu
 obtain ⟨tys, hty, hany⟩ : ∃ tys, RS R 2 Ty.enc r.vt tys /\ allowed c.plain t.obr t.sub = (ok && tys.any (fitT t.sub)) := by
  rw [hall]
  unfold FoundR at hF
  cases hf : rfind c.plain.all ⟨t.os, t.rel⟩ with
  | none => rw [hf] at hF; obtain ⟨rfl, rfl⟩ := hF; exact ⟨[], RS.nil0, rfl⟩
  | some j =>
   rw [hf] at hF
   obtain ⟨rfl, p, s, hs, hr, hj⟩ := hF
   refine ⟨r.r.types, ((hal _ (mog hs)).all _ (mog hr)).t, ?_⟩
   have := nms_typesC hs hr
   rw [hj] at this
   simp only [Bool.true_and]
   rw [List.getD_eq_getElem?_getD, List.getElem?_map, this]
   rfl
 have hone : Ones r.enc := by
  unfold FoundR at hF
  cases hf : rfind c.plain.all ⟨t.os, t.rel⟩ with
  | none => rw [hf] at hF; obtain ⟨_, rfl⟩ := hF; exact ⟨by simp [RlM.enc, RlM.zero, oneCell]⟩
  | some j => rw [hf] at hF; obtain ⟨_, p, s, hs, hr, hj⟩ := hF; exact ⟨((hal _ (mog hs)).all _ (mog hr)).ones⟩
 obtain ⟨vt, vn, r⟩ := r
 simp only at hty
 refine .mo rfl<|.q .extract<|.q .extract ?_
 refine .allocA (λ b5 => ?_)
 refine .storeA rfl rfl<|.ag rfl<|.zs<|.sr<|.mo rfl<|.q .not<|.mo rfl<|.split (t := 19) rfl (λ g2_2 => ?_) (λ g2_2 => ?_)
 refine .gF g2_2<|.gF g2_2<|.gF g2_2<|.gF g2_2<|.gF g2_2<|.q (.pickTh g2_2)<|.zn<|.condT<|.sr<|.az rfl<|.ret (seqQ_r (rq1 rfl ?_))
 ·refine ⟨?_, rfl⟩
  rw [hany, if_neg (by simp_all)]
 refine .gT g2_2<|.fa rfl<|.gT g2_2<|.lo rfl<|.gT g2_2<|.q .makeFunc<|.gT g2_2 ?_
 refine .callR (LTY.containsF_spec 254 [pT b3] (fitT t.sub) vt tys _ hty.rx (λ y _ R' hR' => by
  have pcb : PC R' (pT b3) (.string t.os :: .string t.oi :: .string t.rel :: t.sub.enc) := PC.of (E := 151) (fr := (0, 0)) (hR' _ _ (.inr (by simp [Tpl.enc, Sub.enc, Tpl.sub])))
  exact allowed1_spec y t.sub _ _ _ b3 R')) (λ u hu => ?_)
 subst hu
 refine .gT g2_2<|.q .not<|.q (.pickFh g2_2)<|.zn<|.cond rfl (λ h1 => ?_) λ h1 => ?_
 refine .sr<|.az rfl<|.ret (seqQ_r (rq1 rfl ?_))
 ·refine ⟨?_, rfl⟩
  rw [hany, if_neg (by simp_all)]
 refine .kn<|.sr<|.az rfl<|.ret (rq1 rfl ?_)
 ·refine ⟨?_, rfl⟩
  rw [hany, if_pos (by simp_all)]
structure EnM where
 rev : Int
 c : CfM
 vn : Value
 ll : List NlM
def EnM.enc (e : EnM) : List Value := [.int .u64 e.rev, e.c.vs, e.c.vc, e.vn]
structure EnM.is (R : Rds) (e : EnM) : Prop where
 c : e.c.is R
 n : NN R e.vn e.ll
 ok : (e.c.plain.numbers isWord isRef).1 = 0
 eq : e.ll.map (·.2) = (e.c.plain.numbers isWord isRef).2
theorem EnM.is.mono {R R' : Rds} {e : EnM} (h : e.is R) (hR : ∀ b o, R b o -> R' b o) : e.is R' := ⟨h.c.mono hR, h.n.mono hR, h.ok, h.eq⟩
theorem EnM.is.ones {R : Rds} {e : EnM} (h : e.is R) : ∀ u ∈ e.enc, oneCell u = true := by
 have h1 := h.c.ss.oneCell
 have h2 := h.c.sc.oneCell
 have h3 := h.n.rs.oneCell
 intro u hu
 simp only [EnM.enc, List.mem_cons, List.not_mem_nil, or_false] at hu
 rcases hu with rfl | rfl | rfl | rfl
 ·rfl
 ·exact h1.h
 ·exact h2.h
 ·exact h3.h
theorem right_of_ok {c : Cf} (h : (c.numbers isWord isRef).1 = 0) : c.right isWord isRef = true := by
 cases hr : c.right isWord isRef with
 | true => rfl
 | false => unfold Cf.numbers at h; rw [if_pos hr] at h; cases h
def HI (hb : Nat) (es : List EnM) (gone : Nat) (T : Seg) : Prop := ∃ vl Te Tp, T = (hb, .cells [.bool true, vl, iN gone].toArray 116 (0, 0)) :: (Te ++ Tp) /\ OS 202 4 EnM.enc vl es Te /\ ∀ e ∈ es, e.is (sg Tp)
structure HV (R : Rds) (hb : Nat) (vl : Value) (es : List EnM) (gone : Nat) : Prop where
 pc : PC R (pT hb) [.bool true, vl, iN gone]
 rs : RS R 4 EnM.enc vl es
 all : ∀ e ∈ es, e.is R
theorem HI.view {hb : Nat} {es : List EnM} {gone : Nat} {T : Seg} {R : Rds} (h : HI hb es gone T) (hR : ∀ p ∈ T, R p.1 p.2) : ∃ vl, HV R hb vl es gone := by
 obtain ⟨vl, Te, Tp, rfl, hO, hI⟩ := h
 refine ⟨vl, PC.of (E := 116) (fr := (0, 0)) (hR (hb, _) (by simp)), hO.rs λ p hp => hR p (by simp [hp]), λ e he => (hI e he).mono λ b o hb => hR (b, o) ?_⟩
 have : (b, o) ∈ Tp := hb
 simp [this]
theorem hnew_spec (R : Rds) : Spec prog 36 [] R [] λ u H' => ∃ T, H' = [T] /\ ∃ hb, u = pT hb /\ HI hb [] 0 T := by
 refine Spec.body Tryz.func36 rfl Tryz.results36 Tryz.ntmps36 rfl<|.sr<|.ag rfl<|.z<|.q .bld ?_
 refine .boxA rfl (λ b2 => ?_)
 refine .az rfl<|.ret (retQ_r _ (.one (.tmp rfl)) (.one [0] _) ?_)
 ·exact ⟨_, rfl, b2, rfl, sZ, [], [], rfl, OS.nil, λ e he => (by cases he)⟩
section
variable {R : Rds} {hb : Nat} {vl : Value} {es : List EnM} {gone : Nat}
theorem HV.made (h : HV R hb vl es gone) : Spec prog 91 [pT hb] R [] λ u H' => u = .bool true /\ H' = [] := by
 have pc := h.pc
 have il := h.rs.oneCell
 refine Spec.body Tryz.func91 rfl Tryz.results91 Tryz.ntmps91 rfl<|.sr<|.ag rfl<|.z<|.mo rfl<|.q (.neNilP rfl rfl)<|.mo rfl<|.gt rfl<|.mo rfl<|.gt rfl<|.nc rfl<|.gt rfl<|.fa rfl<|.gt rfl<|.lo rfl<|.q .pickT<|.az rfl<|.ret (rq1 rfl ?_)
 ·exact ⟨rfl, rfl⟩
def hl (es : List EnM) (r : Int) : Nat -> Option Nat
 | 0 => none
 | n + 1 => match es[n]? with
  | some e => if e.rev <= r then some n else hl es r n
  | none => hl es r n
theorem hl_at {es : List EnM} {r : Int} : ∀ {n i : Nat}, hl es r n = some i -> i < n /\ ∃ e, es[i]? = some e
 | 0, i, h => by cases h
 | n + 1, i, h => by
  unfold hl at h
  split at h
  ·rename_i e he
   split at h
   ·cases h; exact ⟨by omega, e, he⟩
   ·obtain ⟨h1, h2⟩ := hl_at h; exact ⟨by omega, h2⟩
  ·obtain ⟨h1, h2⟩ := hl_at h; exact ⟨by omega, h2⟩
theorem HV.last (h : HV R hb vl es gone) (r : Int) : Spec prog 101 [pT hb, .int .u64 r] R [] λ u H' => u = .int .i64 (fI (hl es r es.length)) /\ H' = [] := by
 have pc := h.pc
 have hrs := h.rs
 have il := hrs.oneCell
 have hle := hrs.le
 have hal := h.all
 refine Spec.body Tryz.func101 rfl Tryz.results101 Tryz.ntmps101 rfl<|.sr<|.ag rfl<|.zs<|.sr<|.mo rfl<|.callR (h.made.weaken rxl) (λ u hu => ?_)
 subst hu
 refine .q .not<|.zn<|.condF<|.kn<|.sr<|.ag rfl<|.zs<|.sr<|.mo rfl<|.nc rfl<|.fa rfl<|.lo rfl<|.q (.lenR hrs)<|.mo rfl<|.zn<|.block<|.loopS [(1, _), (14, _), (15, _)] (X := Nat) (λ i => i <= es.length) (λ i E => (16, iN i) :: (5, .int .i64 (fI (hl es r i))) :: E) (λ _ G => G) (λ i => es.length - i) 0 (Nat.zero_le _) kE.c.c.c.c.c rH ?_
 rintro i hi
 refine .sr<|.q .lss<|.zs<|.cond rfl (λ h2 => ?_) λ h2 => ?_
 have hlt : i < es.length := lt_i h2
 obtain ⟨e, he⟩ := exg hlt
 have hone : Ones e.enc := ⟨(hal e (mog he)).ones⟩
 have hn : hl es r (i + 1) = if e.rev <= r then some i else hl es r i := by rw [hl, he]
 refine .kn<|.seq<|.block<|.sr<|.mo rfl ?_
 refine .indexR i hrs he (λ p19 => ?_)
 refine .q (.loadA rfl) ?_
 refine .allocA (λ b7 => ?_)
 refine .ag rfl<|.storeA rfl rfl<|.z<|.fa rfl<|.fa rfl<|.lo rfl<|.mo rfl<|.q .leq<|.zn ?_
 refine Tri.cutS [(1, _), (14, _), (15, _), (16, _)] kE.c.c.c.c (X := Unit) (λ _ => True) (λ _ E => (5, .int .i64 (fI (hl es r (i + 1)))) :: E) (λ _ => []) ?_ ?_
 refine .cond rfl (λ h3 => ?_) λ h3 => ?_
 refine .region<|.mo rfl<|.ag rfl<|.nil ?_
 ·exact joinQ_n () trivial (kE.c.c.c.c.consI rfl (by rw [hn]; first | rw [if_pos (odt h3)]; rfl | rw [if_neg (odf h3)])) (HLe.none _)
 refine .skip ?_
 ·exact joinQ_n () trivial (kE.c.c.c.c.consI rfl (by rw [hn]; first | rw [if_pos (odt h3)]; rfl | rw [if_neg (odf h3)])) (HLe.none _)
 intro x hx
 refine blkQ_n<|seqQ_n<|.region<|.ia (i + 1) .add<|.mo rfl<|.nil ?_
 ·exact loopQ_i (i + 1) hlt (by omega) kE.c.c.c.c.c rH
 refine .exit<|seqQ_x<|loopQ_x<|blkQ_x<|seqQ_n<|.sr<|.mo rfl<|.az rfl<|.ret (rq1 rfl ?_)
 ·refine ⟨?_, rfl⟩
  rw [show i = es.length by have := odf h2; omega]
def atV (es : List EnM) (gone : Nat) (r : Int) : Int := match hl es r es.length with
 | none => 0
 | some i => (gone + i + 1 : Nat)
def atC (es : List EnM) (r : Int) : Option EnM := (hl es r es.length).bind λ i => es[i]?
theorem HV.at_ (h : HV R hb vl es gone) (r : Int) (hg : gone <= 1000000 /\ es.length <= 1000000) : Spec prog 44 [pT hb, .int .u64 r] R [] λ u H' => ∃ T, H' = [T] /\ ∃ c' : CfM, u = .tuple [.agg c'.enc.toArray, .int .i64 (atV es gone r)].toArray /\ c'.is (sg T) /\ c'.plain = ((atC es r).map (·.c.plain)).getD ⟨[], []⟩ := by
 have pc := h.pc
 have hrs := h.rs
 have il := hrs.oneCell
 have hle := hrs.le
 have hal := h.all
 obtain ⟨hg1, hg2⟩ := hg
 refine Spec.body Tryz.func44 rfl Tryz.results44 Tryz.ntmps44 rfl<|.sr ?_
 refine .allocA (λ b4 => ?_)
 refine .ag rfl<|.z<|.mo rfl<|.mo rfl<|.callR ((h.last r).weaken rxl) (λ u hu => ?_)
 subst hu
 refine .ag rfl<|.zs<|.sr<|.mo rfl<|.q .lss<|.zn<|.cond rfl (λ h1 => ?_) λ h1 => ?_
 have hn : hl es r es.length = none := by
  cases hh : hl es r es.length with
  | none => rfl
  | some i => rw [hh] at h1; simp only [fI] at h1; have := odt h1; omega
 refine .sr<|.q .bld<|.storeA rfl rfl<|.az rfl ?_
 refine .ret (seqQ_r (retQ_r _ (.two (.cellA rfl rfl) (.tmp rfl)) HLe.nil1 ?_))
 ·refine ⟨[], rfl, ⟨sZ, sZ, [], []⟩, ?_, ⟨RS.nil0, RS.nil0, λ s hs => (by cases hs), λ s hs => (by cases hs)⟩, ?_⟩
  ·unfold atV; rw [hn]; rfl
  ·unfold atC; rw [hn]; rfl
 obtain ⟨i, hi⟩ : ∃ i, hl es r es.length = some i := by
  cases hh : hl es r es.length with
  | none => rw [hh] at h1; simp [fI] at h1
  | some i => exact ⟨i, rfl⟩
 obtain ⟨hil, e, he⟩ := hl_at hi
 have hei := hal e (mog he)
 have hone : Ones e.enc := ⟨hei.ones⟩
 have hcp := copied_spec e.c R hei.c (fewC_of (right_of_ok hei.ok))
 have hfi : fI (hl es r es.length) = (i : Int) := by rw [hi]; rfl
 have pe := hrs.pc he
 rw [hfi]
 refine .kn<|.seq ?_
 refine Tri.cutS [(4, _)] kE.c (X := CfM × Seg) (λ y => y.1.is (sg y.2) /\ y.1.plain = e.c.plain) (λ _ E => (5, .int .i64 ((gone + i + 1 : Nat) : Int)) :: E) (λ y => [y.2, bl b4 y.1.enc 25]) ?_ ?_
 refine .region_all [17] mixed<|.tO 0 rfl .move<|.tO 1 rfl (.nilCheck rfl)<|.tO 2 rfl (.fieldAddr rfl)<|.tO 3 rfl (.load1 rfl)<|.tO 4 rfl .move<|.tO 5 rfl (.indexR i hrs he rfl rfl rfl)<|.tO 6 rfl (.fieldAddr rfl)<|.tO 7 rfl (.fieldAddr rfl)<|.tO 8 rfl (.loadT rfl)<|.tK 10 rfl .move<|.tK 11 rfl (.nilCheckA rfl)<|.tK 12 rfl (.fieldAddrA rfl)<|.tK 13 rfl (.load1 rfl)<|.tK 14 rfl .move<|.take 15 rfl (.i64 ((gone + i : Nat) : Int) .add ⟨by omega, by omega, by omega⟩) (by kernel_rfl)<|.take 16 rfl (.i64 ((gone + i + 1 : Nat) : Int) .add ⟨by omega, by omega, by omega⟩) (by kernel_rfl)<|.sT 9 rfl<|.callN (hcp.weaken rxl) (λ u T9 hu => ?_)
 obtain ⟨c', rfl, hc', hcpl⟩ := hu
 have hcc : Ones c'.enc := ⟨hc'.ones⟩
 have ic1 : One c'.vs := RS.oneCell hc'.ss
 have ic2 : One c'.vc := RS.oneCell hc'.sc
 refine .nil<|Next.sub<|.sT 17 rfl<|.storeA rfl rfl<|.nil<|Next.mod rfl<|.tK 18 rfl .assign<|RA.nil (by kernel_rfl) ?_
 ·exact joinQ_n (c', T9) ⟨hc', hcpl⟩ kE.c.c (by first | exact HLe.refl _ | exact HLe.pick [0, 0] _ | exact pkH [1, 0])
 intro y hy
 obtain ⟨c', T9⟩ := y
 obtain ⟨hc', hcpl⟩ := hy
 simp only at hc' hcpl ⊢
 refine seqQ_n<|.ret (retQ_r _ (.two (.cellA rfl rfl) (.tmp rfl)) (.one [0] _) ?_)
 ·refine ⟨T9, by simp [take], c', ?_, hc', ?_⟩
  ·unfold atV; rw [hi]
  ·unfold atC; rw [hi, Option.bind_some, he]; exact hcpl
end
theorem HV.numbers {R : Rds} {hb : Nat} {vl : Value} {es : List EnM} {gone : Nat} (h : HV R hb vl es gone) (r : Int) (hl8 : ∀ e ∈ es, e.ll.length <= 1000000 /\ ∀ q ∈ e.ll, q.2.length <= 1000000) : Spec prog 103 [pT hb, .int .u64 r] R [] λ u H' => ∃ T, H' = [T] /\ ∃ ll, NN (sg T) u ll /\ ll.map (·.2) = ((atC es r).map λ e => e.ll.map (·.2)).getD [] := by
 have pc := h.pc
 have hrs := h.rs
 have il := hrs.oneCell
 have hle := hrs.le
 have hal := h.all
 refine Spec.body Tryz.func103 rfl Tryz.results103 Tryz.ntmps103 rfl<|.sr<|.ag rfl<|.z<|.mo rfl<|.mo rfl<|.callR ((h.last r).weaken rxl) (λ u hu => ?_)
 subst hu
 refine .ag rfl<|.zs<|.sr<|.mo rfl<|.q .lss<|.zn<|.cond rfl (λ h1 => ?_) λ h1 => ?_
 have hn : hl es r es.length = none := by
  cases hh : hl es r es.length with
  | none => rfl
  | some i => rw [hh] at h1; simp only [fI] at h1; have := odt h1; omega
 refine .sr<|.az rfl<|.ret (seqQ_r (retQ_r _ (.one (.tmp rfl)) HLe.nil1 ?_))
 ·refine ⟨[], rfl, [], .nil, ?_⟩
  unfold atC; rw [hn]; rfl
 obtain ⟨i, hi⟩ : ∃ i, hl es r es.length = some i := by
  cases hh : hl es r es.length with
  | none => rw [hh] at h1; simp [fI] at h1
  | some i => exact ⟨i, rfl⟩
 obtain ⟨hil, e, he⟩ := hl_at hi
 have hei := hal e (mog he)
 have hn := hei.n
 have hnr := hn.rs
 have inr := hnr.oneCell
 obtain ⟨hl1, hl2⟩ := hl8 e (mog he)
 have ic1 : One e.c.vs := RS.oneCell hei.c.ss
 have ic2 : One e.c.vc := RS.oneCell hei.c.sc
 have hfi : fI (hl es r es.length) = (i : Int) := by rw [hi]; rfl
 rw [hfi]
 refine .kn<|.sr<|.ag rfl<|.zs<|.sr<|.mo rfl<|.nc rfl<|.fa rfl<|.lo rfl<|.mo rfl ?_
 refine .indexR i hrs he (λ p19 => ?_)
 refine .fa rfl<|.lo rfl<|.q (.lenR hnr)<|.mo rfl<|.zn<|.block<|.loopS [(21, _), (22, _)] (X := Nat × Value × List NlM × Seg × Seg) (λ y => y.1 <= e.ll.length /\ OS 127 1 encV1 y.2.1 y.2.2.1 y.2.2.2.1 /\ (∀ q ∈ y.2.2.1, RS (sg y.2.2.2.2) 1 encNt q.1 q.2) /\ y.2.2.1.map (·.2) = (e.ll.take y.1).map (·.2)) (λ y E => (23, iN y.1) :: (6, y.2.1) :: E) (λ y G => y.2.2.2.1 :: y.2.2.2.2 :: G) (λ y => e.ll.length - y.1) (0, sZ, [], [], []) ⟨Nat.zero_le _, OS.nil, λ q hq => (by cases hq), rfl⟩ kE.c.c.c.c HLe.new00 ?_
 rintro ⟨k, vo, L, To, Tp⟩ ⟨hk, hO, hI, hL⟩
 simp only at hk hO hI hL ⊢
 have io := hO.oneCell
 have hLl : L.length = k := by have := congrArg List.length hL; rw [List.length_map, List.length_map, List.length_take] at this; omega
 refine .sr<|.q .lss<|.zs<|.cond rfl (λ h2 => ?_) λ h2 => ?_
 have hkt : k < e.ll.length := lt_i h2
 obtain ⟨q, hq⟩ := exg hkt
 have hqr := hn.all q (mog hq)
 have iq := hqr.oneCell
 refine .kn<|.seq<|.block<|.sr ?_
 refine .indexR k hnr hq (λ p25 => ?_)
 refine .lo rfl<|.az rfl<|.region<|.mo rfl<|.mo rfl<|.callN (LIN.clone_spec q.1 q.2 _ hqr.rx (hl2 q (mog hq))) (λ u T1 hu => ?_)
 have iu := hu.oneCell
 obtain ⟨pu, cu, rfl, _⟩ := hu.shape
 refine .buildSlice11 (λ b30 => ?_)
 refine .append hO (RS.lits (xs := [((.slice pu q.2.length cu, q.2) : NlM)]) rfl (by simp [encV1]) (by simp [encV1, oneCell])) (by simp only [List.length_singleton]; omega) (λ v5 T5 hv5 => ?_)
 have i5 := hv5.oneCell
 refine .ag rfl<|.nil<|blkQ_n<|seqQ_n<|.region<|.ia (k + 1) .add<|.mo rfl<|.nil ?_
 ·exact loopQ_i (k + 1, v5, L ++ [(.slice pu q.2.length cu, q.2)], T5, T1 ++ Tp) ⟨hkt, hv5, λ q' hq' => by
   rcases List.mem_append.1 hq' with hq' | hq'
   ·exact (hI q' hq').mono λ b o hb => sg_right hb
   ·rw [List.mem_singleton] at hq'
    subst hq'
    exact hu.sg.mono λ b o hb => sg_left hb, by simp only; rw [take_next hq, List.map_append, List.map_append, hL]; rfl⟩ (by simp only; omega) kE.c.c.c.c ((pkH [2, 1, 1]).trans (HLe.ofPerm (by simp [take, dropAt])))
 refine .exit<|seqQ_x<|loopQ_x<|blkQ_x<|seqQ_n<|.sr<|.mo rfl<|.az rfl<|.ret (retQ_r _ (.one (.tmp rfl)) (.one [0, 0] _) ?_)
 ·refine ⟨To ++ Tp, by simp [take, dropAt], L, ⟨hO.sg.mono λ b o hb => sg_left hb, λ q hq => (hI q hq).mono λ b o hb => sg_right hb⟩, ?_⟩
  rw [take_end (ge_i h2)] at hL
  unfold atC; rw [hi, Option.bind_some, he, hL]; rfl
def hcode (es : List EnM) (rev : Int) (c : Cf) : Int :=
 if (es.getLast?.map λ e => decide (rev <= e.rev)).getD false then 12 else if (c.numbers isWord isRef).1 ≠ 0 then (c.numbers isWord isRef).1 else if 16 <= es.length then 8 else 0
theorem hadd_spec (hb : Nat) (es : List EnM) (gone : Nat) (T : Seg) (h : HI hb es gone T) (hel : es.length <= 1000) (rev : Int) (c : CfM) (R : Rds) (hc : c.is R) :
  Spec prog 40 [pT hb, .int .u64 rev, .agg c.enc.toArray] R [T] λ u H' => ∃ T', H' = [T'] /\ u = .int .i64 (hcode es rev c.plain) /\ (hcode es rev c.plain = 0 -> ∃ e : EnM, e.rev = rev /\ e.c.plain = c.plain /\ HI hb (es ++ [e]) gone T') /\ (hcode es rev c.plain ≠ 0 -> HI hb es gone T') := by
 have hnum := numbers_spec c R hc
 have hcp := copied_spec c R hc
 have i1 : One c.vs := RS.oneCell hc.ss
 have i2 : One c.vc := RS.oneCell hc.sc
 obtain ⟨vl, Te, Tp, rfl, hO, hI⟩ := h
 have il := hO.oneCell
 have hpl : (c.plain.numbers isWord isRef).1 = 0 -> c.fewC := λ h0 => fewC_of (right_of_ok h0)
 have hcd : hcode es rev c.plain = if (es.getLast?.map λ e => decide (rev <= e.rev)).getD false then 12 else if (c.plain.numbers isWord isRef).1 ≠ 0 then (c.plain.numbers isWord isRef).1 else if 16 <= es.length then 8 else 0 := rfl
 generalize hk : hcode es rev c.plain = kc at *
 generalize hnn : c.plain.numbers isWord isRef = nn at *
 have hHV : ∀ R' : Rds, (∀ p ∈ ((hb, .cells [.bool true, vl, iN gone].toArray 116 (0, 0)) :: (Te ++ Tp) : Seg), R' p.1 p.2) -> HV R' hb vl es gone := λ R' hR => by
  refine ⟨PC.of (E := 116) (fr := (0, 0)) (hR (hb, _) (by simp)), hO.rs λ p hp => hR p (by simp [hp]), λ e he => (hI e he).mono λ b o hb => hR (b, o) ?_⟩
  have : (b, o) ∈ Tp := hb
  simp [this]
 have hback : ∀ w, HI hb es gone w ↔ ∃ vl Te Tp, w = (hb, .cells [.bool true, vl, iN gone].toArray 116 (0, 0)) :: (Te ++ Tp) /\ OS 202 4 EnM.enc vl es Te /\ ∀ e ∈ es, e.is (sg Tp) := λ _ => Iff.rfl
 refine Spec.segs (H' := [bl hb [.bool true, vl, iN gone] 116, Te, Tp]) (by simp)<|Spec.body Tryz.func40 rfl Tryz.results40 Tryz.ntmps40 rfl<|.sr ?_
 refine .boxA rfl (λ b5 => ?_)
 refine .ag rfl<|.zs<|.block<|.sr<|.mo rfl ?_
 refine .callR (HV.made (hHV _ λ p hp => .inr (by
  rcases List.mem_cons.1 hp with rfl | hp
  ·simp
  ·rcases List.mem_append.1 hp with hp | hp <;> simp [hp]))) (λ u hu => ?_)
 subst hu
 refine .q .not<|.az rfl<|.condF<|.seq ?_
 refine Tri.cutS [(0, _), (1, _), (5, _)] kE.c.c.c (X := Unit) (λ _ => True) (λ _ E => (13, .bool ((es.getLast?.map λ e => decide (rev <= e.rev)).getD false)) :: E) (λ _ => [bl b5 c.enc 25, bl hb [.bool true, vl, iN gone] 116, Te, Tp]) ?_ ?_
 refine .region_still mixed (by kernel_rfl)<|.mo rfl<|.nc rfl<|.fa rfl<|.lo rfl<|.q (.lenO hO)<|.q .gtr<|.mo rfl<|.split (t := 20) rfl (λ g3_6 => ?_) (λ g3_6 => ?_)
 obtain ⟨n, hn⟩ : ∃ n, es.length = n + 1 := ⟨es.length - 1, by have := odt g3_6; omega⟩
 obtain ⟨el, hel2⟩ : ∃ e, es[n]? = some e := ⟨_, gge (by omega)⟩
 have hlast : es.getLast? = some el := by rw [List.getLast?_eq_getElem?, hn]; exact hel2
 have hiel := hI el (mog hel2)
 have iel : Ones el.enc := ⟨hiel.ones⟩
 refine .gT g3_6<|.mo rfl<|.gT g3_6<|.mo rfl<|.gT g3_6<|.nc rfl<|.gT g3_6<|.fa rfl<|.gT g3_6<|.lo rfl<|.gT g3_6<|.mo rfl<|.gT g3_6<|.nc rfl<|.gT g3_6<|.fa rfl<|.gT g3_6<|.lo rfl<|.gT g3_6<|.q (.lenO hO)<|.gT g3_6<|.q (.i64 (n : Int) .sub ⟨by omega, by omega, by omega⟩)<|.gT g3_6 ?_
 refine .indexO n hO hel2 (λ p32 => ?_)
 refine .gT g3_6<|.fa rfl<|.gT g3_6<|.fa rfl<|.gT g3_6<|.lo rfl<|.gT g3_6<|.q .leq<|.q (.pickTh g3_6)<|.ag rfl<|.nil ?_
 ·exact joinQ_n () trivial (kE.c.c.c.consB rfl (by first | rfl | (rw [hlast]; rfl))) rH
 have hnil : es = [] := List.eq_nil_of_length_eq_zero (by have := odf g3_6; omega)
 subst hnil
 refine .gF g3_6<|.gF g3_6<|.gF g3_6<|.gF g3_6<|.gF g3_6<|.gF g3_6<|.gF g3_6<|.gF g3_6<|.gF g3_6<|.gF g3_6<|.gF g3_6<|.gF g3_6<|.gF g3_6<|.gF g3_6<|.gF g3_6<|.gF g3_6<|.q (.pickFh g3_6)<|.ag rfl<|.nil ?_
 ·exact joinQ_n () trivial (kE.c.c.c.consB rfl (by first | rfl | (rw [hlast]; rfl))) rH
 intro y hy
 refine seqQ_n<|.cond rfl (λ h2 => ?_) λ h2 => ?_
 refine .sr<|.az rfl<|.ret (blkQ_r (seqQ_r (retQ_r _ (.one (.tmp rfl)) (.one [1, 1, 1] _) ?_)))
 ·have h2' : ((es.getLast?.map λ e => decide (rev <= e.rev)).getD false) = true := h2
  have hz : kc = 12 := by rw [hcd, if_pos h2']
  have hnz : kc ≠ 0 := by rw [hz]; decide
  exact ⟨_, rfl, by rw [hz], λ hh => absurd hh hnz, λ _ => (hback _).2 ⟨vl, Te, Tp, by simp [take, dropAt], hO, hI⟩⟩
 refine .skip<|blkQ_n<|seqQ_n<|.sr<|.q (.loadA rfl)<|.callN (hnum.weaken rxl) (λ u T7 hu7 => ?_)
 obtain ⟨w7, ll, rfl, hNN, hll⟩ := hu7
 have i7 := hNN.rs.oneCell
 refine .mo rfl<|.q .extract<|.q .extract<|.ag rfl<|.ag rfl<|.zs<|.block<|.sr<|.mo rfl<|.q .neI<|.az rfl<|.cond rfl (λ h3 => ?_) λ h3 => ?_
 have hne : nn.1 ≠ 0 := by simpa using h3
 refine .sr<|.mo rfl<|.az rfl<|.ret (blkQ_r (seqQ_r (retQ_r _ (.one (.tmp rfl)) (.one [2, 2, 2] _) ?_)))
 ·have h2' : ((es.getLast?.map λ e => decide (rev <= e.rev)).getD false) = false := h2
  have hz : kc = nn.1 := by rw [hcd, if_neg (by rw [h2']; simp), if_pos hne]
  exact ⟨_, rfl, by rw [hz], λ hh => absurd (hz.symm.trans hh) hne, λ _ => (hback _).2 ⟨vl, Te, Tp, by simp [take, dropAt], hO, hI⟩⟩
 have h0 : nn.1 = 0 := by simpa using h3
 refine .sr<|.mo rfl<|.nc rfl<|.fa rfl<|.lo rfl<|.q (.lenO hO)<|.q .geq<|.az rfl<|.cond rfl (λ h4 => ?_) λ h4 => ?_
 refine .sr<|.az rfl<|.ret (blkQ_r (seqQ_r (retQ_r _ (.one (.tmp rfl)) (.one [2, 2, 2] _) ?_)))
 ·have h2' : ((es.getLast?.map λ e => decide (rev <= e.rev)).getD false) = false := h2
  have hz : kc = 8 := by rw [hcd, if_neg (by rw [h2']; simp), if_neg (by rw [h0]; simp), if_pos (by have := odt h4; omega)]
  have hnz : kc ≠ 0 := by rw [hz]; decide
  exact ⟨_, rfl, by rw [hz], λ hh => absurd hh hnz, λ _ => (hback _).2 ⟨vl, Te, Tp, by simp [take, dropAt], hO, hI⟩⟩
 have hlt16 : ¬ 16 <= es.length := by have := odf h4; omega
 have h2' : ((es.getLast?.map λ e => decide (rev <= e.rev)).getD false) = false := h2
 have hz : kc = 0 := by rw [hcd, if_neg (by rw [h2']; simp), if_neg (by rw [h0]; simp), if_neg hlt16]
 refine .skip<|blkQ_n<|seqQ_n<|.seq ?_
 refine Tri.cutS [] (EnvLe.nil _) (X := Value × Seg × EnM × Seg) (λ y => OS 202 4 EnM.enc y.1 (es ++ [y.2.2.1]) y.2.1 /\ y.2.2.1.is (sg y.2.2.2) /\ y.2.2.1.rev = rev /\ y.2.2.1.c.plain = c.plain) (λ _ E => E) (λ y => [bl hb [.bool true, y.1, iN gone] 116, y.2.1, y.2.2.2, Tp]) ?_ ?_
 refine .region_all [12, 15] mixed<|.tK 0 rfl .move<|.tO 1 rfl .move<|.tO 2 rfl (.nilCheck rfl)<|.tO 3 rfl (.fieldAddr rfl)<|.tO 4 rfl (.load1 rfl)<|.tO 5 rfl .move<|.tO 6 rfl (.loadA rfl)<|.tO 9 rfl .move<|.sT 7 rfl<|.callN ((hcp (hpl h0)).weaken rxl) (λ u T9 hu => ?_)
 obtain ⟨c', rfl, hc', hcpl⟩ := hu
 have ic1 : One c'.vs := RS.oneCell hc'.ss
 have ic2 : One c'.vc := RS.oneCell hc'.sc
 obtain ⟨ps, cs, es1⟩ := hc'.ss.val
 obtain ⟨pc, cc, es2⟩ := hc'.sc.val
 obtain ⟨pw, cw, es3⟩ := hNN.rs.val
 obtain ⟨vs', vc', sps', scs'⟩ := c'
 simp only at es1 es2 es3
 subst es1 es2 es3
 refine .nil<|Next.sub<|.tO 8 rfl .bld<|.tO 10 rfl .bld<|.sT 11 rfl ?_
 refine .buildSlice1A (λ b65 => ?_)
 refine .nil<|Next.sub<|.sT 12 rfl<|.append hO (RS.lits (xs := [(⟨rev, ⟨.slice ps sps'.length cs, .slice pc scs'.length cc, sps', scs'⟩, .slice pw ll.length cw, ll⟩ : EnM)]) rfl (by simp [EnM.enc]) (by simp [EnM.enc, oneCell])) (by simp only [List.length_singleton]; omega) (λ v5 T5 hv5 => ?_)
 have i5 := hv5.oneCell
 refine .nil<|Next.mod rfl<|.tK 13 rfl (.nilCheckA rfl)<|.tK 14 rfl (.fieldAddrA rfl)<|.sT 15 rfl<|.store1 rfl rfl<|.nil<|Next.mod rfl<|RA.nil (by kernel_rfl) ?_
 ·exact joinQ_n (v5, T5, _, T9 ++ T7) ⟨hv5, ⟨hc'.mono λ b o hb => sg_left hb, hNN.mono λ b o hb => sg_right hb, by simp only; rw [hcpl, hnn]; exact h0, by simp only; rw [hcpl, hnn]; exact hll⟩, rfl, hcpl⟩ (EnvLe.nil _) (by first | exact (pkH [4, 4, 1, 1, 2]).trans (HLe.ofPerm (by simp [take, dropAt, setL])) | exact (pkH [3, 3, 0, 1, 2]).trans (HLe.ofPerm (by simp [take, dropAt, setL])))
 intro y hy
 obtain ⟨v5, T5, e5, T9⟩ := y
 obtain ⟨hv5, he5, he5r, he5c⟩ := hy
 simp only at hv5 he5 he5r he5c ⊢
 refine seqQ_n<|.sr<|.az rfl<|.ret (retQ_r _ (.one (.tmp rfl)) (.one [0, 0, 0, 0] _) ?_)
 ·refine ⟨_, rfl, by rw [hz], λ _ => ⟨e5, he5r, he5c, v5, T5, T9 ++ Tp, by simp [take, dropAt], hv5, λ e he => ?_⟩, λ hh => absurd hz hh⟩
  rcases List.mem_append.1 he with he | he
  ·exact (hI e he).mono λ b o hb => sg_right hb
  ·rw [List.mem_singleton] at he
   subst he
   exact he5.mono λ b o hb => sg_left hb
def FndR (L : List SRow) (t : Tpl) (z : Int) : Prop := (∃ (j : Nat) (x : SRow), z = j /\ L[j]? = some x /\ x.openOf t = true /\ ∀ k y, k < j -> L[k]? = some y -> y.openOf t = false) \/ (z = -1 /\ sthere L t = false)
theorem FndR.lt {L : List SRow} {t : Tpl} {z : Int} (h : FndR L t z) : decide (z < 0) = !sthere L t := by
 rcases h with ⟨j, x, rfl, hx, ho, _⟩ | ⟨rfl, h⟩
 ·rw [decide_eq_false (by omega), sthere, List.any_eq_true.2 ⟨x, mog hx, ho⟩]; rfl
 ·rw [h]; rfl
section
variable {R : Rds} {b : Nat} {S : Sto} {vL : Value} {L : List SRow}
theorem DV.find (h : DV R b S vL L) (t : Tpl) : Spec prog 126 [pT b, .agg t.enc.toArray] R [] λ u H' => (∃ z, u = .int .i64 z /\ FndR L t z) /\ H' = [] := by
 have pc := h.pc
 have ivl := h.rs.oneCell
 have hle := h.rs.le
 obtain ⟨pv, kv_, rfl⟩ := h.rs.val
 have hrs := h.rs
 refine Spec.body Tryz.func126 rfl Tryz.results126 Tryz.ntmps126 rfl<|.sr ?_
 refine .boxA rfl (λ b3 => ?_)
 refine .ag rfl<|.zs<|.sr<|.az rfl<|.block<|.loop (X := Nat) (λ i => i <= L.length /\ ∀ k y, k < i -> L[k]? = some y -> y.openOf t = false) (λ i => [(0, pT b), (3, pT b3), (5, iN i)]) (λ _ => [bl b3 t.enc 151]) (λ i => L.length - i) 0 ⟨Nat.zero_le _, λ k y hk => absurd hk (Nat.not_lt_zero _)⟩ kE.c.c.c rH ?_
 rintro i ⟨hi, hn⟩
 refine .seq<|.sr<|.mo rfl<|.mo rfl<|.nc rfl<|.fa rfl<|.lo rfl<|.q (.lenR hrs)<|.q .lss<|.zn<|.cond rfl (λ h1 => ?_) λ h1 => ?_
 have hlt : i < L.length := lt_i h1
 obtain ⟨x, hx⟩ := exg hlt
 refine .kn<|.seq<|.block<|.seq<|.region_still mixed (by kernel_rfl) ?_
 refine .mo rfl<|.nc rfl<|.fa rfl<|.lo rfl<|.mo rfl ?_
 refine .indexR i hrs hx (λ p20 => ?_)
 refine .fa rfl<|.q (.loadT rfl) ?_
 refine .q (.loadA rfl)<|.q (.eqA rfl rfl (Tpl.kinds x.t) (Tpl.kinds t)) ?_
 rw [show cellsEq (List.take 7 (List.drop 0 x.enc)) t.enc = decide (x.t = t) from Tpl.eq x.t t]
 refine .mo rfl<|.split (t := 25) rfl (λ g4_10 => ?_) (λ g4_10 => ?_)
 refine .gT g4_10<|.mo rfl<|.gT g4_10<|.nc rfl<|.gT g4_10<|.fa rfl<|.gT g4_10<|.lo rfl<|.gT g4_10<|.mo rfl<|.gT g4_10 ?_
 refine .indexR i hrs hx (λ p31 => ?_)
 refine .gT g4_10<|.fa rfl<|.gT g4_10<|.lo rfl<|.gT g4_10<|.q .eqI<|.q (.pickTh g4_10)<|.zn<|.cond rfl (λ h2 => ?_) λ h2 => ?_
 refine .sr<|.mo rfl<|.az rfl<|.ret (blkQ_r (seqQ_r (loopQ_r (blkQ_r (seqQ_r (rq1 rfl ?_))))))
 ·exact ⟨⟨_, rfl, .inl ⟨i, x, rfl, hx, by unfold SRow.openOf; simp_all, hn⟩⟩, rfl⟩
 refine .skip<|blkQ_n<|seqQ_n<|.region<|.mo rfl<|.ia (i + 1) .add<|.ag rfl<|.nil ?_
 ·exact loopQ_i (i + 1) ⟨hlt, λ k y hk hy => by
   rcases Nat.lt_or_eq_of_le (Nat.le_of_lt_succ hk) with h3 | h3
   ·exact hn k y h3 hy
   ·subst h3
    rw [hx] at hy
    cases hy
    unfold SRow.openOf
    simp_all⟩ (by omega) kE.c.c.c rH
 refine .gF g4_10<|.gF g4_10<|.gF g4_10<|.gF g4_10<|.gF g4_10<|.gF g4_10<|.gF g4_10<|.gF g4_10<|.gF g4_10<|.q (.pickFh g4_10)<|.zn<|.condF<|.skip<|blkQ_n<|seqQ_n<|.region<|.mo rfl<|.ia (i + 1) .add<|.ag rfl<|.nil ?_
 ·exact loopQ_i (i + 1) ⟨hlt, λ k y hk hy => by
   rcases Nat.lt_or_eq_of_le (Nat.le_of_lt_succ hk) with h3 | h3
   ·exact hn k y h3 hy
   ·subst h3
    rw [hx] at hy
    cases hy
    unfold SRow.openOf
    simp_all⟩ (by omega) kE.c.c.c rH
 refine .exit<|seqQ_x<|loopQ_x<|blkQ_x<|seqQ_n<|.sr<|.az rfl<|.ret (rq1 rfl ?_)
 ·have hie : i = L.length := by have := odf h1; omega
  refine ⟨⟨_, rfl, .inr ⟨rfl, ?_⟩⟩, rfl⟩
  unfold sthere
  rw [List.any_eq_false]
  intro y hy ho
  obtain ⟨j, hj, rfl⟩ := List.mem_iff_getElem.1 hy
  have := hn j _ (by omega) (gge hj)
  rw [this] at ho
  cases ho
end
theorem hcode_nil (c : Cf) : hcode [] 0 c = (c.numbers isWord isRef).1 := by
 unfold hcode
 simp only [List.getLast?_nil, Option.map_none, Option.getD_none, Bool.false_eq_true, if_false, List.length_nil]
 by_cases h : (c.numbers isWord isRef).1 = 0
 ·rw [if_neg (by rw [h]; simp), h]; rfl
 ·rw [if_pos h]
abbrev vNt (n : Nat) : Value := iN n
def numM (c : Cf) (num : List Nat) : List (Ty × Nat) := (c.all.map rkey).zip num
theorem numM_get (c : Cf) (num : List Nat) (hl : num.length = c.all.length) (t : Ty) : (mget t (numM c num)).getD 0 = match rfind c.all t with | none => 0 | some i => num.getD i 0 := by
 unfold numM rfind
 generalize c.all = A at *
 induction A generalizing num with
 | nil => simp [mget]
 | cons x A ih =>
  cases num with
  | nil => simp at hl
  | cons n num =>
   have := ih num (by simpa using hl)
   rw [List.map_cons, List.zip_cons_cons, mget, List.findIdx?_cons]
   by_cases e : t = rkey x
   ·subst e; simp
   ·rw [if_neg e, this]
    have e' : decide (rkey x = t) = false := decide_eq_false λ h => e h.symm
    rw [e']
    cases List.findIdx? (λ x => decide (rkey x = t)) A with
    | none => rfl
    | some i => rfl
theorem numbered_spec (c : CfM) (R : Rds) (h : c.is R) (hu : c.plain.uniq) (w : Value) (ll : List NlM) (num : List Nat) (hN : NN R w ll) (hll : ll.map (·.2) = rows c.plain.spaces num) (hlen : num.length = c.plain.all.length) :
  Spec prog 102 [.agg c.enc.toArray, w] R [] λ u H' => ∃ T, H' = [T] /\ MS kTy vNt u (numM c.plain num) T := by
 have hss := h.ss
 have i1 := hss.oneCell
 have i2 : One c.vc := RS.oneCell h.sc
 have hle := hss.le
 have hal := h.all
 have hnr := hN.rs
 have iw := hnr.oneCell
 have hna := hN.all
 have htot := total_all c.plain
 have hspl : c.plain.spaces.length = c.spaces.length := by unfold CfM.plain; simp
 have hpa : ∀ (i : Nat) (s : SpM), c.spaces[i]? = some s -> c.plain.spaces[i]? = some s.plain := λ i s hs => plain_at hs
 have hty := λ (p : Spot) (s : SpM) (r : RlM) => nms_typesC (c := c) (p := p) (s := s) (r := r)
 have hixd : ∀ i k, c.ix (i, k) = offs c.plain.spaces i + k := λ _ _ => rfl
 have hund : (c.plain.all.map rkey).Nodup := hu.2.1
 have hnmd : numM c.plain num = (c.plain.all.map rkey).zip num := rfl
 generalize hA : c.plain.all = A at *
 generalize hQ : numM c.plain num = Q at *
 have hQl : Q.length = A.length := by rw [hnmd]; simp [hlen]
 have hQk : Q.map (·.1) = A.map rkey := by rw [hnmd]; exact List.map_fst_zip (by simp [hlen])
 have hrow : ∀ i s, c.spaces[i]? = some s -> ∃ v, ll[i]? = some (v, (num.drop (offs c.plain.spaces i)).take s.rels.length) := λ i s hs => by
  have h1 := rows_at (n := num) (hpa i s hs)
  rw [<- hll, List.getElem?_map, show s.plain.rels.length = s.rels.length by simp [SpM.plain]] at h1
  obtain ⟨⟨v, r⟩, h2, h3⟩ := Option.map_eq_some_iff.1 h1
  exact ⟨v, by rw [h2]; simp only at h3; rw [h3]⟩
 generalize hO_ : offs c.plain.spaces = of at *
 have hof0 : of 0 = 0 := by rw [<- hO_]; cases c.plain.spaces <;> rfl
 refine Spec.body Tryz.func102 rfl Tryz.results102 Tryz.ntmps102 rfl<|.sr ?_
 refine .boxA rfl (λ b2 => ?_)
 refine .ag rfl<|.z ?_
 refine .makeMap (λ b10 => ?_)
 refine .ag rfl<|.zs<|.sr<|.fa rfl<|.lo rfl<|.q (.lenR hss)<|.mo rfl<|.zn<|.block<|.loopS [(1, _), (5, _), (12, _), (13, _)] (X := Nat × Seg) (λ y => y.1 <= c.spaces.length /\ MS kTy vNt (.map (some b10)) (Q.take (of y.1)) y.2) (λ y E => (14, iN y.1) :: E) (λ y G => y.2 :: G) (λ y => c.spaces.length - y.1) (0, [(b10, .map #[] 0)]) ⟨Nat.zero_le _, by rw [hof0]; exact MS.nil⟩ kE.c.c.c.c.c rH ?_
 rintro ⟨i, T⟩ ⟨hi, hM⟩
 simp only at hi hM ⊢
 refine .sr<|.q .lss<|.zs<|.cond rfl (λ h1 => ?_) λ h1 => ?_
 have hlt : i < c.spaces.length := lt_i h1
 obtain ⟨⟨sn, sv, rls⟩, hs⟩ := exg hlt
 have hsi := hal _ (mog hs)
 have hrs : RS R 3 RlM.enc sv rls := hsi.rs
 have irs := hrs.oneCell
 have hler := hrs.le
 have isp : Ones (SpM.enc ⟨sn, sv, rls⟩) := ⟨hsi.ones⟩
 have hofn := offs_next (hpa i _ hs)
 rw [hO_, show (SpM.plain ⟨sn, sv, rls⟩).rels.length = rls.length by simp [SpM.plain]] at hofn
 obtain ⟨vr, hlr⟩ := hrow i _ hs
 simp only at hlr
 have hrr := hna _ (mog hlr)
 simp only at hrr
 have ivr : One vr := hrr.oneCell
 refine .kn<|.seq<|.block<|.sr<|.mo rfl ?_
 refine .indexR i hss hs (λ p17 => ?_)
 refine .q (.loadA rfl) ?_
 refine .allocA (λ b7 => ?_)
 refine .ag rfl<|.storeA rfl rfl<|.z<|.fa rfl<|.lo rfl<|.q (.lenR hrs)<|.mo rfl<|.zn<|.block<|.loopS [(1, _), (5, _), (6, _), (7, _), (12, _), (13, _), (14, _), (20, _), (21, _)] (X := Nat × Seg) (λ y => y.1 <= rls.length /\ MS kTy vNt (.map (some b10)) (Q.take (of i + y.1)) y.2) (λ y E => (22, iN y.1) :: E) (G := [bl b2 c.enc 25]) (λ y G => bl b7 (SpM.enc ⟨sn, sv, rls⟩) 187 :: y.2 :: G) (λ y => rls.length - y.1) (0, T) ⟨Nat.zero_le _, hM⟩ kE.c.c.c.c.c.c.c.c.c.c rH ?_
 rintro ⟨k, T⟩ ⟨hk, hM⟩
 simp only at hk hM ⊢
 refine .sr<|.q .lss<|.zs<|.cond rfl (λ h2 => ?_) λ h2 => ?_
 have hkt : k < rls.length := lt_i h2
 obtain ⟨⟨vt, vn, r⟩, hr⟩ := exg hkt
 have hri := hsi.all _ (mog hr)
 have irt : One vt := RS.oneCell hri.t
 have ird : One vn := RS.oneCell hri.d
 have hone : Ones (RlM.enc ⟨vt, vn, r⟩) := ⟨hri.ones⟩
 have hax := hty (i, k) _ _ hs hr
 rw [hixd] at hax
 have hil : of i + k < A.length := (List.getElem?_eq_some_iff.1 hax).1
 obtain ⟨n, hn⟩ : ∃ n, num[of i + k]? = some n := ⟨_, gge (by omega)⟩
 have hrk : ((num.drop (of i)).take rls.length)[k]? = some n := by rw [List.getElem?_take_of_lt hkt, List.getElem?_drop]; exact hn
 have hQn : Q[of i + k]? = some (⟨sn, r.name⟩, n) := by
  rw [hnmd, List.getElem?_zip_eq_some]
  exact ⟨by rw [List.getElem?_map, hax]; rfl, hn⟩
 refine .kn<|.seq<|.block<|.sr<|.mo rfl ?_
 refine .indexR k hrs hr (λ p25 => ?_)
 refine .q (.loadA rfl) ?_
 refine .allocA (λ b9 => ?_)
 refine .ag rfl<|.storeA rfl rfl<|.zn<|.region_tail 13 mixed (by kernel_rfl) ?_
 conv => arg 6; dsimp only [List.take]
 refine .mo rfl<|.fa rfl<|.lo rfl<|.fa rfl<|.lo rfl ?_
 refine .q .bld ?_
 refine .mo rfl<|.mo rfl ?_
 refine .indexR i hnr hlr (λ p35 => ?_)
 refine .lo rfl<|.mo rfl ?_
 refine .indexR k hrr hrk (λ p38 => ?_)
 refine .lo rfl<|.nil<|.update (key := (⟨sn, r.name⟩ : Ty)) (u := n) hM rfl rfl rfl (λ T2 hM2 _ => ?_)
 rw [mset_new (λ hm => by
  obtain ⟨q, hq, e⟩ := List.mem_iff_getElem.1 hm
  rw [List.length_map, List.length_take] at hq
  rw [List.getElem_map, List.getElem_take] at e
  have h1 : (Q.map (·.1))[of i + k]? = some ⟨sn, r.name⟩ := by rw [List.getElem?_map, hQn]; rfl
  have h2 : (Q.map (·.1))[q]? = some ⟨sn, r.name⟩ := by rw [List.getElem?_map, gge (by omega), Option.map_some, e]
  exact not_nodup (show q < of i + k by omega) h1 h2 rfl (by rw [hQk]; exact hund)), <- take_next hQn] at hM2
 refine .nil<|blkQ_n<|seqQ_n<|.region<|.ia (k + 1) .add<|.mo rfl<|.nil ?_
 ·exact loopQ_i (k + 1, T2) ⟨hkt, hM2⟩ (by simp only; omega) kE.c.c.c.c.c.c.c.c.c.c (pkH [1, 1, 1])
 have hke : k = rls.length := by have := odf h2; omega
 rw [hke, <- hofn] at hM
 refine .exit<|seqQ_x<|loopQ_x<|blkQ_x<|blkQ_n<|seqQ_n<|.region<|.ia (i + 1) .add<|.mo rfl<|.nil ?_
 ·exact loopQ_i (i + 1, T) ⟨hlt, hM⟩ (by simp only; omega) kE.c.c.c.c.c (pkH [1, 1])
 refine .exit<|seqQ_x<|loopQ_x<|blkQ_x<|seqQ_n<|.sr<|.mo rfl<|.az rfl<|.ret (retQ_r _ (.one (.tmp rfl)) (.one [0] _) ?_)
 ·refine ⟨_, rfl, ?_⟩
  have hie : i = c.spaces.length := by have := odf h1; omega
  have : of i = Q.length := by
   rw [hie, hQl, <- hspl, <- hO_]; exact htot
  rw [this, List.take_length] at hM
  simpa [take] using hM
structure PlM where
 k : Obr
 found : Bool
 vn : Value
 nodes : List Nd
 vu : Value
 users : List ByteArray
 vl : Value
 ll : List NlM
 number : Nat
def PlM.enc (p : PlM) : List Value := [.string p.k.os, .string p.k.oi, .string p.k.rel, .bool p.found, p.vn, p.vu, p.vl, iN p.number]
def PlM.plain (p : PlM) : Plc := ⟨p.k, p.found, p.nodes, p.number, p.users, p.ll.map (·.2)⟩
structure PlM.is (R : Rds) (p : PlM) : Prop where
 n : RS R 5 Nd.enc p.vn p.nodes
 u : RS R 1 encS p.vu p.users
 l : NN R p.vl p.ll
theorem PlM.is.mono {R R' : Rds} {p : PlM} (h : p.is R) (hR : ∀ b o, R b o -> R' b o) : p.is R' := ⟨h.n.mono hR, h.u.mono hR, h.l.mono hR⟩
instance Obr.keyR : KeyT prog 289 (λ k : Obr => .agg k.enc.toArray) := KeyT.agg fQ289 Tryz.underlying289 rfl Obr.kinds Obr.eq
abbrev kOb (k : Obr) : Value := .agg k.enc.toArray
structure XC where
 c : CfM
 num : List Nat
 vn : Value
 g : Nat
 S : Sto
 L : List SRow
 rev : Int
 b : Int
def XC.sub (x : XC) (k : Obr) : List Sub := if scan x.S x.rev then (x.L.filter λ y => y.there x.rev && decide (y.t.obr = k)).map (·.t.sub) else []
structure XC.ok (R : Rds) (x : XC) : Prop where
 c : x.c.is R
 n : RM R kTy vNt x.vn (numM x.c.plain x.num)
 nl : x.num.length = x.c.plain.all.length
 s : ∃ ps vf vr Mf Mr, SV R x.g x.S ps vf vr Mf Mr
 l : RL x.S x.L
 len : x.S.rows.length <= 512
theorem XC.ok.mono {R R' : Rds} {x : XC} (h : x.ok R) (hR : ∀ b o, R b o -> R' b o) : x.ok R' := ⟨h.c.mono hR, h.n.mono hR, h.nl, let ⟨ps, vf, vr, Mf, Mr, h1⟩ := h.s; ⟨ps, vf, vr, Mf, Mr, h1.mono hR⟩, h.l, h.len⟩
def XC.cells (x : XC) (va vp : Value) (e : Nat) : List Value := [x.c.vs, x.c.vc, x.vn, .pointer (some ⟨x.g, 0, none⟩), .int .u64 x.rev, va, vp, iN e, .int .i64 x.b]
abbrev XC.blk (x : XC) (xb : Nat) (va vp : Value) (e : Nat) : Seg := (bl xb (x.cells va vp e) 217)
def AtM (ps : List PlM) (va : Value) (T : Seg) : Prop := ∃ M, MS kOb vNt va M T /\ ∀ k, mget k M = pfind (ps.map PlM.plain) k
theorem over_spec (x : XC) (R : Rds) (h : x.ok R) (xb : Nat) (va vp : Value) (e : Nat) (ps : List PlM) [iv : One va] [pc : PC R (pT xb) (x.cells va vp e)] (hp : RS R 8 PlM.enc vp ps) (he : e <= 1000000000000) (hb : 0 <= x.b /\ x.b <= 9223372036854775807) :
  Spec prog 105 [pT xb] R [] λ u H' => u = .bool (decide (x.b < (ps.length + e : Nat))) /\ H' = [] := by
 have i1 : One x.c.vs := RS.oneCell h.c.ss
 have i2 : One x.c.vc := RS.oneCell h.c.sc
 have i3 := h.n.one
 have ip := hp.oneCell
 have hle := hp.le
 refine Spec.body Tryz.func105 rfl Tryz.results105 Tryz.ntmps105 rfl<|.sr<|.ag rfl<|.zs<|.region_still mixed (by kernel_rfl)<|.mo rfl<|.nc rfl<|.fa rfl<|.fa rfl<|.lo rfl<|.q (.lenR hp) ?_
 refine .mo rfl<|.nc rfl<|.fa rfl<|.lo rfl<|.mo rfl ?_
 refine .nc rfl<|.fa rfl<|.fa rfl<|.lo rfl ?_
 refine .q (.i64 (x.b - e) .sub ⟨by omega, by omega, by omega⟩) ?_
 refine .q .gtr<|.az rfl<|.ret (rq1 rfl ?_)
 ·refine ⟨congrArg _ ?_, rfl⟩
  rw [decide_eq_decide]
  omega
theorem pfind_app {ps : List Plc} {p : Plc} (h : pfind ps p.k = none) (k : Obr) : pfind (ps ++ [p]) k = if k = p.k then some ps.length else pfind ps k := by
 unfold pfind at h ⊢
 rw [List.findIdx?_append]
 by_cases e : k = p.k
 ·subst e
  rw [h, if_pos rfl]
  simp [List.findIdx?_cons]
 ·rw [if_neg e]
  have e' : decide (p.k = k) = false := decide_eq_false λ h => e h.symm
  simp [List.findIdx?_cons, e']
theorem AtM.add {ps : List PlM} {p : PlM} {va : Value} {T : Seg} {M : List (Obr × Nat)} (hM : MS kOb vNt va (mset p.k ps.length M) T) (hA : ∀ k, mget k M = pfind (ps.map PlM.plain) k) (h : pfind (ps.map PlM.plain) p.k = none) : AtM (ps ++ [p]) va T :=
 ⟨_, hM, λ k => by
  rw [mget_mset, hA, List.map_append, List.map_cons, List.map_nil, pfind_app h]
  rw [List.length_map]
  rfl⟩
def PlaceT (x : XC) (R : Rds) (xb : Nat) (ps : List PlM) (e : Nat) (va : Value) (k : Obr) (u : Value) (H' : Segs) : Prop := ∃ ps' vp Ta To, H' = [x.blk xb va vp e, Ta, To] /\ u = .int .i64 ((addK x.c.plain x.num (ps.map PlM.plain) k).2 : Nat) /\ ps'.map PlM.plain = (addK x.c.plain x.num (ps.map PlM.plain) k).1 /\ AtM ps' va Ta /\ OS 123 8 PlM.enc vp ps' To /\ ∃ l, ps' = ps ++ l /\ ∀ p ∈ l, p.is R
theorem place_spec (x : XC) (R : Rds) (h : x.ok R) (xb : Nat) (ps : List PlM) (e : Nat) (va vp : Value) (Ta To : Seg) (hA : AtM ps va Ta) (hO : OS 123 8 PlM.enc vp ps To) (hl : ps.length <= 3000000) (k : Obr) :
  Spec prog 104 [pT xb, .agg [.string k.os, .string k.oi].toArray, .string k.rel] R [x.blk xb va vp e, Ta, To] (PlaceT x R xb ps e va k) := by
 have hdef : ∀ u H', PlaceT x R xb ps e va k u H' ↔ ∃ ps' vp Ta To, H' = [x.blk xb va vp e, Ta, To] /\ u = .int .i64 ((addK x.c.plain x.num (ps.map PlM.plain) k).2 : Nat) /\ ps'.map PlM.plain = (addK x.c.plain x.num (ps.map PlM.plain) k).1 /\ AtM ps' va Ta /\ OS 123 8 PlM.enc vp ps' To /\ ∃ l, ps' = ps ++ l /\ ∀ p ∈ l, p.is R := λ _ _ => Iff.rfl
 have hsf := sfind_spec x.c R h.c k.os k.rel
 have i1 : One x.c.vs := RS.oneCell h.c.ss
 have i2 : One x.c.vc := RS.oneCell h.c.sc
 have i3 := h.n.one
 have hn := h.n
 have hnm := numM_get x.c.plain x.num h.nl
 obtain ⟨M, hM, hMk⟩ := hA
 have iv := hM.one
 have ip := hO.oneCell
 have hkl : ∀ i, pfind (ps.map PlM.plain) k = some i -> addK x.c.plain x.num (ps.map PlM.plain) k = (ps.map PlM.plain, i) := λ i hi => by unfold addK; rw [hi]
 have hkn : pfind (ps.map PlM.plain) k = none -> addK x.c.plain x.num (ps.map PlM.plain) k = (ps.map PlM.plain ++ [one x.c.plain x.num k], ps.length) := λ hi => by unfold addK; rw [hi]; simp
 have hAdd := λ (p : PlM) (T : Seg) => AtM.add (ps := ps) (p := p) (va := va) (T := T) (M := M)
 have hone : one x.c.plain x.num k = match rfind x.c.plain.all ⟨k.os, k.rel⟩ with
  | none => ⟨k, false, [], 0, [], []⟩
  | some i => ⟨k, true, (x.c.plain.all.map (·.2.nodes)).getD i [], x.num.getD i 0, [], []⟩ := rfl
 have hcal := h.c.all
 have hty := λ (p : Spot) (s : SpM) (r : RlM) => nms_typesC (c := x.c) (p := p) (s := s) (r := r)
 obtain ⟨i0, ok, hps, hok⟩ : ∃ (i : Nat) (ok : Bool), [((mget k M).map vNt).getD (vNt 0), Value.bool (mget k M).isSome] = [vNt i, .bool ok] /\ pfind (ps.map PlM.plain) k = if ok then some i else none := by
  rw [hMk k]
  cases pfind (ps.map PlM.plain) k with
  | none => exact ⟨0, false, rfl, rfl⟩
  | some i => exact ⟨i, true, rfl, rfl⟩
 refine Spec.body Tryz.func104 rfl Tryz.results104 Tryz.ntmps104 rfl<|.sr ?_
 refine .boxA rfl (λ b4 => ?_)
 refine .ag rfl<|.z<|.q (.loadA rfl)<|.mo rfl<|.q .bld ?_
 refine .allocA (λ b7 => ?_)
 refine .storeA rfl rfl<|.zs<|.seq<|.region_still mixed (by kernel_rfl)<|.mo rfl<|.nc rfl<|.fa rfl<|.lo rfl<|.q (.loadA rfl)<|.q (.cast (.lookup2 hM.rx rfl rfl) (congrArg (λ l : List Value => Value.tuple l.toArray) hps))<|.mo rfl<|.q .extract<|.q .extract<|.ag rfl<|.ag rfl<|.z<|.mo rfl<|.zn<|.cond rfl (λ h1 => ?_) λ h1 => ?_
 have hot : ok = true := h1
 subst hot
 have hkl' := hkl i0 hok
 refine .sr<|.mo rfl<|.az rfl<|.ret (seqQ_r (retQ_r _ (.one (.tmp rfl)) (pkH [2, 2, 2]) ?_))
 ·refine (hdef _ _).2 ⟨ps, vp, Ta, To, ?_, ?_, ?_, ⟨M, hM, hMk⟩, hO, [], by simp, λ p hp => (by cases hp)⟩
  ·simp [take, dropAt]
  ·rw [hkl']
  ·rw [hkl']
 have hof : ok = false := h1
 subst hof
 have hnone : pfind (ps.map PlM.plain) k = none := hok
 have hkn' := hkn hnone
 refine .kn<|.seq ?_
 refine Tri.cutS [(0, _), (2, _), (4, _), (7, _)] kE.c.c.c.c (X := Nat × RlM × Bool) (λ y => FoundR x.c ⟨k.os, k.rel⟩ y.2.1 y.2.2 /\ Ones y.2.1.enc) (λ y E => (10, .pointer (some ⟨y.1, 0, none⟩)) :: (11, .bool y.2.2) :: E) (λ y => [[(y.1, .cells y.2.1.enc.toArray 207 (0, 0))], bl b7 k.enc 289, bl b4 [.string k.os, .string k.oi] 30, x.blk xb va vp e, Ta, To]) ?_ ?_
 refine .region_all [12] mixed<|.tO 0 rfl .move<|.tO 1 rfl (.nilCheck rfl)<|.tO 2 rfl (.fieldAddr rfl) ?_
 refine .tO 3 rfl (.loadT rfl) ?_
 refine .tO 4 rfl (.fieldAddr rfl)<|.tO 5 rfl (.load1 rfl)<|.tO 6 rfl .move<|RA.step2 7 11 rfl rfl (by kernel_rfl) rfl ?_ ?_
 refine .callR ((hsf.mono λ u H' hu => ⟨hu.2, hu.1⟩).weaken rxl) (λ u hu => ?_)
 obtain ⟨r, fo, rfl, hF⟩ := hu
 have hro : Ones r.enc := by
  unfold FoundR at hF
  cases hf : rfind x.c.plain.all ⟨k.os, k.rel⟩ with
  | none => rw [hf] at hF; obtain ⟨_, rfl⟩ := hF; exact ⟨by simp [RlM.enc, RlM.zero, oneCell]⟩
  | some j => rw [hf] at hF; obtain ⟨_, p, s, hs, hr, hj⟩ := hF; exact ⟨((hcal _ (mog hs)).all _ (mog hr)).ones⟩
 refine .nil<|Next.sub<|.tO 8 rfl .move<|.tO 9 rfl .extract<|.tK 10 rfl .extract<|.sT 11 rfl ?_
 refine .allocA (λ b10 => ?_)
 refine .nil<|Next.sub<|.sT 12 rfl<|.storeA rfl rfl<|.nil<|Next.mod rfl<|.tK 13 rfl .assign<|RA.nil (by kernel_rfl) ?_
 ·exact joinQ_n (b10, r, fo) ⟨hF, hro⟩ kE.c.c.c.c.c.c rH
 refine .allocA (λ b10 => ?_)
 refine .nil<|Next.sub<|.sT 7 rfl<|.callR ((hsf.mono λ u H' hu => ⟨hu.2, hu.1⟩).weaken rxl) (λ u hu => ?_)
 obtain ⟨r, fo, rfl, hF⟩ := hu
 have hro : Ones r.enc := by
  unfold FoundR at hF
  cases hf : rfind x.c.plain.all ⟨k.os, k.rel⟩ with
  | none => rw [hf] at hF; obtain ⟨_, rfl⟩ := hF; exact ⟨by simp [RlM.enc, RlM.zero, oneCell]⟩
  | some j => rw [hf] at hF; obtain ⟨_, p, s, hs, hr, hj⟩ := hF; exact ⟨((hcal _ (mog hs)).all _ (mog hr)).ones⟩
 refine .nil<|Next.sub<|.tO 8 rfl .move<|.tO 9 rfl .extract<|.tK 10 rfl .extract<|.sT 12 rfl<|.storeA rfl rfl<|.nil<|Next.mod rfl<|.tK 13 rfl .assign<|RA.nil (by kernel_rfl) ?_
 ·exact joinQ_n (b10, r, fo) ⟨hF, hro⟩ kE.c.c.c.c.c.c rH
 intro y hy
 obtain ⟨bb, r, fo⟩ := y
 obtain ⟨hF, hro⟩ := hy
 simp only at hF hro ⊢
 obtain ⟨nn, hnn, hlk⟩ : ∃ nn, (mget (⟨k.os, k.rel⟩ : Ty) (numM x.c.plain x.num)).getD 0 = nn /\ ((mget (⟨k.os, k.rel⟩ : Ty) (numM x.c.plain x.num)).map vNt).getD (vNt 0) = vNt nn := by
  cases mget (⟨k.os, k.rel⟩ : Ty) (numM x.c.plain x.num) with
  | none => exact ⟨0, rfl, rfl⟩
  | some i => exact ⟨i, rfl, rfl⟩
 obtain ⟨hone', hnds⟩ : one x.c.plain x.num k = ⟨k, fo, r.r.nodes, nn, [], []⟩ /\ RS R 5 Nd.enc r.vn r.r.nodes := by
  rw [hone, <- hnn, hnm]
  unfold FoundR at hF
  cases hf : rfind x.c.plain.all ⟨k.os, k.rel⟩ with
  | none => rw [hf] at hF; obtain ⟨rfl, rfl⟩ := hF; exact ⟨rfl, RS.nil0⟩
  | some j =>
   rw [hf] at hF
   obtain ⟨rfl, p, s, hs, hr, hj⟩ := hF
   refine ⟨?_, ((hcal _ (mog hs)).all _ (mog hr)).d⟩
   have := hty p s r hs hr
   rw [hj] at this
   simp only [List.getD_eq_getElem?_getD, List.getElem?_map, this]
   rfl
 obtain ⟨vt, vd, r⟩ := r
 simp only at hone' hnds
 have ivd : One vd := hnds.oneCell
 obtain ⟨pd, cd, rfl⟩ := hnds.val
 refine seqQ_n<|.seq<|.region_tail 11 mixed (by kernel_rfl) ?_
 conv => arg 6; dsimp only [List.take]
 refine .mo rfl<|.nc rfl<|.fa rfl<|.lo rfl<|.q (.loadA rfl)<|.mo rfl<|.nc rfl<|.fa rfl<|.fa rfl<|.lo rfl<|.q (.lenO hO)<|.nil ?_
 refine .update (key := k) (u := ps.length) hM rfl rfl rfl (λ Ta2 hM2 _ => ?_)
 refine .zs<|.region_all [22, 26] mixed<|.tK 0 rfl .move<|.tO 1 rfl .move<|.tO 2 rfl (.nilCheck rfl)<|.tO 3 rfl (.fieldAddr rfl)<|.tO 4 rfl (.fieldAddr rfl)<|.tO 5 rfl (.load1 rfl)<|.tO 6 rfl (.loadA rfl)<|.tO 7 rfl .move<|.tO 8 rfl .move<|.tO 9 rfl (.fieldAddr rfl)<|.tO 10 rfl (.load1 rfl)<|.tO 11 rfl .move<|.tO 12 rfl (.nilCheck rfl)<|.tO 13 rfl (.fieldAddr rfl)<|.tO 14 rfl (.load1 rfl)<|.tO 15 rfl (.fieldAddr rfl)<|.tO 16 rfl (.load1 rfl)<|.tO 17 rfl .move<|.tO 18 rfl .bld<|.takeO 19 rfl (.lookupE (hn.mono λ b o hb => .inl hb) rfl rfl (key := (⟨k.os, k.rel⟩ : Ty)) hlk) (by kernel_rfl)<|.tO 20 rfl .bld<|.sT 21 rfl ?_
 refine .buildSlice1A (λ b69 => ?_)
 refine .nil<|Next.sub<|.sT 22 rfl<|.append hO (RS.lits (xs := [(⟨k, fo, .slice pd r.nodes.length cd, r.nodes, sZ, [], sZ, [], nn⟩ : PlM)]) rfl (by simp [PlM.enc]) (by simp [PlM.enc, oneCell])) (by simp only [List.length_singleton]; omega) (λ v5 T5 hv5 => ?_)
 have i5 := hv5.oneCell
 refine .nil<|Next.mod rfl<|.tK 23 rfl (.nilCheckA rfl)<|.tK 24 rfl (.fieldAddrA rfl)<|.tK 25 rfl (.fieldAddrA rfl)<|.sT 26 rfl<|.store1 rfl rfl<|.nil<|Next.mod rfl<|RA.nil (by kernel_rfl)<|seqQ_n<|.seq<|.region_still mixed (by kernel_rfl)<|.mo rfl<|.nc rfl<|.fa rfl<|.lo rfl<|.q (.loadA rfl)<|.q (.lookupE hM2.rx rfl rfl (key := k) rfl)<|.az rfl<|.ret (retQ_r _ (.one (.tmp rfl)) (pkH [4, 4, 4]) ?_)
 ·refine (hdef _ _).2 ⟨_, v5, Ta2, T5, ?_, ?_, ?_, hAdd _ _ hM2 hMk hnone, hv5, _, rfl, λ p hp => ?_⟩
  ·simp [take, dropAt, setL, XC.cells]
  ·rw [hkn', mget_mset, if_pos rfl]; rfl
  ·rw [hkn', hone', List.map_append]; rfl
  ·rw [List.mem_singleton] at hp
   subst hp
   exact ⟨hnds, RS.nil0, NN.nil⟩
end Go.Proofs.YtenilfmlfldogaaGreat
