/- What the law 'ExpandTells' uses. No condition. -/
import Derived.Test.YtenilfmlfldogaaGreatKExpandTellsB
import Derived.Test.YtenilfmlfldogaaGreatKExpandTellsF
import Derived.Test.YtenilfmlfldogaaGreatKExpandTellsH
namespace Go.Proofs.YtenilfmlfldogaaGreat
set_option linter.unusedVariables false
abbrev QS := List Bool × List Bool
def pnum (ps : List Plc) (i : Nat) : Nat := ((ps[i]?).map (·.number)).getD 0
def isNext (ps : List Plc) (q : List Bool) (i : Nat) : Prop := q.getD i false = true /\ ∀ j, q.getD j false = true -> pnum ps i < pnum ps j \/ (pnum ps i = pnum ps j /\ i <= j)
def wput (v q : List Bool) (k : Nat) : List Bool := if v.getD k false then q else q.set k true
def qafter (ps : List Plc) (user : ByteArray) (s : QS) (i : Nat) : QS :=
 if s.1.getD i false || !(netOf ps user).ex i (λ j => s.1.getD j false) then (s.1, s.2.set i false)
 else (s.1.set i true, (backs ps i).foldl (wput (s.1.set i true)) (s.2.set i false))
inductive QRun (ps : List Plc) (user : ByteArray) : Nat -> QS -> Prop
 | start : QRun ps user 0 (List.replicate ps.length false, ps.map (·.found))
 | step {k : Nat} {s : QS} {i : Nat} : QRun ps user k s -> isNext ps s.2 i -> QRun ps user (k + 1) (qafter ps user s i)
section
variable {ps : List Plc} {user : ByteArray}
theorem isNext.uniq {q : List Bool} {i j : Nat} (h : isNext ps q i) (h' : isNext ps q j) : i = j := by
 have h1 := h.2 j h'.1
 have h2 := h'.2 i h.1
 omega
theorem QRun.uniq : ∀ {k : Nat} {s t : QS}, QRun ps user k s -> QRun ps user k t -> s = t
 | 0, _, _, .start, .start => rfl
 | k + 1, _, _, .step h1 n1, .step h2 n2 => by
  have e := QRun.uniq h1 h2
  subst e
  rw [n1.uniq n2]
theorem QRun.upto {m : Nat} : ∀ {k : Nat} {s : QS}, QRun ps user k s -> m < k -> ∃ t i, QRun ps user m t /\ isNext ps t.2 i
 | 0, _, _, hm => absurd hm (by omega)
 | k + 1, _, .step (i := i) (s := s) h n, hm => by
  by_cases e : m = k
  ·subst e; exact ⟨s, i, h, n⟩
  ·exact QRun.upto h (by omega)
def qnone (q : List Bool) : Prop := ∀ i, q.getD i false = false
theorem QRun.last {k m : Nat} {s t : QS} (h : QRun ps user k s) (hs : qnone s.2) (h' : QRun ps user m t) (ht : qnone t.2) : k = m /\ s = t := by
 have key : ∀ {k m : Nat} {s t : QS}, QRun ps user k s -> qnone s.2 -> QRun ps user m t -> ¬ k < m := by
  intro k m s t h hs h' hlt
  obtain ⟨u, i, hu, hi⟩ := h'.upto hlt
  have e := h.uniq hu
  subst e
  have := hi.1
  rw [hs i] at this
  cases this
 have e : k = m := by
  have h1 := key h hs h'
  have h2 := key h' ht h
  omega
 subst e
 exact ⟨rfl, h.uniq h'⟩
structure PsOK (ps : List Plc) (user : ByteArray) : Prop where
 ok : (netOf ps user).OK
 lt : ∀ p ∈ ps, ∀ x ∈ p.leads.flatten, x < ps.length
 nf : ∀ p ∈ ps, p.found = false -> p.leads = []
 ln : ∀ p ∈ ps, p.leads.length = p.nodes.length
theorem mem_backs {i j : Nat} : i ∈ backs ps j ↔ ∃ p, ps[i]? = some p /\ j ∈ p.leads.flatten := by
 unfold backs
 rw [List.mem_filter, List.mem_range]
 constructor
 ·rintro ⟨h1, h2⟩
  rw [gge h1, Option.map_some, Option.getD_some] at h2
  exact ⟨_, gge h1, odt h2⟩
 ·rintro ⟨p, h1, h2⟩
  refine ⟨(List.getElem?_eq_some_iff.1 h1).1, ?_⟩
  rw [h1]
  simpa using h2
theorem PsOK.back (h : PsOK ps user) {i j : Nat} : i ∈ backs ps j ↔ (netOf ps user).to i j := by
 rw [mem_backs]
 constructor
 ·rintro ⟨p, h1, h2⟩
  obtain ⟨l, hl, hj⟩ := List.mem_flatten.1 h2
  obtain ⟨e, he, hle⟩ := List.mem_iff_getElem.1 hl
  have he' : e < p.nodes.length := by rw [<- h.ln p (mog h1)]; exact he
  refine ⟨p, h1, e, p.nodes[e], gge he', ?_⟩
  rw [List.getD_eq_getElem?_getD, gge he, hle]
  exact hj
 ·rintro ⟨p, h1, e, n, h2, h3⟩
  refine ⟨p, h1, List.mem_flatten.2 ?_⟩
  rw [List.getD_eq_getElem?_getD] at h3
  cases hl : p.leads[e]? with
  | none => rw [hl] at h3; cases h3
  | some l => rw [hl] at h3; exact ⟨l, mog hl, h3⟩
end
section
variable {W : ByteArray -> Bool} {F : ByteArray -> ByteArray -> Bool} {c : Cf} {num : List Nat} {sub : Obr -> List Sub} {k : Obr} {N : Nat}
theorem AtEnd.gr (hN : AtEnd c num sub k N) : GrI c num sub (opened c num sub k N).1 (opened c num sub k N).1.length := by
 have h := opened_GrI N hN.2
 exact ⟨h.one, λ j p hj hp => h.op j p (Nat.lt_of_lt_of_le hj hN.1) hp⟩
theorem one_nf {x : Obr} (h : (one c num x).found = false) : (one c num x).nodes = [] := by
 unfold one at h ⊢
 split at h
 ·rfl
 ·cases h
theorem Means.ps (h : Means W F c num) (hN : AtEnd c num sub k N) (user : ByteArray) : PsOK (opened c num sub k N).1 user := by
 have hg := hN.gr
 refine ⟨h.net hN user, λ p hp x hx => ?_, λ p hp hf => ?_, λ p hp => ?_⟩
 ·obtain ⟨i, hi, e⟩ := List.mem_iff_getElem.1 hp
  have hl := (hg.op i p hi (by rw [gge hi, e])).1
  obtain ⟨l, hl1, hl2⟩ := List.mem_flatten.1 hx
  obtain ⟨m, hm, e2⟩ := List.mem_iff_getElem.1 hl1
  have hm' : m < p.nodes.length := by rw [<- hl.1]; exact hm
  have h1 := hl.2 m _ (gge hm')
  rw [List.getD_eq_getElem?_getD, gge hm, Option.getD_some, e2] at h1
  have h2 : ((opened c num sub k N).1.map (·.k))[x]? ∈ (aheadK c sub p.k p.nodes[m]).map some := by rw [<- h1]; exact List.mem_map.2 ⟨x, hl2, rfl⟩
  obtain ⟨y, _, hy⟩ := List.mem_map.1 h2
  have := (List.getElem?_eq_some_iff.1 hy.symm).1
  rwa [List.length_map] at this
 ·obtain ⟨i, hi, e⟩ := List.mem_iff_getElem.1 hp
  have hl := (hg.op i p hi (by rw [gge hi, e])).1
  obtain ⟨o1, o2, _⟩ := hg.one p hp
  rw [o1] at hf
  have := one_nf hf
  rw [<- o2] at this
  have h1 := hl.1
  rw [this] at h1
  exact List.eq_nil_of_length_eq_zero h1
 ·obtain ⟨i, hi, e⟩ := List.mem_iff_getElem.1 hp
  exact (hg.op i p hi (by rw [gge hi, e])).1.1
def kword (kind : Int) : ByteArray :=
 if kind = 1 then ⟨#[116, 104, 105, 115]⟩ else if kind = 2 then ⟨#[114, 101, 108]⟩ else if kind = 3 then ⟨#[97, 114, 114, 111, 119]⟩ else if kind = 4 then ⟨#[111, 114]⟩ else if kind = 5 then ⟨#[97, 110, 100]⟩ else ⟨#[98, 117, 116]⟩
def pname (k : Obr) : ByteArray := k.os ++ ⟨#[58]⟩ ++ k.oi ++ ⟨#[35]⟩ ++ k.rel
end
open Tryz (prog)
set_option maxRecDepth 4000
namespace LTY
theorem clone_spec (v : Value) (xs : List Ty) (R : Rds) (h : RS R 2 Ty.enc v xs) (hl : xs.length <= 1000000) :
  Spec prog 160 [v] R [] λ v' H' => ∃ T, H' = [T] /\ OS 252 2 Ty.enc v' xs T := by
 obtain ⟨pr, cap, rfl⟩ := h.val
 have hx : ∀ H, RS (Rx R H) 2 Ty.enc (.slice pr xs.length cap) xs := λ H => h.rx
 refine Spec.segs (H' := [[]]) (by simp)<|Spec.body Tryz.func160 rfl Tryz.results160 Tryz.ntmps160 rfl<|.sr<|.ag rfl<|.zs<|.sr<|.mo rfl<|.q (.eqNilS rfl rfl)<|.zn<|.cond rfl (λ h1 => ?_) λ h1 => ?_
 refine .sr<|.az rfl<|.ret (seqQ_r (retQ_r _ (.one (.tmp rfl)) (.one [0] _) ?_))
 ·obtain rfl : pr = none := by simpa using h1
  have := h.none_nil
  subst this
  exact ⟨[], rfl, OS.nil⟩
 refine .kn<|.sr ?_
 refine .buildSlice0 (λ b5 => ?_)
 refine .mo rfl ?_
 refine .append (OS.empty (enc := Ty.enc) (sz := 2)) (hx _) (by simp; omega) (λ v' T' h3 => ?_)
 refine .az rfl<|.ret (retQ_r _ (.one (.tmp rfl)) (.one [0] _) ?_)
 ·exact ⟨T', by simp [take], by simpa using h3⟩
theorem indexF_spec (f : FuncId) (caps : List Value) [e : Ent prog f] (p : Ty -> Bool) (v : Value) (l : List Ty) (R : Rds) (h : RS R 2 Ty.enc v l) (hf : ∀ s ∈ l, ∀ R', (∀ b o, R b o -> R' b o) -> Spec prog f ((λ t : Ty => Value.agg t.enc.toArray) s :: caps) R' [] λ u H' => u = .bool (p s) /\ H' = []) :
  Spec prog 248 [v, .func (.func f) #[] caps.toArray] R [] λ u H' => (∃ k : Int, u = .int .i64 k /\ ((∃ (i : Nat) (x : Ty), l[i]? = some x /\ p x = true /\ (∀ j y, j < i -> l[j]? = some y -> p y = false) /\ k = i) \/ ((∀ y ∈ l, p y = false) /\ k = -1))) /\ H' = [] := by
 have hle := h.le
 refine Spec.body Tryz.func248 rfl Tryz.results248 Tryz.ntmps248 rfl<|.sr<|.ag rfl<|.zs<|.sr<|.mo rfl<|.q (.lenR h)<|.mo rfl<|.zn<|.block<|.loop (X := Nat) (λ i => i <= l.length /\ ∀ j z, j < i -> l[j]? = some z -> p z = false) (λ i => [(0, v), (1, .func (.func f) #[] caps.toArray), (7, .int .i64 l.length), (8, iN i)]) (λ _ => []) (λ i => l.length - i) 0 ⟨by omega, by omega⟩ kE.c.c.c.c rH ?_
 rintro i ⟨hi, hn⟩
 refine .sr<|.q .lss<|.zs<|.cond rfl (λ h1 => ?_) λ h1 => ?_
 have hlt : i < l.length := by simp at h1; omega
 obtain ⟨z, hz⟩ := exg hlt
 have hzm := mog hz
 have hzo := (⟨h.one z hzm⟩ : Ones (Ty.enc z))
 refine .kn<|.seq<|.block<|.sr<|.mo rfl<|.ag rfl<|.z<|.mo rfl<|.mo rfl<|.mo rfl ?_
 refine .indexR i h hz (λ pz => ?_)
 refine .q (.loadA rfl)<|.callRV (first := []) (captured := caps) (vs := [(λ t : Ty => Value.agg t.enc.toArray) z]) (hf z hzm _ λ b o hb => .inl hb) (λ u hu => ?_)
 subst hu
 refine .zn<|.cond rfl (λ h2 => ?_) λ h2 => ?_
 refine .sr<|.mo rfl<|.az rfl<|.ret (blkQ_r (seqQ_r (loopQ_r (blkQ_r (seqQ_r (rq1 rfl ?_))))))
 ·exact ⟨⟨_, rfl, .inl ⟨i, z, hz, h2, hn, rfl⟩⟩, rfl⟩
 refine .skip<|blkQ_n<|seqQ_n<|.region<|.q (.inc (n := i) (by omega))<|.mo rfl<|.nil ?_
 ·exact loopQ_i (i + 1) ⟨by omega, λ j y hj hy => by
   rcases Nat.lt_or_ge j i with hh | hh
   ·exact hn j y hh hy
   ·obtain rfl : j = i := by omega
    rw [hz] at hy; cases hy; exact h2⟩ (by omega) kE.c.c.c.c rH
 refine .exit<|seqQ_x<|loopQ_x<|blkQ_x<|seqQ_n<|.sr<|.az rfl<|.ret (rq1 rfl ?_)
 ·have he : i = l.length := by simp at h1; omega
  subst he
  refine ⟨⟨_, rfl, .inr ⟨λ y hy => ?_, rfl⟩⟩, rfl⟩
  obtain ⟨j, hj, rfl⟩ := List.mem_iff_getElem.1 hy
  exact hn j _ hj (gge hj)
theorem containsF_spec (f : FuncId) (caps : List Value) [e : Ent prog f] (p : Ty -> Bool) (v : Value) (l : List Ty) (R : Rds) (h : RS R 2 Ty.enc v l) (hf : ∀ s ∈ l, ∀ R', (∀ b o, R b o -> R' b o) -> Spec prog f ((λ t : Ty => Value.agg t.enc.toArray) s :: caps) R' [] λ u H' => u = .bool (p s) /\ H' = []) :
  Spec prog 194 [v, .func (.func f) #[] caps.toArray] R [] λ u H' => u = .bool (l.any p) /\ H' = [] := by
 refine Spec.body Tryz.func194 rfl Tryz.results194 Tryz.ntmps194 rfl<|.sr<|.ag rfl<|.z<|.mo rfl<|.mo rfl<|.callR (indexF_spec f caps p v l _ h.rx λ s hs R' hR => hf s hs R' λ b o hb => hR b o (.inl hb)) (λ u hu => ?_)
 obtain ⟨k, rfl, hk⟩ := hu
 have hkk : decide (0 <= k) = l.any p := by
  rcases hk with ⟨i, x, h1, h2, _, rfl⟩ | ⟨h1, rfl⟩
  ·rw [List.any_eq_true.2 ⟨x, mog h1, h2⟩]; simp
  ·rw [List.any_eq_false.2 λ y hy => by rw [h1 y hy]; simp]; rfl
 refine .q .geq<|.az rfl<|.ret (rq1 rfl ?_)
 ·exact ⟨by simp only [hkk], rfl⟩
end LTY
namespace LSC
theorem clone_spec (v : Value) (xs : List Sc) (R : Rds) (h : RS R 4 Sc.enc v xs) (hl : xs.length <= 1000000) :
  Spec prog 162 [v] R [] λ v' H' => ∃ T, H' = [T] /\ OS 209 4 Sc.enc v' xs T := by
 obtain ⟨pr, cap, rfl⟩ := h.val
 have hx : ∀ H, RS (Rx R H) 4 Sc.enc (.slice pr xs.length cap) xs := λ H => h.rx
 refine Spec.segs (H' := [[]]) (by simp)<|Spec.body Tryz.func162 rfl Tryz.results162 Tryz.ntmps162 rfl<|.sr<|.ag rfl<|.zs<|.sr<|.mo rfl<|.q (.eqNilS rfl rfl)<|.zn<|.cond rfl (λ h1 => ?_) λ h1 => ?_
 refine .sr<|.az rfl<|.ret (seqQ_r (retQ_r _ (.one (.tmp rfl)) (.one [0] _) ?_))
 ·obtain rfl : pr = none := by simpa using h1
  have := h.none_nil
  subst this
  exact ⟨[], rfl, OS.nil⟩
 refine .kn<|.sr ?_
 refine .buildSlice0 (λ b5 => ?_)
 refine .mo rfl ?_
 refine .append (OS.empty (enc := Sc.enc) (sz := 4)) (hx _) (by simp; omega) (λ v' T' h3 => ?_)
 refine .az rfl<|.ret (retQ_r _ (.one (.tmp rfl)) (.one [0] _) ?_)
 ·exact ⟨T', by simp [take], by simpa using h3⟩
theorem indexF_spec (f : FuncId) (caps : List Value) [e : Ent prog f] (p : Sc -> Bool) (v : Value) (l : List Sc) (R : Rds) (h : RS R 4 Sc.enc v l) (hf : ∀ s ∈ l, ∀ R', (∀ b o, R b o -> R' b o) -> Spec prog f ((λ t : Sc => Value.agg t.enc.toArray) s :: caps) R' [] λ u H' => u = .bool (p s) /\ H' = []) :
  Spec prog 249 [v, .func (.func f) #[] caps.toArray] R [] λ u H' => (∃ k : Int, u = .int .i64 k /\ ((∃ (i : Nat) (x : Sc), l[i]? = some x /\ p x = true /\ (∀ j y, j < i -> l[j]? = some y -> p y = false) /\ k = i) \/ ((∀ y ∈ l, p y = false) /\ k = -1))) /\ H' = [] := by
 have hle := h.le
 refine Spec.body Tryz.func249 rfl Tryz.results249 Tryz.ntmps249 rfl<|.sr<|.ag rfl<|.zs<|.sr<|.mo rfl<|.q (.lenR h)<|.mo rfl<|.zn<|.block<|.loop (X := Nat) (λ i => i <= l.length /\ ∀ j z, j < i -> l[j]? = some z -> p z = false) (λ i => [(0, v), (1, .func (.func f) #[] caps.toArray), (7, .int .i64 l.length), (8, iN i)]) (λ _ => []) (λ i => l.length - i) 0 ⟨by omega, by omega⟩ kE.c.c.c.c rH ?_
 rintro i ⟨hi, hn⟩
 refine .sr<|.q .lss<|.zs<|.cond rfl (λ h1 => ?_) λ h1 => ?_
 have hlt : i < l.length := by simp at h1; omega
 obtain ⟨z, hz⟩ := exg hlt
 have hzm := mog hz
 have hzo := (⟨h.one z hzm⟩ : Ones (Sc.enc z))
 refine .kn<|.seq<|.block<|.sr<|.mo rfl<|.ag rfl<|.z<|.mo rfl<|.mo rfl<|.mo rfl ?_
 refine .indexR i h hz (λ pz => ?_)
 refine .q (.loadA rfl)<|.callRV (first := []) (captured := caps) (vs := [(λ t : Sc => Value.agg t.enc.toArray) z]) (hf z hzm _ λ b o hb => .inl hb) (λ u hu => ?_)
 subst hu
 refine .zn<|.cond rfl (λ h2 => ?_) λ h2 => ?_
 refine .sr<|.mo rfl<|.az rfl<|.ret (blkQ_r (seqQ_r (loopQ_r (blkQ_r (seqQ_r (rq1 rfl ?_))))))
 ·exact ⟨⟨_, rfl, .inl ⟨i, z, hz, h2, hn, rfl⟩⟩, rfl⟩
 refine .skip<|blkQ_n<|seqQ_n<|.region<|.q (.inc (n := i) (by omega))<|.mo rfl<|.nil ?_
 ·exact loopQ_i (i + 1) ⟨by omega, λ j y hj hy => by
   rcases Nat.lt_or_ge j i with hh | hh
   ·exact hn j y hh hy
   ·obtain rfl : j = i := by omega
    rw [hz] at hy; cases hy; exact h2⟩ (by omega) kE.c.c.c.c rH
 refine .exit<|seqQ_x<|loopQ_x<|blkQ_x<|seqQ_n<|.sr<|.az rfl<|.ret (rq1 rfl ?_)
 ·have he : i = l.length := by simp at h1; omega
  subst he
  refine ⟨⟨_, rfl, .inr ⟨λ y hy => ?_, rfl⟩⟩, rfl⟩
  obtain ⟨j, hj, rfl⟩ := List.mem_iff_getElem.1 hy
  exact hn j _ hj (gge hj)
theorem containsF_spec (f : FuncId) (caps : List Value) [e : Ent prog f] (p : Sc -> Bool) (v : Value) (l : List Sc) (R : Rds) (h : RS R 4 Sc.enc v l) (hf : ∀ s ∈ l, ∀ R', (∀ b o, R b o -> R' b o) -> Spec prog f ((λ t : Sc => Value.agg t.enc.toArray) s :: caps) R' [] λ u H' => u = .bool (p s) /\ H' = []) :
  Spec prog 197 [v, .func (.func f) #[] caps.toArray] R [] λ u H' => u = .bool (l.any p) /\ H' = [] := by
 refine Spec.body Tryz.func197 rfl Tryz.results197 Tryz.ntmps197 rfl<|.sr<|.ag rfl<|.z<|.mo rfl<|.mo rfl<|.callR (indexF_spec f caps p v l _ h.rx λ s hs R' hR => hf s hs R' λ b o hb => hR b o (.inl hb)) (λ u hu => ?_)
 obtain ⟨k, rfl, hk⟩ := hu
 have hkk : decide (0 <= k) = l.any p := by
  rcases hk with ⟨i, x, h1, h2, _, rfl⟩ | ⟨h1, rfl⟩
  ·rw [List.any_eq_true.2 ⟨x, mog h1, h2⟩]; simp
  ·rw [List.any_eq_false.2 λ y hy => by rw [h1 y hy]; simp]; rfl
 refine .q .geq<|.az rfl<|.ret (rq1 rfl ?_)
 ·exact ⟨by simp only [hkk], rfl⟩
end LSC
namespace LRE
theorem indexF_spec (f : FuncId) (caps : List Value) [e : Ent prog f] (p : RlM -> Bool) (v : Value) (l : List RlM) (R : Rds) (h : RS R 3 RlM.enc v l) (hf : ∀ s ∈ l, ∀ R', (∀ b o, R b o -> R' b o) -> Spec prog f ((λ t : RlM => Value.agg t.enc.toArray) s :: caps) R' [] λ u H' => u = .bool (p s) /\ H' = []) :
  Spec prog 232 [v, .func (.func f) #[] caps.toArray] R [] λ u H' => (∃ k : Int, u = .int .i64 k /\ ((∃ (i : Nat) (x : RlM), l[i]? = some x /\ p x = true /\ (∀ j y, j < i -> l[j]? = some y -> p y = false) /\ k = i) \/ ((∀ y ∈ l, p y = false) /\ k = -1))) /\ H' = [] := by
 have hle := h.le
 refine Spec.body Tryz.func232 rfl Tryz.results232 Tryz.ntmps232 rfl<|.sr<|.ag rfl<|.zs<|.sr<|.mo rfl<|.q (.lenR h)<|.mo rfl<|.zn<|.block<|.loop (X := Nat) (λ i => i <= l.length /\ ∀ j z, j < i -> l[j]? = some z -> p z = false) (λ i => [(0, v), (1, .func (.func f) #[] caps.toArray), (7, .int .i64 l.length), (8, iN i)]) (λ _ => []) (λ i => l.length - i) 0 ⟨by omega, by omega⟩ kE.c.c.c.c rH ?_
 rintro i ⟨hi, hn⟩
 refine .sr<|.q .lss<|.zs<|.cond rfl (λ h1 => ?_) λ h1 => ?_
 have hlt : i < l.length := by simp at h1; omega
 obtain ⟨z, hz⟩ := exg hlt
 have hzm := mog hz
 have hzo := (⟨h.one z hzm⟩ : Ones (RlM.enc z))
 refine .kn<|.seq<|.block<|.sr<|.mo rfl<|.ag rfl<|.z<|.mo rfl<|.mo rfl<|.mo rfl ?_
 refine .indexR i h hz (λ pz => ?_)
 refine .q (.loadA rfl)<|.callRV (first := []) (captured := caps) (vs := [(λ t : RlM => Value.agg t.enc.toArray) z]) (hf z hzm _ λ b o hb => .inl hb) (λ u hu => ?_)
 subst hu
 refine .zn<|.cond rfl (λ h2 => ?_) λ h2 => ?_
 refine .sr<|.mo rfl<|.az rfl<|.ret (blkQ_r (seqQ_r (loopQ_r (blkQ_r (seqQ_r (rq1 rfl ?_))))))
 ·exact ⟨⟨_, rfl, .inl ⟨i, z, hz, h2, hn, rfl⟩⟩, rfl⟩
 refine .skip<|blkQ_n<|seqQ_n<|.region<|.q (.inc (n := i) (by omega))<|.mo rfl<|.nil ?_
 ·exact loopQ_i (i + 1) ⟨by omega, λ j y hj hy => by
   rcases Nat.lt_or_ge j i with hh | hh
   ·exact hn j y hh hy
   ·obtain rfl : j = i := by omega
    rw [hz] at hy; cases hy; exact h2⟩ (by omega) kE.c.c.c.c rH
 refine .exit<|seqQ_x<|loopQ_x<|blkQ_x<|seqQ_n<|.sr<|.az rfl<|.ret (rq1 rfl ?_)
 ·have he : i = l.length := by simp at h1; omega
  subst he
  refine ⟨⟨_, rfl, .inr ⟨λ y hy => ?_, rfl⟩⟩, rfl⟩
  obtain ⟨j, hj, rfl⟩ := List.mem_iff_getElem.1 hy
  exact hn j _ hj (gge hj)
theorem containsF_spec (f : FuncId) (caps : List Value) [e : Ent prog f] (p : RlM -> Bool) (v : Value) (l : List RlM) (R : Rds) (h : RS R 3 RlM.enc v l) (hf : ∀ s ∈ l, ∀ R', (∀ b o, R b o -> R' b o) -> Spec prog f ((λ t : RlM => Value.agg t.enc.toArray) s :: caps) R' [] λ u H' => u = .bool (p s) /\ H' = []) :
  Spec prog 180 [v, .func (.func f) #[] caps.toArray] R [] λ u H' => u = .bool (l.any p) /\ H' = [] := by
 refine Spec.body Tryz.func180 rfl Tryz.results180 Tryz.ntmps180 rfl<|.sr<|.ag rfl<|.z<|.mo rfl<|.mo rfl<|.callR (indexF_spec f caps p v l _ h.rx λ s hs R' hR => hf s hs R' λ b o hb => hR b o (.inl hb)) (λ u hu => ?_)
 obtain ⟨k, rfl, hk⟩ := hu
 have hkk : decide (0 <= k) = l.any p := by
  rcases hk with ⟨i, x, h1, h2, _, rfl⟩ | ⟨h1, rfl⟩
  ·rw [List.any_eq_true.2 ⟨x, mog h1, h2⟩]; simp
  ·rw [List.any_eq_false.2 λ y hy => by rw [h1 y hy]; simp]; rfl
 refine .q .geq<|.az rfl<|.ret (rq1 rfl ?_)
 ·exact ⟨by simp only [hkk], rfl⟩
end LRE
namespace LND
theorem clone_spec (v : Value) (xs : List Nd) (R : Rds) (h : RS R 5 Nd.enc v xs) (hl : xs.length <= 1000000) :
  Spec prog 161 [v] R [] λ v' H' => ∃ T, H' = [T] /\ OS 168 5 Nd.enc v' xs T := by
 obtain ⟨pr, cap, rfl⟩ := h.val
 have hx : ∀ H, RS (Rx R H) 5 Nd.enc (.slice pr xs.length cap) xs := λ H => h.rx
 refine Spec.segs (H' := [[]]) (by simp)<|Spec.body Tryz.func161 rfl Tryz.results161 Tryz.ntmps161 rfl<|.sr<|.ag rfl<|.zs<|.sr<|.mo rfl<|.q (.eqNilS rfl rfl)<|.zn<|.cond rfl (λ h1 => ?_) λ h1 => ?_
 refine .sr<|.az rfl<|.ret (seqQ_r (retQ_r _ (.one (.tmp rfl)) (.one [0] _) ?_))
 ·obtain rfl : pr = none := by simpa using h1
  have := h.none_nil
  subst this
  exact ⟨[], rfl, OS.nil⟩
 refine .kn<|.sr ?_
 refine .buildSlice0 (λ b5 => ?_)
 refine .mo rfl ?_
 refine .append (OS.empty (enc := Nd.enc) (sz := 5)) (hx _) (by simp; omega) (λ v' T' h3 => ?_)
 refine .az rfl<|.ret (retQ_r _ (.one (.tmp rfl)) (.one [0] _) ?_)
 ·exact ⟨T', by simp [take], by simpa using h3⟩
end LND
theorem flat_encS : ∀ (ys : List ByteArray), ys.flatMap encS = ys.map λ s => Value.string s
 | [] => rfl
 | y :: ys => by simp [encS, flat_encS ys]
section
variable {c : Cf} {num : List Nat} {sub : Obr -> List Sub} {k : Obr}
theorem AtEnd.ex {B : Nat} (h : ∀ i, (opened c num sub k i).1.length <= B) : ∃ N, AtEnd c num sub k N := by
 have key : ∀ m, (∃ N, N <= m /\ AtEnd c num sub k N) \/ ∀ j, j <= m -> j < (opened c num sub k j).1.length := by
  intro m
  induction m with
  | zero =>
   refine .inr λ j hj => ?_
   obtain rfl : j = 0 := by omega
   simp [opened]
  | succ m ih =>
   rcases ih with ⟨N, h1, h2⟩ | ih
   ·exact .inl ⟨N, by omega, h2⟩
   ·by_cases h1 : m + 1 < (opened c num sub k (m + 1)).1.length
    ·exact .inr λ j hj => by
      rcases Nat.lt_or_ge j (m + 1) with h2 | h2
      ·exact ih j (by omega)
      ·obtain rfl : j = m + 1 := by omega
       exact h1
    ·exact .inl ⟨m + 1, Nat.le_refl _, by omega, λ j hj => ih j (by omega)⟩
 rcases key (B + 1) with ⟨N, _, h1⟩ | h1
 ·exact ⟨N, h1⟩
 ·have := h1 (B + 1) (Nat.le_refl _)
  have := h (B + 1)
  omega
def disc (c : Cf) (num : List Nat) (sub : Obr -> List Sub) (k : Obr) (b : Int) (can : Bool) (N : Nat) : List Plc × Nat × Int :=
 if b < 1 then ([], 0, 2) else if can = false then ([], 0, 12)
 else if (((opened c num sub k N).1.length + (opened c num sub k N).2 : Nat) : Int) <= b then ((opened c num sub k N).1, (opened c num sub k N).2, 0) else ([], 0, 16)
theorem fresh_grown {P : Obr -> Prop} {a b : List Plc} (h : Grown c num P a b) {i : Nat} (ha : ∀ j p, i <= j -> a[j]? = some p -> p = one c num p.k) : ∀ j p, i <= j -> b[j]? = some p -> p = one c num p.k := by
 obtain ⟨⟨l, rfl, hl⟩, _⟩ := h
 intro j p hj hp
 rcases Nat.lt_or_ge j a.length with h1 | h1
 ·rw [List.getElem?_append_left h1] at hp
  exact ha j p hj hp
 ·rw [List.getElem?_append_right h1] at hp
  exact (hl p (mog hp)).2
theorem opened_fresh : ∀ (i : Nat) (j : Nat) (p : Plc), i <= j -> (opened c num sub k i).1[j]? = some p -> p = one c num p.k
 | 0, j, p, _, hp => by
  have := mog hp
  simp only [opened, List.mem_singleton] at this
  subst this
  rw [one_k]
 | i + 1, j, p, hj, hp => by
  have ih := λ j p hj hp => opened_fresh i j p hj hp
  change (openP c num sub (opened c num sub k i).1 i).1[j]? = some p at hp
  unfold openP at hp
  split at hp
  ·exact ih j p (by omega) hp
  ·rw [List.getElem?_set_ne (by omega)] at hp
   exact fresh_grown (addNs_grown _ _ _) ih j p (by omega) hp
theorem openP_nf {ps : List Plc} {i : Nat} {p : Plc} (hp : ps[i]? = some p) (h1 : p = one c num p.k) (hf : p.found = false) : openP c num sub ps i = (ps, 0) := by
 have hn : p.nodes = [] := by rw [h1]; exact one_nf (by rw [<- h1]; exact hf)
 have hu : p.users = [] /\ p.leads = [] := by
  rw [h1]
  unfold one
  split <;> exact ⟨rfl, rfl⟩
 obtain ⟨u1, u2⟩ := hu
 obtain ⟨k, f, n, m, u, l⟩ := p
 simp only at u1 u2 hn hf
 subst u1 u2 hn hf
 unfold openP
 rw [hp]
 simp only [addNs, Bool.false_eq_true, if_false]
 refine Prod.ext ?_ rfl
 refine List.ext_getElem? λ j => ?_
 rw [List.getElem?_set]
 split
 ·rename_i e; subst e
  have := (List.getElem?_eq_some_iff.1 hp).1
  rw [if_pos this, hp]
 ·rfl
theorem addKs_snoc : ∀ (ks : List Obr) (ps : List Plc) (x : Obr), addKs c num ps (ks ++ [x]) = ((addK c num (addKs c num ps ks).1 x).1, (addKs c num ps ks).2 ++ [(addK c num (addKs c num ps ks).1 x).2])
 | [], ps, x => rfl
 | y :: ks, ps, x => by
  rw [List.cons_append, addKs, addKs_snoc ks _ x]
  rfl
theorem addNs_snoc (y : Obr) : ∀ (ns : List Nd) (ps : List Plc) (n : Nd), addNs c num sub y ps (ns ++ [n]) = ((addKs c num (addNs c num sub y ps ns).1 (aheadK c sub y n)).1, (addNs c num sub y ps ns).2 ++ [(addKs c num (addNs c num sub y ps ns).1 (aheadK c sub y n)).2])
 | [], ps, n => rfl
 | m :: ns, ps, n => by
  rw [List.cons_append, addNs, addNs_snoc y ns _ n]
  rfl
theorem addKs_take {ks : List Obr} {i : Nat} {x : Obr} (h : ks[i]? = some x) (ps : List Plc) : addKs c num ps (ks.take (i + 1)) = ((addK c num (addKs c num ps (ks.take i)).1 x).1, (addKs c num ps (ks.take i)).2 ++ [(addK c num (addKs c num ps (ks.take i)).1 x).2]) := by
 rw [show ks.take (i + 1) = ks.take i ++ [x] by rw [List.take_add_one, h]; rfl, addKs_snoc]
theorem addNs_take {ns : List Nd} {i : Nat} {n : Nd} (h : ns[i]? = some n) (y : Obr) (ps : List Plc) : addNs c num sub y ps (ns.take (i + 1)) = ((addKs c num (addNs c num sub y ps (ns.take i)).1 (aheadK c sub y n)).1, (addNs c num sub y ps (ns.take i)).2 ++ [(addKs c num (addNs c num sub y ps (ns.take i)).1 (aheadK c sub y n)).2]) := by
 rw [show ns.take (i + 1) = ns.take i ++ [n] by rw [List.take_add_one, h]; rfl, addNs_snoc]
theorem addKs_app : ∀ (a b : List Obr) (ps : List Plc), (addKs c num ps (a ++ b)).1 = (addKs c num (addKs c num ps a).1 b).1
 | [], b, ps => rfl
 | x :: a, b, ps => by rw [List.cons_append, addKs, addKs]; exact addKs_app a b _
theorem addNs_app (y : Obr) : ∀ (a b : List Nd) (ps : List Plc), (addNs c num sub y ps (a ++ b)).1 = (addNs c num sub y (addNs c num sub y ps a).1 b).1
 | [], b, ps => rfl
 | x :: a, b, ps => by rw [List.cons_append, addNs, addNs]; exact addNs_app y a b _
theorem addKs_le (ks : List Obr) (i : Nat) (ps : List Plc) : (addKs c num ps (ks.take i)).1.length <= (addKs c num ps ks).1.length := by
 have h := addKs_app (c := c) (num := num) (ks.take i) (ks.drop i) ps
 rw [List.take_append_drop] at h
 rw [h]
 exact (addKs_grown _ _).len
theorem addNs_le (y : Obr) (ns : List Nd) (i : Nat) (ps : List Plc) : (addNs c num sub y ps (ns.take i)).1.length <= (addNs c num sub y ps ns).1.length := by
 have h := addNs_app (c := c) (num := num) (sub := sub) y (ns.take i) (ns.drop i) ps
 rw [List.take_append_drop] at h
 rw [h]
 exact (addNs_grown _ _ _).len
theorem addKs_ge (ks : List Obr) (ps : List Plc) : ps.length <= (addKs c num ps ks).1.length := (addKs_grown _ _).len
theorem addNs_ge (y : Obr) (ns : List Nd) (ps : List Plc) : ps.length <= (addNs c num sub y ps ns).1.length := (addNs_grown _ _ _).len
def seenL (a : List Nat) (l : List Nat) : List Nat := l.foldl (λ a x => if x ∈ a then a else a ++ [x]) a
theorem seenL_app (a l m : List Nat) : seenL a (l ++ m) = seenL (seenL a l) m := List.foldl_append
theorem seenL_one (a : List Nat) (x : Nat) : seenL a [x] = if x ∈ a then a else a ++ [x] := rfl
theorem seenL_take {l : List Nat} {i x : Nat} (h : l[i]? = some x) (a : List Nat) : seenL a (l.take (i + 1)) = if x ∈ seenL a (l.take i) then seenL a (l.take i) else seenL a (l.take i) ++ [x] := by
 rw [show l.take (i + 1) = l.take i ++ [x] by rw [List.take_add_one, h]; rfl, seenL_app, seenL_one]
theorem seenL_len {l : List Nat} {n : Nat} (h : ∀ x ∈ l, x < n) : (seenL [] l).length <= n := ndiff_le h
theorem openP_eq {ps : List Plc} {i : Nat} {p : Plc} (hp : ps[i]? = some p) : openP c num sub ps i = ((addNs c num sub p.k ps p.nodes).1.set i { p with users := if p.found then usersOf c sub p.k else [], leads := (addNs c num sub p.k ps p.nodes).2 }, ndiff (addNs c num sub p.k ps p.nodes).2.flatten) := by unfold openP; rw [hp]
theorem opened_succ (i : Nat) : opened c num sub k (i + 1) = ((openP c num sub (opened c num sub k i).1 i).1, (opened c num sub k i).2 + (openP c num sub (opened c num sub k i).1 i).2) := rfl
end
theorem node_right {W : ByteArray -> Bool} {l : List Nd} (h : deepD W l ≠ 0) : ∀ n ∈ l, 1 <= n.kind /\ n.kind <= 6 /\ (n.rel = ⟨#[]⟩ \/ W n.rel = true) /\ (n.thn = ⟨#[]⟩ \/ W n.thn = true) := λ n hn => by
 unfold deepD at h
 cases ht : tree W l l.length with
 | none => rw [ht] at h; exact absurd rfl h
 | some p =>
  obtain ⟨b, x⟩ := p
  rw [ht] at h
  simp only at h
  have hb : b = 0 := by
   by_cases h0 : b = 0
   ·exact h0
   ·rw [if_neg h0] at h; exact absurd rfl h
  subst hb
  obtain ⟨i, hi, e⟩ := List.mem_iff_getElem.1 hn
  have hs := (tree_some _ _ ht).2.2.2 i (Nat.zero_le _) hi
  have hni : l[i]? = some n := by rw [gge hi, e]
  obtain ⟨r, hr⟩ := Option.isSome_iff_exists.1 hs
  cases ho : n.op with
  | true =>
   obtain ⟨_, _, _, _, _, _, _, _, h6, h7, _⟩ := tree_op hni ho hr
   unfold Nd.op at ho
   simp only [Bool.or_eq_true, beq_iff_eq] at ho
   exact ⟨by omega, by omega, .inl h6, .inl h7⟩
  | false =>
   rw [tree_leaf hni ho] at hr
   split at hr
   ·rename_i hl
    unfold Nd.leaf at hl
    simp only [Bool.and_eq_true] at hl
    obtain ⟨_, hl⟩ := hl
    split at hl
    ·simp only [Bool.and_eq_true, decide_eq_true_eq] at hl
     exact ⟨by omega, by omega, .inl hl.1, .inl hl.2⟩
    ·split at hl
     ·simp only [Bool.and_eq_true, decide_eq_true_eq] at hl
      exact ⟨by omega, by omega, .inr hl.1, .inl hl.2⟩
     ·split at hl
      ·simp only [Bool.and_eq_true] at hl
       exact ⟨by omega, by omega, .inr hl.1, .inr hl.2⟩
      ·cases hl
   ·cases hr
section
variable {W : ByteArray -> Bool} {F : ByteArray -> ByteArray -> Bool} {c : Cf} {num : List Nat} {sub : Obr -> List Sub}
theorem one_right (hc : c.right W F = true) {k : Obr} : ∀ n ∈ (one c num k).nodes, 1 <= n.kind /\ n.kind <= 6 /\ (n.rel = ⟨#[]⟩ \/ W n.rel = true) /\ (n.thn = ⟨#[]⟩ \/ W n.thn = true) := λ n hn => by
 obtain ⟨y, hy, hn⟩ := one_nodes hn
 have h1 := (right_rel hc y hy).1
 unfold relOK at h1
 simp only [Bool.and_eq_true, bne_iff_ne, ne_eq] at h1
 exact node_right h1.1.2 n hn
def smallK (B : Nat) (x : Obr) : Prop := x.os.size <= B /\ x.oi.size <= B /\ x.rel.size <= B
theorem closed_small {B : Nat} (hc : c.right W F = true) (hW : ∀ s, W s = true -> s.size <= B) (hsub : ∀ k, ∀ s ∈ sub k, s.ss.size <= B /\ s.si.size <= B /\ s.sr.size <= B) : Closed c num sub (smallK B) := λ x hx n hn y hy => by
 obtain ⟨_, _, h3, h4⟩ := one_right hc n hn
 have r1 : n.rel.size <= B := by
  rcases h3 with h3 | h3
  ·rw [h3]; exact Nat.zero_le _
  ·exact hW _ h3
 have r2 : n.thn.size <= B := by
  rcases h4 with h4 | h4
  ·rw [h4]; exact Nat.zero_le _
  ·exact hW _ h4
 have hm : ∀ z s, s ∈ setsOf c sub z -> s ∈ sub z := λ z s hs => by
  unfold setsOf fitting at hs
  exact (List.mem_filter.1 (List.mem_filter.1 hs).1).1
 unfold aheadK at hy
 split at hy
 ·obtain ⟨s, hs, rfl⟩ := List.mem_map.1 hy
  exact hsub _ s (hm _ s hs)
 ·split at hy
  ·obtain ⟨s, hs, rfl⟩ := List.mem_map.1 hy
   obtain ⟨h5, h6, _⟩ := hsub _ s (hm _ s hs)
   exact ⟨h5, h6, r2⟩
  ·split at hy
   ·rw [List.mem_singleton] at hy
    subst hy
    exact ⟨hx.1, hx.2.1, r1⟩
   ·cases hy
theorem opened_small {B : Nat} (hc : c.right W F = true) (hW : ∀ s, W s = true -> s.size <= B) (hsub : ∀ k, ∀ s ∈ sub k, s.ss.size <= B /\ s.si.size <= B /\ s.sr.size <= B) {k : Obr} (hk : smallK B k) (i : Nat) : ∀ p ∈ (opened c num sub k i).1, smallK B p.k :=
 λ p hp => ((opened_PI (closed_small hc hW hsub) hk i).u p hp).1
end
inductive J where
 | mk (kind : Int) (b : Bool) (n : Int) (text : ByteArray) (list : List J) (keys : List ByteArray)
inductive JOf (R : Rds) : List Value -> J -> Prop
 | mk {kind : Int} {b : Bool} {n : Int} {text : ByteArray} {vl vk : Value} {l : List (List Value × J)} {keys : List ByteArray} (hl : RS R 6 (λ p : List Value × J => p.1) vl l) (hk : RS R 1 encS vk keys) (h : ∀ p ∈ l, JOf R p.1 p.2) :
  JOf R [.int .i64 kind, .bool b, .int .i64 n, .string text, vl, vk] (.mk kind b n text (l.map (·.2)) keys)
theorem JOf.mono {R R' : Rds} (hR : ∀ b o, R b o -> R' b o) {cs : List Value} {j : J} (h : JOf R cs j) : JOf R' cs j := by
 induction h with
 | mk hl hk _ ih => exact .mk (hl.mono hR) (hk.mono hR) ih
theorem JOf.ones {R : Rds} {cs : List Value} {j : J} (h : JOf R cs j) : ∀ u ∈ cs, oneCell u = true := by
 cases h with
 | mk hl hk _ =>
  have h1 := hl.oneCell
  have h2 := hk.oneCell
  intro u hu
  simp only [List.mem_cons, List.not_mem_nil, or_false] at hu
  rcases hu with rfl | rfl | rfl | rfl | rfl | rfl
  ·rfl
  ·rfl
  ·rfl
  ·rfl
  ·exact h1.h
  ·exact h2.h
theorem JOf.open {R : Rds} {cs : List Value} {j : J} (h : JOf R cs j) : ∃ (kind : Int) (b : Bool) (n : Int) (text : ByteArray) (vl vk : Value) (l : List (List Value × J)) (keys : List ByteArray),
  cs = [.int .i64 kind, .bool b, .int .i64 n, .string text, vl, vk] /\ j = .mk kind b n text (l.map (·.2)) keys /\ RS R 6 (λ p : List Value × J => p.1) vl l /\ RS R 1 encS vk keys /\ ∀ p ∈ l, JOf R p.1 p.2 := by
 cases h with
 | mk hl hk h => exact ⟨_, _, _, _, _, _, _, _, rfl, rfl, hl, hk, h⟩
def jnull : J := .mk 0 false 0 ⟨#[]⟩ [] []
def jbool (b : Bool) : J := .mk 1 b 0 ⟨#[]⟩ [] []
def jint (n : Int) : J := .mk 2 false n ⟨#[]⟩ [] []
def jtext (s : ByteArray) : J := .mk 3 false 0 s [] []
def jlist (l : List J) : J := .mk 4 false 0 ⟨#[]⟩ l []
def jmap (ks : List ByteArray) (l : List J) : J := .mk 5 false 0 ⟨#[]⟩ l ks
theorem sameTexts_spec (v w : Value) (l m : List ByteArray) (R : Rds) (h : RS R 1 encS v l) (h' : RS R 1 encS w m) :
  Spec prog 54 [v, w] R [] λ u H' => u = .bool (decide (l = m)) /\ H' = [] := by
 have hle := h.le
 refine Spec.body Tryz.func54 rfl Tryz.results54 Tryz.ntmps54 rfl<|.sr<|.ag rfl<|.zs<|.sr<|.mo rfl<|.q (.lenR h)<|.mo rfl<|.q (.lenR h')<|.q .neI<|.zn<|.cond rfl (λ h1 => ?_) λ h1 => ?_
 refine .sr<|.az rfl<|.ret (seqQ_r (rq1 rfl ?_))
 ·exact ⟨by rw [decide_eq_false (λ e : l = m => by simp [e] at h1)], rfl⟩
 have hlen : l.length = m.length := by simp at h1; omega
 refine .kn<|.seq<|.sr<|.az rfl<|.block<|.loop (X := Nat) (λ i => i <= l.length /\ l.take i = m.take i) (λ i => [(0, v), (1, w), (5, iN i)]) (λ _ => []) (λ i => l.length - i) 0 ⟨by omega, by simp⟩ kE.c.c.c rH ?_
 rintro i ⟨hi, hs⟩
 refine .seq<|.sr<|.mo rfl<|.mo rfl<|.q (.lenR h)<|.q .lss<|.zn<|.cond rfl (λ h2 => ?_) λ h2 => ?_
 have hlt : i < l.length := by simp at h2; omega
 obtain ⟨z, hz⟩ := exg hlt
 obtain ⟨y, hy⟩ : ∃ y, m[i]? = some y := ⟨_, gge (by omega)⟩
 refine .kn<|.seq<|.block<|.seq<|.region_still mixed (by kernel_rfl)<|.mo rfl<|.mo rfl ?_
 refine .indexR i h hz (λ pz => ?_)
 refine .lo rfl<|.mo rfl<|.mo rfl ?_
 refine .indexR i h' hy (λ py => ?_)
 refine .lo rfl<|.q .neS<|.zn<|.cond rfl (λ h3 => ?_) λ h3 => ?_
 refine .sr<|.az rfl<|.ret (blkQ_r (seqQ_r (loopQ_r (blkQ_r (seqQ_r (rq1 rfl ?_))))))
 ·refine ⟨?_, rfl⟩
  have hne : z ≠ y := by simpa using h3
  rw [decide_eq_false (λ e : l = m => hne (by rw [e, hy] at hz; cases hz; rfl))]
 refine .skip<|blkQ_n<|seqQ_n<|.region<|.mo rfl<|.q (.inc (n := i) (by omega))<|.ag rfl<|.nil ?_
 ·exact loopQ_i (i + 1) ⟨by omega, by
   have e : z = y := by simpa using h3
   rw [List.take_add_one, List.take_add_one, hs, hz, hy, e]⟩ (by omega) kE.c.c.c rH
 refine .exit<|seqQ_x<|loopQ_x<|blkQ_x<|seqQ_n<|.sr<|.az rfl<|.ret (rq1 rfl ?_)
 ·refine ⟨?_, rfl⟩
  have he : i = l.length := by simp at h2; omega
  rw [he, List.take_length, List.take_of_length_le (by omega)] at hs
  rw [decide_eq_true hs]
end Go.Proofs.YtenilfmlfldogaaGreat
