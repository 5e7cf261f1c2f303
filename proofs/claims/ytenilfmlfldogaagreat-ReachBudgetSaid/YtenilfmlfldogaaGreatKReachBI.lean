/- What the law 'ReachB' uses. No condition. -/
import Derived.Test.YtenilfmlfldogaaGreatKReachBB
import Derived.Test.YtenilfmlfldogaaGreatKReachBF
import Derived.Test.YtenilfmlfldogaaGreatKReachBH
namespace Go.Proofs.YtenilfmlfldogaaGreat
set_option linter.unusedVariables false
abbrev QS := List Bool × List Bool
def pnum (ps : List Plc) (i : Nat) : Nat := ((ps[i]?).map (·.number)).getD 0
def isNext (ps : List Plc) (q : List Bool) (i : Nat) : Prop := q.getD i false = true /\ ∀ j, q.getD j false = true -> pnum ps i < pnum ps j \/ (pnum ps i = pnum ps j /\ i <= j)
def wput (v q : List Bool) (k : Nat) : List Bool := if v.getD k false then q else q.set k true
def qafter (ps : List Plc) (user : ByteArray) (s : QS) (i : Nat) : QS :=
 if s.1.getD i false || !(netOf ps user).ex i (λ j => s.1.getD j false) then (s.1, s.2.set i false)
 else (s.1.set i true, (backs ps i).foldl (wput (s.1.set i true)) (s.2.set i false))
inductive QRun (ps : List Plc) (user : ByteArray) : Nat -> QS -> Prop
 | start : QRun ps user 0 (List.replicate ps.length false, ps.map (·.found))
 | step {k : Nat} {s : QS} {i : Nat} : QRun ps user k s -> isNext ps s.2 i -> QRun ps user (k + 1) (qafter ps user s i)
section
variable {ps : List Plc} {user : ByteArray}
theorem isNext.uniq {q : List Bool} {i j : Nat} (h : isNext ps q i) (h' : isNext ps q j) : i = j := by
 have h1 := h.2 j h'.1
 have h2 := h'.2 i h.1
 omega
theorem QRun.uniq : ∀ {k : Nat} {s t : QS}, QRun ps user k s -> QRun ps user k t -> s = t
 | 0, _, _, .start, .start => rfl
 | k + 1, _, _, .step h1 n1, .step h2 n2 => by
  have e := QRun.uniq h1 h2
  subst e
  rw [n1.uniq n2]
theorem QRun.upto {m : Nat} : ∀ {k : Nat} {s : QS}, QRun ps user k s -> m < k -> ∃ t i, QRun ps user m t /\ isNext ps t.2 i
 | 0, _, _, hm => absurd hm (by omega)
 | k + 1, _, .step (i := i) (s := s) h n, hm => by
  by_cases e : m = k
  ·subst e; exact ⟨s, i, h, n⟩
  ·exact QRun.upto h (by omega)
def qnone (q : List Bool) : Prop := ∀ i, q.getD i false = false
theorem QRun.last {k m : Nat} {s t : QS} (h : QRun ps user k s) (hs : qnone s.2) (h' : QRun ps user m t) (ht : qnone t.2) : k = m /\ s = t := by
 have key : ∀ {k m : Nat} {s t : QS}, QRun ps user k s -> qnone s.2 -> QRun ps user m t -> ¬ k < m := by
  intro k m s t h hs h' hlt
  obtain ⟨u, i, hu, hi⟩ := h'.upto hlt
  have e := h.uniq hu
  subst e
  have := hi.1
  rw [hs i] at this
  cases this
 have e : k = m := by
  have h1 := key h hs h'
  have h2 := key h' ht h
  omega
 subst e
 exact ⟨rfl, h.uniq h'⟩
theorem bgetD_set (l : List Bool) (i j : Nat) (x : Bool) (h : i < l.length) : (l.set i x).getD j false = if i = j then x else l.getD j false := by
 rw [List.getD_eq_getElem?_getD, List.getElem?_set, List.getD_eq_getElem?_getD]
 split
 ·rename_i e; subst e; simp
 ·rfl
structure PsOK (ps : List Plc) (user : ByteArray) : Prop where
 ok : (netOf ps user).OK
 lt : ∀ p ∈ ps, ∀ x ∈ p.leads.flatten, x < ps.length
 nf : ∀ p ∈ ps, p.found = false -> p.leads = []
 ln : ∀ p ∈ ps, p.leads.length = p.nodes.length
theorem mem_backs {i j : Nat} : i ∈ backs ps j ↔ ∃ p, ps[i]? = some p /\ j ∈ p.leads.flatten := by
 unfold backs
 rw [List.mem_filter, List.mem_range]
 constructor
 ·rintro ⟨h1, h2⟩
  rw [gge h1, Option.map_some, Option.getD_some] at h2
  exact ⟨_, gge h1, odt h2⟩
 ·rintro ⟨p, h1, h2⟩
  refine ⟨(List.getElem?_eq_some_iff.1 h1).1, ?_⟩
  rw [h1]
  simpa using h2
theorem PsOK.back (h : PsOK ps user) {i j : Nat} : i ∈ backs ps j ↔ (netOf ps user).to i j := by
 rw [mem_backs]
 constructor
 ·rintro ⟨p, h1, h2⟩
  obtain ⟨l, hl, hj⟩ := List.mem_flatten.1 h2
  obtain ⟨e, he, hle⟩ := List.mem_iff_getElem.1 hl
  have he' : e < p.nodes.length := by rw [<- h.ln p (mog h1)]; exact he
  refine ⟨p, h1, e, p.nodes[e], gge he', ?_⟩
  rw [List.getD_eq_getElem?_getD, gge he, hle]
  exact hj
 ·rintro ⟨p, h1, e, n, h2, h3⟩
  refine ⟨p, h1, List.mem_flatten.2 ?_⟩
  rw [List.getD_eq_getElem?_getD] at h3
  cases hl : p.leads[e]? with
  | none => rw [hl] at h3; cases h3
  | some l => rw [hl] at h3; exact ⟨l, mog hl, h3⟩
theorem PsOK.back_found (h : PsOK ps user) {i j : Nat} (hi : i ∈ backs ps j) : i < ps.length /\ (netOf ps user).f i = true := by
 obtain ⟨p, h1, h2⟩ := mem_backs.1 hi
 refine ⟨(List.getElem?_eq_some_iff.1 h1).1, ?_⟩
 show ((ps[i]?).map (·.found)).getD false = true
 rw [h1]
 cases hf : p.found with
 | true => simp [hf]
 | false => rw [h.nf p (mog h1) hf] at h2; cases h2
def nedges (ps : List Plc) : Nat := lsum (ps.map λ p => ndiff p.leads.flatten)
end
section
variable {W : ByteArray -> Bool} {F : ByteArray -> ByteArray -> Bool} {c : Cf} {num : List Nat} {sub : Obr -> List Sub} {k : Obr} {N : Nat}
theorem AtEnd.gr (hN : AtEnd c num sub k N) : GrI c num sub (opened c num sub k N).1 (opened c num sub k N).1.length := by
 have h := opened_GrI N hN.2
 exact ⟨h.one, λ j p hj hp => h.op j p (Nat.lt_of_lt_of_le hj hN.1) hp⟩
theorem one_nf {x : Obr} (h : (one c num x).found = false) : (one c num x).nodes = [] := by
 unfold one at h ⊢
 split at h
 ·rfl
 ·cases h
theorem Means.ps (h : Means W F c num) (hN : AtEnd c num sub k N) (user : ByteArray) : PsOK (opened c num sub k N).1 user := by
 have hg := hN.gr
 refine ⟨h.net hN user, λ p hp x hx => ?_, λ p hp hf => ?_, λ p hp => ?_⟩
 ·obtain ⟨i, hi, e⟩ := List.mem_iff_getElem.1 hp
  have hl := (hg.op i p hi (by rw [gge hi, e])).1
  obtain ⟨l, hl1, hl2⟩ := List.mem_flatten.1 hx
  obtain ⟨m, hm, e2⟩ := List.mem_iff_getElem.1 hl1
  have hm' : m < p.nodes.length := by rw [<- hl.1]; exact hm
  have h1 := hl.2 m _ (gge hm')
  rw [List.getD_eq_getElem?_getD, gge hm, Option.getD_some, e2] at h1
  have h2 : ((opened c num sub k N).1.map (·.k))[x]? ∈ (aheadK c sub p.k p.nodes[m]).map some := by rw [<- h1]; exact List.mem_map.2 ⟨x, hl2, rfl⟩
  obtain ⟨y, _, hy⟩ := List.mem_map.1 h2
  have := (List.getElem?_eq_some_iff.1 hy.symm).1
  rwa [List.length_map] at this
 ·obtain ⟨i, hi, e⟩ := List.mem_iff_getElem.1 hp
  have hl := (hg.op i p hi (by rw [gge hi, e])).1
  obtain ⟨o1, o2, _⟩ := hg.one p hp
  rw [o1] at hf
  have := one_nf hf
  rw [<- o2] at this
  have h1 := hl.1
  rw [this] at h1
  exact List.eq_nil_of_length_eq_zero h1
 ·obtain ⟨i, hi, e⟩ := List.mem_iff_getElem.1 hp
  exact (hg.op i p hi (by rw [gge hi, e])).1.1
end
open Tryz (prog)
set_option maxRecDepth 4000
namespace LTY
theorem clone_spec (v : Value) (xs : List Ty) (R : Rds) (h : RS R 2 Ty.enc v xs) (hl : xs.length <= 1000000) :
  Spec prog 160 [v] R [] λ v' H' => ∃ T, H' = [T] /\ OS 252 2 Ty.enc v' xs T := by
 obtain ⟨pr, cap, rfl⟩ := h.val
 have hx : ∀ H, RS (Rx R H) 2 Ty.enc (.slice pr xs.length cap) xs := λ H => h.rx
 refine Spec.segs (H' := [[]]) (by simp)<|Spec.body Tryz.func160 rfl Tryz.results160 Tryz.ntmps160 rfl<|.sr<|.ag rfl<|.zs<|.sr<|.mo rfl<|.q (.eqNilS rfl rfl)<|.zn<|.cond rfl (λ h1 => ?_) λ h1 => ?_
 refine .sr<|.az rfl<|.ret (seqQ_r (retQ_r _ (.one (.tmp rfl)) (.one [0] _) ?_))
 ·obtain rfl : pr = none := by simpa using h1
  have := h.none_nil
  subst this
  exact ⟨[], rfl, OS.nil⟩
 refine .kn<|.sr ?_
 refine .buildSlice0 (λ b5 => ?_)
 refine .mo rfl ?_
 refine .append (OS.empty (enc := Ty.enc) (sz := 2)) (hx _) (by simp; omega) (λ v' T' h3 => ?_)
 refine .az rfl<|.ret (retQ_r _ (.one (.tmp rfl)) (.one [0] _) ?_)
 ·exact ⟨T', by simp [take], by simpa using h3⟩
theorem indexF_spec (f : FuncId) (caps : List Value) [e : Ent prog f] (p : Ty -> Bool) (v : Value) (l : List Ty) (R : Rds) (h : RS R 2 Ty.enc v l) (hf : ∀ s ∈ l, ∀ R', (∀ b o, R b o -> R' b o) -> Spec prog f ((λ t : Ty => Value.agg t.enc.toArray) s :: caps) R' [] λ u H' => u = .bool (p s) /\ H' = []) :
  Spec prog 248 [v, .func (.func f) #[] caps.toArray] R [] λ u H' => (∃ k : Int, u = .int .i64 k /\ ((∃ (i : Nat) (x : Ty), l[i]? = some x /\ p x = true /\ (∀ j y, j < i -> l[j]? = some y -> p y = false) /\ k = i) \/ ((∀ y ∈ l, p y = false) /\ k = -1))) /\ H' = [] := by
 have hle := h.le
 refine Spec.body Tryz.func248 rfl Tryz.results248 Tryz.ntmps248 rfl<|.sr<|.ag rfl<|.zs<|.sr<|.mo rfl<|.q (.lenR h)<|.mo rfl<|.zn<|.block<|.loop (X := Nat) (λ i => i <= l.length /\ ∀ j z, j < i -> l[j]? = some z -> p z = false) (λ i => [(0, v), (1, .func (.func f) #[] caps.toArray), (7, .int .i64 l.length), (8, iN i)]) (λ _ => []) (λ i => l.length - i) 0 ⟨by omega, by omega⟩ kE.c.c.c.c rH ?_
 rintro i ⟨hi, hn⟩
 refine .sr<|.q .lss<|.zs<|.cond rfl (λ h1 => ?_) λ h1 => ?_
 have hlt : i < l.length := by simp at h1; omega
 obtain ⟨z, hz⟩ := exg hlt
 have hzm := mog hz
 have hzo := (⟨h.one z hzm⟩ : Ones (Ty.enc z))
 refine .kn<|.seq<|.block<|.sr<|.mo rfl<|.ag rfl<|.z<|.mo rfl<|.mo rfl<|.mo rfl ?_
 refine .indexR i h hz (λ pz => ?_)
 refine .q (.loadA rfl)<|.callRV (first := []) (captured := caps) (vs := [(λ t : Ty => Value.agg t.enc.toArray) z]) (hf z hzm _ λ b o hb => .inl hb) (λ u hu => ?_)
 subst hu
 refine .zn<|.cond rfl (λ h2 => ?_) λ h2 => ?_
 refine .sr<|.mo rfl<|.az rfl<|.ret (blkQ_r (seqQ_r (loopQ_r (blkQ_r (seqQ_r (rq1 rfl ?_))))))
 ·exact ⟨⟨_, rfl, .inl ⟨i, z, hz, h2, hn, rfl⟩⟩, rfl⟩
 refine .skip<|blkQ_n<|seqQ_n<|.region<|.q (.inc (n := i) (by omega))<|.mo rfl<|.nil ?_
 ·exact loopQ_i (i + 1) ⟨by omega, λ j y hj hy => by
   rcases Nat.lt_or_ge j i with hh | hh
   ·exact hn j y hh hy
   ·obtain rfl : j = i := by omega
    rw [hz] at hy; cases hy; exact h2⟩ (by omega) kE.c.c.c.c rH
 refine .exit<|seqQ_x<|loopQ_x<|blkQ_x<|seqQ_n<|.sr<|.az rfl<|.ret (rq1 rfl ?_)
 ·have he : i = l.length := by simp at h1; omega
  subst he
  refine ⟨⟨_, rfl, .inr ⟨λ y hy => ?_, rfl⟩⟩, rfl⟩
  obtain ⟨j, hj, rfl⟩ := List.mem_iff_getElem.1 hy
  exact hn j _ hj (gge hj)
theorem containsF_spec (f : FuncId) (caps : List Value) [e : Ent prog f] (p : Ty -> Bool) (v : Value) (l : List Ty) (R : Rds) (h : RS R 2 Ty.enc v l) (hf : ∀ s ∈ l, ∀ R', (∀ b o, R b o -> R' b o) -> Spec prog f ((λ t : Ty => Value.agg t.enc.toArray) s :: caps) R' [] λ u H' => u = .bool (p s) /\ H' = []) :
  Spec prog 194 [v, .func (.func f) #[] caps.toArray] R [] λ u H' => u = .bool (l.any p) /\ H' = [] := by
 refine Spec.body Tryz.func194 rfl Tryz.results194 Tryz.ntmps194 rfl<|.sr<|.ag rfl<|.z<|.mo rfl<|.mo rfl<|.callR (indexF_spec f caps p v l _ h.rx λ s hs R' hR => hf s hs R' λ b o hb => hR b o (.inl hb)) (λ u hu => ?_)
 obtain ⟨k, rfl, hk⟩ := hu
 have hkk : decide (0 <= k) = l.any p := by
  rcases hk with ⟨i, x, h1, h2, _, rfl⟩ | ⟨h1, rfl⟩
  ·rw [List.any_eq_true.2 ⟨x, mog h1, h2⟩]; simp
  ·rw [List.any_eq_false.2 λ y hy => by rw [h1 y hy]; simp]; rfl
 refine .q .geq<|.az rfl<|.ret (rq1 rfl ?_)
 ·exact ⟨by simp only [hkk], rfl⟩
end LTY
namespace LSC
theorem clone_spec (v : Value) (xs : List Sc) (R : Rds) (h : RS R 4 Sc.enc v xs) (hl : xs.length <= 1000000) :
  Spec prog 162 [v] R [] λ v' H' => ∃ T, H' = [T] /\ OS 209 4 Sc.enc v' xs T := by
 obtain ⟨pr, cap, rfl⟩ := h.val
 have hx : ∀ H, RS (Rx R H) 4 Sc.enc (.slice pr xs.length cap) xs := λ H => h.rx
 refine Spec.segs (H' := [[]]) (by simp)<|Spec.body Tryz.func162 rfl Tryz.results162 Tryz.ntmps162 rfl<|.sr<|.ag rfl<|.zs<|.sr<|.mo rfl<|.q (.eqNilS rfl rfl)<|.zn<|.cond rfl (λ h1 => ?_) λ h1 => ?_
 refine .sr<|.az rfl<|.ret (seqQ_r (retQ_r _ (.one (.tmp rfl)) (.one [0] _) ?_))
 ·obtain rfl : pr = none := by simpa using h1
  have := h.none_nil
  subst this
  exact ⟨[], rfl, OS.nil⟩
 refine .kn<|.sr ?_
 refine .buildSlice0 (λ b5 => ?_)
 refine .mo rfl ?_
 refine .append (OS.empty (enc := Sc.enc) (sz := 4)) (hx _) (by simp; omega) (λ v' T' h3 => ?_)
 refine .az rfl<|.ret (retQ_r _ (.one (.tmp rfl)) (.one [0] _) ?_)
 ·exact ⟨T', by simp [take], by simpa using h3⟩
theorem indexF_spec (f : FuncId) (caps : List Value) [e : Ent prog f] (p : Sc -> Bool) (v : Value) (l : List Sc) (R : Rds) (h : RS R 4 Sc.enc v l) (hf : ∀ s ∈ l, ∀ R', (∀ b o, R b o -> R' b o) -> Spec prog f ((λ t : Sc => Value.agg t.enc.toArray) s :: caps) R' [] λ u H' => u = .bool (p s) /\ H' = []) :
  Spec prog 249 [v, .func (.func f) #[] caps.toArray] R [] λ u H' => (∃ k : Int, u = .int .i64 k /\ ((∃ (i : Nat) (x : Sc), l[i]? = some x /\ p x = true /\ (∀ j y, j < i -> l[j]? = some y -> p y = false) /\ k = i) \/ ((∀ y ∈ l, p y = false) /\ k = -1))) /\ H' = [] := by
 have hle := h.le
 refine Spec.body Tryz.func249 rfl Tryz.results249 Tryz.ntmps249 rfl<|.sr<|.ag rfl<|.zs<|.sr<|.mo rfl<|.q (.lenR h)<|.mo rfl<|.zn<|.block<|.loop (X := Nat) (λ i => i <= l.length /\ ∀ j z, j < i -> l[j]? = some z -> p z = false) (λ i => [(0, v), (1, .func (.func f) #[] caps.toArray), (7, .int .i64 l.length), (8, iN i)]) (λ _ => []) (λ i => l.length - i) 0 ⟨by omega, by omega⟩ kE.c.c.c.c rH ?_
 rintro i ⟨hi, hn⟩
 refine .sr<|.q .lss<|.zs<|.cond rfl (λ h1 => ?_) λ h1 => ?_
 have hlt : i < l.length := by simp at h1; omega
 obtain ⟨z, hz⟩ := exg hlt
 have hzm := mog hz
 have hzo := (⟨h.one z hzm⟩ : Ones (Sc.enc z))
 refine .kn<|.seq<|.block<|.sr<|.mo rfl<|.ag rfl<|.z<|.mo rfl<|.mo rfl<|.mo rfl ?_
 refine .indexR i h hz (λ pz => ?_)
 refine .q (.loadA rfl)<|.callRV (first := []) (captured := caps) (vs := [(λ t : Sc => Value.agg t.enc.toArray) z]) (hf z hzm _ λ b o hb => .inl hb) (λ u hu => ?_)
 subst hu
 refine .zn<|.cond rfl (λ h2 => ?_) λ h2 => ?_
 refine .sr<|.mo rfl<|.az rfl<|.ret (blkQ_r (seqQ_r (loopQ_r (blkQ_r (seqQ_r (rq1 rfl ?_))))))
 ·exact ⟨⟨_, rfl, .inl ⟨i, z, hz, h2, hn, rfl⟩⟩, rfl⟩
 refine .skip<|blkQ_n<|seqQ_n<|.region<|.q (.inc (n := i) (by omega))<|.mo rfl<|.nil ?_
 ·exact loopQ_i (i + 1) ⟨by omega, λ j y hj hy => by
   rcases Nat.lt_or_ge j i with hh | hh
   ·exact hn j y hh hy
   ·obtain rfl : j = i := by omega
    rw [hz] at hy; cases hy; exact h2⟩ (by omega) kE.c.c.c.c rH
 refine .exit<|seqQ_x<|loopQ_x<|blkQ_x<|seqQ_n<|.sr<|.az rfl<|.ret (rq1 rfl ?_)
 ·have he : i = l.length := by simp at h1; omega
  subst he
  refine ⟨⟨_, rfl, .inr ⟨λ y hy => ?_, rfl⟩⟩, rfl⟩
  obtain ⟨j, hj, rfl⟩ := List.mem_iff_getElem.1 hy
  exact hn j _ hj (gge hj)
theorem containsF_spec (f : FuncId) (caps : List Value) [e : Ent prog f] (p : Sc -> Bool) (v : Value) (l : List Sc) (R : Rds) (h : RS R 4 Sc.enc v l) (hf : ∀ s ∈ l, ∀ R', (∀ b o, R b o -> R' b o) -> Spec prog f ((λ t : Sc => Value.agg t.enc.toArray) s :: caps) R' [] λ u H' => u = .bool (p s) /\ H' = []) :
  Spec prog 197 [v, .func (.func f) #[] caps.toArray] R [] λ u H' => u = .bool (l.any p) /\ H' = [] := by
 refine Spec.body Tryz.func197 rfl Tryz.results197 Tryz.ntmps197 rfl<|.sr<|.ag rfl<|.z<|.mo rfl<|.mo rfl<|.callR (indexF_spec f caps p v l _ h.rx λ s hs R' hR => hf s hs R' λ b o hb => hR b o (.inl hb)) (λ u hu => ?_)
 obtain ⟨k, rfl, hk⟩ := hu
 have hkk : decide (0 <= k) = l.any p := by
  rcases hk with ⟨i, x, h1, h2, _, rfl⟩ | ⟨h1, rfl⟩
  ·rw [List.any_eq_true.2 ⟨x, mog h1, h2⟩]; simp
  ·rw [List.any_eq_false.2 λ y hy => by rw [h1 y hy]; simp]; rfl
 refine .q .geq<|.az rfl<|.ret (rq1 rfl ?_)
 ·exact ⟨by simp only [hkk], rfl⟩
end LSC
namespace LRE
theorem indexF_spec (f : FuncId) (caps : List Value) [e : Ent prog f] (p : RlM -> Bool) (v : Value) (l : List RlM) (R : Rds) (h : RS R 3 RlM.enc v l) (hf : ∀ s ∈ l, ∀ R', (∀ b o, R b o -> R' b o) -> Spec prog f ((λ t : RlM => Value.agg t.enc.toArray) s :: caps) R' [] λ u H' => u = .bool (p s) /\ H' = []) :
  Spec prog 232 [v, .func (.func f) #[] caps.toArray] R [] λ u H' => (∃ k : Int, u = .int .i64 k /\ ((∃ (i : Nat) (x : RlM), l[i]? = some x /\ p x = true /\ (∀ j y, j < i -> l[j]? = some y -> p y = false) /\ k = i) \/ ((∀ y ∈ l, p y = false) /\ k = -1))) /\ H' = [] := by
 have hle := h.le
 refine Spec.body Tryz.func232 rfl Tryz.results232 Tryz.ntmps232 rfl<|.sr<|.ag rfl<|.zs<|.sr<|.mo rfl<|.q (.lenR h)<|.mo rfl<|.zn<|.block<|.loop (X := Nat) (λ i => i <= l.length /\ ∀ j z, j < i -> l[j]? = some z -> p z = false) (λ i => [(0, v), (1, .func (.func f) #[] caps.toArray), (7, .int .i64 l.length), (8, iN i)]) (λ _ => []) (λ i => l.length - i) 0 ⟨by omega, by omega⟩ kE.c.c.c.c rH ?_
 rintro i ⟨hi, hn⟩
 refine .sr<|.q .lss<|.zs<|.cond rfl (λ h1 => ?_) λ h1 => ?_
 have hlt : i < l.length := by simp at h1; omega
 obtain ⟨z, hz⟩ := exg hlt
 have hzm := mog hz
 have hzo := (⟨h.one z hzm⟩ : Ones (RlM.enc z))
 refine .kn<|.seq<|.block<|.sr<|.mo rfl<|.ag rfl<|.z<|.mo rfl<|.mo rfl<|.mo rfl ?_
 refine .indexR i h hz (λ pz => ?_)
 refine .q (.loadA rfl)<|.callRV (first := []) (captured := caps) (vs := [(λ t : RlM => Value.agg t.enc.toArray) z]) (hf z hzm _ λ b o hb => .inl hb) (λ u hu => ?_)
 subst hu
 refine .zn<|.cond rfl (λ h2 => ?_) λ h2 => ?_
 refine .sr<|.mo rfl<|.az rfl<|.ret (blkQ_r (seqQ_r (loopQ_r (blkQ_r (seqQ_r (rq1 rfl ?_))))))
 ·exact ⟨⟨_, rfl, .inl ⟨i, z, hz, h2, hn, rfl⟩⟩, rfl⟩
 refine .skip<|blkQ_n<|seqQ_n<|.region<|.q (.inc (n := i) (by omega))<|.mo rfl<|.nil ?_
 ·exact loopQ_i (i + 1) ⟨by omega, λ j y hj hy => by
   rcases Nat.lt_or_ge j i with hh | hh
   ·exact hn j y hh hy
   ·obtain rfl : j = i := by omega
    rw [hz] at hy; cases hy; exact h2⟩ (by omega) kE.c.c.c.c rH
 refine .exit<|seqQ_x<|loopQ_x<|blkQ_x<|seqQ_n<|.sr<|.az rfl<|.ret (rq1 rfl ?_)
 ·have he : i = l.length := by simp at h1; omega
  subst he
  refine ⟨⟨_, rfl, .inr ⟨λ y hy => ?_, rfl⟩⟩, rfl⟩
  obtain ⟨j, hj, rfl⟩ := List.mem_iff_getElem.1 hy
  exact hn j _ hj (gge hj)
theorem containsF_spec (f : FuncId) (caps : List Value) [e : Ent prog f] (p : RlM -> Bool) (v : Value) (l : List RlM) (R : Rds) (h : RS R 3 RlM.enc v l) (hf : ∀ s ∈ l, ∀ R', (∀ b o, R b o -> R' b o) -> Spec prog f ((λ t : RlM => Value.agg t.enc.toArray) s :: caps) R' [] λ u H' => u = .bool (p s) /\ H' = []) :
  Spec prog 180 [v, .func (.func f) #[] caps.toArray] R [] λ u H' => u = .bool (l.any p) /\ H' = [] := by
 refine Spec.body Tryz.func180 rfl Tryz.results180 Tryz.ntmps180 rfl<|.sr<|.ag rfl<|.z<|.mo rfl<|.mo rfl<|.callR (indexF_spec f caps p v l _ h.rx λ s hs R' hR => hf s hs R' λ b o hb => hR b o (.inl hb)) (λ u hu => ?_)
 obtain ⟨k, rfl, hk⟩ := hu
 have hkk : decide (0 <= k) = l.any p := by
  rcases hk with ⟨i, x, h1, h2, _, rfl⟩ | ⟨h1, rfl⟩
  ·rw [List.any_eq_true.2 ⟨x, mog h1, h2⟩]; simp
  ·rw [List.any_eq_false.2 λ y hy => by rw [h1 y hy]; simp]; rfl
 refine .q .geq<|.az rfl<|.ret (rq1 rfl ?_)
 ·exact ⟨by simp only [hkk], rfl⟩
end LRE
namespace LND
theorem clone_spec (v : Value) (xs : List Nd) (R : Rds) (h : RS R 5 Nd.enc v xs) (hl : xs.length <= 1000000) :
  Spec prog 161 [v] R [] λ v' H' => ∃ T, H' = [T] /\ OS 168 5 Nd.enc v' xs T := by
 obtain ⟨pr, cap, rfl⟩ := h.val
 have hx : ∀ H, RS (Rx R H) 5 Nd.enc (.slice pr xs.length cap) xs := λ H => h.rx
 refine Spec.segs (H' := [[]]) (by simp)<|Spec.body Tryz.func161 rfl Tryz.results161 Tryz.ntmps161 rfl<|.sr<|.ag rfl<|.zs<|.sr<|.mo rfl<|.q (.eqNilS rfl rfl)<|.zn<|.cond rfl (λ h1 => ?_) λ h1 => ?_
 refine .sr<|.az rfl<|.ret (seqQ_r (retQ_r _ (.one (.tmp rfl)) (.one [0] _) ?_))
 ·obtain rfl : pr = none := by simpa using h1
  have := h.none_nil
  subst this
  exact ⟨[], rfl, OS.nil⟩
 refine .kn<|.sr ?_
 refine .buildSlice0 (λ b5 => ?_)
 refine .mo rfl ?_
 refine .append (OS.empty (enc := Nd.enc) (sz := 5)) (hx _) (by simp; omega) (λ v' T' h3 => ?_)
 refine .az rfl<|.ret (retQ_r _ (.one (.tmp rfl)) (.one [0] _) ?_)
 ·exact ⟨T', by simp [take], by simpa using h3⟩
end LND
section
variable {c : Cf} {num : List Nat} {sub : Obr -> List Sub} {k : Obr}
theorem AtEnd.ex {B : Nat} (h : ∀ i, (opened c num sub k i).1.length <= B) : ∃ N, AtEnd c num sub k N := by
 have key : ∀ m, (∃ N, N <= m /\ AtEnd c num sub k N) \/ ∀ j, j <= m -> j < (opened c num sub k j).1.length := by
  intro m
  induction m with
  | zero =>
   refine .inr λ j hj => ?_
   obtain rfl : j = 0 := by omega
   simp [opened]
  | succ m ih =>
   rcases ih with ⟨N, h1, h2⟩ | ih
   ·exact .inl ⟨N, by omega, h2⟩
   ·by_cases h1 : m + 1 < (opened c num sub k (m + 1)).1.length
    ·exact .inr λ j hj => by
      rcases Nat.lt_or_ge j (m + 1) with h2 | h2
      ·exact ih j (by omega)
      ·obtain rfl : j = m + 1 := by omega
       exact h1
    ·exact .inl ⟨m + 1, Nat.le_refl _, by omega, λ j hj => ih j (by omega)⟩
 rcases key (B + 1) with ⟨N, _, h1⟩ | h1
 ·exact ⟨N, h1⟩
 ·have := h1 (B + 1) (Nat.le_refl _)
  have := h (B + 1)
  omega
def disc (c : Cf) (num : List Nat) (sub : Obr -> List Sub) (k : Obr) (b : Int) (can : Bool) (N : Nat) : List Plc × Nat × Int :=
 if b < 1 then ([], 0, 2) else if can = false then ([], 0, 12)
 else if (((opened c num sub k N).1.length + (opened c num sub k N).2 : Nat) : Int) <= b then ((opened c num sub k N).1, (opened c num sub k N).2, 0) else ([], 0, 16)
theorem fresh_grown {P : Obr -> Prop} {a b : List Plc} (h : Grown c num P a b) {i : Nat} (ha : ∀ j p, i <= j -> a[j]? = some p -> p = one c num p.k) : ∀ j p, i <= j -> b[j]? = some p -> p = one c num p.k := by
 obtain ⟨⟨l, rfl, hl⟩, _⟩ := h
 intro j p hj hp
 rcases Nat.lt_or_ge j a.length with h1 | h1
 ·rw [List.getElem?_append_left h1] at hp
  exact ha j p hj hp
 ·rw [List.getElem?_append_right h1] at hp
  exact (hl p (mog hp)).2
theorem opened_fresh : ∀ (i : Nat) (j : Nat) (p : Plc), i <= j -> (opened c num sub k i).1[j]? = some p -> p = one c num p.k
 | 0, j, p, _, hp => by
  have := mog hp
  simp only [opened, List.mem_singleton] at this
  subst this
  rw [one_k]
 | i + 1, j, p, hj, hp => by
  have ih := λ j p hj hp => opened_fresh i j p hj hp
  change (openP c num sub (opened c num sub k i).1 i).1[j]? = some p at hp
  unfold openP at hp
  split at hp
  ·exact ih j p (by omega) hp
  ·rw [List.getElem?_set_ne (by omega)] at hp
   exact fresh_grown (addNs_grown _ _ _) ih j p (by omega) hp
theorem openP_nf {ps : List Plc} {i : Nat} {p : Plc} (hp : ps[i]? = some p) (h1 : p = one c num p.k) (hf : p.found = false) : openP c num sub ps i = (ps, 0) := by
 have hn : p.nodes = [] := by rw [h1]; exact one_nf (by rw [<- h1]; exact hf)
 have hu : p.users = [] /\ p.leads = [] := by
  rw [h1]
  unfold one
  split <;> exact ⟨rfl, rfl⟩
 obtain ⟨u1, u2⟩ := hu
 obtain ⟨k, f, n, m, u, l⟩ := p
 simp only at u1 u2 hn hf
 subst u1 u2 hn hf
 unfold openP
 rw [hp]
 simp only [addNs, Bool.false_eq_true, if_false]
 refine Prod.ext ?_ rfl
 refine List.ext_getElem? λ j => ?_
 rw [List.getElem?_set]
 split
 ·rename_i e; subst e
  have := (List.getElem?_eq_some_iff.1 hp).1
  rw [if_pos this, hp]
 ·rfl
theorem addKs_snoc : ∀ (ks : List Obr) (ps : List Plc) (x : Obr), addKs c num ps (ks ++ [x]) = ((addK c num (addKs c num ps ks).1 x).1, (addKs c num ps ks).2 ++ [(addK c num (addKs c num ps ks).1 x).2])
 | [], ps, x => rfl
 | y :: ks, ps, x => by
  rw [List.cons_append, addKs, addKs_snoc ks _ x]
  rfl
theorem addNs_snoc (y : Obr) : ∀ (ns : List Nd) (ps : List Plc) (n : Nd), addNs c num sub y ps (ns ++ [n]) = ((addKs c num (addNs c num sub y ps ns).1 (aheadK c sub y n)).1, (addNs c num sub y ps ns).2 ++ [(addKs c num (addNs c num sub y ps ns).1 (aheadK c sub y n)).2])
 | [], ps, n => rfl
 | m :: ns, ps, n => by
  rw [List.cons_append, addNs, addNs_snoc y ns _ n]
  rfl
theorem addKs_take {ks : List Obr} {i : Nat} {x : Obr} (h : ks[i]? = some x) (ps : List Plc) : addKs c num ps (ks.take (i + 1)) = ((addK c num (addKs c num ps (ks.take i)).1 x).1, (addKs c num ps (ks.take i)).2 ++ [(addK c num (addKs c num ps (ks.take i)).1 x).2]) := by
 rw [show ks.take (i + 1) = ks.take i ++ [x] by rw [List.take_add_one, h]; rfl, addKs_snoc]
theorem addNs_take {ns : List Nd} {i : Nat} {n : Nd} (h : ns[i]? = some n) (y : Obr) (ps : List Plc) : addNs c num sub y ps (ns.take (i + 1)) = ((addKs c num (addNs c num sub y ps (ns.take i)).1 (aheadK c sub y n)).1, (addNs c num sub y ps (ns.take i)).2 ++ [(addKs c num (addNs c num sub y ps (ns.take i)).1 (aheadK c sub y n)).2]) := by
 rw [show ns.take (i + 1) = ns.take i ++ [n] by rw [List.take_add_one, h]; rfl, addNs_snoc]
theorem addKs_app : ∀ (a b : List Obr) (ps : List Plc), (addKs c num ps (a ++ b)).1 = (addKs c num (addKs c num ps a).1 b).1
 | [], b, ps => rfl
 | x :: a, b, ps => by rw [List.cons_append, addKs, addKs]; exact addKs_app a b _
theorem addNs_app (y : Obr) : ∀ (a b : List Nd) (ps : List Plc), (addNs c num sub y ps (a ++ b)).1 = (addNs c num sub y (addNs c num sub y ps a).1 b).1
 | [], b, ps => rfl
 | x :: a, b, ps => by rw [List.cons_append, addNs, addNs]; exact addNs_app y a b _
theorem addKs_le (ks : List Obr) (i : Nat) (ps : List Plc) : (addKs c num ps (ks.take i)).1.length <= (addKs c num ps ks).1.length := by
 have h := addKs_app (c := c) (num := num) (ks.take i) (ks.drop i) ps
 rw [List.take_append_drop] at h
 rw [h]
 exact (addKs_grown _ _).len
theorem addNs_le (y : Obr) (ns : List Nd) (i : Nat) (ps : List Plc) : (addNs c num sub y ps (ns.take i)).1.length <= (addNs c num sub y ps ns).1.length := by
 have h := addNs_app (c := c) (num := num) (sub := sub) y (ns.take i) (ns.drop i) ps
 rw [List.take_append_drop] at h
 rw [h]
 exact (addNs_grown _ _ _).len
theorem addKs_ge (ks : List Obr) (ps : List Plc) : ps.length <= (addKs c num ps ks).1.length := (addKs_grown _ _).len
theorem addNs_ge (y : Obr) (ns : List Nd) (ps : List Plc) : ps.length <= (addNs c num sub y ps ns).1.length := (addNs_grown _ _ _).len
def seenL (a : List Nat) (l : List Nat) : List Nat := l.foldl (λ a x => if x ∈ a then a else a ++ [x]) a
theorem seenL_app (a l m : List Nat) : seenL a (l ++ m) = seenL (seenL a l) m := List.foldl_append
theorem seenL_one (a : List Nat) (x : Nat) : seenL a [x] = if x ∈ a then a else a ++ [x] := rfl
theorem seenL_take {l : List Nat} {i x : Nat} (h : l[i]? = some x) (a : List Nat) : seenL a (l.take (i + 1)) = if x ∈ seenL a (l.take i) then seenL a (l.take i) else seenL a (l.take i) ++ [x] := by
 rw [show l.take (i + 1) = l.take i ++ [x] by rw [List.take_add_one, h]; rfl, seenL_app, seenL_one]
theorem openP_eq {ps : List Plc} {i : Nat} {p : Plc} (hp : ps[i]? = some p) : openP c num sub ps i = ((addNs c num sub p.k ps p.nodes).1.set i { p with users := if p.found then usersOf c sub p.k else [], leads := (addNs c num sub p.k ps p.nodes).2 }, ndiff (addNs c num sub p.k ps p.nodes).2.flatten) := by unfold openP; rw [hp]
theorem opened_succ (i : Nat) : opened c num sub k (i + 1) = ((openP c num sub (opened c num sub k i).1 i).1, (opened c num sub k i).2 + (openP c num sub (opened c num sub k i).1 i).2) := rfl
end
set_option linter.unusedSimpArgs false
theorem SOK.new0 : SOK ⟨[], 0, 0⟩ := ⟨by simp, by simp, by simp, by simp, by simp, by simp⟩
section
variable {c : Cf} {num : List Nat} {sub : Obr -> List Sub} {k : Obr}
theorem addKs_led : ∀ (ks : List Obr) (ps : List Plc) (j : Nat), ps.length <= j -> j < (addKs c num ps ks).1.length -> j ∈ (addKs c num ps ks).2
 | [], ps, j, h1, h2 => absurd h2 (by rw [addKs]; simp only; omega)
 | k :: ks, ps, j, h1, h2 => by
  rw [addKs] at h2 ⊢
  simp only at h2 ⊢
  rcases Nat.lt_or_ge j (addK c num ps k).1.length with h3 | h3
  ·refine List.mem_cons.2 (.inl ?_)
   unfold addK at h3 ⊢
   split at h3
   ·exact absurd h3 (by simp only; omega)
   ·rename_i e
    simp only [List.length_append, List.length_singleton] at h3 ⊢
    omega
  ·exact List.mem_cons_of_mem _ (addKs_led ks _ j h3 h2)
theorem addNs_led (x : Obr) : ∀ (ns : List Nd) (ps : List Plc) (j : Nat), ps.length <= j -> j < (addNs c num sub x ps ns).1.length -> j ∈ (addNs c num sub x ps ns).2.flatten
 | [], ps, j, h1, h2 => absurd h2 (by rw [addNs]; simp only; omega)
 | n :: ns, ps, j, h1, h2 => by
  rw [addNs] at h2 ⊢
  simp only at h2 ⊢
  rw [List.flatten_cons, List.mem_append]
  rcases Nat.lt_or_ge j (addKs c num ps (aheadK c sub x n)).1.length with h3 | h3
  ·exact .inl (addKs_led _ ps j h1 h3)
  ·exact .inr (addNs_led x ns _ j h3 h2)
theorem opened_led : ∀ (i : Nat), (∀ j, j < i -> j < (opened c num sub k j).1.length) -> ∀ j, 0 < j -> j < (opened c num sub k i).1.length -> ∃ i' p, i' < i /\ (opened c num sub k i).1[i']? = some p /\ j ∈ p.leads.flatten
 | 0, _, j, h1, h2 => absurd h2 (by simp only [opened, List.length_singleton]; omega)
 | i + 1, h, j, h1, h2 => by
  have hi := h i (Nat.lt_succ_self i)
  obtain ⟨p, hp⟩ := exg hi
  obtain ⟨⟨l, hl, _⟩, _⟩ := addNs_grown (c := c) (num := num) (sub := sub) p.k p.nodes (opened c num sub k i).1
  rw [opened_succ] at h2 ⊢
  simp only at h2 ⊢
  rw [openP_eq hp] at h2 ⊢
  simp only at h2 ⊢
  rw [List.length_set] at h2
  rcases Nat.lt_or_ge j (opened c num sub k i).1.length with h3 | h3
  ·obtain ⟨i', q, hi', hq, hj⟩ := opened_led i (λ j hj => h j (by omega)) j h1 h3
   refine ⟨i', q, by omega, ?_, hj⟩
   rw [List.getElem?_set_ne (by omega), hl, List.getElem?_append_left (by omega)]
   exact hq
  ·refine ⟨i, _, Nat.lt_succ_self i, List.getElem?_set_self (by rw [hl, List.length_append]; omega), ?_⟩
   exact addNs_led _ _ _ j h3 h2
theorem opened_first : ∀ (i : Nat), ((opened c num sub k i).1.map (·.k))[0]? = some k
 | 0 => by simp [opened, one_k]
 | i + 1 => by
  have ih := opened_first i
  rw [opened_succ]
  simp only
  cases hp : (opened c num sub k i).1[i]? with
  | none =>
   unfold openP
   rw [hp]
   exact ih
  | some p =>
   obtain ⟨⟨l, hl, _⟩, _⟩ := addNs_grown (c := c) (num := num) (sub := sub) p.k p.nodes (opened c num sub k i).1
   rw [openP_eq hp]
   simp only
   rw [List.map_set, hl, List.map_append]
   have h0 : 0 < ((opened c num sub k i).1.map (·.k)).length := (List.getElem?_eq_some_iff.1 ih).1
   have hk : ((opened c num sub k i).1.map (·.k) ++ l.map (·.k)).set i p.k = (opened c num sub k i).1.map (·.k) ++ l.map (·.k) := by
    refine List.ext_getElem? λ z => ?_
    rw [List.getElem?_set]
    split
    ·rename_i e
     subst e
     have hil := (List.getElem?_eq_some_iff.1 hp).1
     rw [List.getElem?_append_left (by rw [List.length_map]; exact hil), List.getElem?_map, hp]
     simp; omega
    ·rfl
   rw [hk, List.getElem?_append_left h0]
   exact ih
end
end Go.Proofs.YtenilfmlfldogaaGreat
