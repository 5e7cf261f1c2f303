/- The engine, part 2: operations; over any program, no condition. -/
import Derived.Test.YtlmdgdehjpahiaaEng
set_option linter.unusedVariables false
namespace Go.Proofs.Ytlmdgdehjpahiaa

class Und (P : Program) (t : TypeId) (d : outParam TypeDesc) : Prop where h : P.underlying t = some d
class Sz (P : Program) (t : TypeId) (n : outParam Nat) : Prop where h : ∀ w, (sizeOf t).run P w = .ok n w
class Zr (P : Program) (t : TypeId) (v : outParam Value) : Prop where h : ∀ w, (zeroValue t).run P w = .ok v w
class Agg (P : Program) (t : TypeId) (b : outParam Bool) : Prop where h : ∀ w, (isAgg t).run P w = .ok b w
class By (P : Program) (t : TypeId) (n : outParam Nat) : Prop where h : ∀ w, ∃ i, (typeInfo t).run P w = .ok i w ∧ i.bytes = n
class Fld (P : Program) (s : TypeId) (f : Nat) (off : outParam Nat) : Prop where
  h : ∀ (a : Addr) w, (Instr.fieldAt s (.pointer (some a)) f).run P w = .ok (.pointer (some (a.add off))) w
class Ent (P : Program) (f : FuncId) : Prop where h : ∀ (args : Array Value) (w : World), (callFunc f args).run P w = .ok (.enter f args) w

theorem Fld.of {P : Program} {s : TypeId} {fs : Array Field} {f : Nat} {fd : Field} {n off : Nat} (hu : P.underlying s = some (.struct fs)) (hf : fs[f]? = some fd)
    (hs : ∀ w, (sizeOf fd.type).run P w = .ok n w) (hn : (n == 0) = false) (ho : fd.offset = off) : Fld P s f off := ⟨fun a w => by
  have hn' : n ≠ 0 := by simpa using hn
  simp [Instr.fieldAt, run_underlying hu, hf, Instr.sureAddr, fieldPlace, hs, hn', ho]⟩

def Quiet (P : Program) (R : Rds) (env : Env) (H : Segs) (op : Op) (ty : TypeId) (v : Value) : Prop :=
  ∀ (a : Act) (w : World) (d : Option Tmp) (pos : String) (af : Array Edge) (g : Option (Nat × Bool)), EnvOK a env → Sat w H → RO w R H → (execOp a.eval ⟨d, op, ty, pos, af, g⟩).run P w = .ok (.value v) w

/-- A row of operations: still: they leave the world alone. -/
def TriOps (m : Bool) (P : Program) (N : Nat) (R : Rds) (ops : Array Oper) (l : List Oper) (env : Env) (H : Segs) (K : Env → Segs → Prop) : Prop :=
  ∀ (Q' : Exit → Act → World → Prop) (w0 : World) (H0 : Segs), (∀ env' H' a' w', K env' H' → St N R a' w' env' H' w0 H0 → Q' .normal a' w') →
    ∀ a w, St N R a w env H w0 H0 → match m with
      | true => wpStill P ops w (fun a' => Q' .normal a' w) l a
      | false => wpList P ops Q' l a w

section
variable {P : Program} {N : Nat} {R : Rds} {ops : Array Oper} {l : List Oper} {env : Env} {H : Segs} {K : Env → Segs → Prop} {Q : Exit → Env → Segs → Prop} {m : Bool}

theorem Tri.region {id : Nat} (h : TriOps false P N R l.toArray l env H (Q .normal)) : Tri P N R (.region id l.toArray false) env H Q :=
  fun Q' w0 H0 hQ a w s => wp_region_lit (h Q' w0 H0 (fun env' H' a' w' hk s' => hQ _ _ _ _ _ hk s') a w s)

theorem Tri.region_still {id : Nat} (hm : P.follows .mixedOrders = true) (hB : Region.lexB .any l.toArray = true) (h : TriOps true P N R l.toArray l env H (Q .normal)) : Tri P N R (.region id l.toArray true) env H Q :=
  fun Q' w0 H0 hQ a w s => wp_region_still_lit hm hB (h Q' w0 H0 (fun env' H' a' w' hk s' => hQ _ _ _ _ _ hk s') a _ (s.step (Frame.drew w H _) (s.sat.drew _)))

theorem Tri.region_tail {id : Nat} (n : Nat) (hm : P.follows .mixedOrders = true) (hB : Region.lexTailB .any l.toArray n = true)
    (h : TriOps true P N R l.toArray (l.take n) env H fun env' H' => TriOps false P N R l.toArray (l.drop n) env' H' (Q .normal)) : Tri P N R (.region id l.toArray true) env H Q :=
  fun Q' w0 H0 hQ a w s => wp_region_still_tail n hm hB (h (fun _ a' w' => wpList P l.toArray Q' (l.drop n) a' w') w0 H0
    (fun env' H' a' w' hk s' => hk Q' w0 H0 (fun env' H' a' w' hk s' => hQ _ _ _ _ _ hk s') a' w' s') a _ (s.step (Frame.drew w H _) (s.sat.drew _)))

theorem TriOps.nil (h : K env H) : TriOps m P N R ops [] env H K := fun Q' w0 H0 hQ a w s => by
  cases m
  · exact wpList_nil (hQ _ _ _ _ h s)
  · exact wpStill_nil (hQ _ _ _ _ h s)

theorem TriOps.q {d : Nat} {op : Op} {ty : TypeId} {pos : String} {af : Array Edge} {v : Value} (hq : Quiet P R env H op ty v) (hn : TriOps m P N R ops l ((d, v) :: env) H K) (hd : Nat.blt d N = true := by rfl) :
    TriOps m P N R ops (⟨some d, op, ty, pos, af, none⟩ :: l) env H K := fun Q' w0 H0 hQ a w s => by
  have hr := hq a w (some d) pos af none s.env s.sat s.ro
  have hn' := hn Q' w0 H0 hQ _ w (s.put v hd)
  cases m
  · simp only [wpList, Region.wanted, if_true]
    exact .inl (by rw [Oper.wp, hr]; exact hn')
  · simp only [wpStill, Region.wanted, if_true]
    rw [Oper.still, hr]
    exact ⟨rfl, hn'⟩

/-- What leaves no value of use: a nil check's, say, that nobody reads. -/
def gdst (ops : Array Oper) (j : Nat) : Option Nat := (ops[j]?).bind (·.dst)

theorem yielded_env {a : Act} {j t : Nat} {b : Bool} (he : EnvOK a env) (hj : gdst ops j = some t) (hv : Env.get? env t = some (.bool b)) : yielded ops a.tmps j = some b := by
  unfold gdst at hj
  simp [yielded, hj, he t _ hv]

theorem TriOps.gt {j t : Nat} {want : Bool} {dst : Option Nat} {op : Op} {ty : TypeId} {pos : String} {af : Array Edge} (hv : Env.get? env t = some (.bool want)) (hn : TriOps m P N R ops (⟨dst, op, ty, pos, af, none⟩ :: l) env H K) (hj : gdst ops j = some t := by rfl) :
    TriOps m P N R ops (⟨dst, op, ty, pos, af, some (j, want)⟩ :: l) env H K := fun Q' w0 H0 hQ a w s => by
  have hw : Region.wanted ⟨dst, op, ty, pos, af, some (j, want)⟩ (yielded ops a.tmps) = true := by
    simp [Region.wanted, yielded_env s.env hj hv]
  have h := hn Q' w0 H0 hQ a w s
  cases m
  · simp only [wpList] at h ⊢
    rw [if_pos hw]
    rw [if_pos (by simp [Region.wanted])] at h
    exact h
  · simp only [wpStill] at h ⊢
    rw [if_pos hw]
    rw [if_pos (by simp [Region.wanted])] at h
    exact h

theorem TriOps.gf {j t d : Nat} {want b : Bool} {op : Op} {ty : TypeId} {pos : String} {af : Array Edge} (hv : Env.get? env t = some (.bool b)) (hb : (b == want) = false) (hn : TriOps m P N R ops l ((d, undef) :: env) H K) (hj : gdst ops j = some t := by rfl) (hd : Nat.blt d N = true := by rfl) :
    TriOps m P N R ops (⟨some d, op, ty, pos, af, some (j, want)⟩ :: l) env H K := fun Q' w0 H0 hQ a w s => by
  have hw : ¬ Region.wanted ⟨some d, op, ty, pos, af, some (j, want)⟩ (yielded ops a.tmps) = true := by
    have hne : ¬ b = want := by simpa using hb
    simp [Region.wanted, yielded_env s.env hj hv, hne]
  have h := hn Q' w0 H0 hQ _ w (s.put undef hd)
  cases m
  · simp only [wpList]
    rw [if_neg hw]
    exact h
  · simp only [wpStill]
    rw [if_neg hw]
    exact h

theorem TriOps.gf0 {j t : Nat} {want b : Bool} {op : Op} {ty : TypeId} {pos : String} {af : Array Edge} (hv : Env.get? env t = some (.bool b)) (hb : (b == want) = false) (hn : TriOps m P N R ops l env H K) (hj : gdst ops j = some t := by rfl) :
    TriOps m P N R ops (⟨none, op, ty, pos, af, some (j, want)⟩ :: l) env H K := fun Q' w0 H0 hQ a w s => by
  have hw : ¬ Region.wanted ⟨none, op, ty, pos, af, some (j, want)⟩ (yielded ops a.tmps) = true := by
    have hne : ¬ b = want := by simpa using hb
    simp [Region.wanted, yielded_env s.env hj hv, hne]
  have h := hn Q' w0 H0 hQ a w s
  cases m
  · simp only [wpList]
    rw [if_neg hw]
    exact h
  · simp only [wpStill]
    rw [if_neg hw]
    exact h

/-- An operation that changes the world. -/
theorem TriOps.eff {d : Nat} {op : Op} {ty : TypeId} {pos : String} {af : Array Edge} (hd : Nat.blt d N = true)
    (h : ∀ a w, EnvOK a env → Sat w H → RO w R H → ∃ v w' H', (execOp a.eval ⟨some d, op, ty, pos, af, none⟩).run P w = .ok (.value v) w' ∧ Frame w H w' H' ∧ Sat w' H' ∧ TriOps false P N R ops l ((d, v) :: env) H' K) :
    TriOps false P N R ops (⟨some d, op, ty, pos, af, none⟩ :: l) env H K := fun Q' w0 H0 hQ a w s => by
  obtain ⟨v, w', H', hr, hf, hs, hn⟩ := h a w s.env s.sat s.ro
  simp only [wpList, Region.wanted, if_true]
  exact .inl (by rw [Oper.wp, hr]; exact hn Q' w0 H0 hQ _ w' ((s.step hf hs).put v hd))

theorem TriOps.eff0 {op : Op} {ty : TypeId} {pos : String} {af : Array Edge}
    (h : ∀ a w, EnvOK a env → Sat w H → RO w R H → ∃ w' H', ((execOp a.eval ⟨none, op, ty, pos, af, none⟩).run P w = .ok .skip w' ∨ ∃ v, (execOp a.eval ⟨none, op, ty, pos, af, none⟩).run P w = .ok (.value v) w') ∧ Frame w H w' H' ∧ Sat w' H' ∧ TriOps false P N R ops l env H' K) :
    TriOps false P N R ops (⟨none, op, ty, pos, af, none⟩ :: l) env H K := fun Q' w0 H0 hQ a w s => by
  obtain ⟨w', H', hr, hf, hs, hn⟩ := h a w s.env s.sat s.ro
  simp only [wpList, Region.wanted, if_true]
  refine .inl ?_
  rcases hr with hr | ⟨v, hr⟩
  · rw [Oper.wp, hr]; exact hn Q' w0 H0 hQ _ w' (s.step hf hs)
  · rw [Oper.wp, hr]; exact hn Q' w0 H0 hQ _ w' (s.step hf hs)

/-- Reading also what is owned and stays. -/
def Rx (R : Rds) (H : Segs) : Rds := fun b o => R b o ∨ (b, o) ∈ H.flatten

theorem sat_split {w : World} {is : List Nat} (s : Sat w H) : Sat w (take is H) ∧ Sat w (rest is H) ∧ ∀ p ∈ (take is H).flatten, ∀ q ∈ (rest is H).flatten, p.1 ≠ q.1 := by
  have hp := take_perm is H
  have hn := (hp.map (·.1)).nodup_iff.1 s.1
  rw [List.map_append, List.nodup_append] at hn
  refine ⟨⟨hn.1, fun p hm => s.2 p (hp.mem_iff.2 (List.mem_append_left _ hm))⟩, ⟨hn.2.1, fun p hm => s.2 p (hp.mem_iff.2 (List.mem_append_right _ hm))⟩, fun p h1 q h2 he => ?_⟩
  exact hn.2.2 p.1 (List.mem_map_of_mem h1) q.1 (List.mem_map_of_mem h2) he

theorem RO.split {w : World} {is : List Nat} (s : Sat w H) (r : RO w R H) : RO w (Rx R (rest is H)) (take is H) := by
  obtain ⟨s1, s2, s3⟩ := sat_split (is := is) s
  intro b o hb
  rcases hb with hb | hb
  · exact ⟨(r b o hb).1, fun p hp => (r b o hb).2 p ((take_perm is H).mem_iff.2 (List.mem_append_left _ hp))⟩
  · exact ⟨s2.2 _ hb, fun p hp he => s3 p hp _ hb he⟩

theorem sat_join {w w' : World} {is : List Nat} {H' : Segs} (s : Sat w H) (s' : Sat w' H') (f : Frame w (take is H) w' H') : Sat w' (H' ++ rest is H) ∧ Frame w H w' (H' ++ rest is H) := by
  obtain ⟨s1, s2, s3⟩ := sat_split (is := is) s
  have hlt : ∀ q ∈ (rest is H).flatten, q.1 < w.heap.size := fun q hq => lt_of_some (s2.2 q hq)
  have hdis : ∀ p ∈ H'.flatten, ∀ q ∈ (rest is H).flatten, p.1 ≠ q.1 := fun p hp q hq he => by
    rcases f.dom p hp with ⟨r, hr, hrp⟩ | hge
    · exact s3 r hr q hq (hrp.trans he)
    · have := hlt q hq; omega
  refine ⟨⟨?_, fun p hp => ?_⟩, ⟨f.le, fun b hb hn => ?_, fun p hp => ?_, f.os, f.output, f.tape⟩⟩
  · rw [List.flatten_append, List.map_append, List.nodup_append]
    refine ⟨s'.1, s2.1, fun x hx y hy he => ?_⟩
    obtain ⟨p, hp, rfl⟩ := List.mem_map.1 hx
    obtain ⟨q, hq, rfl⟩ := List.mem_map.1 hy
    exact hdis p hp q hq he
  · rw [List.flatten_append, List.mem_append] at hp
    rcases hp with hp | hp
    · exact s'.2 p hp
    · rw [f.keep p.1 (hlt p hp) (fun q hq he => s3 q hq p hp he)]
      exact s2.2 p hp
  · exact f.keep b hb fun p hp => hn p ((take_perm is H).mem_iff.2 (List.mem_append_left _ hp))
  · rw [List.flatten_append, List.mem_append] at hp
    rcases hp with hp | hp
    · rcases f.dom p hp with ⟨r, hr, hrp⟩ | hge
      · exact .inl ⟨r, (take_perm is H).mem_iff.2 (List.mem_append_left _ hr), hrp⟩
      · exact .inr hge
    · exact .inl ⟨p, (take_perm is H).mem_iff.2 (List.mem_append_right _ hp), rfl⟩

/-- A call of a function, by its contract: it is given the segments at 'is', and reads whatever else there is. -/
theorem TriOps.call_gen {dst : Option Nat} {op : Op} {ty : TypeId} {pos : String} {af : Array Edge} (is : List Nat) {f : FuncId} {vs : List Value} {Post : Value → Segs → Prop}
    (hx : ∀ a w, EnvOK a env → (execOp a.eval ⟨dst, op, ty, pos, af, none⟩).run P w = .ok (.enter f vs.toArray) w)
    (hs : Spec P f vs (Rx R (rest is H)) (take is H) Post)
    (hn : ∀ v H', Post v H' → match dst with
      | some d => Nat.blt d N = true ∧ TriOps false P N R ops l ((d, v) :: env) (H' ++ rest is H) K
      | none => TriOps false P N R ops l env (H' ++ rest is H) K) :
    TriOps false P N R ops (⟨dst, op, ty, pos, af, none⟩ :: l) env H K := fun Q' w0 H0 hQ a w s => by
  simp only [wpList, Region.wanted, if_true]
  refine .inl ?_
  rw [Oper.wp, hx a w s.env]
  obtain ⟨s1, s2, s3⟩ := sat_split (is := is) s.sat
  refine (hs w s1 (RO.split s.sat s.ro)).mono fun e w' ⟨v, H', he, hp, hs', hf⟩ => ?_
  subst he
  obtain ⟨j1, j2⟩ := sat_join s.sat hs' hf
  have hn' := hn v H' hp
  cases dst with
  | some d => exact hn'.2 Q' w0 H0 hQ _ w' ((s.step j2 j1).put v hn'.1)
  | none => exact hn' Q' w0 H0 hQ _ w' (s.step j2 j1)

theorem run_call {f : FuncId} [e : Ent P f] {xs : List Operand} {ats : Array TypeId} {vs : List Value} {dst : Option Nat} {ty : TypeId} {pos : String} {af : Array Edge} {g : Option (Nat × Bool)} (hxs : evs env xs = some vs) (a : Act) (w : World) (ha : EnvOK a env) :
    (execOp a.eval ⟨dst, .call ⟨.value (.func f), xs.toArray, ats⟩, ty, pos, af, g⟩).run P w = .ok (.enter f vs.toArray) w := by
  have h1 := ha.evalsA hxs
  simp only [execOp, resolve, h1, Act.eval, Deferred.ofValue]
  have := e.h vs.toArray w
  simp [invoke, this]

theorem TriOps.call {d : Nat} {ty : TypeId} {pos : String} {af : Array Edge} (is : List Nat) {f : FuncId} [e : Ent P f] {xs : List Operand} {ats : Array TypeId} {vs : List Value} {Post : Value → Segs → Prop}
    (hs : Spec P f vs (Rx R (rest is H)) (take is H) Post)
    (hn : ∀ v H', Post v H' → TriOps false P N R ops l ((d, v) :: env) (H' ++ rest is H) K) (hxs : evs env xs = some vs := by rfl) (hd : Nat.blt d N = true := by rfl) :
    TriOps false P N R ops (⟨some d, .call ⟨.value (.func f), xs.toArray, ats⟩, ty, pos, af, none⟩ :: l) env H K :=
  TriOps.call_gen is (fun a w ha => run_call hxs a w ha) hs (fun v H' hp => ⟨hd, hn v H' hp⟩)

theorem TriOps.call0 {ty : TypeId} {pos : String} {af : Array Edge} (is : List Nat) {f : FuncId} [e : Ent P f] {xs : List Operand} {ats : Array TypeId} {vs : List Value} {Post : Value → Segs → Prop}
    (hs : Spec P f vs (Rx R (rest is H)) (take is H) Post)
    (hn : ∀ v H', Post v H' → TriOps false P N R ops l env (H' ++ rest is H) K) (hxs : evs env xs = some vs := by rfl) :
    TriOps false P N R ops (⟨none, .call ⟨.value (.func f), xs.toArray, ats⟩, ty, pos, af, none⟩ :: l) env H K :=
  TriOps.call_gen is (fun a w ha => run_call hxs a w ha) hs (fun v H' hp => hn v H' hp)

/-- A call of a function value. -/
theorem TriOps.callV {d : Nat} {ty : TypeId} {pos : String} {af : Array Edge} (is : List Nat) {t : Nat} {f : FuncId} {first captured : List Value} [e : Ent P f] {xs : List Operand} {ats : Array TypeId} {vs : List Value} {Post : Value → Segs → Prop}
    (ht : Env.get? env t = some (.func (.func f) first.toArray captured.toArray))
    (hs : Spec P f (first ++ vs ++ captured) (Rx R (rest is H)) (take is H) Post)
    (hn : ∀ v H', Post v H' → TriOps false P N R ops l ((d, v) :: env) (H' ++ rest is H) K) (hxs : evs env xs = some vs := by rfl) (hd : Nat.blt d N = true := by rfl) :
    TriOps false P N R ops (⟨some d, .call ⟨.value (.tmp t), xs.toArray, ats⟩, ty, pos, af, none⟩ :: l) env H K :=
  TriOps.call_gen is (fun a w ha => by
    have h1 := ha.evalsA hxs
    have h2 : a.eval (.tmp t) = _ := ha.eval ht
    simp only [execOp, resolve, h1, h2, Deferred.ofValue]
    have := e.h (first ++ vs ++ captured).toArray w
    rw [← List.append_toArray, ← List.append_toArray] at this ⊢
    exact this) hs (fun v H' hp => ⟨hd, hn v H' hp⟩)
end
end Go.Proofs.Ytlmdgdehjpahiaa
