/- The engine, part 11: a row of operations whose order is open; lending what is owned to be read; over any program, no condition. -/
import Derived.Test.YtlmdgdehjpahiaaEngN
import Derived.IntWalk
set_option linter.unusedVariables false
namespace Go.Proofs.Ytlmdgdehjpahiaa

/-- Which operations are done. -/
def marked (n : Nat) : List Nat → Array Bool
  | [] => Array.replicate n false
  | i :: d => (marked n d).setIfInBounds i true
def RAq (Q' : Act → World → Prop) : Exit → Act → World → Prop
  | .normal, a, w => Q' a w
  | _, _, _ => False

/-- A set of operations that holds, with each, all that it waits for. -/
structure Clo (ops : Array Oper) (listed : Array Bool) : Prop where
  size : listed.size = ops.size
  cl : ∀ j oj, ops[j]? = some oj → listed.getD j false = true → ∀ e ∈ oj.after, Region.binds .any e = true → listed.getD e.on false = true
theorem Clo.set {ops : Array Oper} {listed : Array Bool} {i : Nat} (h : Clo ops listed) (hi : i ∈ Region.ready .any ops listed) : Clo ops (listed.setIfInBounds i true) := by
  obtain ⟨_, oi, hoi, hall⟩ := mem_ready.1 hi
  refine ⟨by simp [h.size], fun j oj hj hl e he hb => ?_⟩
  by_cases hij : i = j
  · subst hij
    have : oj = oi := Option.some.inj (hj.symm.trans hoi)
    subst this
    exact getD_set_true (hall e he hb)
  · rw [getD_set_ne false hij] at hl
    exact getD_set_true (h.cl j oj hj hl e he hb)
/-- Whether operation k waits for operation i, by whatever road. -/
def waitsT (ops : Array Oper) : Nat → Nat → Nat → Bool
  | 0, _, _ => false
  | f + 1, k, i => match ops[k]? with
    | some o => o.after.any fun e => Region.binds .any e && (Nat.beq e.on i || waitsT ops f e.on i)
    | none => false
theorem Clo.waits {ops : Array Oper} {listed : Array Bool} (h : Clo ops listed) {i : Nat} : ∀ (f k : Nat), waitsT ops f k i = true → listed.getD k false = true → listed.getD i false = true
  | 0, k, hw, _ => by simp [waitsT] at hw
  | f + 1, k, hw, hk => by
    unfold waitsT at hw
    cases ho : ops[k]? with
    | none => simp [ho] at hw
    | some o =>
      simp only [ho] at hw
      obtain ⟨e, he, h1⟩ := Array.any_eq_true'.1 hw
      simp only [Bool.and_eq_true, Bool.or_eq_true] at h1
      have h2 := h.cl k o ho hk e he h1.1
      rcases h1.2 with h3 | h3
      · rwa [Nat.eq_of_beq_eq_true h3] at h2
      · exact h.waits f e.on h3 h2
def Sup (listed listed' : Array Bool) : Prop := ∀ j, listed.getD j false = true → listed'.getD j false = true

/-- Whatever order is picked, and a condition that hangs on what is done holds behind every operation. -/
def wpAnyG (P : Program) (ops : Array Oper) (Q : Exit → Act → World → Prop) (S : Array Bool → World → Prop) : Nat → Array Bool → Act → World → Prop
  | 0, listed, a, w => Region.ready .any ops listed = [] ∧ Q .normal a w
  | fuel + 1, listed, a, w =>
    (Region.ready .any ops listed = [] → Q .normal a w) ∧
    ∀ i ∈ Region.ready .any ops listed, wpOp P ops Q i (fun a' w' => S (listed.setIfInBounds i true) w' ∧ wpAnyG P ops Q S fuel (listed.setIfInBounds i true) a' w') a w
theorem wpAny_of_G {P : Program} {ops : Array Oper} {Q : Exit → Act → World → Prop} {S : Array Bool → World → Prop} : ∀ (fuel : Nat) (listed : Array Bool) (a : Act) (w : World), wpAnyG P ops Q S fuel listed a w → wpAny P .any ops Q fuel listed a w
  | 0, _, _, _, h => h
  | fuel + 1, _, _, _, h => ⟨h.1, fun i hi => wpOp_mono (fun a' w' h' => wpAny_of_G fuel _ a' w' h'.2) (h.2 i hi)⟩
/-- The operation yields its value in every world that may come before it. -/
def YieldsG (P : Program) (ops : Array Oper) (S : Array Bool → World → Prop) (listed : Array Bool) (i : Nat) (o : Oper) (v : Value) (a : Act) : Prop :=
  (Region.wanted o (yielded ops a.tmps) = true ∧ ∀ l', Sup listed l' → Clo ops l' → l'.getD i true = false → ∀ w, S l' w → (execOp a.eval o).run P w = .ok (.value v) w) ∨
  (Region.wanted o (yielded ops a.tmps) = false ∧ v = undef)
section
variable {P : Program} {ops : Array Oper} {Q : Exit → Act → World → Prop} {S : Array Bool → World → Prop}
theorem YieldsG.sup {listed l' : Array Bool} {i : Nat} {o : Oper} {v : Value} {a : Act} (h : YieldsG P ops S listed i o v a) (hs : Sup listed l') : YieldsG P ops S l' i o v a :=
  h.imp (fun ⟨h1, h2⟩ => ⟨h1, fun l2 hl hc hi w hw => h2 l2 (fun j hj => hl j (hs j hj)) hc hi w hw⟩) id
theorem YieldsG.of_same {listed : Array Bool} {i : Nat} {o : Oper} {v : Value} {a a' : Act} (hy : YieldsG P ops S listed i o v a) (he : execOp a'.eval o = execOp a.eval o)
    (hw : Region.wanted o (yielded ops a'.tmps) = Region.wanted o (yielded ops a.tmps)) : YieldsG P ops S listed i o v a' := by
  unfold YieldsG at *
  rw [he, hw]
  exact hy
theorem YieldsG.wpOp {i : Nat} {o : Oper} {v : Value} {a : Act} {listed : Array Bool} (hi : ops[i]? = some o) (hy : YieldsG P ops S listed i o v a) (hc : Clo ops listed) (hl : listed.getD i true = false)
    {K : Act → World → Prop} {w : World} (hS : S listed w) (h : K (a.put o.dst v) w) : wpOp P ops Q i K a w := by
  unfold Go.wpOp
  simp only [hi]
  rcases hy with ⟨hw, hv⟩ | ⟨hw, rfl⟩
  · simp only [hw, if_true, Oper.wp, hv listed (fun _ h => h) hc hl w hS, Oper.upon]; exact .inl h
  · simp only [hw, Bool.false_eq_true, if_false]; exact h
theorem wpOp_putG {i j : Nat} {oi oj : Oper} {v : Value} {listed : Array Bool} (hj : ops[j]? = some oj) (hap : oi.apart ops oj = true)
    (hsi : ∀ cs b, oi.op ≠ .select cs b) (hsj : ∀ cs b, oj.op ≠ .select cs b)
    (hQ : ∀ c a w, Q (.panic c) (a.put oi.dst v) w → Q (.panic c) a w) {K : Act → World → Prop} {a : Act} {w : World}
    (hy : YieldsG P ops S listed i oi v a) (h : wpOp P ops Q j K (a.put oi.dst v) w) :
    wpOp P ops Q j (fun a' w' => YieldsG P ops S listed i oi v a' ∧ K (a'.put oi.dst v) w') a w := by
  obtain ⟨h1, h2, h3⟩ := Oper.apart_spec hap
  have keep : ∀ (a : Act), YieldsG P ops S listed i oi v a → ∀ u, YieldsG P ops S listed i oi v (a.put oj.dst u) := fun a hy u =>
    hy.of_same (execOp_put oi hsi a oj.dst u h3) (wanted_put oi a oj.dst u h3)
  have keepD : ∀ d, YieldsG P ops S listed i oi v { a with defers := d :: a.defers } := fun d => hy.of_same rfl rfl
  unfold Go.wpOp at *
  simp only [hj] at *
  rw [wanted_put oj a oi.dst v h1] at h
  split
  · rename_i hw
    simp only [hw, if_true] at h
    rcases h with h | ⟨hasks, hlets⟩
    case inr => exact .inr ⟨by unfold Oper.asks at *; rw [execOp_put oj hsj a oi.dst v h1] at hasks; exact hasks, hlets⟩
    refine .inl ?_
    unfold Oper.wp at *
    rw [execOp_put oj hsj a oi.dst v h1] at h
    generalize (execOp a.eval oj).run P w = r at *
    cases r with
    | ok n w' =>
      cases n <;> simp only [Oper.upon] at h ⊢
      case value u => exact ⟨keep a hy u, by rw [← Act.put_comm a v u h2]; exact h⟩
      case skip => exact ⟨keep a hy _, by rw [← Act.put_comm a v undef h2]; exact h⟩
      case defer d =>
        refine ⟨keep _ (keepD d) _, ?_⟩
        rw [← Act.put_comm _ v undef h2, ← Act.put_defers]
        exact h
      case enter f args =>
        refine Calls.mono h fun e w'' he => ?_
        cases e with
        | returned u => exact ⟨keep a hy u, by rw [← Act.put_comm a v u h2]; exact he⟩
        | panicked c => exact hQ _ _ _ he
        | outgrown => exact he
      case row row args => exact Rows.mono h fun u w'' he => ⟨keep a hy u, by rw [← Act.put_comm a v u h2]; exact he⟩
    | halt x w' =>
      cases x <;> simp only [Oper.upon] at h ⊢
      case panic u => exact hQ _ _ _ h
  · rename_i hw
    simp only [hw] at h
    exact ⟨keep a hy _, by rw [← Act.put_comm a v undef h2]; exact h⟩
theorem wpAnyG_first {i : Nat} {oi : Oper} {v : Value} (hset : ∀ l w, S (l.setIfInBounds i true) w ↔ S l w) (hi : ops[i]? = some oi) (hsel : ∀ (j : Nat) (o : Oper) cs b, ops[j]? = some o → o.op ≠ .select cs b)
    (hQ : ∀ c a w, Q (.panic c) (a.put oi.dst v) w → Q (.panic c) a w) :
    ∀ (fuel : Nat) (listed : Array Bool) (a : Act) (w : World),
      (∀ j oj, ops[j]? = some oj → j ≠ i → listed.getD j true = false → (∀ e ∈ oj.after, Region.binds .any e = true → e.on ≠ i) → oi.apart ops oj = true) →
      i ∈ Region.ready .any ops listed → Clo ops listed → YieldsG P ops S listed i oi v a → S listed w →
      wpAnyG P ops Q S fuel (listed.setIfInBounds i true) (a.put oi.dst v) w → wpAnyG P ops Q S (fuel + 1) listed a w := by
  intro fuel
  induction fuel with
  | zero =>
    intro listed a w _ hr hc hy hS H
    refine ⟨fun h => (by rw [h] at hr; cases hr), fun j hj => ?_⟩
    by_cases hji : j = i
    · subst hji; exact hy.wpOp hi hc (mem_ready.1 hr).1 hS ⟨(hset _ _).2 hS, H⟩
    · have := ready_mono hj hji
      rw [H.1] at this
      cases this
  | succ fuel ih =>
    intro listed a w hfree hr hc hy hS H
    refine ⟨fun h => (by rw [h] at hr; cases hr), fun j hj => ?_⟩
    by_cases hji : j = i
    · subst hji; exact hy.wpOp hi hc (mem_ready.1 hr).1 hS ⟨(hset _ _).2 hS, H⟩
    · have h1 := H.2 j (ready_mono hj hji)
      obtain ⟨hjun, oj, hoj, hall⟩ := mem_ready.1 hj
      have hnot : ∀ e ∈ oj.after, Region.binds .any e = true → e.on ≠ i := fun e he hb heq => by
        have h1 := hall e he hb
        have h0 := (mem_ready.1 hr).1
        rw [heq] at h1
        rcases Nat.lt_or_ge i listed.size with h' | h'
        · simp [h'] at h0 h1; rw [h0] at h1; cases h1
        · simp [Array.getElem?_eq_none h'] at h1
      have h2 := wpOp_putG hoj (hfree j oj hoj hji hjun hnot) (fun cs b => hsel i oi cs b hi) (fun cs b => hsel j oj cs b hoj) hQ hy h1
      have hfree' : ∀ k ok, ops[k]? = some ok → k ≠ i → (listed.setIfInBounds j true).getD k true = false →
          (∀ e ∈ ok.after, Region.binds .any e = true → e.on ≠ i) → oi.apart ops ok = true := fun k ok hk hki hun hno => by
        refine hfree k ok hk hki ?_ hno
        by_cases hjk : j = k
        · subst hjk; exact hjun
        · rw [getD_set_ne true hjk] at hun; exact hun
      have hsup : Sup listed (listed.setIfInBounds j true) := fun q hq => getD_set_true hq
      refine wpOp_mono (fun a' w' h3 => ?_) h2
      obtain ⟨h4, h5, h6⟩ := h3
      rw [Array.setIfInBounds_comm _ _ (Ne.symm hji)] at h5 h6
      have h7 := (hset _ _).1 h5
      exact ⟨h7, ih (listed.setIfInBounds j true) a' w' hfree' (ready_mono hr (Ne.symm hji)) (hc.set hj) (h4.sup hsup) h7 h6⟩
end

/-- What is read of others stands; what is owned stands while none of those that change it (Ms) is done. -/
def Held (R : Rds) (Ho : Segs) (Ms : List Nat) (l : Array Bool) (w : World) : Prop :=
  (∀ b o, R b o → w.heap[b]? = some o) ∧ ((∀ k ∈ Ms, l.getD k false = false) → Sat w Ho ∧ RO w R Ho)
theorem Held.same {R : Rds} {Ho : Segs} {Ms : List Nat} {i : Nat} (hi : Ms.contains i = false) (l : Array Bool) (w : World) : Held R Ho Ms (l.setIfInBounds i true) w ↔ Held R Ho Ms l w := by
  have hne : ∀ k ∈ Ms, i ≠ k := fun k hk he => by subst he; simp [hk] at hi
  unfold Held
  refine and_congr_right fun _ => ?_
  have : (∀ k ∈ Ms, (l.setIfInBounds i true).getD k false = false) ↔ ∀ k ∈ Ms, l.getD k false = false := ⟨fun h k hk => by have := h k hk; rwa [getD_set_ne false (hne k hk)] at this, fun h k hk => by rw [getD_set_ne false (hne k hk)]; exact h k hk⟩
  rw [this]
class SubS (A B : Segs) : Prop where h : ∃ G : Seg, B.flatten.Perm (A.flatten ++ G)
instance SubS.refl (A : Segs) : SubS A A := ⟨⟨[], by simp⟩⟩
instance SubS.cons (A B : Segs) (T : Seg) [s : SubS A B] : SubS A (T :: B) := ⟨by
  obtain ⟨G, h⟩ := s.h
  refine ⟨T ++ G, ?_⟩
  rw [List.flatten_cons]
  refine (h.append_left T).trans ?_
  rw [← List.append_assoc, ← List.append_assoc]
  exact List.perm_append_comm.append_right _⟩
theorem SubS.sat {A B : Segs} (s : SubS A B) {w : World} (h : Sat w B) : Sat w A := HLe.sat s.h h
theorem SubS.ro {A B : Segs} (s : SubS A B) {w : World} {R : Rds} (h : RO w R B) : RO w R A := fun b o hb => ⟨(h b o hb).1, fun p hp => by
  obtain ⟨G, hg⟩ := s.h
  exact (h b o hb).2 p (hg.mem_iff.2 (List.mem_append_left _ hp))⟩

/-- Whatever order is picked. -/
def RA (P : Program) (N : Nat) (R : Rds) (ops : Array Oper) (Ho : Segs) (Ms : List Nat) (done : List Nat) (env : Env) (H : Segs) (K : Env → Segs → Prop) : Prop :=
  ∀ (Q' : Act → World → Prop) (w0 : World) (H0 : Segs), (∀ env' H' a' w', K env' H' → St N R a' w' env' H' w0 H0 → Q' a' w') →
    Clo ops (marked ops.size done) → ∀ a w, St N R a w env H w0 H0 → Held R Ho Ms (marked ops.size done) w → wpAnyG P ops (RAq Q') (Held R Ho Ms) (ops.size - done.length) (marked ops.size done) a w

section
variable {P : Program} {N : Nat} {R : Rds} {ops : Array Oper} {l : List Oper} {env : Env} {H Ho : Segs} {Ms : List Nat} {K : Env → Segs → Prop} {Q : Exit → Env → Segs → Prop} {m : Bool} {done : List Nat}

theorem St.lend {a : Act} {w w0 : World} {H0 : Segs} (is : List Nat) (s : St N R a w env H w0 H0) : St N (Rx R (rest is H)) a w env (take is H) w (take is H) :=
  ⟨s.defers, s.size, s.env, (sat_split s.sat).1, RO.split s.sat s.ro, Frame.refl _ _⟩
theorem St.back {a a' : Act} {w w' w0 : World} {H0 H' : Segs} {env' : Env} (is : List Nat) (s : St N R a w env H w0 H0) (s' : St N (Rx R (rest is H)) a' w' env' H' w (take is H)) : St N R a' w' env' (H' ++ rest is H) w0 H0 := by
  obtain ⟨j1, j2⟩ := sat_join s.sat s'.sat s'.fr
  exact ⟨s'.defers, s'.size, s'.env, j1, s.ro.frame j2, s.fr.trans j2⟩

/-- What is not at 'is' is lent: it is read alone till the end. -/
theorem TriOps.lend (is : List Nat) (h : TriOps m P N (Rx R (rest is H)) ops l env (take is H) fun env' H' => K env' (H' ++ rest is H)) : TriOps m P N R ops l env H K := fun Q' w0 H0 hQ a w s =>
  h Q' w (take is H) (fun env' H' a' w' hk s' => hQ _ _ _ _ hk (s.back is s')) a w (s.lend is)

theorem Clo.none (ops : Array Oper) : Clo ops (marked ops.size []) := ⟨by simp [marked], fun j oj hj hl => by
  simp only [marked, Array.getD_eq_getD_getElem?, Array.getElem?_replicate] at hl
  split at hl <;> simp at hl⟩

theorem Tri.region_any {id : Nat} (is : List Nat) (Ms : List Nat) (hm : P.follows .mixedOrders = true) (h : RA P N (Rx R (rest is H)) l.toArray (take is H) Ms [] env (take is H) fun env' H' => Q .normal env' (H' ++ rest is H)) : Tri P N R (.region id l.toArray true) env H Q :=
  fun Q' w0 H0 hQ a w s => by
    have s1 : St N R a { w with drawn := w.drawn + 1 } env H w0 H0 := s.step (Frame.drew w H _) (s.sat.drew _)
    have s2 := s1.lend is
    have h1 := h (Q' .normal) _ _ (fun env' H' a' w' hk s' => hQ _ _ _ _ _ hk (s1.back is s')) (Clo.none _) a _ s2 ⟨fun b o hb => (s2.ro b o hb).1, fun _ => ⟨s2.sat, s2.ro⟩⟩
    refine wp_mono (wp_region_any hm (wpAny_of_G _ _ _ _ h1)) fun e a w hq => ?_
    cases e with
    | normal => exact hq
    | _ => exact hq.elim
theorem Tri.region_all {id : Nat} (Ms : List Nat) (hm : P.follows .mixedOrders = true) (h : RA P N R l.toArray H Ms [] env H (Q .normal)) : Tri P N R (.region id l.toArray true) env H Q :=
  fun Q' w0 H0 hQ a w s => by
    have s1 : St N R a { w with drawn := w.drawn + 1 } env H w0 H0 := s.step (Frame.drew w H _) (s.sat.drew _)
    have h1 := h (Q' .normal) _ _ (fun env' H' a' w' hk s' => hQ _ _ _ _ _ hk s') (Clo.none _) a _ s1 ⟨fun b o hb => (s1.ro b o hb).1, fun _ => ⟨s1.sat, s1.ro⟩⟩
    refine wp_mono (wp_region_any hm (wpAny_of_G _ _ _ _ h1)) fun e a w hq => ?_
    cases e with
    | normal => exact hq
    | _ => exact hq.elim

theorem RA.nil (hr : Region.ready .any ops (marked ops.size done) = []) (h : K env H) : RA P N R ops Ho Ms done env H K := fun Q' w0 H0 hQ _ a w s _ => by
  cases ops.size - done.length with
  | zero => exact ⟨hr, hQ _ _ _ _ h s⟩
  | succ n => exact ⟨fun _ => hQ _ _ _ _ h s, by rw [hr]; simp⟩

/-- The test of an operation that is taken first; own: it reads what is owned. -/
def tk (own : Bool) (ops : Array Oper) (Ms done : List Nat) (i : Nat) : Bool :=
  Region.noSelect ops && Region.free .any ops (marked ops.size done) i && (Region.ready .any ops (marked ops.size done)).contains i && Nat.blt done.length ops.size && !Ms.contains i && (!own || Ms.all fun k => waitsT ops ops.size k i)

theorem RA.take_gen {dst : Option Nat} {op : Op} {ty : TypeId} {pos : String} {af : Array Edge} {g : Option (Nat × Bool)} {v : Value} (own : Bool) (i : Nat) (hi : ops[i]? = some ⟨dst, op, ty, pos, af, g⟩)
    (hy : ∀ a, EnvOK a env → (Region.wanted ⟨dst, op, ty, pos, af, g⟩ (yielded ops a.tmps) = true ∧ ∀ w, (∀ b o, R b o → w.heap[b]? = some o) → (own = true → Sat w Ho ∧ RO w R Ho) → (execOp a.eval ⟨dst, op, ty, pos, af, g⟩).run P w = .ok (.value v) w) ∨
      (Region.wanted ⟨dst, op, ty, pos, af, g⟩ (yielded ops a.tmps) = false ∧ v = undef))
    (hc : tk own ops Ms done i = true)
    (hn : ∀ a w w0 H0, St N R a w env H w0 H0 → ∃ env', St N R (a.put dst v) w env' H w0 H0 ∧ RA P N R ops Ho Ms (i :: done) env' H K) : RA P N R ops Ho Ms done env H K := fun Q' w0 H0 hQ hcl a w s hh => by
  simp only [tk, Bool.and_eq_true] at hc
  obtain ⟨⟨⟨⟨⟨h1, h2⟩, h3⟩, h4⟩, h5⟩, h6⟩ := hc
  have hlt : done.length < ops.size := Nat.le_of_ble_eq_true h4
  have hf : ops.size - done.length = (ops.size - (i :: done).length) + 1 := by simp only [List.length_cons]; omega
  have h5' : Ms.contains i = false := by simpa using h5
  have h3' : i ∈ Region.ready .any ops (marked ops.size done) := by simpa using h3
  rw [hf]
  obtain ⟨env', s', hn'⟩ := hn a w w0 H0 s
  refine wpAnyG_first (fun l w => Held.same h5' l w) hi (Region.noSelect_spec h1) (fun c a w hq => hq.elim) _ _ a w (Region.free_spec hi h2) h3' hcl ?_ hh (hn' Q' w0 H0 hQ (hcl.set h3') _ w s' ((Held.same h5' _ _).2 hh))
  refine (hy a s.env).imp (fun ⟨hw, hr⟩ => ⟨hw, fun l' _ hc' hli w' hw' => hr w' hw'.1 fun ho => hw'.2 fun k hk => ?_⟩) id
  subst ho
  have hwk : waitsT ops ops.size k i = true := by
    have := h6
    simp only [Bool.not_true, Bool.false_or] at this
    exact List.all_eq_true.1 this k hk
  cases hlk : l'.getD k false with
  | false => rfl
  | true =>
    have := hc'.waits _ _ hwk hlk
    rcases Nat.lt_or_ge i l'.size with h' | h'
    · simp [h'] at this hli; rw [this] at hli; cases hli
    · simp [Array.getElem?_eq_none h'] at this

theorem RA.take {d : Nat} {op : Op} {ty : TypeId} {pos : String} {af : Array Edge} {v : Value} (i : Nat) (hi : ops[i]? = some ⟨some d, op, ty, pos, af, none⟩) (hq : Quiet P R env [] op ty v)
    (hc : tk false ops Ms done i = true) (hn : RA P N R ops Ho Ms (i :: done) ((d, v) :: env) H K) (hd : Nat.blt d N = true := by rfl) : RA P N R ops Ho Ms done env H K :=
  RA.take_gen false i hi (fun a ha => .inl ⟨by simp [Region.wanted], fun w hw _ => hq a w (some d) pos af none ha ⟨by simp, by simp⟩ (fun b o hb => ⟨hw b o hb, by simp⟩)⟩) hc
    fun a w w0 H0 s => ⟨_, s.put v hd, hn⟩
theorem RA.takeO {d : Nat} {op : Op} {ty : TypeId} {pos : String} {af : Array Edge} {v : Value} (i : Nat) (hi : ops[i]? = some ⟨some d, op, ty, pos, af, none⟩) (hq : Quiet P R env Ho op ty v)
    (hc : tk true ops Ms done i = true) (hn : RA P N R ops Ho Ms (i :: done) ((d, v) :: env) H K) (hd : Nat.blt d N = true := by rfl) : RA P N R ops Ho Ms done env H K :=
  RA.take_gen true i hi (fun a ha => .inl ⟨by simp [Region.wanted], fun w _ hw => hq a w (some d) pos af none ha (hw rfl).1 (hw rfl).2⟩) hc
    fun a w w0 H0 s => ⟨_, s.put v hd, hn⟩
theorem RA.takeG {d j t : Nat} {want : Bool} {op : Op} {ty : TypeId} {pos : String} {af : Array Edge} {v : Value} (i : Nat) (hi : ops[i]? = some ⟨some d, op, ty, pos, af, some (j, want)⟩) (hv : Env.get? env t = some (.bool want)) (hq : Quiet P R env [] op ty v)
    (hc : tk false ops Ms done i = true) (hn : RA P N R ops Ho Ms (i :: done) ((d, v) :: env) H K) (hj : gdst ops j = some t := by rfl) (hd : Nat.blt d N = true := by rfl) : RA P N R ops Ho Ms done env H K :=
  RA.take_gen false i hi (fun a ha => .inl ⟨by simp [Region.wanted, yielded_env ha hj hv], fun w hw _ => hq a w (some d) pos af _ ha ⟨by simp, by simp⟩ (fun b o hb => ⟨hw b o hb, by simp⟩)⟩) hc
    fun a w w0 H0 s => ⟨_, s.put v hd, hn⟩
theorem RA.takeGO {d j t : Nat} {want : Bool} {op : Op} {ty : TypeId} {pos : String} {af : Array Edge} {v : Value} (i : Nat) (hi : ops[i]? = some ⟨some d, op, ty, pos, af, some (j, want)⟩) (hv : Env.get? env t = some (.bool want)) (hq : Quiet P R env Ho op ty v)
    (hc : tk true ops Ms done i = true) (hn : RA P N R ops Ho Ms (i :: done) ((d, v) :: env) H K) (hj : gdst ops j = some t := by rfl) (hd : Nat.blt d N = true := by rfl) : RA P N R ops Ho Ms done env H K :=
  RA.take_gen true i hi (fun a ha => .inl ⟨by simp [Region.wanted, yielded_env ha hj hv], fun w _ hw => hq a w (some d) pos af _ ha (hw rfl).1 (hw rfl).2⟩) hc
    fun a w w0 H0 s => ⟨_, s.put v hd, hn⟩
theorem RA.takeF {d j t : Nat} {want b : Bool} {op : Op} {ty : TypeId} {pos : String} {af : Array Edge} (i : Nat) (hi : ops[i]? = some ⟨some d, op, ty, pos, af, some (j, want)⟩) (hv : Env.get? env t = some (.bool b)) (hb : (b == want) = false)
    (hc : tk false ops Ms done i = true) (hn : RA P N R ops Ho Ms (i :: done) ((d, undef) :: env) H K) (hj : gdst ops j = some t := by rfl) (hd : Nat.blt d N = true := by rfl) : RA P N R ops Ho Ms done env H K := by
  have hne : ¬ b = want := by simpa using hb
  exact RA.take_gen false i hi (fun a ha => .inr ⟨by simp [Region.wanted, yielded_env ha hj hv, hne], rfl⟩) hc
    fun a w w0 H0 s => ⟨_, s.put undef hd, hn⟩

theorem upon_RAq {o : Oper} {a : Act} {w : World} {K1 K2 : Act → World → Prop} {Q1 : Act → World → Prop} {Q2 : Exit → Act → World → Prop} (hk : ∀ a w, K1 a w → K2 a w) (h : o.wp P a w K1 (RAq Q1)) : o.wp P a w K2 Q2 := by
  unfold Oper.wp at *
  generalize (execOp a.eval o).run P w = r at *
  cases r with
  | ok n w' =>
    cases n <;> simp only [Oper.upon] at h ⊢ <;> first
      | exact hk _ _ h
      | exact Calls.mono h (fun e w'' he => by
          cases e with
          | returned v => exact hk _ _ he
          | panicked c => exact he.elim
          | outgrown => obtain ⟨a, w, hq⟩ := he; exact hq.elim)
      | exact Rows.mono h (fun _ _ he => hk _ _ he)
  | halt x w' => cases x <;> simp only [Oper.upon] at h ⊢ <;> exact h.elim

theorem RA.op {o : Oper} {a : Act} {w w0 : World} {H0 : Segs} {Q' : Act → World → Prop} {K' : Act → World → Prop} {K2 : Env → Segs → Prop} (k : Nat) (hk : ops[k]? = some o) (h : TriOps false P N R ops [o] env H K2)
    (hK : ∀ env' H' a' w', K2 env' H' → St N R a' w' env' H' w0 H0 → K' a' w') (s : St N R a w env H w0 H0) : wpOp P ops (RAq Q') k K' a w := by
  have h1 := h (RAq K') w0 H0 (fun env' H' a' w' hk s' => hK _ _ _ _ hk s') a w s
  unfold wpOp
  simp only [hk]
  simp only [wpList] at h1
  split
  · rename_i hw
    rw [if_pos hw] at h1
    rcases h1 with h1 | ⟨_, a0, w1, h1⟩
    · exact .inl (upon_RAq (fun _ _ h => h) h1)
    · exact h1.elim
  · rename_i hw
    rw [if_neg hw] at h1
    exact h1

theorem getD_set_in {l : Array Bool} {i : Nat} (hi : i < l.size) : (l.setIfInBounds i true).getD i false = true := by simp [hi]
/-- What is behind a step. -/
def Next (P : Program) (N : Nat) (R : Rds) (ops : Array Oper) (Ho : Segs) (Ms : List Nat) (done : List Nat) (K : Env → Segs → Prop) (i : Nat) (env' : Env) (H' : Segs) : Prop :=
  (((i :: done).any fun k => Ms.contains k && Nat.blt k ops.size) = true ∨ SubS Ho H') ∧ RA P N R ops Ho Ms (i :: done) env' H' K
theorem marked_size (n : Nat) : ∀ l, (marked n l).size = n
  | [] => by simp [marked]
  | i :: l => by simp [marked, marked_size n l]
theorem marked_get {n k : Nat} (hk : k < n) : ∀ {l : List Nat}, k ∈ l → (marked n l).getD k false = true
  | i :: l, h => by
    rcases List.mem_cons.1 h with rfl | h
    · exact getD_set_in (by rw [marked_size]; exact hk)
    · exact getD_set_true (marked_get hk h)
theorem Next.mod {i : Nat} (hm : ((i :: done).any fun k => Ms.contains k && Nat.blt k ops.size) = true) (h : RA P N R ops Ho Ms (i :: done) env H K) : Next P N R ops Ho Ms done K i env H := ⟨.inl hm, h⟩
theorem Next.sub {i : Nat} (h : RA P N R ops Ho Ms (i :: done) env H K) (hs : SubS Ho H := by infer_instance) : Next P N R ops Ho Ms done K i env H := ⟨.inr hs, h⟩

theorem RA.step_gen (is : List Nat) (hr : Region.ready .any ops (marked ops.size done) = is) (hne : is ≠ []) (hl : Nat.blt done.length ops.size = true)
    (h : ∀ i ∈ is, ∃ o, ops[i]? = some o ∧ TriOps false P N R ops [o] env H (Next P N R ops Ho Ms done K i)) : RA P N R ops Ho Ms done env H K := fun Q' w0 H0 hQ hcl a w s hh => by
  have hlt : done.length < ops.size := Nat.le_of_ble_eq_true hl
  have hf : ∀ i, ops.size - done.length = (ops.size - (i :: done).length) + 1 := fun i => by simp only [List.length_cons]; omega
  rw [hf 0]
  refine ⟨fun h0 => absurd (hr ▸ h0) hne, fun k hk => ?_⟩
  obtain ⟨o, ho, hT⟩ := h k (hr ▸ hk)
  refine RA.op k ho hT (fun env' H' a' w' hk' s' => ?_) s
  have hh' : Held R Ho Ms ((marked ops.size done).setIfInBounds k true) w' := by
    refine ⟨fun b o hb => (s'.ro b o hb).1, fun hno => ?_⟩
    rcases hk'.1 with hm | hs
    · obtain ⟨q, hq, hm⟩ := List.any_eq_true.1 hm
      simp only [Bool.and_eq_true] at hm
      have h1 := hno q (by simpa using hm.1)
      rw [show (marked ops.size done).setIfInBounds k true = marked ops.size (k :: done) from rfl, marked_get (Nat.le_of_ble_eq_true hm.2) hq] at h1
      cases h1
    · exact ⟨hs.sat s'.sat, hs.ro s'.ro⟩
  exact ⟨hh', hk'.2 Q' w0 H0 hQ (hcl.set hk) a' w' s' hh'⟩

/-- The next to come up, where it can be but one. -/
theorem RA.step {o : Oper} (i : Nat) (hi : ops[i]? = some o) (hr : Region.ready .any ops (marked ops.size done) = [i]) (hl : Nat.blt done.length ops.size = true)
    (h : TriOps false P N R ops [o] env H (Next P N R ops Ho Ms done K i)) : RA P N R ops Ho Ms done env H K :=
  RA.step_gen [i] hr (by simp) hl fun k hk => by
    obtain rfl : k = i := by simpa using hk
    exact ⟨o, hi, h⟩
/-- The next to come up, one of two. -/
theorem RA.step2 {o1 o2 : Oper} (i j : Nat) (hi : ops[i]? = some o1) (hj : ops[j]? = some o2) (hr : Region.ready .any ops (marked ops.size done) = [i, j]) (hl : Nat.blt done.length ops.size = true)
    (h1 : TriOps false P N R ops [o1] env H (Next P N R ops Ho Ms done K i)) (h2 : TriOps false P N R ops [o2] env H (Next P N R ops Ho Ms done K j)) : RA P N R ops Ho Ms done env H K :=
  RA.step_gen [i, j] hr (by simp) hl fun k hk => by
    rcases List.mem_cons.1 hk with rfl | hk
    · exact ⟨o1, hi, h1⟩
    · obtain rfl : k = j := by simpa using hk
      exact ⟨o2, hj, h2⟩
theorem RA.step3 {o1 o2 o3 : Oper} (i j k : Nat) (hi : ops[i]? = some o1) (hj : ops[j]? = some o2) (hk : ops[k]? = some o3) (hr : Region.ready .any ops (marked ops.size done) = [i, j, k]) (hl : Nat.blt done.length ops.size = true)
    (h1 : TriOps false P N R ops [o1] env H (Next P N R ops Ho Ms done K i)) (h2 : TriOps false P N R ops [o2] env H (Next P N R ops Ho Ms done K j)) (h3 : TriOps false P N R ops [o3] env H (Next P N R ops Ho Ms done K k)) : RA P N R ops Ho Ms done env H K :=
  RA.step_gen [i, j, k] hr (by simp) hl fun q hq => by
    rcases List.mem_cons.1 hq with rfl | hq
    · exact ⟨o1, hi, h1⟩
    · rcases List.mem_cons.1 hq with rfl | hq
      · exact ⟨o2, hj, h2⟩
      · obtain rfl : q = k := by simpa using hq
        exact ⟨o3, hk, h3⟩
end

/-! ### Guards whose outcome is known by a hypothesis -/
section
variable {P : Program} {N : Nat} {R : Rds} {ops : Array Oper} {l : List Oper} {env : Env} {H : Segs} {K : Env → Segs → Prop} {Q : Exit → Env → Segs → Prop} {m : Bool} {ty : TypeId}
theorem TriOps.gT {j t : Nat} {b want : Bool} {dst : Option Nat} {op : Op} {ty : TypeId} {pos : String} {af : Array Edge} (hb : b = want) (hn : TriOps m P N R ops (⟨dst, op, ty, pos, af, none⟩ :: l) env H K) (hj : gdst ops j = some t := by rfl) (hv : Env.get? env t = some (.bool b) := by rfl) :
    TriOps m P N R ops (⟨dst, op, ty, pos, af, some (j, want)⟩ :: l) env H K := TriOps.gt (by rw [hv, hb]) hn hj
theorem TriOps.gF {j t d : Nat} {b want : Bool} {op : Op} {ty : TypeId} {pos : String} {af : Array Edge} (hb : b = !want) (hn : TriOps m P N R ops l ((d, undef) :: env) H K) (hj : gdst ops j = some t := by rfl) (hv : Env.get? env t = some (.bool b) := by rfl) (hd : Nat.blt d N = true := by rfl) :
    TriOps m P N R ops (⟨some d, op, ty, pos, af, some (j, want)⟩ :: l) env H K := TriOps.gf hv (by subst hb; cases want <;> rfl) hn hj hd
theorem TriOps.split {t : Nat} {b : Bool} (hv : Env.get? env t = some (.bool b)) (ht : b = true → TriOps m P N R ops l env H K) (hf : b = false → TriOps m P N R ops l env H K) : TriOps m P N R ops l env H K := by
  cases b
  · exact hf rfl
  · exact ht rfl
theorem Quiet.pickTh {c x y : Operand} {b : Bool} {u : Value} (hb : b = true) (hc : ev env c = some (.bool b) := by rfl) (hx : ev env x = some u := by rfl) : Quiet P R env H (.pick c x y) ty u := by
  subst hb; exact Quiet.pickT hc hx
theorem Quiet.pickFh {c x y : Operand} {b : Bool} {v : Value} (hb : b = false) (hc : ev env c = some (.bool b) := by rfl) (hy : ev env y = some v := by rfl) : Quiet P R env H (.pick c x y) ty v := by
  subst hb; exact Quiet.pickF hc hy
theorem Tri.condT {c : Operand} {x y : Code} (h : Tri P N R x env H Q) (hc : ev env c = some (.bool true) := by rfl) : Tri P N R (.cond c x y) env H Q := Tri.cond hc (fun _ => h) (fun h => by cases h)
theorem Tri.condF {c : Operand} {x y : Code} (h : Tri P N R y env H Q) (hc : ev env c = some (.bool false) := by rfl) : Tri P N R (.cond c x y) env H Q := Tri.cond hc (fun h => by cases h) (fun _ => h)
theorem Tri.condTh {c : Operand} {x y : Code} {b : Bool} (hb : b = true) (h : Tri P N R x env H Q) (hc : ev env c = some (.bool b) := by rfl) : Tri P N R (.cond c x y) env H Q := by subst hb; exact Tri.condT h hc
theorem Tri.condFh {c : Operand} {x y : Code} {b : Bool} (hb : b = false) (h : Tri P N R y env H Q) (hc : ev env c = some (.bool b) := by rfl) : Tri P N R (.cond c x y) env H Q := by subst hb; exact Tri.condF h hc
theorem RA.split {ops : Array Oper} {Ho : Segs} {Ms done : List Nat} {t : Nat} {b : Bool} (hv : Env.get? env t = some (.bool b)) (ht : b = true → RA P N R ops Ho Ms done env H K) (hf : b = false → RA P N R ops Ho Ms done env H K) : RA P N R ops Ho Ms done env H K := by
  cases b
  · exact hf rfl
  · exact ht rfl

/-- Where several ways meet: what is known of the slots and the blocks there. -/
def joinQ {X : Type} (I : X → Prop) (e : X → Env) (h : X → Segs) (Q : Exit → Env → Segs → Prop) : Exit → Env → Segs → Prop
  | .normal, env, H => ∃ x, I x ∧ EnvLe env (e x) ∧ HLe H (h x)
  | ex, env, H => Q ex env H
theorem Tri.cut {X : Type} {c : Code} (I : X → Prop) (e : X → Env) (h : X → Segs) (body : Tri P N R c env H (joinQ I e h Q)) (after : ∀ x, I x → Q .normal (e x) (h x)) : Tri P N R c env H Q := fun Q' w0 H0 hQ a w s =>
  body Q' w0 H0 (fun ex env' H' a' w' hq s' => by
    cases ex with
    | normal => obtain ⟨x, h1, h2, h3⟩ := hq; exact hQ _ _ _ _ _ (after x h1) (s'.le h2 h3)
    | _ => exact hQ _ _ _ _ _ hq s') a w s
theorem joinQ_n {X : Type} {I : X → Prop} {e : X → Env} {h : X → Segs} (x : X) (hI : I x) (he : EnvLe env (e x)) (hh : HLe H (h x)) : joinQ I e h Q .normal env H := ⟨x, hI, he, hh⟩
theorem joinQ_r {X : Type} {I : X → Prop} {e : X → Env} {h : X → Segs} (hq : Q .ret env H) : joinQ I e h Q .ret env H := hq
theorem joinQ_x {X : Type} {I : X → Prop} {e : X → Env} {h : X → Segs} {id : Nat} (hq : Q (.exit id) env H) : joinQ I e h Q (.exit id) env H := hq
theorem loopQ_i {X : Type} {I : X → Prop} {e : X → Env} {h : X → Segs} {μ : X → Nat} {n : Nat} (x : X) (hI : I x) (hm : μ x < n) (he : EnvLe env (e x)) (hh : HLe H (h x)) : loopQ (fun env' H' => ∃ x', I x' ∧ μ x' < n ∧ EnvLe env' (e x') ∧ HLe H' (h x')) Q .normal env H := ⟨x, hI, hm, he, hh⟩
/-- A counter goes on. -/
theorem Quiet.inc {x y : Operand} {t u : TypeId} {n : Nat} (hn : n < 9223372036854775807) (hx : ev env x = some (.int .i64 (n : Int)) := by rfl) (hy : ev env y = some (.int .i64 1) := by rfl) : Quiet P R env H (.binOp .add t x y u) ty (.int .i64 ((n + 1 : Nat) : Int)) := by
  have h := Quiet.add (P := P) (R := R) (H := H) (ty := ty) (t := t) (u := u) hx hy
  have : IntKind.i64.wrap ((n : Int) + 1) = ((n + 1 : Nat) : Int) := by
    rw [IntWalk.i64_in _ (by omega)]; omega
  rw [this] at h
  exact h
theorem TriOps.hole (h : TriOps m P N R ops l env H K) : TriOps m P N R ops l env H K := h
end
end Go.Proofs.Ytlmdgdehjpahiaa
