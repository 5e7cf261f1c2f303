/- The engine, part 1: what a piece of code does, told by the blocks that it owns and the blocks that it reads; over any program, no condition. -/
import Derived.OrdersHeld
import Derived.Still
import Derived.StillTail
import Derived.Tactics
import Derived.KernelRfl
import Derived.Shelf.Abstract
set_option linter.unusedVariables false
namespace Go.Proofs.Ytlmdgdehjpahiaa

abbrev Blk := Nat × Obj
abbrev Seg := List Blk
abbrev Segs := List Seg
abbrev Env := List (Nat × Value)
abbrev Rds := Nat → Obj → Prop

def Env.get? : Env → Nat → Option Value
  | [], _ => none
  | (k, v) :: r, t => match Nat.beq k t with
    | true => some v
    | false => Env.get? r t

def ev (env : Env) : Operand → Option Value
  | .tmp t => env.get? t
  | .const v => some v
  | .global g => some (.pointer (some ⟨g, 0, none⟩))
  | .func f => some (.func (.func f) #[] #[])

def evs (env : Env) : List Operand → Option (List Value)
  | [] => some []
  | x :: r => match ev env x, evs env r with
    | some v, some vs => some (v :: vs)
    | _, _ => none

def EnvOK (a : Act) (env : Env) : Prop := ∀ t v, env.get? t = some v → a.tmps[t]? = some v

theorem EnvOK.eval {a : Act} {env : Env} (h : EnvOK a env) {x : Operand} {v : Value} (hx : ev env x = some v) : a.eval x = v := by
  cases x with
  | tmp t => have := h t v hx; simp [Act.eval, this]
  | const u => simpa [ev, Act.eval] using hx
  | global g => simpa [ev, Act.eval] using hx
  | func f => simpa [ev, Act.eval] using hx

theorem EnvOK.evals {a : Act} {env : Env} (h : EnvOK a env) : ∀ {xs : List Operand} {vs : List Value}, evs env xs = some vs → xs.map a.eval = vs
  | [], vs, hx => by simp [evs] at hx; simp [hx]
  | x :: r, vs, hx => by
    simp only [evs] at hx
    split at hx
    · rename_i v vs' h1 h2
      simp only [Option.some.injEq] at hx
      subst hx
      simp [h.eval h1, h.evals h2]
    · cases hx

theorem EnvOK.evalsA {a : Act} {env : Env} (h : EnvOK a env) {xs : List Operand} {vs : List Value} (hx : evs env xs = some vs) : xs.toArray.map a.eval = vs.toArray := by
  rw [List.map_toArray, h.evals hx]

theorem EnvOK.put {a : Act} {env : Env} (h : EnvOK a env) {d : Nat} {v : Value} (hd : d < a.tmps.size) : EnvOK (a.put (some d) v) ((d, v) :: env) := by
  intro t u hu
  simp only [Env.get?] at hu
  by_cases hdt : d = t
  · subst hdt
    have : Nat.beq d d = true := Nat.beq_refl d
    rw [this] at hu
    simp only [Option.some.injEq] at hu
    subst hu
    simp [Act.put, hd]
  · have : Nat.beq d t = false := by
      cases hb : Nat.beq d t with
      | false => rfl
      | true => exact absurd (Nat.eq_of_beq_eq_true hb) hdt
    rw [this] at hu
    have := h t u hu
    simp [Act.put, Array.getElem?_setIfInBounds_ne hdt, this]

/-- The blocks are in the world, each once. -/
def Sat (w : World) (H : Segs) : Prop := (H.flatten.map (·.1)).Nodup ∧ ∀ p ∈ H.flatten, w.heap[p.1]? = some p.2

/-- What is read: blocks of the world that are not owned. -/
def RO (w : World) (R : Rds) (H : Segs) : Prop := ∀ b o, R b o → w.heap[b]? = some o ∧ ∀ p ∈ H.flatten, p.1 ≠ b

structure Frame (w : World) (H : Segs) (w' : World) (H' : Segs) : Prop where
  le : w.heap.size ≤ w'.heap.size
  keep : ∀ b, b < w.heap.size → (∀ p ∈ H.flatten, p.1 ≠ b) → w'.heap[b]? = w.heap[b]?
  dom : ∀ p ∈ H'.flatten, (∃ q ∈ H.flatten, q.1 = p.1) ∨ w.heap.size ≤ p.1
  os : w'.os = w.os
  output : w'.output = w.output
  tape : w'.tape = w.tape

theorem Frame.refl (w : World) (H : Segs) : Frame w H w H :=
  ⟨Nat.le_refl _, fun _ _ _ => rfl, fun p hp => .inl ⟨p, hp, rfl⟩, rfl, rfl, rfl⟩

theorem Frame.trans {w w' w'' : World} {H H' H'' : Segs} (h : Frame w H w' H') (h' : Frame w' H' w'' H'') : Frame w H w'' H'' where
  le := Nat.le_trans h.le h'.le
  keep b hb hn := by
    rw [h'.keep b (Nat.lt_of_lt_of_le hb h.le) ?_, h.keep b hb hn]
    intro p hp he
    rcases h.dom p hp with ⟨q, hq, hqp⟩ | hge
    · exact hn q hq (hqp.trans he)
    · omega
  dom p hp := by
    rcases h'.dom p hp with ⟨q, hq, hqp⟩ | hge
    · rcases h.dom q hq with ⟨r, hr, hrq⟩ | hge
      · exact .inl ⟨r, hr, hrq.trans hqp⟩
      · exact .inr (by omega)
    · exact .inr (Nat.le_trans h.le hge)
  os := h'.os.trans h.os
  output := h'.output.trans h.output
  tape := h'.tape.trans h.tape

structure St (N : Nat) (R : Rds) (a : Act) (w : World) (env : Env) (H : Segs) (w0 : World) (H0 : Segs) : Prop where
  defers : a.defers = []
  size : a.tmps.size = N
  env : EnvOK a env
  sat : Sat w H
  ro : RO w R H
  fr : Frame w0 H0 w H

theorem lt_of_some {w : World} {b : Nat} {o : Obj} (h : w.heap[b]? = some o) : b < w.heap.size := by
  rcases Nat.lt_or_ge b w.heap.size with h' | h'
  · exact h'
  · rw [Array.getElem?_eq_none h'] at h; cases h

theorem RO.frame {w w' : World} {R : Rds} {H H' : Segs} (h : RO w R H) (f : Frame w H w' H') : RO w' R H' := by
  intro b o hb
  obtain ⟨h1, h2⟩ := h b o hb
  have hlt := lt_of_some h1
  refine ⟨by rw [f.keep b hlt h2]; exact h1, fun p hp he => ?_⟩
  rcases f.dom p hp with ⟨q, hq, hqp⟩ | hge
  · exact h2 q hq (hqp.trans he)
  · omega

theorem St.step {N : Nat} {R : Rds} {a : Act} {w w' : World} {env : Env} {H H' : Segs} {w0 : World} {H0 : Segs} (s : St N R a w env H w0 H0) (f : Frame w H w' H') (hs : Sat w' H') : St N R a w' env H' w0 H0 :=
  ⟨s.defers, s.size, s.env, hs, s.ro.frame f, s.fr.trans f⟩

theorem St.put {N : Nat} {R : Rds} {a : Act} {w : World} {env : Env} {H : Segs} {w0 : World} {H0 : Segs} (s : St N R a w env H w0 H0) {d : Nat} (v : Value) (hd : Nat.blt d N = true) : St N R (a.put (some d) v) w ((d, v) :: env) H w0 H0 :=
  ⟨s.defers, by simp [Act.put, s.size], s.env.put (by rw [s.size]; exact Nat.le_of_ble_eq_true hd), s.sat, s.ro, s.fr⟩

theorem St.put_none {N : Nat} {R : Rds} {a : Act} {w : World} {env : Env} {H : Segs} {w0 : World} {H0 : Segs} (s : St N R a w env H w0 H0) (v : Value) : St N R (a.put none v) w env H w0 H0 := s

theorem Frame.drew (w : World) (H : Segs) (n : Nat) : Frame w H { w with drawn := n } H :=
  ⟨Nat.le_refl _, fun _ _ _ => rfl, fun p hp => .inl ⟨p, hp, rfl⟩, rfl, rfl, rfl⟩

theorem Sat.drew {w : World} {H : Segs} (h : Sat w H) (n : Nat) : Sat { w with drawn := n } H := h

theorem alloc_heap (w : World) (o : Obj) : (w.alloc o).heap = w.heap.push o := rfl

theorem Frame.alloc (w : World) (H : Segs) (o : Obj) : Frame w H (w.alloc o) ([(w.heap.size, o)] :: H) where
  le := by rw [alloc_heap, Array.size_push]; omega
  keep b hb _ := by rw [alloc_heap, Array.getElem?_push, if_neg (Nat.ne_of_lt hb)]
  dom p hp := by
    simp only [List.flatten_cons, List.mem_append, List.mem_singleton] at hp
    rcases hp with rfl | hp
    · exact .inr (Nat.le_refl _)
    · exact .inl ⟨p, hp, rfl⟩
  os := rfl
  output := rfl
  tape := rfl

theorem Sat.alloc {w : World} {H : Segs} (h : Sat w H) (o : Obj) : Sat (w.alloc o) ([(w.heap.size, o)] :: H) := by
  have hlt : ∀ p ∈ H.flatten, p.1 < w.heap.size := fun p hp => lt_of_some (h.2 p hp)
  refine ⟨?_, fun p hp => ?_⟩
  · simp only [List.flatten_cons, List.cons_append, List.nil_append, List.map_cons, List.nodup_cons]
    refine ⟨fun hm => ?_, h.1⟩
    obtain ⟨p, hp, he⟩ := List.mem_map.1 hm
    have := hlt p hp
    omega
  · simp only [List.flatten_cons, List.mem_append, List.mem_singleton] at hp
    rcases hp with rfl | hp
    · rw [alloc_heap, Array.getElem?_push, if_pos rfl]
    · have := hlt p hp
      rw [alloc_heap, Array.getElem?_push, if_neg (Nat.ne_of_lt this), h.2 p hp]

/-- One block of the world, anew. -/
def setO (w : World) (b : Nat) (o : Obj) : World := { w with heap := w.heap.setIfInBounds b o }

/-- A list of segments with a place in it. -/
theorem Sat.set {w : World} {H1 H2 : Segs} {T1 T2 : Seg} {b : Nat} {o o' : Obj} (h : Sat w (H1 ++ (T1 ++ (b, o) :: T2) :: H2)) : Sat (setO w b o') (H1 ++ (T1 ++ (b, o') :: T2) :: H2) := by
  obtain ⟨hn, hm⟩ := h
  have e : ∀ o : Obj, ((H1 ++ (T1 ++ (b, o) :: T2) :: H2).flatten.map (·.1)) = (H1.flatten.map (·.1) ++ T1.map (·.1)) ++ b :: (T2.map (·.1) ++ H2.flatten.map (·.1)) := fun o => by
    simp
  rw [e] at hn
  refine ⟨by rw [e]; exact hn, fun p hp => ?_⟩
  have hb : w.heap[b]? = some o := hm (b, o) (by simp)
  have hlt := lt_of_some hb
  have hne : ∀ q : Blk, q ∈ H1.flatten ∨ q ∈ T1 ∨ q ∈ T2 ∨ q ∈ H2.flatten → q.1 ≠ b := by
    intro q hq he
    rw [List.nodup_append] at hn
    obtain ⟨_, h2, h3⟩ := hn
    rcases hq with hq | hq | hq | hq
    · exact h3 q.1 (List.mem_append_left _ (List.mem_map_of_mem hq)) b (by simp) he
    · exact h3 q.1 (List.mem_append_right _ (List.mem_map_of_mem hq)) b (by simp) he
    · exact (List.nodup_cons.1 h2).1 (List.mem_append_left _ (he ▸ List.mem_map_of_mem hq))
    · exact (List.nodup_cons.1 h2).1 (List.mem_append_right _ (he ▸ List.mem_map_of_mem hq))
  simp only [List.flatten_append, List.flatten_cons, List.mem_append, List.mem_cons] at hp
  have old : ∀ q : Blk, q ∈ H1.flatten ∨ q ∈ T1 ∨ q ∈ T2 ∨ q ∈ H2.flatten → (setO w b o').heap[q.1]? = some q.2 := fun q hq => by
    have h1 := hne q hq
    have h2 : w.heap[q.1]? = some q.2 := hm q (by
      simp only [List.flatten_append, List.flatten_cons, List.mem_append, List.mem_cons]
      rcases hq with hq | hq | hq | hq
      · exact .inl hq
      · exact .inr (.inl (.inl hq))
      · exact .inr (.inl (.inr (.inr hq)))
      · exact .inr (.inr hq))
    simp [setO, Array.getElem?_setIfInBounds_ne (Ne.symm h1), h2]
  rcases hp with hp | (hp | rfl | hp) | hp
  · exact old p (.inl hp)
  · exact old p (.inr (.inl hp))
  · simp [setO, hlt]
  · exact old p (.inr (.inr (.inl hp)))
  · exact old p (.inr (.inr (.inr hp)))

theorem Frame.set {w : World} {H1 H2 : Segs} {T1 T2 : Seg} {b : Nat} {o o' : Obj} : Frame w (H1 ++ (T1 ++ (b, o) :: T2) :: H2) (setO w b o') (H1 ++ (T1 ++ (b, o') :: T2) :: H2) where
  le := by simp [setO]
  keep c hc hn := by
    have : b ≠ c := fun he => hn (b, o) (by simp) he
    simp [setO, Array.getElem?_setIfInBounds_ne this]
  dom p hp := by
    simp only [List.flatten_append, List.flatten_cons, List.mem_append, List.mem_cons] at hp
    rcases hp with hp | (hp | rfl | hp) | hp
    · exact .inl ⟨p, by simp [hp], rfl⟩
    · exact .inl ⟨p, by simp [hp], rfl⟩
    · exact .inl ⟨(b, o), by simp, rfl⟩
    · exact .inl ⟨p, by simp [hp], rfl⟩
    · exact .inl ⟨p, by simp [hp], rfl⟩
  os := rfl
  output := rfl
  tape := rfl

/-- Segments in another order, or fewer of them. -/
def HLe (H H' : Segs) : Prop := ∃ G : Seg, H.flatten.Perm (H'.flatten ++ G)

theorem HLe.refl (H : Segs) : HLe H H := ⟨[], by simp⟩
theorem HLe.sat {H H' : Segs} (h : HLe H H') {w : World} (s : Sat w H) : Sat w H' := by
  obtain ⟨G, hp⟩ := h
  refine ⟨?_, fun p hm => s.2 p (hp.mem_iff.2 (List.mem_append_left _ hm))⟩
  have := (hp.map (·.1)).nodup_iff.1 s.1
  rw [List.map_append] at this
  exact (List.nodup_append.1 this).1
theorem HLe.frame {H H' : Segs} (h : HLe H H') (w : World) : Frame w H w H' := by
  obtain ⟨G, hp⟩ := h
  exact ⟨Nat.le_refl _, fun _ _ _ => rfl, fun p hm => .inl ⟨p, hp.mem_iff.2 (List.mem_append_left _ hm), rfl⟩, rfl, rfl, rfl⟩

def pick : List Nat → Segs → Segs
  | [], _ => []
  | i :: is, H => (H.getD i []) :: pick is H
def dropAt : Nat → Segs → Segs
  | _, [] => []
  | 0, _ :: r => r
  | i + 1, T :: r => T :: dropAt i r
/-- What is left when the segments at some places (each counted in what is left then) are taken out. -/
def rest : List Nat → Segs → Segs
  | [], H => H
  | i :: is, H => rest is (dropAt i H)
/-- The segments at some places, each counted in what is left when those before it are taken out. -/
def take : List Nat → Segs → Segs
  | [], _ => []
  | i :: is, H => (H.getD i []) :: take is (dropAt i H)

theorem dropAt_perm : ∀ (i : Nat) (H : Segs), H.flatten.Perm (H.getD i [] ++ (dropAt i H).flatten)
  | _, [] => by simp [dropAt]
  | 0, T :: r => by simp [dropAt]
  | i + 1, T :: r => by
    have := dropAt_perm i r
    simp only [List.flatten_cons, dropAt, List.getD_cons_succ]
    refine (this.append_left T).trans ?_
    rw [← List.append_assoc, ← List.append_assoc]
    exact (List.perm_append_comm).append_right _

theorem take_perm : ∀ (is : List Nat) (H : Segs), H.flatten.Perm ((take is H).flatten ++ (rest is H).flatten)
  | [], H => by simp [take, rest]
  | i :: is, H => by
    have h1 := dropAt_perm i H
    have h2 := take_perm is (dropAt i H)
    simp only [take, rest, List.flatten_cons, List.append_assoc]
    exact h1.trans (h2.append_left _)

theorem HLe.pick (is : List Nat) (H : Segs) : HLe H (take is H) := ⟨(rest is H).flatten, take_perm is H⟩
theorem HLe.drop (is : List Nat) (H : Segs) : HLe H (rest is H) := ⟨(take is H).flatten, (take_perm is H).trans List.perm_append_comm⟩

theorem Sat.perm {w : World} {H H' : Segs} (hp : H.flatten.Perm H'.flatten) (s : Sat w H) : Sat w H' :=
  ⟨((hp.map (·.1)).nodup_iff).1 s.1, fun p hm => s.2 p (hp.mem_iff.2 hm)⟩

/-- WHAT A PIECE OF CODE COMES TO. -/
def Tri (P : Program) (N : Nat) (R : Rds) (c : Code) (env : Env) (H : Segs) (Q : Exit → Env → Segs → Prop) : Prop :=
  ∀ (Q' : Exit → Act → World → Prop) (w0 : World) (H0 : Segs), (∀ e env' H' a' w', Q e env' H' → St N R a' w' env' H' w0 H0 → Q' e a' w') →
    ∀ a w, St N R a w env H w0 H0 → c.wp P Q' a w

/-- WHAT A FUNCTION COMES TO. -/
def Spec (P : Program) (f : FuncId) (args : List Value) (R : Rds) (H : Segs) (Post : Value → Segs → Prop) : Prop :=
  ∀ w, Sat w H → RO w R H → Calls P f args.toArray w fun e w' => ∃ v H', e = .returned v ∧ Post v H' ∧ Sat w' H' ∧ Frame w H w' H'

theorem Spec.mono {P : Program} {f : FuncId} {args : List Value} {R : Rds} {H : Segs} {Post Post' : Value → Segs → Prop} (h : Spec P f args R H Post) (hp : ∀ v H', Post v H' → Post' v H') : Spec P f args R H Post' :=
  fun w hs hr => (h w hs hr).mono fun _ _ ⟨v, H', he, hq, hs', hf⟩ => ⟨v, H', he, hp _ _ hq, hs', hf⟩

theorem Spec.weaken {P : Program} {f : FuncId} {args : List Value} {R R' : Rds} {H : Segs} {Post : Value → Segs → Prop} (h : Spec P f args R' H Post) (hr : ∀ b o, R' b o → R b o) : Spec P f args R H Post :=
  fun w hs hro => h w hs fun b o hb => hro b o (hr b o hb)

/-! ### The rules for code -/
section rules
variable {P : Program} {N : Nat} {R : Rds} {env : Env} {H : Segs} {Q : Exit → Env → Segs → Prop}

def seqQ (P : Program) (N : Nat) (R : Rds) (y : Code) (Q : Exit → Env → Segs → Prop) : Exit → Env → Segs → Prop
  | .normal, env, H => Tri P N R y env H Q
  | e, env, H => Q e env H
def blkQ (id : Nat) (Q : Exit → Env → Segs → Prop) : Exit → Env → Segs → Prop
  | .exit id', env, H => if id' = id then Q .normal env H else Q (.exit id') env H
  | e, env, H => Q e env H
def loopQ (I : Env → Segs → Prop) (Q : Exit → Env → Segs → Prop) : Exit → Env → Segs → Prop
  | .normal, env, H => I env H
  | e, env, H => Q e env H

theorem Tri.seq {x y : Code} (h : Tri P N R x env H (seqQ P N R y Q)) : Tri P N R (.seq x y) env H Q :=
  fun Q' w0 H0 hQ a w s => wp_seq (h _ w0 H0 (fun e env' H' a' w' hq s' => by
    cases e with
    | normal => exact hq Q' w0 H0 hQ a' w' s'
    | _ => exact hQ _ _ _ _ _ hq s') a w s)
theorem Tri.skip (h : Q .normal env H) : Tri P N R .skip env H Q := fun _ _ _ hQ a w s => wp_skip (hQ _ _ _ _ _ h s)
theorem Tri.label {l : Nat} (h : Q .normal env H) : Tri P N R (.label l) env H Q := fun _ _ _ hQ a w s => wp_label (hQ _ _ _ _ _ h s)
theorem Tri.exit {id : Nat} (h : Q (.exit id) env H) : Tri P N R (.exit id) env H Q := fun _ _ _ hQ a w s => wp_exit (hQ _ _ _ _ _ h s)
theorem Tri.goto {l : Nat} (h : Q (.goto l) env H) : Tri P N R (.goto l) env H Q := fun _ _ _ hQ a w s => wp_goto (hQ _ _ _ _ _ h s)
theorem Tri.ret (h : Q .ret env H) : Tri P N R .ret env H Q := fun _ _ _ hQ a w s => wp_ret (hQ _ _ _ _ _ h s)
theorem Tri.block {id : Nat} {c : Code} (h : Tri P N R c env H (blkQ id Q)) : Tri P N R (.block id c) env H Q :=
  fun Q' w0 H0 hQ a w s => wp_block (h _ w0 H0 (fun e env' H' a' w' hq s' => by
    cases e with
    | exit id' =>
      simp only [blkQ] at hq
      simp only [Exit.inBlock]
      split
      · rename_i he; rw [if_pos he] at hq; exact hQ _ _ _ _ _ hq s'
      · rename_i he; rw [if_neg he] at hq; exact hQ _ _ _ _ _ hq s'
    | _ => exact hQ _ _ _ _ _ hq s') a w s)
theorem Tri.cond {c : Operand} {x y : Code} {b : Bool} (hc : ev env c = some (.bool b)) (ht : b = true → Tri P N R x env H Q) (hf : b = false → Tri P N R y env H Q) : Tri P N R (.cond c x y) env H Q :=
  fun Q' w0 H0 hQ a w s => wp_cond_split (s.env.eval hc) (fun h => ht h Q' w0 H0 hQ a w s) (fun h => hf h Q' w0 H0 hQ a w s)

/-- Fewer slots, fewer blocks. -/
def EnvLe (env env' : Env) : Prop := ∀ t v, Env.get? env' t = some v → Env.get? env t = some v
theorem EnvLe.refl (env : Env) : EnvLe env env := fun _ _ h => h
theorem EnvLe.nil (env : Env) : EnvLe env [] := fun _ _ h => by cases h
theorem EnvLe.cons {env env' : Env} {t : Nat} {v : Value} (h : EnvLe env env') (hv : Env.get? env t = some v) : EnvLe env ((t, v) :: env') := fun u x hx => by
  simp only [Env.get?] at hx
  split at hx
  · rename_i hb
    have := Nat.eq_of_beq_eq_true hb
    simp only [Option.some.injEq] at hx
    subst hx; subst this; exact hv
  · exact h u x hx
theorem EnvOK.le {a : Act} {env env' : Env} (h : EnvOK a env) (hl : EnvLe env env') : EnvOK a env' := fun t v hv => h t v (hl t v hv)

theorem St.le {a : Act} {w : World} {env env' : Env} {H H' : Segs} {w0 : World} {H0 : Segs} (s : St N R a w env H w0 H0) (he : EnvLe env env') (hh : HLe H H') : St N R a w env' H' w0 H0 :=
  let s' := s.step (hh.frame w) (hh.sat s.sat)
  ⟨s'.defers, s'.size, s'.env.le he, s'.sat, s'.ro, s'.fr⟩

theorem Tri.le {c : Code} {env' : Env} {H' : Segs} (he : EnvLe env env') (hh : HLe H H') (h : Tri P N R c env' H' Q) : Tri P N R c env H Q :=
  fun Q' w0 H0 hQ a w s => h Q' w0 H0 hQ a w (s.le he hh)

theorem Tri.loop {X : Type} {c : Code} (I : X → Prop) (e : X → Env) (h : X → Segs) (μ : X → Nat) (x0 : X) (hI : I x0) (he : EnvLe env (e x0)) (hh : HLe H (h x0))
    (round : ∀ x, I x → Tri P N R c (e x) (h x) (loopQ (fun env' H' => ∃ x', I x' ∧ μ x' < μ x ∧ EnvLe env' (e x') ∧ HLe H' (h x')) Q)) : Tri P N R (.loop c) env H Q :=
  fun Q' w0 H0 hQ a w s b k cs => by
    have key : ∀ n x a w, μ x = n → I x → St N R a w (e x) (h x) w0 H0 →
        ∃ ex a' w', Q' ex a' w' ∧ Arrives P (lone (b.at a (.code c :: .inLoop c :: k)) cs w) b k cs ex a' w' := by
      intro n
      induction n using Nat.strongRecOn with
      | _ n ih =>
        intro x a w hn hI s
        have hr := round x hI (Exit.then (fun a' w' => ∃ x', I x' ∧ μ x' < μ x ∧ St N R a' w' (e x') (h x') w0 H0) Q') w0 H0 (fun ex env' H' a' w' hq s' => by
          cases ex with
          | normal => obtain ⟨x', h1, h2, h3, h4⟩ := hq; exact ⟨x', h1, h2, s'.le h3 h4⟩
          | _ => exact hQ _ _ _ _ _ hq s') a w s
        obtain ⟨ex, a1, w1, hq, harr⟩ := hr b (.inLoop c :: k) cs
        cases ex with
        | normal =>
          obtain ⟨x', h1, h2, s'⟩ := hq
          obtain ⟨e2, a2, w2, hq2, harr2⟩ := ih (μ x') (hn ▸ h2) x' a1 w1 rfl h1 s'
          exact ⟨e2, a2, w2, hq2, .of_steps (Steps.trans harr (.one step_inLoop)) harr2⟩
        | exit id => exact ⟨_, a1, w1, hq, .pass (x := .inLoop c) rfl (fun _ _ => .inl (by simp)) harr⟩
        | goto l => exact ⟨_, a1, w1, hq, .pass (x := .inLoop c) rfl (fun _ _ => .inl (by simp)) harr⟩
        | ret => exact ⟨_, a1, w1, hq, .pass (x := .inLoop c) rfl (fun _ _ => .inl (by simp)) harr⟩
        | panic ch => exact ⟨_, a1, w1, hq, .pass (x := .inLoop c) rfl (fun _ _ => .inl (by simp)) harr⟩
        | outgrown => exact ⟨_, a1, w1, hq, .pass (x := .inLoop c) rfl (fun _ _ => .inl (by simp)) harr⟩
    obtain ⟨e1, a', w', hq, harr⟩ := key _ x0 a w rfl hI (s.le he hh)
    exact ⟨e1, a', w', hq, .of_steps (.one step_loop) harr⟩
end rules
end Go.Proofs.Ytlmdgdehjpahiaa
