/- What the law 'CoreReplays' uses of this prover's engine, facts and walks. No condition. -/
import Derived.KernelRfl
import Derived.LaidEql
import Derived.Laws.StructEq
import Derived.OrdersHeld
import Derived.Shelf.Abstract
import Derived.Still
import Derived.StillTail
import Derived.Tactics
import GoSem.ClaimData
set_option linter.unusedVariables false
namespace Go.Proofs.YtkagfkbkpiebjaaGreatDoor
abbrev Blk := Nat × Obj
abbrev Seg := List Blk
abbrev Segs := List Seg
abbrev Env := List (Nat × Value)
abbrev Rds := Nat → Obj → Prop
def Env.get? : Env → Nat → Option Value
 | [], _ => none
 | (k, v) :: r, t => match Nat.beq k t with
  | true => some v
  | false => Env.get? r t
def ev (env : Env) : Operand → Option Value
 | .tmp t => env.get? t
 | .const v => some v
 | .global g => some (.pointer (some ⟨g, 0, none⟩))
 | .func f => some (.func (.func f) #[] #[])
def evs (env : Env) : List Operand → Option (List Value)
 | [] => some []
 | x :: r => match ev env x, evs env r with
  | some v, some vs => some (v :: vs)
  | _, _ => none
def EnvOK (a : Act) (env : Env) : Prop := ∀ t v, env.get? t = some v → a.tmps[t]? = some v
theorem EnvOK.eval {a : Act} {env : Env} (h : EnvOK a env) {x : Operand} {v : Value} (hx : ev env x = some v) : a.eval x = v := by
 cases x with
 | tmp t => have := h t v hx; simp [Act.eval, this]
 | const u => simpa [ev, Act.eval] using hx
 | global g => simpa [ev, Act.eval] using hx
 | func f => simpa [ev, Act.eval] using hx
theorem EnvOK.evals {a : Act} {env : Env} (h : EnvOK a env) : ∀ {xs : List Operand} {vs : List Value}, evs env xs = some vs → xs.map a.eval = vs
 | [], vs, hx => by simp [evs] at hx; simp [hx]
 | x :: r, vs, hx => by
  simp only [evs] at hx
  split at hx
  ·rename_i v vs' h1 h2
   simp only [Option.some.injEq] at hx
   subst hx
   simp [h.eval h1, h.evals h2]
  ·cases hx
theorem EnvOK.evalsA {a : Act} {env : Env} (h : EnvOK a env) {xs : List Operand} {vs : List Value} (hx : evs env xs = some vs) : xs.toArray.map a.eval = vs.toArray := by
 rw [List.map_toArray, h.evals hx]
theorem EnvOK.put {a : Act} {env : Env} (h : EnvOK a env) {d : Nat} {v : Value} (hd : d < a.tmps.size) : EnvOK (a.put (some d) v) ((d, v) :: env) := by
 intro t u hu
 simp only [Env.get?] at hu
 by_cases hdt : d = t
 ·subst hdt
  have : Nat.beq d d = true := Nat.beq_refl d
  rw [this] at hu
  simp only [Option.some.injEq] at hu
  subst hu
  simp [Act.put, hd]
 ·have : Nat.beq d t = false := by
   cases hb : Nat.beq d t with
   | false => rfl
   | true => exact absurd (Nat.eq_of_beq_eq_true hb) hdt
  rw [this] at hu
  have := h t u hu
  simp [Act.put, Array.getElem?_setIfInBounds_ne hdt, this]
def Sat (w : World) (H : Segs) : Prop := (H.flatten.map (·.1)).Nodup ∧ ∀ p ∈ H.flatten, w.heap[p.1]? = some p.2
def RO (w : World) (R : Rds) (H : Segs) : Prop := ∀ b o, R b o → w.heap[b]? = some o ∧ ∀ p ∈ H.flatten, p.1 ≠ b
structure Frame (w : World) (H : Segs) (w' : World) (H' : Segs) : Prop where
 le : w.heap.size ≤ w'.heap.size
 keep : ∀ b, b < w.heap.size → (∀ p ∈ H.flatten, p.1 ≠ b) → w'.heap[b]? = w.heap[b]?
 dom : ∀ p ∈ H'.flatten, (∃ q ∈ H.flatten, q.1 = p.1) ∨ w.heap.size ≤ p.1
 os : w'.os = w.os
 output : w'.output = w.output
 tape : w'.tape = w.tape
theorem Frame.refl (w : World) (H : Segs) : Frame w H w H :=
 ⟨Nat.le_refl _, fun _ _ _ => rfl, fun p hp => .inl ⟨p, hp, rfl⟩, rfl, rfl, rfl⟩
theorem Frame.trans {w w' w'' : World} {H H' H'' : Segs} (h : Frame w H w' H') (h' : Frame w' H' w'' H'') : Frame w H w'' H'' where
 le := Nat.le_trans h.le h'.le
 keep b hb hn := by
  rw [h'.keep b (Nat.lt_of_lt_of_le hb h.le) ?_, h.keep b hb hn]
  intro p hp he
  rcases h.dom p hp with ⟨q, hq, hqp⟩ | hge
  ·exact hn q hq (hqp.trans he)
  ·omega
 dom p hp := by
  rcases h'.dom p hp with ⟨q, hq, hqp⟩ | hge
  ·rcases h.dom q hq with ⟨r, hr, hrq⟩ | hge
   ·exact .inl ⟨r, hr, hrq.trans hqp⟩
   ·exact .inr (by omega)
  ·exact .inr (Nat.le_trans h.le hge)
 os := h'.os.trans h.os
 output := h'.output.trans h.output
 tape := h'.tape.trans h.tape
structure St (N : Nat) (R : Rds) (a : Act) (w : World) (env : Env) (H : Segs) (w0 : World) (H0 : Segs) : Prop where
 defers : a.defers = []
 size : a.tmps.size = N
 env : EnvOK a env
 sat : Sat w H
 ro : RO w R H
 fr : Frame w0 H0 w H
theorem lt_of_some {w : World} {b : Nat} {o : Obj} (h : w.heap[b]? = some o) : b < w.heap.size := by
 rcases Nat.lt_or_ge b w.heap.size with h' | h'
 ·exact h'
 ·rw [Array.getElem?_eq_none h'] at h; cases h
theorem RO.frame {w w' : World} {R : Rds} {H H' : Segs} (h : RO w R H) (f : Frame w H w' H') : RO w' R H' := by
 intro b o hb
 obtain ⟨h1, h2⟩ := h b o hb
 have hlt := lt_of_some h1
 refine ⟨by rw [f.keep b hlt h2]; exact h1, fun p hp he => ?_⟩
 rcases f.dom p hp with ⟨q, hq, hqp⟩ | hge
 ·exact h2 q hq (hqp.trans he)
 ·omega
theorem St.step {N : Nat} {R : Rds} {a : Act} {w w' : World} {env : Env} {H H' : Segs} {w0 : World} {H0 : Segs} (s : St N R a w env H w0 H0) (f : Frame w H w' H') (hs : Sat w' H') : St N R a w' env H' w0 H0 :=
 ⟨s.defers, s.size, s.env, hs, s.ro.frame f, s.fr.trans f⟩
theorem St.put {N : Nat} {R : Rds} {a : Act} {w : World} {env : Env} {H : Segs} {w0 : World} {H0 : Segs} (s : St N R a w env H w0 H0) {d : Nat} (v : Value) (hd : Nat.blt d N = true) : St N R (a.put (some d) v) w ((d, v) :: env) H w0 H0 :=
 ⟨s.defers, by simp [Act.put, s.size], s.env.put (by rw [s.size]; exact Nat.le_of_ble_eq_true hd), s.sat, s.ro, s.fr⟩
theorem Frame.drew (w : World) (H : Segs) (n : Nat) : Frame w H { w with drawn := n } H :=
 ⟨Nat.le_refl _, fun _ _ _ => rfl, fun p hp => .inl ⟨p, hp, rfl⟩, rfl, rfl, rfl⟩
theorem Sat.drew {w : World} {H : Segs} (h : Sat w H) (n : Nat) : Sat { w with drawn := n } H := h
theorem alloc_heap (w : World) (o : Obj) : (w.alloc o).heap = w.heap.push o := rfl
theorem Frame.alloc (w : World) (H : Segs) (o : Obj) : Frame w H (w.alloc o) ([(w.heap.size, o)] :: H) where
 le := by rw [alloc_heap, Array.size_push]; omega
 keep b hb _ := by rw [alloc_heap, Array.getElem?_push, if_neg (Nat.ne_of_lt hb)]
 dom p hp := by
  simp only [List.flatten_cons, List.mem_append, List.mem_singleton] at hp
  rcases hp with rfl | hp
  ·exact .inr (Nat.le_refl _)
  ·exact .inl ⟨p, hp, rfl⟩
 os := rfl
 output := rfl
 tape := rfl
theorem Sat.alloc {w : World} {H : Segs} (h : Sat w H) (o : Obj) : Sat (w.alloc o) ([(w.heap.size, o)] :: H) := by
 have hlt : ∀ p ∈ H.flatten, p.1 < w.heap.size := fun p hp => lt_of_some (h.2 p hp)
 refine ⟨?_, fun p hp => ?_⟩
 ·simp only [List.flatten_cons, List.cons_append, List.nil_append, List.map_cons, List.nodup_cons]
  refine ⟨fun hm => ?_, h.1⟩
  obtain ⟨p, hp, he⟩ := List.mem_map.1 hm
  have := hlt p hp
  omega
 ·simp only [List.flatten_cons, List.mem_append, List.mem_singleton] at hp
  rcases hp with rfl | hp
  ·rw [alloc_heap, Array.getElem?_push, if_pos rfl]
  ·have := hlt p hp
   rw [alloc_heap, Array.getElem?_push, if_neg (Nat.ne_of_lt this), h.2 p hp]
def setO (w : World) (b : Nat) (o : Obj) : World := { w with heap := w.heap.setIfInBounds b o }
theorem Sat.set {w : World} {H1 H2 : Segs} {T1 T2 : Seg} {b : Nat} {o o' : Obj} (h : Sat w (H1 ++ (T1 ++ (b, o) :: T2) :: H2)) : Sat (setO w b o') (H1 ++ (T1 ++ (b, o') :: T2) :: H2) := by
 obtain ⟨hn, hm⟩ := h
 have e : ∀ o : Obj, ((H1 ++ (T1 ++ (b, o) :: T2) :: H2).flatten.map (·.1)) = (H1.flatten.map (·.1) ++ T1.map (·.1)) ++ b :: (T2.map (·.1) ++ H2.flatten.map (·.1)) := fun o => by
  simp
 rw [e] at hn
 refine ⟨by rw [e]; exact hn, fun p hp => ?_⟩
 have hb : w.heap[b]? = some o := hm (b, o) (by simp)
 have hlt := lt_of_some hb
 have hne : ∀ q : Blk, q ∈ H1.flatten ∨ q ∈ T1 ∨ q ∈ T2 ∨ q ∈ H2.flatten → q.1 ≠ b := by
  intro q hq he
  rw [List.nodup_append] at hn
  obtain ⟨_, h2, h3⟩ := hn
  rcases hq with hq | hq | hq | hq
  ·exact h3 q.1 (List.mem_append_left _ (List.mem_map_of_mem hq)) b (by simp) he
  ·exact h3 q.1 (List.mem_append_right _ (List.mem_map_of_mem hq)) b (by simp) he
  ·exact (List.nodup_cons.1 h2).1 (List.mem_append_left _ (he ▸ List.mem_map_of_mem hq))
  ·exact (List.nodup_cons.1 h2).1 (List.mem_append_right _ (he ▸ List.mem_map_of_mem hq))
 simp only [List.flatten_append, List.flatten_cons, List.mem_append, List.mem_cons] at hp
 have old : ∀ q : Blk, q ∈ H1.flatten ∨ q ∈ T1 ∨ q ∈ T2 ∨ q ∈ H2.flatten → (setO w b o').heap[q.1]? = some q.2 := fun q hq => by
  have h1 := hne q hq
  have h2 : w.heap[q.1]? = some q.2 := hm q (by
   simp only [List.flatten_append, List.flatten_cons, List.mem_append, List.mem_cons]
   rcases hq with hq | hq | hq | hq
   ·exact .inl hq
   ·exact .inr (.inl (.inl hq))
   ·exact .inr (.inl (.inr (.inr hq)))
   ·exact .inr (.inr hq))
  simp [setO, Array.getElem?_setIfInBounds_ne (Ne.symm h1), h2]
 rcases hp with hp | (hp | rfl | hp) | hp
 ·exact old p (.inl hp)
 ·exact old p (.inr (.inl hp))
 ·simp [setO, hlt]
 ·exact old p (.inr (.inr (.inl hp)))
 ·exact old p (.inr (.inr (.inr hp)))
theorem Frame.set {w : World} {H1 H2 : Segs} {T1 T2 : Seg} {b : Nat} {o o' : Obj} : Frame w (H1 ++ (T1 ++ (b, o) :: T2) :: H2) (setO w b o') (H1 ++ (T1 ++ (b, o') :: T2) :: H2) where
 le := by simp [setO]
 keep c hc hn := by
  have : b ≠ c := fun he => hn (b, o) (by simp) he
  simp [setO, Array.getElem?_setIfInBounds_ne this]
 dom p hp := by
  simp only [List.flatten_append, List.flatten_cons, List.mem_append, List.mem_cons] at hp
  rcases hp with hp | (hp | rfl | hp) | hp
  ·exact .inl ⟨p, by simp [hp], rfl⟩
  ·exact .inl ⟨p, by simp [hp], rfl⟩
  ·exact .inl ⟨(b, o), by simp, rfl⟩
  ·exact .inl ⟨p, by simp [hp], rfl⟩
  ·exact .inl ⟨p, by simp [hp], rfl⟩
 os := rfl
 output := rfl
 tape := rfl
def HLe (H H' : Segs) : Prop := ∃ G : Seg, H.flatten.Perm (H'.flatten ++ G)
theorem HLe.refl (H : Segs) : HLe H H := ⟨[], by simp⟩
theorem HLe.sat {H H' : Segs} (h : HLe H H') {w : World} (s : Sat w H) : Sat w H' := by
 obtain ⟨G, hp⟩ := h
 refine ⟨?_, fun p hm => s.2 p (hp.mem_iff.2 (List.mem_append_left _ hm))⟩
 have := (hp.map (·.1)).nodup_iff.1 s.1
 rw [List.map_append] at this
 exact (List.nodup_append.1 this).1
theorem HLe.frame {H H' : Segs} (h : HLe H H') (w : World) : Frame w H w H' := by
 obtain ⟨G, hp⟩ := h
 exact ⟨Nat.le_refl _, fun _ _ _ => rfl, fun p hm => .inl ⟨p, hp.mem_iff.2 (List.mem_append_left _ hm), rfl⟩, rfl, rfl, rfl⟩
def pick : List Nat → Segs → Segs
 | [], _ => []
 | i :: is, H => (H.getD i []) :: pick is H
def dropAt : Nat → Segs → Segs
 | _, [] => []
 | 0, _ :: r => r
 | i + 1, T :: r => T :: dropAt i r
def rest : List Nat → Segs → Segs
 | [], H => H
 | i :: is, H => rest is (dropAt i H)
def take : List Nat → Segs → Segs
 | [], _ => []
 | i :: is, H => (H.getD i []) :: take is (dropAt i H)
theorem dropAt_perm : ∀ (i : Nat) (H : Segs), H.flatten.Perm (H.getD i [] ++ (dropAt i H).flatten)
 | _, [] => by simp [dropAt]
 | 0, T :: r => by simp [dropAt]
 | i + 1, T :: r => by
  have := dropAt_perm i r
  simp only [List.flatten_cons, dropAt, List.getD_cons_succ]
  refine (this.append_left T).trans ?_
  rw [← List.append_assoc, ← List.append_assoc]
  exact (List.perm_append_comm).append_right _
theorem take_perm : ∀ (is : List Nat) (H : Segs), H.flatten.Perm ((take is H).flatten ++ (rest is H).flatten)
 | [], H => by simp [take, rest]
 | i :: is, H => by
  have h1 := dropAt_perm i H
  have h2 := take_perm is (dropAt i H)
  simp only [take, rest, List.flatten_cons, List.append_assoc]
  exact h1.trans (h2.append_left _)
theorem HLe.pick (is : List Nat) (H : Segs) : HLe H (take is H) := ⟨(rest is H).flatten, take_perm is H⟩
theorem Sat.perm {w : World} {H H' : Segs} (hp : H.flatten.Perm H'.flatten) (s : Sat w H) : Sat w H' :=
 ⟨((hp.map (·.1)).nodup_iff).1 s.1, fun p hm => s.2 p (hp.mem_iff.2 hm)⟩
def Tri (P : Program) (N : Nat) (R : Rds) (c : Code) (env : Env) (H : Segs) (Q : Exit → Env → Segs → Prop) : Prop :=
 ∀ (Q' : Exit → Act → World → Prop) (w0 : World) (H0 : Segs), (∀ e env' H' a' w', Q e env' H' → St N R a' w' env' H' w0 H0 → Q' e a' w') →
  ∀ a w, St N R a w env H w0 H0 → c.wp P Q' a w
def Spec (P : Program) (f : FuncId) (args : List Value) (R : Rds) (H : Segs) (Post : Value → Segs → Prop) : Prop :=
 ∀ w, Sat w H → RO w R H → Calls P f args.toArray w fun e w' => ∃ v H', e = .returned v ∧ Post v H' ∧ Sat w' H' ∧ Frame w H w' H'
theorem Spec.mono {P : Program} {f : FuncId} {args : List Value} {R : Rds} {H : Segs} {Post Post' : Value → Segs → Prop} (h : Spec P f args R H Post) (hp : ∀ v H', Post v H' → Post' v H') : Spec P f args R H Post' :=
 fun w hs hr => (h w hs hr).mono fun _ _ ⟨v, H', he, hq, hs', hf⟩ => ⟨v, H', he, hp _ _ hq, hs', hf⟩
theorem Spec.weaken {P : Program} {f : FuncId} {args : List Value} {R R' : Rds} {H : Segs} {Post : Value → Segs → Prop} (h : Spec P f args R' H Post) (hr : ∀ b o, R' b o → R b o) : Spec P f args R H Post :=
 fun w hs hro => h w hs fun b o hb => hro b o (hr b o hb)
section rules
variable {P : Program} {N : Nat} {R : Rds} {env : Env} {H : Segs} {Q : Exit → Env → Segs → Prop}
def seqQ (P : Program) (N : Nat) (R : Rds) (y : Code) (Q : Exit → Env → Segs → Prop) : Exit → Env → Segs → Prop
 | .normal, env, H => Tri P N R y env H Q
 | e, env, H => Q e env H
def blkQ (id : Nat) (Q : Exit → Env → Segs → Prop) : Exit → Env → Segs → Prop
 | .exit id', env, H => if id' = id then Q .normal env H else Q (.exit id') env H
 | e, env, H => Q e env H
def loopQ (I : Env → Segs → Prop) (Q : Exit → Env → Segs → Prop) : Exit → Env → Segs → Prop
 | .normal, env, H => I env H
 | e, env, H => Q e env H
theorem Tri.seq {x y : Code} (h : Tri P N R x env H (seqQ P N R y Q)) : Tri P N R (.seq x y) env H Q :=
 fun Q' w0 H0 hQ a w s => wp_seq (h _ w0 H0 (fun e env' H' a' w' hq s' => by
  cases e with
  | normal => exact hq Q' w0 H0 hQ a' w' s'
  | _ => exact hQ _ _ _ _ _ hq s') a w s)
theorem Tri.skip (h : Q .normal env H) : Tri P N R .skip env H Q := fun _ _ _ hQ a w s => wp_skip (hQ _ _ _ _ _ h s)
theorem Tri.exit {id : Nat} (h : Q (.exit id) env H) : Tri P N R (.exit id) env H Q := fun _ _ _ hQ a w s => wp_exit (hQ _ _ _ _ _ h s)
theorem Tri.ret (h : Q .ret env H) : Tri P N R .ret env H Q := fun _ _ _ hQ a w s => wp_ret (hQ _ _ _ _ _ h s)
theorem Tri.block {id : Nat} {c : Code} (h : Tri P N R c env H (blkQ id Q)) : Tri P N R (.block id c) env H Q :=
 fun Q' w0 H0 hQ a w s => wp_block (h _ w0 H0 (fun e env' H' a' w' hq s' => by
  cases e with
  | exit id' =>
   simp only [blkQ] at hq
   simp only [Exit.inBlock]
   split
   ·rename_i he; rw [if_pos he] at hq; exact hQ _ _ _ _ _ hq s'
   ·rename_i he; rw [if_neg he] at hq; exact hQ _ _ _ _ _ hq s'
  | _ => exact hQ _ _ _ _ _ hq s') a w s)
theorem Tri.cond {c : Operand} {x y : Code} {b : Bool} (hc : ev env c = some (.bool b)) (ht : b = true → Tri P N R x env H Q) (hf : b = false → Tri P N R y env H Q) : Tri P N R (.cond c x y) env H Q :=
 fun Q' w0 H0 hQ a w s => wp_cond_split (s.env.eval hc) (fun h => ht h Q' w0 H0 hQ a w s) (fun h => hf h Q' w0 H0 hQ a w s)
def EnvLe (env env' : Env) : Prop := ∀ t v, Env.get? env' t = some v → Env.get? env t = some v
theorem EnvLe.refl (env : Env) : EnvLe env env := fun _ _ h => h
theorem EnvLe.nil (env : Env) : EnvLe env [] := fun _ _ h => by cases h
theorem EnvLe.cons {env env' : Env} {t : Nat} {v : Value} (h : EnvLe env env') (hv : Env.get? env t = some v) : EnvLe env ((t, v) :: env') := fun u x hx => by
 simp only [Env.get?] at hx
 split at hx
 ·rename_i hb
  have := Nat.eq_of_beq_eq_true hb
  simp only [Option.some.injEq] at hx
  subst hx; subst this; exact hv
 ·exact h u x hx
theorem EnvLe.k1 {env : Env} {t0 : Nat} {v0 : Value} (h0 : Env.get? env t0 = some v0) : EnvLe env [(t0, v0)] := (EnvLe.nil _).cons h0
theorem EnvLe.k2 {env : Env} {t0 t1 : Nat} {v0 v1 : Value} (h0 : Env.get? env t0 = some v0) (h1 : Env.get? env t1 = some v1) : EnvLe env [(t0, v0), (t1, v1)] := ((EnvLe.nil _).cons h1).cons h0
theorem EnvLe.k3 {env : Env} {t0 t1 t2 : Nat} {v0 v1 v2 : Value} (h0 : Env.get? env t0 = some v0) (h1 : Env.get? env t1 = some v1) (h2 : Env.get? env t2 = some v2) : EnvLe env [(t0, v0), (t1, v1), (t2, v2)] := (((EnvLe.nil _).cons h2).cons h1).cons h0
theorem EnvLe.k4 {env : Env} {t0 t1 t2 t3 : Nat} {v0 v1 v2 v3 : Value} (h0 : Env.get? env t0 = some v0) (h1 : Env.get? env t1 = some v1) (h2 : Env.get? env t2 = some v2) (h3 : Env.get? env t3 = some v3) : EnvLe env [(t0, v0), (t1, v1), (t2, v2), (t3, v3)] := ((((EnvLe.nil _).cons h3).cons h2).cons h1).cons h0
theorem EnvLe.k5 {env : Env} {t0 t1 t2 t3 t4 : Nat} {v0 v1 v2 v3 v4 : Value} (h0 : Env.get? env t0 = some v0) (h1 : Env.get? env t1 = some v1) (h2 : Env.get? env t2 = some v2) (h3 : Env.get? env t3 = some v3) (h4 : Env.get? env t4 = some v4) : EnvLe env [(t0, v0), (t1, v1), (t2, v2), (t3, v3), (t4, v4)] := (((((EnvLe.nil _).cons h4).cons h3).cons h2).cons h1).cons h0
theorem EnvLe.k6 {env : Env} {t0 t1 t2 t3 t4 t5 : Nat} {v0 v1 v2 v3 v4 v5 : Value} (h0 : Env.get? env t0 = some v0) (h1 : Env.get? env t1 = some v1) (h2 : Env.get? env t2 = some v2) (h3 : Env.get? env t3 = some v3) (h4 : Env.get? env t4 = some v4) (h5 : Env.get? env t5 = some v5) : EnvLe env [(t0, v0), (t1, v1), (t2, v2), (t3, v3), (t4, v4), (t5, v5)] := ((((((EnvLe.nil _).cons h5).cons h4).cons h3).cons h2).cons h1).cons h0
theorem EnvLe.k7 {env : Env} {t0 t1 t2 t3 t4 t5 t6 : Nat} {v0 v1 v2 v3 v4 v5 v6 : Value} (h0 : Env.get? env t0 = some v0) (h1 : Env.get? env t1 = some v1) (h2 : Env.get? env t2 = some v2) (h3 : Env.get? env t3 = some v3) (h4 : Env.get? env t4 = some v4) (h5 : Env.get? env t5 = some v5) (h6 : Env.get? env t6 = some v6) : EnvLe env [(t0, v0), (t1, v1), (t2, v2), (t3, v3), (t4, v4), (t5, v5), (t6, v6)] := (((((((EnvLe.nil _).cons h6).cons h5).cons h4).cons h3).cons h2).cons h1).cons h0
theorem EnvLe.k8 {env : Env} {t0 t1 t2 t3 t4 t5 t6 t7 : Nat} {v0 v1 v2 v3 v4 v5 v6 v7 : Value} (h0 : Env.get? env t0 = some v0) (h1 : Env.get? env t1 = some v1) (h2 : Env.get? env t2 = some v2) (h3 : Env.get? env t3 = some v3) (h4 : Env.get? env t4 = some v4) (h5 : Env.get? env t5 = some v5) (h6 : Env.get? env t6 = some v6) (h7 : Env.get? env t7 = some v7) : EnvLe env [(t0, v0), (t1, v1), (t2, v2), (t3, v3), (t4, v4), (t5, v5), (t6, v6), (t7, v7)] := ((((((((EnvLe.nil _).cons h7).cons h6).cons h5).cons h4).cons h3).cons h2).cons h1).cons h0
theorem EnvLe.k9 {env : Env} {t0 t1 t2 t3 t4 t5 t6 t7 t8 : Nat} {v0 v1 v2 v3 v4 v5 v6 v7 v8 : Value} (h0 : Env.get? env t0 = some v0) (h1 : Env.get? env t1 = some v1) (h2 : Env.get? env t2 = some v2) (h3 : Env.get? env t3 = some v3) (h4 : Env.get? env t4 = some v4) (h5 : Env.get? env t5 = some v5) (h6 : Env.get? env t6 = some v6) (h7 : Env.get? env t7 = some v7) (h8 : Env.get? env t8 = some v8) : EnvLe env [(t0, v0), (t1, v1), (t2, v2), (t3, v3), (t4, v4), (t5, v5), (t6, v6), (t7, v7), (t8, v8)] := (((((((((EnvLe.nil _).cons h8).cons h7).cons h6).cons h5).cons h4).cons h3).cons h2).cons h1).cons h0
theorem EnvLe.k10 {env : Env} {t0 t1 t2 t3 t4 t5 t6 t7 t8 t9 : Nat} {v0 v1 v2 v3 v4 v5 v6 v7 v8 v9 : Value} (h0 : Env.get? env t0 = some v0) (h1 : Env.get? env t1 = some v1) (h2 : Env.get? env t2 = some v2) (h3 : Env.get? env t3 = some v3) (h4 : Env.get? env t4 = some v4) (h5 : Env.get? env t5 = some v5) (h6 : Env.get? env t6 = some v6) (h7 : Env.get? env t7 = some v7) (h8 : Env.get? env t8 = some v8) (h9 : Env.get? env t9 = some v9) : EnvLe env [(t0, v0), (t1, v1), (t2, v2), (t3, v3), (t4, v4), (t5, v5), (t6, v6), (t7, v7), (t8, v8), (t9, v9)] := ((((((((((EnvLe.nil _).cons h9).cons h8).cons h7).cons h6).cons h5).cons h4).cons h3).cons h2).cons h1).cons h0
theorem EnvLe.k11 {env : Env} {t0 t1 t2 t3 t4 t5 t6 t7 t8 t9 t10 : Nat} {v0 v1 v2 v3 v4 v5 v6 v7 v8 v9 v10 : Value} (h0 : Env.get? env t0 = some v0) (h1 : Env.get? env t1 = some v1) (h2 : Env.get? env t2 = some v2) (h3 : Env.get? env t3 = some v3) (h4 : Env.get? env t4 = some v4) (h5 : Env.get? env t5 = some v5) (h6 : Env.get? env t6 = some v6) (h7 : Env.get? env t7 = some v7) (h8 : Env.get? env t8 = some v8) (h9 : Env.get? env t9 = some v9) (h10 : Env.get? env t10 = some v10) : EnvLe env [(t0, v0), (t1, v1), (t2, v2), (t3, v3), (t4, v4), (t5, v5), (t6, v6), (t7, v7), (t8, v8), (t9, v9), (t10, v10)] := (((((((((((EnvLe.nil _).cons h10).cons h9).cons h8).cons h7).cons h6).cons h5).cons h4).cons h3).cons h2).cons h1).cons h0
theorem EnvLe.k12 {env : Env} {t0 t1 t2 t3 t4 t5 t6 t7 t8 t9 t10 t11 : Nat} {v0 v1 v2 v3 v4 v5 v6 v7 v8 v9 v10 v11 : Value} (h0 : Env.get? env t0 = some v0) (h1 : Env.get? env t1 = some v1) (h2 : Env.get? env t2 = some v2) (h3 : Env.get? env t3 = some v3) (h4 : Env.get? env t4 = some v4) (h5 : Env.get? env t5 = some v5) (h6 : Env.get? env t6 = some v6) (h7 : Env.get? env t7 = some v7) (h8 : Env.get? env t8 = some v8) (h9 : Env.get? env t9 = some v9) (h10 : Env.get? env t10 = some v10) (h11 : Env.get? env t11 = some v11) : EnvLe env [(t0, v0), (t1, v1), (t2, v2), (t3, v3), (t4, v4), (t5, v5), (t6, v6), (t7, v7), (t8, v8), (t9, v9), (t10, v10), (t11, v11)] := ((((((((((((EnvLe.nil _).cons h11).cons h10).cons h9).cons h8).cons h7).cons h6).cons h5).cons h4).cons h3).cons h2).cons h1).cons h0
theorem EnvLe.k13 {env : Env} {t0 t1 t2 t3 t4 t5 t6 t7 t8 t9 t10 t11 t12 : Nat} {v0 v1 v2 v3 v4 v5 v6 v7 v8 v9 v10 v11 v12 : Value} (h0 : Env.get? env t0 = some v0) (h1 : Env.get? env t1 = some v1) (h2 : Env.get? env t2 = some v2) (h3 : Env.get? env t3 = some v3) (h4 : Env.get? env t4 = some v4) (h5 : Env.get? env t5 = some v5) (h6 : Env.get? env t6 = some v6) (h7 : Env.get? env t7 = some v7) (h8 : Env.get? env t8 = some v8) (h9 : Env.get? env t9 = some v9) (h10 : Env.get? env t10 = some v10) (h11 : Env.get? env t11 = some v11) (h12 : Env.get? env t12 = some v12) : EnvLe env [(t0, v0), (t1, v1), (t2, v2), (t3, v3), (t4, v4), (t5, v5), (t6, v6), (t7, v7), (t8, v8), (t9, v9), (t10, v10), (t11, v11), (t12, v12)] := (((((((((((((EnvLe.nil _).cons h12).cons h11).cons h10).cons h9).cons h8).cons h7).cons h6).cons h5).cons h4).cons h3).cons h2).cons h1).cons h0
theorem EnvLe.k14 {env : Env} {t0 t1 t2 t3 t4 t5 t6 t7 t8 t9 t10 t11 t12 t13 : Nat} {v0 v1 v2 v3 v4 v5 v6 v7 v8 v9 v10 v11 v12 v13 : Value} (h0 : Env.get? env t0 = some v0) (h1 : Env.get? env t1 = some v1) (h2 : Env.get? env t2 = some v2) (h3 : Env.get? env t3 = some v3) (h4 : Env.get? env t4 = some v4) (h5 : Env.get? env t5 = some v5) (h6 : Env.get? env t6 = some v6) (h7 : Env.get? env t7 = some v7) (h8 : Env.get? env t8 = some v8) (h9 : Env.get? env t9 = some v9) (h10 : Env.get? env t10 = some v10) (h11 : Env.get? env t11 = some v11) (h12 : Env.get? env t12 = some v12) (h13 : Env.get? env t13 = some v13) : EnvLe env [(t0, v0), (t1, v1), (t2, v2), (t3, v3), (t4, v4), (t5, v5), (t6, v6), (t7, v7), (t8, v8), (t9, v9), (t10, v10), (t11, v11), (t12, v12), (t13, v13)] := ((((((((((((((EnvLe.nil _).cons h13).cons h12).cons h11).cons h10).cons h9).cons h8).cons h7).cons h6).cons h5).cons h4).cons h3).cons h2).cons h1).cons h0
theorem EnvLe.k15 {env : Env} {t0 t1 t2 t3 t4 t5 t6 t7 t8 t9 t10 t11 t12 t13 t14 : Nat} {v0 v1 v2 v3 v4 v5 v6 v7 v8 v9 v10 v11 v12 v13 v14 : Value} (h0 : Env.get? env t0 = some v0) (h1 : Env.get? env t1 = some v1) (h2 : Env.get? env t2 = some v2) (h3 : Env.get? env t3 = some v3) (h4 : Env.get? env t4 = some v4) (h5 : Env.get? env t5 = some v5) (h6 : Env.get? env t6 = some v6) (h7 : Env.get? env t7 = some v7) (h8 : Env.get? env t8 = some v8) (h9 : Env.get? env t9 = some v9) (h10 : Env.get? env t10 = some v10) (h11 : Env.get? env t11 = some v11) (h12 : Env.get? env t12 = some v12) (h13 : Env.get? env t13 = some v13) (h14 : Env.get? env t14 = some v14) : EnvLe env [(t0, v0), (t1, v1), (t2, v2), (t3, v3), (t4, v4), (t5, v5), (t6, v6), (t7, v7), (t8, v8), (t9, v9), (t10, v10), (t11, v11), (t12, v12), (t13, v13), (t14, v14)] := (((((((((((((((EnvLe.nil _).cons h14).cons h13).cons h12).cons h11).cons h10).cons h9).cons h8).cons h7).cons h6).cons h5).cons h4).cons h3).cons h2).cons h1).cons h0
theorem EnvLe.k16 {env : Env} {t0 t1 t2 t3 t4 t5 t6 t7 t8 t9 t10 t11 t12 t13 t14 t15 : Nat} {v0 v1 v2 v3 v4 v5 v6 v7 v8 v9 v10 v11 v12 v13 v14 v15 : Value} (h0 : Env.get? env t0 = some v0) (h1 : Env.get? env t1 = some v1) (h2 : Env.get? env t2 = some v2) (h3 : Env.get? env t3 = some v3) (h4 : Env.get? env t4 = some v4) (h5 : Env.get? env t5 = some v5) (h6 : Env.get? env t6 = some v6) (h7 : Env.get? env t7 = some v7) (h8 : Env.get? env t8 = some v8) (h9 : Env.get? env t9 = some v9) (h10 : Env.get? env t10 = some v10) (h11 : Env.get? env t11 = some v11) (h12 : Env.get? env t12 = some v12) (h13 : Env.get? env t13 = some v13) (h14 : Env.get? env t14 = some v14) (h15 : Env.get? env t15 = some v15) : EnvLe env [(t0, v0), (t1, v1), (t2, v2), (t3, v3), (t4, v4), (t5, v5), (t6, v6), (t7, v7), (t8, v8), (t9, v9), (t10, v10), (t11, v11), (t12, v12), (t13, v13), (t14, v14), (t15, v15)] := ((((((((((((((((EnvLe.nil _).cons h15).cons h14).cons h13).cons h12).cons h11).cons h10).cons h9).cons h8).cons h7).cons h6).cons h5).cons h4).cons h3).cons h2).cons h1).cons h0
theorem EnvLe.k17 {env : Env} {t0 t1 t2 t3 t4 t5 t6 t7 t8 t9 t10 t11 t12 t13 t14 t15 t16 : Nat} {v0 v1 v2 v3 v4 v5 v6 v7 v8 v9 v10 v11 v12 v13 v14 v15 v16 : Value} (h0 : Env.get? env t0 = some v0) (h1 : Env.get? env t1 = some v1) (h2 : Env.get? env t2 = some v2) (h3 : Env.get? env t3 = some v3) (h4 : Env.get? env t4 = some v4) (h5 : Env.get? env t5 = some v5) (h6 : Env.get? env t6 = some v6) (h7 : Env.get? env t7 = some v7) (h8 : Env.get? env t8 = some v8) (h9 : Env.get? env t9 = some v9) (h10 : Env.get? env t10 = some v10) (h11 : Env.get? env t11 = some v11) (h12 : Env.get? env t12 = some v12) (h13 : Env.get? env t13 = some v13) (h14 : Env.get? env t14 = some v14) (h15 : Env.get? env t15 = some v15) (h16 : Env.get? env t16 = some v16) : EnvLe env [(t0, v0), (t1, v1), (t2, v2), (t3, v3), (t4, v4), (t5, v5), (t6, v6), (t7, v7), (t8, v8), (t9, v9), (t10, v10), (t11, v11), (t12, v12), (t13, v13), (t14, v14), (t15, v15), (t16, v16)] := (((((((((((((((((EnvLe.nil _).cons h16).cons h15).cons h14).cons h13).cons h12).cons h11).cons h10).cons h9).cons h8).cons h7).cons h6).cons h5).cons h4).cons h3).cons h2).cons h1).cons h0
theorem EnvLe.k18 {env : Env} {t0 t1 t2 t3 t4 t5 t6 t7 t8 t9 t10 t11 t12 t13 t14 t15 t16 t17 : Nat} {v0 v1 v2 v3 v4 v5 v6 v7 v8 v9 v10 v11 v12 v13 v14 v15 v16 v17 : Value} (h0 : Env.get? env t0 = some v0) (h1 : Env.get? env t1 = some v1) (h2 : Env.get? env t2 = some v2) (h3 : Env.get? env t3 = some v3) (h4 : Env.get? env t4 = some v4) (h5 : Env.get? env t5 = some v5) (h6 : Env.get? env t6 = some v6) (h7 : Env.get? env t7 = some v7) (h8 : Env.get? env t8 = some v8) (h9 : Env.get? env t9 = some v9) (h10 : Env.get? env t10 = some v10) (h11 : Env.get? env t11 = some v11) (h12 : Env.get? env t12 = some v12) (h13 : Env.get? env t13 = some v13) (h14 : Env.get? env t14 = some v14) (h15 : Env.get? env t15 = some v15) (h16 : Env.get? env t16 = some v16) (h17 : Env.get? env t17 = some v17) : EnvLe env [(t0, v0), (t1, v1), (t2, v2), (t3, v3), (t4, v4), (t5, v5), (t6, v6), (t7, v7), (t8, v8), (t9, v9), (t10, v10), (t11, v11), (t12, v12), (t13, v13), (t14, v14), (t15, v15), (t16, v16), (t17, v17)] := ((((((((((((((((((EnvLe.nil _).cons h17).cons h16).cons h15).cons h14).cons h13).cons h12).cons h11).cons h10).cons h9).cons h8).cons h7).cons h6).cons h5).cons h4).cons h3).cons h2).cons h1).cons h0
theorem EnvLe.k19 {env : Env} {t0 t1 t2 t3 t4 t5 t6 t7 t8 t9 t10 t11 t12 t13 t14 t15 t16 t17 t18 : Nat} {v0 v1 v2 v3 v4 v5 v6 v7 v8 v9 v10 v11 v12 v13 v14 v15 v16 v17 v18 : Value} (h0 : Env.get? env t0 = some v0) (h1 : Env.get? env t1 = some v1) (h2 : Env.get? env t2 = some v2) (h3 : Env.get? env t3 = some v3) (h4 : Env.get? env t4 = some v4) (h5 : Env.get? env t5 = some v5) (h6 : Env.get? env t6 = some v6) (h7 : Env.get? env t7 = some v7) (h8 : Env.get? env t8 = some v8) (h9 : Env.get? env t9 = some v9) (h10 : Env.get? env t10 = some v10) (h11 : Env.get? env t11 = some v11) (h12 : Env.get? env t12 = some v12) (h13 : Env.get? env t13 = some v13) (h14 : Env.get? env t14 = some v14) (h15 : Env.get? env t15 = some v15) (h16 : Env.get? env t16 = some v16) (h17 : Env.get? env t17 = some v17) (h18 : Env.get? env t18 = some v18) : EnvLe env [(t0, v0), (t1, v1), (t2, v2), (t3, v3), (t4, v4), (t5, v5), (t6, v6), (t7, v7), (t8, v8), (t9, v9), (t10, v10), (t11, v11), (t12, v12), (t13, v13), (t14, v14), (t15, v15), (t16, v16), (t17, v17), (t18, v18)] := (((((((((((((((((((EnvLe.nil _).cons h18).cons h17).cons h16).cons h15).cons h14).cons h13).cons h12).cons h11).cons h10).cons h9).cons h8).cons h7).cons h6).cons h5).cons h4).cons h3).cons h2).cons h1).cons h0
theorem EnvLe.k20 {env : Env} {t0 t1 t2 t3 t4 t5 t6 t7 t8 t9 t10 t11 t12 t13 t14 t15 t16 t17 t18 t19 : Nat} {v0 v1 v2 v3 v4 v5 v6 v7 v8 v9 v10 v11 v12 v13 v14 v15 v16 v17 v18 v19 : Value} (h0 : Env.get? env t0 = some v0) (h1 : Env.get? env t1 = some v1) (h2 : Env.get? env t2 = some v2) (h3 : Env.get? env t3 = some v3) (h4 : Env.get? env t4 = some v4) (h5 : Env.get? env t5 = some v5) (h6 : Env.get? env t6 = some v6) (h7 : Env.get? env t7 = some v7) (h8 : Env.get? env t8 = some v8) (h9 : Env.get? env t9 = some v9) (h10 : Env.get? env t10 = some v10) (h11 : Env.get? env t11 = some v11) (h12 : Env.get? env t12 = some v12) (h13 : Env.get? env t13 = some v13) (h14 : Env.get? env t14 = some v14) (h15 : Env.get? env t15 = some v15) (h16 : Env.get? env t16 = some v16) (h17 : Env.get? env t17 = some v17) (h18 : Env.get? env t18 = some v18) (h19 : Env.get? env t19 = some v19) : EnvLe env [(t0, v0), (t1, v1), (t2, v2), (t3, v3), (t4, v4), (t5, v5), (t6, v6), (t7, v7), (t8, v8), (t9, v9), (t10, v10), (t11, v11), (t12, v12), (t13, v13), (t14, v14), (t15, v15), (t16, v16), (t17, v17), (t18, v18), (t19, v19)] := ((((((((((((((((((((EnvLe.nil _).cons h19).cons h18).cons h17).cons h16).cons h15).cons h14).cons h13).cons h12).cons h11).cons h10).cons h9).cons h8).cons h7).cons h6).cons h5).cons h4).cons h3).cons h2).cons h1).cons h0
theorem EnvLe.k21 {env : Env} {t0 t1 t2 t3 t4 t5 t6 t7 t8 t9 t10 t11 t12 t13 t14 t15 t16 t17 t18 t19 t20 : Nat} {v0 v1 v2 v3 v4 v5 v6 v7 v8 v9 v10 v11 v12 v13 v14 v15 v16 v17 v18 v19 v20 : Value} (h0 : Env.get? env t0 = some v0) (h1 : Env.get? env t1 = some v1) (h2 : Env.get? env t2 = some v2) (h3 : Env.get? env t3 = some v3) (h4 : Env.get? env t4 = some v4) (h5 : Env.get? env t5 = some v5) (h6 : Env.get? env t6 = some v6) (h7 : Env.get? env t7 = some v7) (h8 : Env.get? env t8 = some v8) (h9 : Env.get? env t9 = some v9) (h10 : Env.get? env t10 = some v10) (h11 : Env.get? env t11 = some v11) (h12 : Env.get? env t12 = some v12) (h13 : Env.get? env t13 = some v13) (h14 : Env.get? env t14 = some v14) (h15 : Env.get? env t15 = some v15) (h16 : Env.get? env t16 = some v16) (h17 : Env.get? env t17 = some v17) (h18 : Env.get? env t18 = some v18) (h19 : Env.get? env t19 = some v19) (h20 : Env.get? env t20 = some v20) : EnvLe env [(t0, v0), (t1, v1), (t2, v2), (t3, v3), (t4, v4), (t5, v5), (t6, v6), (t7, v7), (t8, v8), (t9, v9), (t10, v10), (t11, v11), (t12, v12), (t13, v13), (t14, v14), (t15, v15), (t16, v16), (t17, v17), (t18, v18), (t19, v19), (t20, v20)] := (((((((((((((((((((((EnvLe.nil _).cons h20).cons h19).cons h18).cons h17).cons h16).cons h15).cons h14).cons h13).cons h12).cons h11).cons h10).cons h9).cons h8).cons h7).cons h6).cons h5).cons h4).cons h3).cons h2).cons h1).cons h0
theorem EnvLe.k22 {env : Env} {t0 t1 t2 t3 t4 t5 t6 t7 t8 t9 t10 t11 t12 t13 t14 t15 t16 t17 t18 t19 t20 t21 : Nat} {v0 v1 v2 v3 v4 v5 v6 v7 v8 v9 v10 v11 v12 v13 v14 v15 v16 v17 v18 v19 v20 v21 : Value} (h0 : Env.get? env t0 = some v0) (h1 : Env.get? env t1 = some v1) (h2 : Env.get? env t2 = some v2) (h3 : Env.get? env t3 = some v3) (h4 : Env.get? env t4 = some v4) (h5 : Env.get? env t5 = some v5) (h6 : Env.get? env t6 = some v6) (h7 : Env.get? env t7 = some v7) (h8 : Env.get? env t8 = some v8) (h9 : Env.get? env t9 = some v9) (h10 : Env.get? env t10 = some v10) (h11 : Env.get? env t11 = some v11) (h12 : Env.get? env t12 = some v12) (h13 : Env.get? env t13 = some v13) (h14 : Env.get? env t14 = some v14) (h15 : Env.get? env t15 = some v15) (h16 : Env.get? env t16 = some v16) (h17 : Env.get? env t17 = some v17) (h18 : Env.get? env t18 = some v18) (h19 : Env.get? env t19 = some v19) (h20 : Env.get? env t20 = some v20) (h21 : Env.get? env t21 = some v21) : EnvLe env [(t0, v0), (t1, v1), (t2, v2), (t3, v3), (t4, v4), (t5, v5), (t6, v6), (t7, v7), (t8, v8), (t9, v9), (t10, v10), (t11, v11), (t12, v12), (t13, v13), (t14, v14), (t15, v15), (t16, v16), (t17, v17), (t18, v18), (t19, v19), (t20, v20), (t21, v21)] := ((((((((((((((((((((((EnvLe.nil _).cons h21).cons h20).cons h19).cons h18).cons h17).cons h16).cons h15).cons h14).cons h13).cons h12).cons h11).cons h10).cons h9).cons h8).cons h7).cons h6).cons h5).cons h4).cons h3).cons h2).cons h1).cons h0
theorem EnvLe.k23 {env : Env} {t0 t1 t2 t3 t4 t5 t6 t7 t8 t9 t10 t11 t12 t13 t14 t15 t16 t17 t18 t19 t20 t21 t22 : Nat} {v0 v1 v2 v3 v4 v5 v6 v7 v8 v9 v10 v11 v12 v13 v14 v15 v16 v17 v18 v19 v20 v21 v22 : Value} (h0 : Env.get? env t0 = some v0) (h1 : Env.get? env t1 = some v1) (h2 : Env.get? env t2 = some v2) (h3 : Env.get? env t3 = some v3) (h4 : Env.get? env t4 = some v4) (h5 : Env.get? env t5 = some v5) (h6 : Env.get? env t6 = some v6) (h7 : Env.get? env t7 = some v7) (h8 : Env.get? env t8 = some v8) (h9 : Env.get? env t9 = some v9) (h10 : Env.get? env t10 = some v10) (h11 : Env.get? env t11 = some v11) (h12 : Env.get? env t12 = some v12) (h13 : Env.get? env t13 = some v13) (h14 : Env.get? env t14 = some v14) (h15 : Env.get? env t15 = some v15) (h16 : Env.get? env t16 = some v16) (h17 : Env.get? env t17 = some v17) (h18 : Env.get? env t18 = some v18) (h19 : Env.get? env t19 = some v19) (h20 : Env.get? env t20 = some v20) (h21 : Env.get? env t21 = some v21) (h22 : Env.get? env t22 = some v22) : EnvLe env [(t0, v0), (t1, v1), (t2, v2), (t3, v3), (t4, v4), (t5, v5), (t6, v6), (t7, v7), (t8, v8), (t9, v9), (t10, v10), (t11, v11), (t12, v12), (t13, v13), (t14, v14), (t15, v15), (t16, v16), (t17, v17), (t18, v18), (t19, v19), (t20, v20), (t21, v21), (t22, v22)] := (((((((((((((((((((((((EnvLe.nil _).cons h22).cons h21).cons h20).cons h19).cons h18).cons h17).cons h16).cons h15).cons h14).cons h13).cons h12).cons h11).cons h10).cons h9).cons h8).cons h7).cons h6).cons h5).cons h4).cons h3).cons h2).cons h1).cons h0
theorem EnvLe.k24 {env : Env} {t0 t1 t2 t3 t4 t5 t6 t7 t8 t9 t10 t11 t12 t13 t14 t15 t16 t17 t18 t19 t20 t21 t22 t23 : Nat} {v0 v1 v2 v3 v4 v5 v6 v7 v8 v9 v10 v11 v12 v13 v14 v15 v16 v17 v18 v19 v20 v21 v22 v23 : Value} (h0 : Env.get? env t0 = some v0) (h1 : Env.get? env t1 = some v1) (h2 : Env.get? env t2 = some v2) (h3 : Env.get? env t3 = some v3) (h4 : Env.get? env t4 = some v4) (h5 : Env.get? env t5 = some v5) (h6 : Env.get? env t6 = some v6) (h7 : Env.get? env t7 = some v7) (h8 : Env.get? env t8 = some v8) (h9 : Env.get? env t9 = some v9) (h10 : Env.get? env t10 = some v10) (h11 : Env.get? env t11 = some v11) (h12 : Env.get? env t12 = some v12) (h13 : Env.get? env t13 = some v13) (h14 : Env.get? env t14 = some v14) (h15 : Env.get? env t15 = some v15) (h16 : Env.get? env t16 = some v16) (h17 : Env.get? env t17 = some v17) (h18 : Env.get? env t18 = some v18) (h19 : Env.get? env t19 = some v19) (h20 : Env.get? env t20 = some v20) (h21 : Env.get? env t21 = some v21) (h22 : Env.get? env t22 = some v22) (h23 : Env.get? env t23 = some v23) : EnvLe env [(t0, v0), (t1, v1), (t2, v2), (t3, v3), (t4, v4), (t5, v5), (t6, v6), (t7, v7), (t8, v8), (t9, v9), (t10, v10), (t11, v11), (t12, v12), (t13, v13), (t14, v14), (t15, v15), (t16, v16), (t17, v17), (t18, v18), (t19, v19), (t20, v20), (t21, v21), (t22, v22), (t23, v23)] := ((((((((((((((((((((((((EnvLe.nil _).cons h23).cons h22).cons h21).cons h20).cons h19).cons h18).cons h17).cons h16).cons h15).cons h14).cons h13).cons h12).cons h11).cons h10).cons h9).cons h8).cons h7).cons h6).cons h5).cons h4).cons h3).cons h2).cons h1).cons h0
theorem EnvOK.le {a : Act} {env env' : Env} (h : EnvOK a env) (hl : EnvLe env env') : EnvOK a env' := fun t v hv => h t v (hl t v hv)
theorem St.le {a : Act} {w : World} {env env' : Env} {H H' : Segs} {w0 : World} {H0 : Segs} (s : St N R a w env H w0 H0) (he : EnvLe env env') (hh : HLe H H') : St N R a w env' H' w0 H0 :=
 let s' := s.step (hh.frame w) (hh.sat s.sat)
 ⟨s'.defers, s'.size, s'.env.le he, s'.sat, s'.ro, s'.fr⟩
theorem Tri.le {c : Code} {env' : Env} {H' : Segs} (he : EnvLe env env') (hh : HLe H H') (h : Tri P N R c env' H' Q) : Tri P N R c env H Q :=
 fun Q' w0 H0 hQ a w s => h Q' w0 H0 hQ a w (s.le he hh)
theorem Tri.loop {X : Type} {c : Code} (I : X → Prop) (e : X → Env) (h : X → Segs) (μ : X → Nat) (x0 : X) (hI : I x0) (he : EnvLe env (e x0)) (hh : HLe H (h x0))
  (round : ∀ x, I x → Tri P N R c (e x) (h x) (loopQ (fun env' H' => ∃ x', I x' ∧ μ x' < μ x ∧ EnvLe env' (e x') ∧ HLe H' (h x')) Q)) : Tri P N R (.loop c) env H Q :=
 fun Q' w0 H0 hQ a w s b k cs => by
  have key : ∀ n x a w, μ x = n → I x → St N R a w (e x) (h x) w0 H0 →
    ∃ ex a' w', Q' ex a' w' ∧ Arrives P (lone (b.at a (.code c :: .inLoop c :: k)) cs w) b k cs ex a' w' := by
   intro n
   induction n using Nat.strongRecOn with
   | _ n ih =>
    intro x a w hn hI s
    have hr := round x hI (Exit.then (fun a' w' => ∃ x', I x' ∧ μ x' < μ x ∧ St N R a' w' (e x') (h x') w0 H0) Q') w0 H0 (fun ex env' H' a' w' hq s' => by
     cases ex with
     | normal => obtain ⟨x', h1, h2, h3, h4⟩ := hq; exact ⟨x', h1, h2, s'.le h3 h4⟩
     | _ => exact hQ _ _ _ _ _ hq s') a w s
    obtain ⟨ex, a1, w1, hq, harr⟩ := hr b (.inLoop c :: k) cs
    cases ex with
    | normal =>
     obtain ⟨x', h1, h2, s'⟩ := hq
     obtain ⟨e2, a2, w2, hq2, harr2⟩ := ih (μ x') (hn ▸ h2) x' a1 w1 rfl h1 s'
     exact ⟨e2, a2, w2, hq2, .of_steps (Steps.trans harr (.one step_inLoop)) harr2⟩
    | exit id => exact ⟨_, a1, w1, hq, .pass (x := .inLoop c) rfl (fun _ _ => .inl (by simp)) harr⟩
    | goto l => exact ⟨_, a1, w1, hq, .pass (x := .inLoop c) rfl (fun _ _ => .inl (by simp)) harr⟩
    | ret => exact ⟨_, a1, w1, hq, .pass (x := .inLoop c) rfl (fun _ _ => .inl (by simp)) harr⟩
    | panic ch => exact ⟨_, a1, w1, hq, .pass (x := .inLoop c) rfl (fun _ _ => .inl (by simp)) harr⟩
    | outgrown => exact ⟨_, a1, w1, hq, .pass (x := .inLoop c) rfl (fun _ _ => .inl (by simp)) harr⟩
  obtain ⟨e1, a', w', hq, harr⟩ := key _ x0 a w rfl hI (s.le he hh)
  exact ⟨e1, a', w', hq, .of_steps (.one step_loop) harr⟩
end rules
end Go.Proofs.YtkagfkbkpiebjaaGreatDoor
set_option linter.unusedVariables false
namespace Go.Proofs.YtkagfkbkpiebjaaGreatDoor
class Und (P : Program) (t : TypeId) (d : outParam TypeDesc) : Prop where h : P.underlying t = some d
class Sz (P : Program) (t : TypeId) (n : outParam Nat) : Prop where h : ∀ w, (sizeOf t).run P w = .ok n w
class Zr (P : Program) (t : TypeId) (v : outParam Value) : Prop where h : ∀ w, (zeroValue t).run P w = .ok v w
class Agg (P : Program) (t : TypeId) (b : outParam Bool) : Prop where h : ∀ w, (isAgg t).run P w = .ok b w
class By (P : Program) (t : TypeId) (n : outParam Nat) : Prop where h : ∀ w, ∃ i, (typeInfo t).run P w = .ok i w ∧ i.bytes = n
class Fld (P : Program) (s : TypeId) (f : Nat) (off : outParam Nat) : Prop where
 h : ∀ (a : Addr) w, (Instr.fieldAt s (.pointer (some a)) f).run P w = .ok (.pointer (some (a.add off))) w
class Ent (P : Program) (f : FuncId) : Prop where h : ∀ (args : Array Value) (w : World), (callFunc f args).run P w = .ok (.enter f args) w
theorem Fld.of {P : Program} {s : TypeId} {fs : Array Field} {f : Nat} {fd : Field} {n off : Nat} (hu : P.underlying s = some (.struct fs)) (hf : fs[f]? = some fd)
  (hs : ∀ w, (sizeOf fd.type).run P w = .ok n w) (hn : (n == 0) = false) (ho : fd.offset = off) : Fld P s f off := ⟨fun a w => by
 have hn' : n ≠ 0 := by simpa using hn
 simp [Instr.fieldAt, run_underlying hu, hf, Instr.sureAddr, fieldPlace, hs, hn', ho]⟩
def Quiet (P : Program) (R : Rds) (env : Env) (H : Segs) (op : Op) (ty : TypeId) (v : Value) : Prop :=
 ∀ (a : Act) (w : World) (d : Option Tmp) (pos : String) (af : Array Edge) (g : Option (Nat × Bool)), EnvOK a env → Sat w H → RO w R H → (execOp a.eval ⟨d, op, ty, pos, af, g⟩).run P w = .ok (.value v) w
def TriOps (m : Bool) (P : Program) (N : Nat) (R : Rds) (ops : Array Oper) (l : List Oper) (env : Env) (H : Segs) (K : Env → Segs → Prop) : Prop :=
 ∀ (Q' : Exit → Act → World → Prop) (w0 : World) (H0 : Segs), (∀ env' H' a' w', K env' H' → St N R a' w' env' H' w0 H0 → Q' .normal a' w') →
  ∀ a w, St N R a w env H w0 H0 → match m with
   | true => wpStill P ops w (fun a' => Q' .normal a' w) l a
   | false => wpList P ops Q' l a w
section
variable {P : Program} {N : Nat} {R : Rds} {ops : Array Oper} {l : List Oper} {env : Env} {H : Segs} {K : Env → Segs → Prop} {Q : Exit → Env → Segs → Prop} {m : Bool}
theorem Tri.region {id : Nat} (h : TriOps false P N R l.toArray l env H (Q .normal)) : Tri P N R (.region id l.toArray false) env H Q :=
 fun Q' w0 H0 hQ a w s => wp_region_lit (h Q' w0 H0 (fun env' H' a' w' hk s' => hQ _ _ _ _ _ hk s') a w s)
theorem Tri.region_still {id : Nat} (hm : P.follows .mixedOrders = true) (hB : Region.lexB .any l.toArray = true) (h : TriOps true P N R l.toArray l env H (Q .normal)) : Tri P N R (.region id l.toArray true) env H Q :=
 fun Q' w0 H0 hQ a w s => wp_region_still_lit hm hB (h Q' w0 H0 (fun env' H' a' w' hk s' => hQ _ _ _ _ _ hk s') a _ (s.step (Frame.drew w H _) (s.sat.drew _)))
theorem Tri.region_tail {id : Nat} (n : Nat) (hm : P.follows .mixedOrders = true) (hB : Region.lexTailB .any l.toArray n = true)
  (h : TriOps true P N R l.toArray (l.take n) env H fun env' H' => TriOps false P N R l.toArray (l.drop n) env' H' (Q .normal)) : Tri P N R (.region id l.toArray true) env H Q :=
 fun Q' w0 H0 hQ a w s => wp_region_still_tail n hm hB (h (fun _ a' w' => wpList P l.toArray Q' (l.drop n) a' w') w0 H0
  (fun env' H' a' w' hk s' => hk Q' w0 H0 (fun env' H' a' w' hk s' => hQ _ _ _ _ _ hk s') a' w' s') a _ (s.step (Frame.drew w H _) (s.sat.drew _)))
theorem TriOps.nil (h : K env H) : TriOps m P N R ops [] env H K := fun Q' w0 H0 hQ a w s => by
 cases m
 ·exact wpList_nil (hQ _ _ _ _ h s)
 ·exact wpStill_nil (hQ _ _ _ _ h s)
theorem TriOps.q {d : Nat} {op : Op} {ty : TypeId} {pos : String} {af : Array Edge} {v : Value} (hq : Quiet P R env H op ty v) (hn : TriOps m P N R ops l ((d, v) :: env) H K) (hd : Nat.blt d N = true := by rfl) :
  TriOps m P N R ops (⟨some d, op, ty, pos, af, none⟩ :: l) env H K := fun Q' w0 H0 hQ a w s => by
 have hr := hq a w (some d) pos af none s.env s.sat s.ro
 have hn' := hn Q' w0 H0 hQ _ w (s.put v hd)
 cases m
 ·simp only [wpList, Region.wanted, if_true]
  exact .inl (by rw [Oper.wp, hr]; exact hn')
 ·simp only [wpStill, Region.wanted, if_true]
  rw [Oper.still, hr]
  exact ⟨rfl, hn'⟩
def gdst (ops : Array Oper) (j : Nat) : Option Nat := (ops[j]?).bind (·.dst)
theorem yielded_env {a : Act} {j t : Nat} {b : Bool} (he : EnvOK a env) (hj : gdst ops j = some t) (hv : Env.get? env t = some (.bool b)) : yielded ops a.tmps j = some b := by
 unfold gdst at hj
 simp [yielded, hj, he t _ hv]
theorem TriOps.gt {j t : Nat} {want : Bool} {dst : Option Nat} {op : Op} {ty : TypeId} {pos : String} {af : Array Edge} (hv : Env.get? env t = some (.bool want)) (hn : TriOps m P N R ops (⟨dst, op, ty, pos, af, none⟩ :: l) env H K) (hj : gdst ops j = some t := by rfl) :
  TriOps m P N R ops (⟨dst, op, ty, pos, af, some (j, want)⟩ :: l) env H K := fun Q' w0 H0 hQ a w s => by
 have hw : Region.wanted ⟨dst, op, ty, pos, af, some (j, want)⟩ (yielded ops a.tmps) = true := by
  simp [Region.wanted, yielded_env s.env hj hv]
 have h := hn Q' w0 H0 hQ a w s
 cases m
 ·simp only [wpList] at h ⊢
  rw [if_pos hw]
  rw [if_pos (by simp [Region.wanted])] at h
  exact h
 ·simp only [wpStill] at h ⊢
  rw [if_pos hw]
  rw [if_pos (by simp [Region.wanted])] at h
  exact h
theorem TriOps.gf {j t d : Nat} {want b : Bool} {op : Op} {ty : TypeId} {pos : String} {af : Array Edge} (hv : Env.get? env t = some (.bool b)) (hb : (b == want) = false) (hn : TriOps m P N R ops l ((d, undef) :: env) H K) (hj : gdst ops j = some t := by rfl) (hd : Nat.blt d N = true := by rfl) :
  TriOps m P N R ops (⟨some d, op, ty, pos, af, some (j, want)⟩ :: l) env H K := fun Q' w0 H0 hQ a w s => by
 have hw : ¬ Region.wanted ⟨some d, op, ty, pos, af, some (j, want)⟩ (yielded ops a.tmps) = true := by
  have hne : ¬ b = want := by simpa using hb
  simp [Region.wanted, yielded_env s.env hj hv, hne]
 have h := hn Q' w0 H0 hQ _ w (s.put undef hd)
 cases m
 ·simp only [wpList]
  rw [if_neg hw]
  exact h
 ·simp only [wpStill]
  rw [if_neg hw]
  exact h
theorem TriOps.eff {d : Nat} {op : Op} {ty : TypeId} {pos : String} {af : Array Edge} (hd : Nat.blt d N = true)
  (h : ∀ a w, EnvOK a env → Sat w H → RO w R H → ∃ v w' H', (execOp a.eval ⟨some d, op, ty, pos, af, none⟩).run P w = .ok (.value v) w' ∧ Frame w H w' H' ∧ Sat w' H' ∧ TriOps false P N R ops l ((d, v) :: env) H' K) :
  TriOps false P N R ops (⟨some d, op, ty, pos, af, none⟩ :: l) env H K := fun Q' w0 H0 hQ a w s => by
 obtain ⟨v, w', H', hr, hf, hs, hn⟩ := h a w s.env s.sat s.ro
 simp only [wpList, Region.wanted, if_true]
 exact .inl (by rw [Oper.wp, hr]; exact hn Q' w0 H0 hQ _ w' ((s.step hf hs).put v hd))
theorem TriOps.eff0 {op : Op} {ty : TypeId} {pos : String} {af : Array Edge}
  (h : ∀ a w, EnvOK a env → Sat w H → RO w R H → ∃ w' H', ((execOp a.eval ⟨none, op, ty, pos, af, none⟩).run P w = .ok .skip w' ∨ ∃ v, (execOp a.eval ⟨none, op, ty, pos, af, none⟩).run P w = .ok (.value v) w') ∧ Frame w H w' H' ∧ Sat w' H' ∧ TriOps false P N R ops l env H' K) :
  TriOps false P N R ops (⟨none, op, ty, pos, af, none⟩ :: l) env H K := fun Q' w0 H0 hQ a w s => by
 obtain ⟨w', H', hr, hf, hs, hn⟩ := h a w s.env s.sat s.ro
 simp only [wpList, Region.wanted, if_true]
 refine .inl ?_
 rcases hr with hr | ⟨v, hr⟩
 ·rw [Oper.wp, hr]; exact hn Q' w0 H0 hQ _ w' (s.step hf hs)
 ·rw [Oper.wp, hr]; exact hn Q' w0 H0 hQ _ w' (s.step hf hs)
def Rx (R : Rds) (H : Segs) : Rds := fun b o => R b o ∨ (b, o) ∈ H.flatten
theorem sat_split {w : World} {is : List Nat} (s : Sat w H) : Sat w (take is H) ∧ Sat w (rest is H) ∧ ∀ p ∈ (take is H).flatten, ∀ q ∈ (rest is H).flatten, p.1 ≠ q.1 := by
 have hp := take_perm is H
 have hn := (hp.map (·.1)).nodup_iff.1 s.1
 rw [List.map_append, List.nodup_append] at hn
 refine ⟨⟨hn.1, fun p hm => s.2 p (hp.mem_iff.2 (List.mem_append_left _ hm))⟩, ⟨hn.2.1, fun p hm => s.2 p (hp.mem_iff.2 (List.mem_append_right _ hm))⟩, fun p h1 q h2 he => ?_⟩
 exact hn.2.2 p.1 (List.mem_map_of_mem h1) q.1 (List.mem_map_of_mem h2) he
theorem RO.split {w : World} {is : List Nat} (s : Sat w H) (r : RO w R H) : RO w (Rx R (rest is H)) (take is H) := by
 obtain ⟨s1, s2, s3⟩ := sat_split (is := is) s
 intro b o hb
 rcases hb with hb | hb
 ·exact ⟨(r b o hb).1, fun p hp => (r b o hb).2 p ((take_perm is H).mem_iff.2 (List.mem_append_left _ hp))⟩
 ·exact ⟨s2.2 _ hb, fun p hp he => s3 p hp _ hb he⟩
theorem sat_join {w w' : World} {is : List Nat} {H' : Segs} (s : Sat w H) (s' : Sat w' H') (f : Frame w (take is H) w' H') : Sat w' (H' ++ rest is H) ∧ Frame w H w' (H' ++ rest is H) := by
 obtain ⟨s1, s2, s3⟩ := sat_split (is := is) s
 have hlt : ∀ q ∈ (rest is H).flatten, q.1 < w.heap.size := fun q hq => lt_of_some (s2.2 q hq)
 have hdis : ∀ p ∈ H'.flatten, ∀ q ∈ (rest is H).flatten, p.1 ≠ q.1 := fun p hp q hq he => by
  rcases f.dom p hp with ⟨r, hr, hrp⟩ | hge
  ·exact s3 r hr q hq (hrp.trans he)
  ·have := hlt q hq; omega
 refine ⟨⟨?_, fun p hp => ?_⟩, ⟨f.le, fun b hb hn => ?_, fun p hp => ?_, f.os, f.output, f.tape⟩⟩
 ·rw [List.flatten_append, List.map_append, List.nodup_append]
  refine ⟨s'.1, s2.1, fun x hx y hy he => ?_⟩
  obtain ⟨p, hp, rfl⟩ := List.mem_map.1 hx
  obtain ⟨q, hq, rfl⟩ := List.mem_map.1 hy
  exact hdis p hp q hq he
 ·rw [List.flatten_append, List.mem_append] at hp
  rcases hp with hp | hp
  ·exact s'.2 p hp
  ·rw [f.keep p.1 (hlt p hp) (fun q hq he => s3 q hq p hp he)]
   exact s2.2 p hp
 ·exact f.keep b hb fun p hp => hn p ((take_perm is H).mem_iff.2 (List.mem_append_left _ hp))
 ·rw [List.flatten_append, List.mem_append] at hp
  rcases hp with hp | hp
  ·rcases f.dom p hp with ⟨r, hr, hrp⟩ | hge
   ·exact .inl ⟨r, (take_perm is H).mem_iff.2 (List.mem_append_left _ hr), hrp⟩
   ·exact .inr hge
  ·exact .inl ⟨p, (take_perm is H).mem_iff.2 (List.mem_append_right _ hp), rfl⟩
theorem TriOps.call_gen {dst : Option Nat} {op : Op} {ty : TypeId} {pos : String} {af : Array Edge} (is : List Nat) {f : FuncId} {vs : List Value} {Post : Value → Segs → Prop}
  (hx : ∀ a w, EnvOK a env → (execOp a.eval ⟨dst, op, ty, pos, af, none⟩).run P w = .ok (.enter f vs.toArray) w)
  (hs : Spec P f vs (Rx R (rest is H)) (take is H) Post)
  (hn : ∀ v H', Post v H' → match dst with
   | some d => Nat.blt d N = true ∧ TriOps false P N R ops l ((d, v) :: env) (H' ++ rest is H) K
   | none => TriOps false P N R ops l env (H' ++ rest is H) K) :
  TriOps false P N R ops (⟨dst, op, ty, pos, af, none⟩ :: l) env H K := fun Q' w0 H0 hQ a w s => by
 simp only [wpList, Region.wanted, if_true]
 refine .inl ?_
 rw [Oper.wp, hx a w s.env]
 obtain ⟨s1, s2, s3⟩ := sat_split (is := is) s.sat
 refine (hs w s1 (RO.split s.sat s.ro)).mono fun e w' ⟨v, H', he, hp, hs', hf⟩ => ?_
 subst he
 obtain ⟨j1, j2⟩ := sat_join s.sat hs' hf
 have hn' := hn v H' hp
 cases dst with
 | some d => exact hn'.2 Q' w0 H0 hQ _ w' ((s.step j2 j1).put v hn'.1)
 | none => exact hn' Q' w0 H0 hQ _ w' (s.step j2 j1)
theorem run_call {f : FuncId} [e : Ent P f] {xs : List Operand} {ats : Array TypeId} {vs : List Value} {dst : Option Nat} {ty : TypeId} {pos : String} {af : Array Edge} {g : Option (Nat × Bool)} (hxs : evs env xs = some vs) (a : Act) (w : World) (ha : EnvOK a env) :
  (execOp a.eval ⟨dst, .call ⟨.value (.func f), xs.toArray, ats⟩, ty, pos, af, g⟩).run P w = .ok (.enter f vs.toArray) w := by
 have h1 := ha.evalsA hxs
 simp only [execOp, resolve, h1, Act.eval, Deferred.ofValue]
 have := e.h vs.toArray w
 simp [invoke, this]
theorem TriOps.call {d : Nat} {ty : TypeId} {pos : String} {af : Array Edge} (is : List Nat) {f : FuncId} [e : Ent P f] {xs : List Operand} {ats : Array TypeId} {vs : List Value} {Post : Value → Segs → Prop}
  (hs : Spec P f vs (Rx R (rest is H)) (take is H) Post)
  (hn : ∀ v H', Post v H' → TriOps false P N R ops l ((d, v) :: env) (H' ++ rest is H) K) (hxs : evs env xs = some vs := by rfl) (hd : Nat.blt d N = true := by rfl) :
  TriOps false P N R ops (⟨some d, .call ⟨.value (.func f), xs.toArray, ats⟩, ty, pos, af, none⟩ :: l) env H K :=
 TriOps.call_gen is (fun a w ha => run_call hxs a w ha) hs (fun v H' hp => ⟨hd, hn v H' hp⟩)
theorem TriOps.callV {d : Nat} {ty : TypeId} {pos : String} {af : Array Edge} (is : List Nat) {t : Nat} {f : FuncId} {first captured : List Value} [e : Ent P f] {xs : List Operand} {ats : Array TypeId} {vs : List Value} {Post : Value → Segs → Prop}
  (ht : Env.get? env t = some (.func (.func f) first.toArray captured.toArray))
  (hs : Spec P f (first ++ vs ++ captured) (Rx R (rest is H)) (take is H) Post)
  (hn : ∀ v H', Post v H' → TriOps false P N R ops l ((d, v) :: env) (H' ++ rest is H) K) (hxs : evs env xs = some vs := by rfl) (hd : Nat.blt d N = true := by rfl) :
  TriOps false P N R ops (⟨some d, .call ⟨.value (.tmp t), xs.toArray, ats⟩, ty, pos, af, none⟩ :: l) env H K :=
 TriOps.call_gen is (fun a w ha => by
  have h1 := ha.evalsA hxs
  have h2 : a.eval (.tmp t) = _ := ha.eval ht
  simp only [execOp, resolve, h1, h2, Deferred.ofValue]
  have := e.h (first ++ vs ++ captured).toArray w
  rw [← List.append_toArray, ← List.append_toArray] at this ⊢
  exact this) hs (fun v H' hp => ⟨hd, hn v H' hp⟩)
end
end Go.Proofs.YtkagfkbkpiebjaaGreatDoor
set_option linter.unusedVariables false
namespace Go.Proofs.YtkagfkbkpiebjaaGreatDoor
def addP (p : Value) (k : Nat) : Value := match p with
 | .pointer (some a) => .pointer (some (a.add k))
 | v => v
def baseP (v : Value) (k : Nat) : Value := match v with
 | .slice (some a) _ _ => .pointer (some (a.add k))
 | v => v
class PC (T : Rds) (p : Value) (vs : outParam (List Value)) : Prop where
 h : ∃ b off c E fr, p = .pointer (some ⟨b, off, none⟩) ∧ T b (.cells c E fr) ∧ ∀ j (hj : j < vs.length), c[off + j]? = some vs[j]
def sg (T : Seg) : Rds := fun b o => (b, o) ∈ T
class RC (R : Rds) (H : Segs) (p : Value) (vs : outParam (List Value)) : Prop where
 h : PC (Rx R H) p vs
theorem PC.mono {T T' : Rds} {p : Value} {vs : List Value} (h : PC T p vs) (ht : ∀ b o, T b o → T' b o) : PC T' p vs :=
 ⟨let ⟨b, off, c, E, fr, h1, h2, h3⟩ := h.h; ⟨b, off, c, E, fr, h1, ht _ _ h2, h3⟩⟩
theorem PC.add {T : Rds} {p : Value} {vs : List Value} (h : PC T p vs) (k : Nat) : PC T (addP p k) (vs.drop k) := by
 obtain ⟨b, off, c, E, fr, rfl, h2, h3⟩ := h.h
 refine ⟨b, off + k, c, E, fr, ?_, h2, fun j hj => ?_⟩
 ·simp only [addP, Addr.add]; split
  ·rename_i h0; subst h0; rfl
  ·rfl
 ·rw [List.length_drop] at hj
  have := h3 (k + j) (by omega)
  rw [List.getElem_drop, Nat.add_assoc]
  exact this
instance RC.there {R : Rds} {H : Segs} {T : Seg} {p : Value} {vs : List Value} [h : RC R H p vs] : RC R (T :: H) p vs :=
 ⟨h.h.mono fun b o hb => hb.imp id fun hm => by simp [hm]⟩
instance RC.here {R : Rds} {H : Segs} {b : Nat} {vs : List Value} {E : TypeId} {fr : Nat × Nat} : RC R ([(b, .cells vs.toArray E fr)] :: H) (.pointer (some ⟨b, 0, none⟩)) vs :=
 ⟨⟨b, 0, vs.toArray, E, fr, rfl, .inr (by simp), fun j hj => by simp [hj]⟩⟩
class PS (T : Seg) (p : Value) (vs : outParam (List Value)) : Prop where h : PC (sg T) p vs
instance RC.ofSeg {R : Rds} {H : Segs} {T : Seg} {p : Value} {vs : List Value} [h : PS T p vs] : RC R (T :: H) p vs :=
 ⟨h.h.mono fun b o hb => .inr (List.mem_flatten.2 ⟨T, by simp, hb⟩)⟩
instance RC.ofR {R : Rds} {H : Segs} {p : Value} {vs : List Value} [h : PC R p vs] : RC R H p vs := ⟨h.mono fun b o hb => .inl hb⟩
instance RC.add {R : Rds} {H : Segs} {p : Value} {k : Nat} {vs : List Value} [h : RC R H p vs] : RC R H (addP p k) (vs.drop k) := ⟨h.h.add k⟩
theorem pc_cells {P : Program} {R : Rds} {H : Segs} {p : Value} {vs : List Value} (h : PC (Rx R H) p vs) {w : World} (s : Sat w H) (r : RO w R H) :
  ∃ b off, p = .pointer (some ⟨b, off, none⟩) ∧ ∀ j (hj : j < vs.length), w.cell? ⟨b, off + j, none⟩ = some vs[j] := by
 obtain ⟨b, off, c, E, fr, h1, h2, h3⟩ := h.h
 refine ⟨b, off, h1, fun j hj => ?_⟩
 have hb : w.heap[b]? = some (.cells c E fr) := by
  rcases h2 with h2 | h2
  ·exact (r b _ h2).1
  ·exact s.2 _ h2
 simp [World.cell?, hb, h3 j hj]
theorem run_load1 {P : Program} {a : Addr} {v : Value} {w : World} (h : w.cell? a = some v) : (load a).run P w = .ok v w := by
 rw [run_load, h]
theorem run_loadCellsFrom {P : Program} {w : World} {b off : Nat} : ∀ (vs : List Value) (i : Nat) (acc : Array Value), (∀ j (hj : j < vs.length), w.cell? ⟨b, off + i + j, none⟩ = some vs[j]) →
  (loadCellsFrom ⟨b, off, none⟩ i vs.length acc).run P w = .ok (acc ++ vs.toArray) w
 | [], i, acc, _ => by simp [loadCellsFrom]
 | v :: r, i, acc, h => by
  have h0 := h 0 (by simp)
  have hi : (⟨b, off, none⟩ : Addr).add i = ⟨b, off + i, none⟩ := by
   simp only [Addr.add]; split
   ·rename_i h0; subst h0; rfl
   ·rfl
  have h1 : (load ⟨b, off + i, none⟩).run P w = .ok v w := run_load1 (by simpa using h0)
  have h2 := run_loadCellsFrom (P := P) r (i + 1) (acc.push v) (fun j hj => by
   have := h (j + 1) (by simp; omega)
   simpa [Nat.add_assoc, Nat.add_comm 1 j] using this)
  simp only [List.length_cons, loadCellsFrom, hi, Sem.run_bind, h1, Result.andThen_ok, h2]
  simp
section
variable {P : Program} {R : Rds} {env : Env} {H : Segs} {ty : TypeId}
theorem Quiet.move {x : Operand} {v : Value} (h : ev env x = some v := by rfl) : Quiet P R env H (.move x) ty v := fun a w d pos af g ha _ _ => by
 simp [execOp, ha.eval h]
theorem Quiet.assign {x : Operand} {v : Value} (h : ev env x = some v := by rfl) : Quiet P R env H (.assign x) ty v := fun a w d pos af g ha _ _ => by
 simp [execOp, ha.eval h]
theorem Quiet.pick {c x y : Operand} {b : Bool} {u v : Value} (hc : ev env c = some (.bool b) := by rfl) (hx : ev env x = some u := by rfl) (hy : ev env y = some v := by rfl) :
  Quiet P R env H (.pick c x y) ty (if b then u else v) := fun a w d pos af g ha _ _ => by
 simp [execOp, ha.eval hc, ha.eval hx, ha.eval hy, asBool]
theorem Quiet.pickT {c x y : Operand} {u : Value} (hc : ev env c = some (.bool true) := by rfl) (hx : ev env x = some u := by rfl) :
  Quiet P R env H (.pick c x y) ty u := fun a w d pos af g ha _ _ => by
 simp [execOp, ha.eval hc, ha.eval hx, asBool]
theorem Quiet.pickF {c x y : Operand} {v : Value} (hc : ev env c = some (.bool false) := by rfl) (hy : ev env y = some v := by rfl) :
  Quiet P R env H (.pick c x y) ty v := fun a w d pos af g ha _ _ => by
 simp [execOp, ha.eval hc, ha.eval hy, asBool]
theorem Quiet.nilCheck {x : Operand} {p : Value} {vs : List Value} (hx : ev env x = some p) [rc : RC R H p vs] : Quiet P R env H (.nilCheck x) ty p := fun a w d pos af g ha _ _ => by
 obtain ⟨b, off, c, E, fr, h1, _, _⟩ := rc.h.h
 subst h1
 simp [execOp, ha.eval hx]
theorem Quiet.fieldAddr {x : Operand} {s : TypeId} {f off : Nat} {p : Value} {vs : List Value} (hx : ev env x = some p) [fl : Fld P s f off] [rc : RC R H p vs] : Quiet P R env H (.fieldAddr s x f) ty (addP p off) := fun a w d pos af g ha _ _ => by
 obtain ⟨b, o, c, E, fr, h1, _, _⟩ := rc.h.h
 subst h1
 simp [execOp, ha.eval hx, fl.h, addP]
theorem Quiet.load1 {x : Operand} {t : TypeId} {p u : Value} {vs r : List Value} (hx : ev env x = some p) [ag : Agg P t false] [rc : RC R H p vs] (hu : vs = u :: r := by rfl) : Quiet P R env H (.load t x) ty u := fun a w d pos af g ha s ro => by
 obtain ⟨b, off, h1, h2⟩ := pc_cells (P := P) rc.h s ro
 subst h1; subst hu
 have := h2 0 (by simp)
 have h3 : w.cell? ⟨b, off, none⟩ = some u := by simpa using this
 simp [execOp, ha.eval hx, Instr.loadAt, Instr.sureAddr, loadVar, ag.h, h3]
theorem Quiet.loadA {x : Operand} {t : TypeId} {p : Value} {n : Nat} {vs : List Value} (hx : ev env x = some p) [ag : Agg P t true] [sz : Sz P t n] [rc : RC R H p vs] (hn : vs.length = n := by rfl) : Quiet P R env H (.load t x) ty (.agg vs.toArray) := fun a w d pos af g ha s ro => by
 obtain ⟨b, off, h1, h2⟩ := pc_cells (P := P) rc.h s ro
 subst h1; subst hn
 have := run_loadCellsFrom (P := P) (w := w) (b := b) (off := off) vs 0 #[] (by simpa using h2)
 simp [execOp, ha.eval hx, Instr.loadAt, Instr.sureAddr, loadVar, ag.h, sz.h, loadCells, this]
theorem Quiet.loadT {x : Operand} {t : TypeId} {p : Value} {n : Nat} {vs us : List Value} (hx : ev env x = some p) [ag : Agg P t true] [sz : Sz P t n] [rc : RC R H p vs] (hn : vs.take n = us := by rfl) (hl : us.length = n := by rfl) : Quiet P R env H (.load t x) ty (.agg us.toArray) := fun a w d pos af g ha s ro => by
 obtain ⟨b, off, h1, h2⟩ := pc_cells (P := P) rc.h s ro
 subst h1; subst hl
 have hle : us.length ≤ vs.length := by
  have := congrArg List.length hn; rw [List.length_take] at this; omega
 have := run_loadCellsFrom (P := P) (w := w) (b := b) (off := off) us 0 #[] (fun j hj => by
  have := h2 j (by omega)
  have e : us[j] = vs[j]'(by omega) := by rw [List.getElem_of_eq hn.symm hj, List.getElem_take]
  rw [e]; simpa using this)
 simp [execOp, ha.eval hx, Instr.loadAt, Instr.sureAddr, loadVar, ag.h, sz.h, loadCells, this]
theorem Quiet.makeFunc {fn : Fn} {xs ys : List Operand} {us vs : List Value} (hx : evs env xs = some us := by rfl) (hy : evs env ys = some vs := by rfl) : Quiet P R env H (.makeFunc fn xs.toArray ys.toArray) ty (.func fn us.toArray vs.toArray) := fun a w d pos af g ha _ _ => by
 have h1 := ha.evalsA hx
 have h2 := ha.evalsA hy
 simp only [execOp, h1, h2, Instr.makeFunc]
 rfl
theorem Quiet.makeInterface {x : Operand} {t : TypeId} {v : Value} {d0 : TypeDesc} [ut : Und P t d0] (hd : (match d0 with | .interface _ => false | _ => true) = true := by rfl) (hx : ev env x = some v := by rfl) : Quiet P R env H (.makeInterface t x) ty (.iface t v) := fun a w d pos af g ha _ _ => by
 cases d0 <;> first | (cases hd; done) | simp [execOp, ha.eval hx, Instr.makeInterface, run_underlying ut.h]
theorem Quiet.extract {x : Operand} {i : Nat} {vs : List Value} {v : Value} (hx : ev env x = some (.tuple vs.toArray) := by rfl) (hv : vs[i]? = some v := by rfl) : Quiet P R env H (.extract x i) ty v := fun a w d pos af g ha _ _ => by
 simp [execOp, ha.eval hx, Instr.extract, hv]
theorem Quiet.not {x : Operand} {t : TypeId} {b : Bool} (hx : ev env x = some (.bool b) := by rfl) : Quiet P R env H (.unOp .not t x) ty (.bool (!b)) := fun a w d pos af g ha _ _ => by
 simp [execOp, ha.eval hx, Op.unary]
theorem eqGuard_other {op : BinOp} {t : TypeId} {x y : Operand} {u v : Value} {w : World} (h : (match u, v with | .nilIface, .nilIface => false | .agg _, .agg _ => false | _, _ => true) = true) : (eqGuard op t x y u v).run P w = .ok () w := by
 unfold eqGuard
 cases u <;> cases v <;> first | (cases h; done) | (cases op <;> rfl)
section ints
variable {x y : Operand} {t u : TypeId} {k : IntKind} {m n : Int}
theorem Quiet.add (hx : ev env x = some (.int k m) := by rfl) (hy : ev env y = some (.int k n) := by rfl) : Quiet P R env H (.binOp .add t x y u) ty (.int k (k.wrap (m + n))) := fun a w d pos af g ha _ _ => by
 simp [execOp, ha.eval hx, ha.eval hy, eqGuard, binOp, Op.intArith]
theorem Quiet.sub (hx : ev env x = some (.int k m) := by rfl) (hy : ev env y = some (.int k n) := by rfl) : Quiet P R env H (.binOp .sub t x y u) ty (.int k (k.wrap (m - n))) := fun a w d pos af g ha _ _ => by
 simp [execOp, ha.eval hx, ha.eval hy, eqGuard, binOp, Op.intArith]
theorem Quiet.mul (hx : ev env x = some (.int k m) := by rfl) (hy : ev env y = some (.int k n) := by rfl) : Quiet P R env H (.binOp .mul t x y u) ty (.int k (k.wrap (m * n))) := fun a w d pos af g ha _ _ => by
 simp [execOp, ha.eval hx, ha.eval hy, eqGuard, binOp, Op.intArith]
theorem Quiet.quo (hx : ev env x = some (.int k m) := by rfl) (hy : ev env y = some (.int k n) := by rfl) (hn : n ≠ 0 := by decide) : Quiet P R env H (.binOp .quo t x y u) ty (.int k (k.wrap (m.tdiv n))) := fun a w d pos af g ha _ _ => by
 simp [execOp, ha.eval hx, ha.eval hy, eqGuard, binOp, Op.intDiv, hn]
theorem Quiet.rem (hx : ev env x = some (.int k m) := by rfl) (hy : ev env y = some (.int k n) := by rfl) (hn : n ≠ 0 := by decide) : Quiet P R env H (.binOp .rem t x y u) ty (.int k (m.tmod n)) := fun a w d pos af g ha _ _ => by
 simp [execOp, ha.eval hx, ha.eval hy, eqGuard, binOp, Op.intDiv, hn]
theorem Quiet.lss (hx : ev env x = some (.int k m) := by rfl) (hy : ev env y = some (.int k n) := by rfl) : Quiet P R env H (.binOp .lss t x y u) ty (.bool (m < n)) := fun a w d pos af g ha _ _ => by
 simp [execOp, ha.eval hx, ha.eval hy, eqGuard, binOp, Op.intCmp]
theorem Quiet.leq (hx : ev env x = some (.int k m) := by rfl) (hy : ev env y = some (.int k n) := by rfl) : Quiet P R env H (.binOp .leq t x y u) ty (.bool (m ≤ n)) := fun a w d pos af g ha _ _ => by
 simp [execOp, ha.eval hx, ha.eval hy, eqGuard, binOp, Op.intCmp]
theorem Quiet.gtr (hx : ev env x = some (.int k m) := by rfl) (hy : ev env y = some (.int k n) := by rfl) : Quiet P R env H (.binOp .gtr t x y u) ty (.bool (n < m)) := fun a w d pos af g ha _ _ => by
 simp [execOp, ha.eval hx, ha.eval hy, eqGuard, binOp, Op.intCmp]
theorem Quiet.geq (hx : ev env x = some (.int k m) := by rfl) (hy : ev env y = some (.int k n) := by rfl) : Quiet P R env H (.binOp .geq t x y u) ty (.bool (n ≤ m)) := fun a w d pos af g ha _ _ => by
 simp [execOp, ha.eval hx, ha.eval hy, eqGuard, binOp, Op.intCmp]
theorem Quiet.eqI (hx : ev env x = some (.int k m) := by rfl) (hy : ev env y = some (.int k n) := by rfl) : Quiet P R env H (.binOp .eql t x y u) ty (.bool (m == n)) := fun a w d pos af g ha _ _ => by
 simp [execOp, ha.eval hx, ha.eval hy, eqGuard, binOp, Op.intCmp]
theorem Quiet.neI (hx : ev env x = some (.int k m) := by rfl) (hy : ev env y = some (.int k n) := by rfl) : Quiet P R env H (.binOp .neq t x y u) ty (.bool (m != n)) := fun a w d pos af g ha _ _ => by
 simp [execOp, ha.eval hx, ha.eval hy, eqGuard, binOp, Op.intCmp]
theorem Quiet.convI {dst : TypeId} {k' : IntKind} (hx : ev env x = some (.int k n) := by rfl) {ds : TypeDesc} [us : Und P t ds] [ud : Und P dst (.int k')] : Quiet P R env H (.convert t dst x) ty (.int k' (k'.wrap n)) := fun a w d pos af g ha _ _ => by
 simp [execOp, ha.eval hx, convert, run_underlying us.h, run_underlying ud.h, Conv.intToInt]
end ints
theorem run_eqlOp {op : Op} {t : TypeId} {x y : Operand} {u v : Value} {ty u2 : TypeId} {a : Act} {w : World} {d : Option Tmp} {pos : String} {af : Array Edge} {g : Option (Nat × Bool)} {r : Bool} (hx : a.eval x = u) (hy : a.eval y = v)
  (hg : (eqGuard .eql t x y u v).run P w = .ok () w) (hb : binOp .eql t u v = do pure (.bool (← Op.equal t u v))) (he : (Op.equalIn (9999 + 1) t u v).run P w = .ok r w) :
  (execOp a.eval ⟨d, .binOp .eql t x y u2, ty, pos, af, g⟩).run P w = .ok (.value (.bool r)) w := by
 have he' : (Op.equal t u v).run P w = .ok r w := he
 simp only [execOp, hx, hy, Sem.run_bind, hg, Result.andThen_ok, hb, he']
 rfl
theorem run_neqOp {op : Op} {t : TypeId} {x y : Operand} {u v : Value} {ty u2 : TypeId} {a : Act} {w : World} {d : Option Tmp} {pos : String} {af : Array Edge} {g : Option (Nat × Bool)} {r : Bool} (hx : a.eval x = u) (hy : a.eval y = v)
  (hg : (eqGuard .neq t x y u v).run P w = .ok () w) (hb : binOp .neq t u v = do pure (.bool (!(← Op.equal t u v)))) (he : (Op.equalIn (9999 + 1) t u v).run P w = .ok r w) :
  (execOp a.eval ⟨d, .binOp .neq t x y u2, ty, pos, af, g⟩).run P w = .ok (.value (.bool (!r))) w := by
 have he' : (Op.equal t u v).run P w = .ok r w := he
 simp only [execOp, hx, hy, Sem.run_bind, hg, Result.andThen_ok, hb, he']
 rfl
theorem toList_inj {a b : ByteArray} (h : a.toList = b.toList) : a = b := by
 rw [ByteArray.toList_eq, ByteArray.toList_eq] at h
 exact ByteArray.ext (Array.toList_inj.1 h)
theorem beq_str (a b : ByteArray) : (a.toList == b.toList) = decide (a = b) := by
 by_cases h : a = b
 ·subst h; simp
 ·simp only [h, decide_false, beq_eq_false_iff_ne, ne_eq]
  exact fun e => h (toList_inj e)
theorem beq_str' (a b : ByteArray) : (a == b) = decide (a = b) := by rw [beq_toListBytes, beq_str]
def sLt (a b : ByteArray) : Bool := Op.bytesLess a.toList b.toList
section strs
variable {x y : Operand} {t u : TypeId} {p q : ByteArray}
theorem Quiet.eqS (hx : ev env x = some (.string p) := by rfl) (hy : ev env y = some (.string q) := by rfl) : Quiet P R env H (.binOp .eql t x y u) ty (.bool (decide (p = q))) := fun a w d pos af g ha _ _ => by
 rw [← beq_str]; simp [execOp, ha.eval hx, ha.eval hy, eqGuard, binOp, Op.stringOp]
theorem Quiet.neS (hx : ev env x = some (.string p) := by rfl) (hy : ev env y = some (.string q) := by rfl) : Quiet P R env H (.binOp .neq t x y u) ty (.bool !(decide (p = q))) := fun a w d pos af g ha _ _ => by
 rw [← beq_str]; simp [execOp, ha.eval hx, ha.eval hy, eqGuard, binOp, Op.stringOp]
theorem Quiet.ltS (hx : ev env x = some (.string p) := by rfl) (hy : ev env y = some (.string q) := by rfl) : Quiet P R env H (.binOp .lss t x y u) ty (.bool (sLt p q)) := fun a w d pos af g ha _ _ => by
 simp [execOp, ha.eval hx, ha.eval hy, eqGuard, binOp, Op.stringOp, sLt]
theorem Quiet.lenS (hx : ev env x = some (.string p) := by rfl) [ut : Und P t .string] : Quiet P R env H (.call ⟨.builtin .len, #[x], #[t]⟩) ty (.int .i64 p.size) := fun a w d pos af g ha _ _ => by
 simp [execOp, resolve, ha.eval hx, invoke, builtin, Builtin.len_, run_underlying ut.h, goInt]
theorem Quiet.indexS {i : Operand} {k : IntKind} {j : Int} (n : Nat) (hn : n < p.size) (hx : ev env x = some (.string p) := by rfl) (hi : ev env i = some (.int k j) := by rfl) (hj : j = (n : Int) := by rfl) [ut : Und P t .string] :
  Quiet P R env H (.index t x i) ty (.int .u8 (p[n]).toNat) := fun a w d pos af g ha _ _ => by
 subst hj
 simp [execOp, ha.eval hx, ha.eval hi, Instr.index, asIntOf, run_underlying ut.h, hn]
end strs
section nils
variable {x y : Operand} {t u e : TypeId}
theorem run_equalIn_nil (n : Nat) {w : World} {p : Option Addr} (ut : P.underlying t = some (.pointer e)) : (Op.equalIn (n + 1) t (.pointer p) (.pointer none)).run P w = .ok p.isNone w := by
 cases p <;> simp [Op.equalIn, run_underlying ut]
theorem Quiet.eqNilA {p : Option Addr} (hx : ev env x = some (.pointer p)) (hy : ev env y = some (.pointer none)) [ut : Und P t (.pointer e)] : Quiet P R env H (.binOp .eql t x y u) ty (.bool p.isNone) := fun a w d pos af g ha _ _ =>
 run_eqlOp (op := .move x) (ha.eval hx) (ha.eval hy) (eqGuard_other rfl) rfl (run_equalIn_nil _ ut.h)
theorem Quiet.neNilA {p : Option Addr} (hx : ev env x = some (.pointer p)) (hy : ev env y = some (.pointer none)) [ut : Und P t (.pointer e)] : Quiet P R env H (.binOp .neq t x y u) ty (.bool !p.isNone) := fun a w d pos af g ha _ _ =>
 run_neqOp (op := .move x) (ha.eval hx) (ha.eval hy) (eqGuard_other rfl) rfl (run_equalIn_nil _ ut.h)
theorem Quiet.eqNilP {p : Value} {vs : List Value} (hx : ev env x = some p) (hy : ev env y = some (.pointer none)) [ut : Und P t (.pointer e)] [rc : RC R H p vs] : Quiet P R env H (.binOp .eql t x y u) ty (.bool false) := fun a w d pos af g ha _ _ => by
 obtain ⟨b, off, c, E, fr, h1, _, _⟩ := rc.h.h
 subst h1
 exact run_eqlOp (op := .move x) (ha.eval hx) (ha.eval hy) (eqGuard_other rfl) rfl (run_equalIn_nil _ ut.h)
theorem Quiet.neNilP {p : Value} {vs : List Value} (hx : ev env x = some p) (hy : ev env y = some (.pointer none)) [ut : Und P t (.pointer e)] [rc : RC R H p vs] : Quiet P R env H (.binOp .neq t x y u) ty (.bool true) := fun a w d pos af g ha _ _ => by
 obtain ⟨b, off, c, E, fr, h1, _, _⟩ := rc.h.h
 subst h1
 exact run_neqOp (op := .move x) (ha.eval hx) (ha.eval hy) (eqGuard_other rfl) rfl (run_equalIn_nil _ ut.h)
end nils
end
end Go.Proofs.YtkagfkbkpiebjaaGreatDoor
set_option linter.unusedVariables false
namespace Go.Proofs.YtkagfkbkpiebjaaGreatDoor
def oneCell : Value → Bool
 | .agg _ | .tuple _ => false
 | _ => true
class One (v : Value) : Prop where h : oneCell v = true
instance One.bool {b : Bool} : One (.bool b) := ⟨rfl⟩
instance One.int {k : IntKind} {n : Int} : One (.int k n) := ⟨rfl⟩
instance One.string {s : ByteArray} : One (.string s) := ⟨rfl⟩
instance One.pointer {a : Option Addr} : One (.pointer a) := ⟨rfl⟩
instance One.slice {a : Option Addr} {m n : Nat} : One (.slice a m n) := ⟨rfl⟩
instance One.map {r : Option Nat} : One (.map r) := ⟨rfl⟩
instance One.func {f : Fn} {a b : Array Value} : One (.func f a b) := ⟨rfl⟩
class Ones (vs : List Value) : Prop where h : ∀ v ∈ vs, oneCell v = true
instance Ones.nil : Ones [] := ⟨by simp⟩
instance Ones.cons {v : Value} {vs : List Value} [h1 : One v] [h2 : Ones vs] : Ones (v :: vs) := ⟨by simpa using ⟨h1.h, h2.h⟩⟩
theorem cells_one {v : Value} (h : oneCell v = true) : v.cells = #[v] := by cases v <;> simp_all [oneCell, Value.cells]
def setL : List Value → Nat → List Value → List Value
 | [], _, cs => cs
 | v :: vs, k + 1, cs => v :: setL vs k cs
 | v :: vs, 0, [] => v :: vs
 | _ :: vs, 0, c :: cs => c :: setL vs 0 cs
theorem setL_eq : ∀ (vs : List Value) (off : Nat) (cs : List Value), setL vs off cs = vs.take off ++ cs ++ vs.drop (off + cs.length)
 | [], k, cs => by simp [setL]
 | v :: vs, k + 1, cs => by simp [setL, setL_eq vs k cs, Nat.add_right_comm]
 | v :: vs, 0, [] => by simp [setL]
 | v :: vs, 0, c :: cs => by simp [setL, setL_eq vs 0 cs]
instance Ones.setL {vs cs : List Value} {k : Nat} [h1 : Ones vs] [h2 : Ones cs] : Ones (Go.Proofs.YtkagfkbkpiebjaaGreatDoor.setL vs k cs) := ⟨fun v hv => by
 simp only [setL_eq, List.mem_append] at hv
 rcases hv with (hv | hv) | hv
 ·exact h1.h v (List.mem_of_mem_take hv)
 ·exact h2.h v hv
 ·exact h1.h v (List.mem_of_mem_drop hv)⟩
instance Ones.take {vs : List Value} {k : Nat} [h1 : Ones vs] : Ones (vs.take k) := ⟨fun v hv => h1.h v (List.mem_of_mem_take hv)⟩
theorem setL_length {vs cs : List Value} {off : Nat} (h : off + cs.length ≤ vs.length) : (setL vs off cs).length = vs.length := by rw [setL_eq]; simp; omega
theorem setL_nil {vs : List Value} {off : Nat} : setL vs off [] = vs := by rw [setL_eq]; simp
theorem setL_cons {vs cs : List Value} {off : Nat} {c : Value} (h : off + cs.length < vs.length) : setL vs off (c :: cs) = setL (vs.set off c) (off + 1) cs := by
 apply List.ext_getElem?
 intro i
 simp only [setL_eq, List.getElem?_append, List.length_append, List.length_take, List.getElem?_take, List.getElem?_drop, List.getElem?_set, List.length_cons, List.length_set]
 have e : min off vs.length = off := by omega
 have e' : min (off + 1) vs.length = off + 1 := by omega
 simp only [e, e', List.getElem?_cons]
 by_cases h1 : i < off
 ·simp [h1, show i < off + (cs.length + 1) by omega, show i < off + 1 by omega, show i < off + 1 + cs.length by omega, show ¬ off = i by omega]
 ·by_cases h2 : i = off
  ·subst h2; simp [show i < i + (cs.length + 1) by omega, show i < i + 1 + cs.length by omega, show i < vs.length by omega]
  ·by_cases h3 : i < off + (cs.length + 1)
   ·simp [h1, h3, show ¬ i < off + 1 by omega, show i < off + 1 + cs.length by omega, show ¬ i - off = 0 by omega, show i - off - 1 = i - (off + 1) by omega]
   ·simp [h3, show ¬ i < off + 1 + cs.length by omega]
    rw [if_neg (by omega), show off + (cs.length + 1) + (i - (off + (cs.length + 1))) = off + 1 + cs.length + (i - (off + 1 + cs.length)) by omega]
theorem setO_setO (w : World) (b : Nat) (o o' : Obj) : setO (setO w b o) b o' = setO w b o' := by simp [setO]
theorem setCell_setO {w : World} {b off : Nat} {vs : List Value} {E : TypeId} {fr : Nat × Nat} (h : w.heap[b]? = some (.cells vs.toArray E fr)) (v : Value) : w.setCell ⟨b, off, none⟩ v = setO w b (.cells (vs.set off v).toArray E fr) := by
 have hb := lt_of_some h
 unfold World.setCell setO
 congr 1
 apply Array.ext_getElem?
 intro i
 simp only [Array.getElem?_modify, Array.getElem?_setIfInBounds, hb]
 by_cases hi : b = i
 ·subst hi; simp [h]
 ·simp [hi]
theorem run_storeCells {P : Program} {b off : Nat} {E : TypeId} : ∀ (cs : List Value) (i : Nat) (vs : List Value) (w : World), w.heap[b]? = some (.cells vs.toArray E (0, 0)) → (∀ v ∈ cs, oneCell v = true) → off + i + cs.length ≤ vs.length →
  (storeCells ⟨b, off, none⟩ cs i).run P w = .ok () (setO w b (.cells (setL vs (off + i) cs).toArray E (0, 0)))
 | [], i, vs, w, hw, _, _ => by
  have : setO w b (.cells vs.toArray E (0, 0)) = w := by
   unfold setO
   have : w.heap.setIfInBounds b (.cells vs.toArray E (0, 0)) = w.heap := by
    apply Array.ext_getElem?
    intro i
    simp only [Array.getElem?_setIfInBounds]
    by_cases hi : b = i
    ·subst hi; rw [hw]; simp [lt_of_some hw]
    ·simp [hi]
   rw [this]
  rw [setL_nil, this]; rfl
 | v :: cs, i, vs, w, hw, ho, hl => by
  simp only [List.length_cons] at hl
  have hi : (⟨b, off, none⟩ : Addr).add i = ⟨b, off + i, none⟩ := by
   simp only [Addr.add]; split
   ·rename_i h0; subst h0; rfl
   ·rfl
  have hc : w.cell? ⟨b, off + i, none⟩ = some (vs[off + i]'(by omega)) := by simp [World.cell?, hw]
  have hf : w.frozen? ⟨b, off + i, none⟩ = false := by simp [World.frozen?, hw]
  have hv := ho v (by simp)
  have h1 : (store ⟨b, off + i, none⟩ v).run P w = .ok () (setO w b (.cells (vs.set (off + i) v).toArray E (0, 0))) := by
   rw [← setCell_setO hw]
   cases v <;> simp_all [store, Sem.run, oneCell]
  have hw' : (setO w b (.cells (vs.set (off + i) v).toArray E (0, 0))).heap[b]? = some (.cells (vs.set (off + i) v).toArray E (0, 0)) := by
   simp [setO, lt_of_some hw]
  have h2 := run_storeCells (P := P) (b := b) (off := off) (E := E) cs (i + 1) (vs.set (off + i) v) _ hw' (fun u hu => ho u (by simp [hu])) (by simp; omega)
  simp only [storeCells, hi, Sem.run_bind, h1, Result.andThen_ok, h2, setO_setO]
  rw [setL_cons (by omega), Nat.add_assoc]
class Wr (H : Segs) (p : Value) (vs : outParam (List Value)) (off : outParam Nat) (upd : outParam (List Value → Segs)) : Prop where
 h : ∃ b E H1 H2 T1 T2, p = .pointer (some ⟨b, off, none⟩) ∧ H = H1 ++ (T1 ++ (b, .cells vs.toArray E (0, 0)) :: T2) :: H2 ∧ ∀ vs', upd vs' = H1 ++ (T1 ++ (b, .cells vs'.toArray E (0, 0)) :: T2) :: H2
instance Wr.there {H : Segs} {T : Seg} {p : Value} {vs : List Value} {off : Nat} {upd : List Value → Segs} [h : Wr H p vs off upd] : Wr (T :: H) p vs off (fun vs' => T :: upd vs') :=
 ⟨let ⟨b, E, H1, H2, T1, T2, h1, h2, h3⟩ := h.h; ⟨b, E, T :: H1, H2, T1, T2, h1, by rw [h2]; rfl, fun vs' => by rw [h3]; rfl⟩⟩
instance Wr.here {H : Segs} {b : Nat} {vs : List Value} {E : TypeId} : Wr ([(b, .cells vs.toArray E (0, 0))] :: H) (.pointer (some ⟨b, 0, none⟩)) vs 0 (fun vs' => [(b, .cells vs'.toArray E (0, 0))] :: H) :=
 ⟨⟨b, E, [], H, [], [], rfl, rfl, fun _ => rfl⟩⟩
instance Wr.add {H : Segs} {p : Value} {k : Nat} {vs : List Value} {off : Nat} {upd : List Value → Segs} [h : Wr H p vs off upd] : Wr H (addP p k) vs (off + k) upd :=
 ⟨by
  obtain ⟨b, E, H1, H2, T1, T2, h1, h2, h3⟩ := h.h
  refine ⟨b, E, H1, H2, T1, T2, ?_, h2, h3⟩
  subst h1
  simp only [addP, Addr.add]; split
  ·rename_i h0; subst h0; rfl
  ·rfl⟩
section
variable {P : Program} {N : Nat} {R : Rds} {ops : Array Oper} {l : List Oper} {env : Env} {H : Segs} {K : Env → Segs → Prop} {ty : TypeId} {pos : String} {af : Array Edge}
theorem run_storeAt {t : TypeId} {n : Nat} [sz : Sz P t n] {b off : Nat} {E : TypeId} {v : Value} {cs vs : List Value} {w : World} (hc : v.cells = cs.toArray) (hn : cs.length = n) (hw : w.heap[b]? = some (.cells vs.toArray E (0, 0))) (ho : ∀ u ∈ cs, oneCell u = true) (hl : off + cs.length ≤ vs.length) :
  (Instr.storeAt t (.pointer (some ⟨b, off, none⟩)) v).run P w = .ok () (setO w b (.cells (setL vs off cs).toArray E (0, 0))) := by
 have h := run_storeCells (P := P) (b := b) (off := off) (E := E) cs 0 vs w hw ho (by omega)
 subst hn
 have hz : v.cells.size = cs.length := by rw [hc]; simp
 simp only [Instr.storeAt, Instr.sureAddr, Sem.run_bind, Sem.run_pure, Result.andThen_ok, storeVar, sz.h, hz, ne_eq, not_true, if_false]
 rw [hc]
 exact h
theorem TriOps.store_gen {t : TypeId} {x y : Operand} {n : Nat} {p v : Value} {vs cs : List Value} {off : Nat} {upd : List Value → Segs} (hx : ev env x = some p) (hy : ev env y = some v) (hc : v.cells = cs.toArray) (hn : cs.length = n) [sz : Sz P t n] [wr : Wr H p vs off upd] (ho : ∀ u ∈ cs, oneCell u = true)
  (hl : off + cs.length ≤ vs.length) (hn' : TriOps false P N R ops l env (upd (setL vs off cs)) K) : TriOps false P N R ops (⟨none, .store t x y, ty, pos, af, none⟩ :: l) env H K :=
 TriOps.eff0 fun a w ha s ro => by
  obtain ⟨b, E, H1, H2, T1, T2, h1, h2, h3⟩ := wr.h
  subst h1; subst h2
  have hw : w.heap[b]? = some (.cells vs.toArray E (0, 0)) := s.2 (b, _) (by simp)
  refine ⟨setO w b (.cells (setL vs off cs).toArray E (0, 0)), upd (setL vs off cs), .inl ?_, ?_, ?_, hn'⟩
  ·simp [execOp, ha.eval hx, ha.eval hy, run_storeAt hc hn hw ho hl]
  ·rw [h3]; exact Frame.set
  ·rw [h3]; exact Sat.set s
theorem TriOps.store1 {t : TypeId} {x y : Operand} {p v : Value} {vs : List Value} {off : Nat} {upd : List Value → Segs} (hx : ev env x = some p) (hy : ev env y = some v) [sz : Sz P t 1] [wr : Wr H p vs off upd] [o : One v] (hn' : TriOps false P N R ops l env (upd (setL vs off [v])) K)
  (hl : off + 1 ≤ vs.length := by first | decide | exact Nat.le_of_ble_eq_true rfl) : TriOps false P N R ops (⟨none, .store t x y, ty, pos, af, none⟩ :: l) env H K :=
 TriOps.store_gen (cs := [v]) hx hy (cells_one o.h) rfl (by simpa using o.h) (by simpa using hl) hn'
theorem TriOps.storeA {t : TypeId} {x y : Operand} {n : Nat} {p : Value} {vs cs : List Value} {off : Nat} {upd : List Value → Segs} (hx : ev env x = some p) (hy : ev env y = some (.agg cs.toArray)) [sz : Sz P t n] [wr : Wr H p vs off upd] [o : Ones cs] (hn' : TriOps false P N R ops l env (upd (setL vs off cs)) K)
  (hn : cs.length = n := by rfl) (hl : off + cs.length ≤ vs.length := by first | decide | exact Nat.le_of_ble_eq_true rfl) : TriOps false P N R ops (⟨none, .store t x y, ty, pos, af, none⟩ :: l) env H K :=
 TriOps.store_gen (cs := cs) hx hy rfl hn o.h hl hn'
theorem TriOps.fresh {op : Op} {d : Nat} {o : Obj} {v : Nat → Value} (hd : Nat.blt d N = true) (h : ∀ a w, EnvOK a env → Sat w H → RO w R H → ∃ n, (execOp a.eval ⟨some d, op, ty, pos, af, none⟩).run P w = .ok (.value (v w.heap.size)) (({ w with drawn := n } : World).alloc o))
  (hn : ∀ b, TriOps false P N R ops l ((d, v b) :: env) ([(b, o)] :: H) K) : TriOps false P N R ops (⟨some d, op, ty, pos, af, none⟩ :: l) env H K :=
 TriOps.eff hd fun a w ha s ro => by
  obtain ⟨n, hr⟩ := h a w ha s ro
  refine ⟨_, _, _, hr, ?_, ?_, hn w.heap.size⟩
  ·exact (Frame.drew w H n).trans (Frame.alloc { w with drawn := n } H o)
  ·exact Sat.alloc (w := { w with drawn := n }) (s.drew n) o
theorem newRow_run {t : TypeId} {c : Array Value} {w : World} : (newRow t c).run P w = .ok ⟨w.heap.size, 0, none⟩ (w.alloc (.cells c t)) := by
 simp [newRow]
theorem TriOps.box1 {d : Nat} {E : TypeId} {x : Operand} {v : Value} (hx : ev env x = some v) [o : One v] (hn : ∀ b, TriOps false P N R ops l ((d, .pointer (some ⟨b, 0, none⟩)) :: env) ([(b, .cells [v].toArray E (0, 0))] :: H) K) (hd : Nat.blt d N = true := by rfl) :
  TriOps false P N R ops (⟨some d, .box E x, ty, pos, af, none⟩ :: l) env H K :=
 TriOps.fresh (v := fun b => .pointer (some ⟨b, 0, none⟩)) hd (fun a w ha s ro => ⟨w.drawn, by
  have := cells_one o.h
  simp [execOp, ha.eval hx, Instr.box, newVar, this, newRow_run]⟩) hn
theorem TriOps.boxA {d : Nat} {E : TypeId} {x : Operand} {cs : List Value} (hx : ev env x = some (.agg cs.toArray)) (hn : ∀ b, TriOps false P N R ops l ((d, .pointer (some ⟨b, 0, none⟩)) :: env) ([(b, .cells cs.toArray E (0, 0))] :: H) K) (hd : Nat.blt d N = true := by rfl) :
  TriOps false P N R ops (⟨some d, .box E x, ty, pos, af, none⟩ :: l) env H K :=
 TriOps.fresh (v := fun b => .pointer (some ⟨b, 0, none⟩)) hd (fun a w ha s ro => ⟨w.drawn, by
  simp [execOp, ha.eval hx, Instr.box, newVar, newRow_run, Value.cells]⟩) hn
theorem TriOps.alloc1 {d : Nat} {E : TypeId} {z : Value} [zr : Zr P E z] [o : One z] (hn : ∀ b, TriOps false P N R ops l ((d, .pointer (some ⟨b, 0, none⟩)) :: env) ([(b, .cells [z].toArray E (0, 0))] :: H) K) (hd : Nat.blt d N = true := by rfl) :
  TriOps false P N R ops (⟨some d, .alloc E, ty, pos, af, none⟩ :: l) env H K :=
 TriOps.fresh (v := fun b => .pointer (some ⟨b, 0, none⟩)) hd (fun a w ha s ro => ⟨w.drawn, by
  have := cells_one o.h
  simp [execOp, Instr.alloc, zr.h, newVar, this, newRow_run]⟩) hn
theorem TriOps.allocA {d : Nat} {E : TypeId} {cs : List Value} [zr : Zr P E (.agg cs.toArray)] (hn : ∀ b, TriOps false P N R ops l ((d, .pointer (some ⟨b, 0, none⟩)) :: env) ([(b, .cells cs.toArray E (0, 0))] :: H) K) (hd : Nat.blt d N = true := by rfl) :
  TriOps false P N R ops (⟨some d, .alloc E, ty, pos, af, none⟩ :: l) env H K :=
 TriOps.fresh (v := fun b => .pointer (some ⟨b, 0, none⟩)) hd (fun a w ha s ro => ⟨w.drawn, by
  simp [execOp, Instr.alloc, zr.h, newVar, newRow_run, Value.cells]⟩) hn
theorem TriOps.makeMap {d : Nat} {T : TypeId} (hn : ∀ b, TriOps false P N R ops l ((d, .map (some b)) :: env) ([(b, .map #[] 0)] :: H) K) (hd : Nat.blt d N = true := by rfl) :
  TriOps false P N R ops (⟨some d, .makeMap T none, ty, pos, af, none⟩ :: l) env H K :=
 TriOps.fresh (v := fun b => .map (some b)) hd (fun a w ha s ro => ⟨w.drawn, by
  simp [execOp, Instr.makeMap, newObj, Sem.run]⟩) hn
class Bld (P : Program) (t : TypeId) (places : outParam (List (Nat × Nat))) (zero : outParam (List Value)) : Prop where
 h : ∃ fs : Array Field, P.underlying t = some (.struct fs) ∧ (∀ w, (zeroValue t).run P w = .ok (.agg zero.toArray) w) ∧ ∀ w, (fs.mapM fun f => do pure (f.offset, ← sizeOf f.type) : Sem _).run P w = .ok places.toArray w
def fillL (places : List (Nat × Nat)) (cells : List Value) : List (Nat × Value) → Option (List Value)
 | [] => some cells
 | (i, v) :: r => match places[i]? with
  | none => none
  | some (off, size) => match v with
   | .agg cs => match Nat.beq cs.toList.length size && Nat.ble (off + cs.toList.length) cells.length with
    | true => fillL places (setL cells off cs.toList) r
    | false => none
   | v => match Nat.beq 1 size && Nat.ble (off + 1) cells.length with
    | true => fillL places (setL cells off [v]) r
    | false => none
theorem foldl_set (cs : List Value) : ∀ (off : Nat) (vs : List Value) (k : Nat), off + k + cs.length ≤ vs.length → (cs.zipIdx k).foldl (fun (c : Array Value) x => c.setIfInBounds (off + x.2) x.1) vs.toArray = (setL vs (off + k) cs).toArray := by
 induction cs with
 | nil => intro off vs k _; simp [setL_nil]
 | cons c cs ih =>
  intro off vs k h
  simp only [List.length_cons] at h
  rw [List.zipIdx_cons, List.foldl_cons, setL_cons (by omega)]
  simp only [List.setIfInBounds_toArray]
  rw [ih off _ (k + 1) (by simp; omega), Nat.add_assoc]
theorem fill_of_fillL {places : List (Nat × Nat)} : ∀ (parts : List (Nat × Value)) (cells : List Value) {out : List Value}, fillL places cells parts = some out → Instr.fill (places[·]?) cells.toArray parts = some out.toArray
 | [], cells, out, h => by simp [fillL] at h; simp [Instr.fill, h]
 | (i, v) :: r, cells, out, h => by
  simp only [fillL] at h
  cases hp : places[i]? with
  | none => simp [hp] at h
  | some os =>
   obtain ⟨off, size⟩ := os
   simp only [hp] at h
   have key : ∀ cs : List Value, v.cells = cs.toArray → (Nat.beq cs.length size && Nat.ble (off + cs.length) cells.length) = true → fillL places (setL cells off cs) r = some out → Instr.fill (places[·]?) cells.toArray ((i, v) :: r) = some out.toArray := by
    intro cs hcs hb hr
    simp only [Bool.and_eq_true] at hb
    have h1 := Nat.eq_of_beq_eq_true hb.1
    have h2 := Nat.le_of_ble_eq_true hb.2
    subst h1
    have hz : v.cells.size = cs.length := by rw [hcs]; simp
    have hf := foldl_set cs off cells 0 (by omega)
    have e : v.cells.zipIdx.foldl (fun cs x => cs.setIfInBounds (off + x.2) x.1) cells.toArray = (setL cells off cs).toArray := by
     rw [hcs, ← Array.foldl_toList, Array.toList_zipIdx]; exact hf
    simp only [Instr.fill, hp, hz, ne_eq, not_true]
    rw [if_neg (by simp; omega)]
    refine Eq.trans ?_ (fill_of_fillL r _ hr)
    exact congrArg (fun c => Instr.fill (places[·]?) c r) e
   cases v with
   | agg cs =>
    simp only at h
    split at h
    ·rename_i hb; exact key cs.toList (by simp [Value.cells]) hb h
    ·cases h
   | _ =>
    simp only at h
    split at h
    ·rename_i hb; exact key [_] rfl hb h
    ·cases h
theorem fill_congr {p q : Nat → Option (Nat × Nat)} : ∀ (parts : List (Nat × Value)), (∀ x ∈ parts, p x.1 = q x.1) → ∀ cells, Instr.fill p cells parts = Instr.fill q cells parts
 | [], _, cells => rfl
 | (i, v) :: r, h, cells => by
  have h1 := h (i, v) (by simp)
  simp only at h1
  simp only [Instr.fill, h1]
  split
  ·rfl
  ·split
   ·rfl
   ·exact fill_congr r (fun x hx => h x (by simp [hx])) _
theorem Quiet.build {H : Segs} {t : TypeId} {places : List (Nat × Nat)} {zero out : List Value} {xs : List (Nat × Operand)} {parts : List (Nat × Value)} [bl : Bld P t places zero]
  (hx : ∀ a, EnvOK a env → xs.map (fun p => (p.1, a.eval p.2)) = parts) (hf : fillL places zero parts = some out) : Quiet P R env H (.build t xs.toArray) ty (.agg out.toArray) := fun a w d pos af g ha s ro => by
 obtain ⟨fs, h1, h2, h3⟩ := bl.h
 have h4 := fill_of_fillL parts zero hf
 have h5 : xs.toArray.map (fun x => (x.1, a.eval x.2)) = parts.toArray := by rw [List.map_toArray, hx a ha]
 have h6 : (execOp a.eval ⟨d, .build t xs.toArray, ty, pos, af, g⟩) = (do pure (.value (← Instr.build t parts.toArray))) := by
  show (do pure (Next.value (← Instr.build t (xs.toArray.map fun x : Nat × Operand => (x.1, a.eval x.2))))) = _
  rw [h5]
 have h7 : (fun i : Nat => places.toArray[i]?) = (fun i : Nat => places[i]?) := by funext i; simp
 rw [h6]
 simp only [Instr.build, Sem.run_bind, h2, Result.andThen_ok, run_underlying h1, h3, Value.cells, h7, h4]
 rfl
def evp (env : Env) : List (Nat × Operand) → Option (List (Nat × Value))
 | [] => some []
 | (i, x) :: r => match ev env x, evp env r with
  | some v, some vs => some ((i, v) :: vs)
  | _, _ => none
theorem EnvOK.evalp {a : Act} {env : Env} (h : EnvOK a env) : ∀ {xs : List (Nat × Operand)} {vs : List (Nat × Value)}, evp env xs = some vs → xs.map (fun p => (p.1, a.eval p.2)) = vs
 | [], vs, hx => by simp [evp] at hx; simp [hx]
 | (i, x) :: r, vs, hx => by
  simp only [evp] at hx
  split at hx
  ·rename_i v vs' h1 h2
   simp only [Option.some.injEq] at hx
   subst hx
   simp [h.eval h1, h.evalp h2]
  ·cases hx
theorem Quiet.bld {H : Segs} {t : TypeId} {places : List (Nat × Nat)} {zero out : List Value} {xs : List (Nat × Operand)} {parts : List (Nat × Value)} [bl : Bld P t places zero]
  (hx : evp env xs = some parts := by rfl) (hf : fillL places zero parts = some out := by rfl) : Quiet P R env H (.build t xs.toArray) ty (.agg out.toArray) :=
 Quiet.build (fun a ha => ha.evalp hx) hf
theorem TriOps.buildSlice {d : Nat} {T E : TypeId} {n k : Nat} {z : Value} {zs out : List Value} {xs : List (Nat × Operand)} {parts : List (Nat × Value)} [ut : Und P T (.slice E)] [sz : Sz P E k] [zr : Zr P E z]
  (hsmall : Nat.ble (n * k) (2 ^ 24) = true) (hk : Nat.beq (n * k) 0 = false) (hzs : ((Array.range (n * k)).map (z.cells[· % z.cells.size]!)) = zs.toArray) (hx : evp env xs = some parts)
  (hf : fillL ((List.range n).map fun i => (i * k, k)) zs parts = some out)
  (hn : ∀ b, TriOps false P N R ops l ((d, .slice (some ⟨b, 0, none⟩) n n) :: env) ([(b, .cells out.toArray E (0, 0))] :: H) K) (hd : Nat.blt d N = true := by rfl) (hp : parts.all (fun p => Nat.blt p.1 n) = true := by rfl) :
  TriOps false P N R ops (⟨some d, .buildSlice T n xs.toArray, ty, pos, af, none⟩ :: l) env H K :=
 TriOps.fresh (v := fun b => .slice (some ⟨b, 0, none⟩) n n) hd (fun a w ha s ro => ⟨w.drawn, by
  have h5 : xs.toArray.map (fun x => (x.1, a.eval x.2)) = parts.toArray := by rw [List.map_toArray, ha.evalp hx]
  have h6 : (execOp a.eval ⟨some d, .buildSlice T n xs.toArray, ty, pos, af, none⟩) = (do pure (.value (← Instr.buildSlice T n parts.toArray))) := by
   show (do pure (Next.value (← Instr.buildSlice T n (xs.toArray.map fun x : Nat × Operand => (x.1, a.eval x.2))))) = _
   rw [h5]
  have h7 : Instr.fill (fun i => some (i * k, k)) zs.toArray parts = some out.toArray := by
   rw [← fill_of_fillL parts zs hf]
   refine fill_congr parts (fun p hp' => ?_) zs.toArray
   have : p.1 < n := Nat.le_of_ble_eq_true (List.all_eq_true.1 hp p hp')
   simp [this]
  have h8 : ¬ n * k > 2 ^ 24 := Nat.not_lt.2 (Nat.le_of_ble_eq_true hsmall)
  have h9 : ¬ n * k = 0 := fun e => by rw [e] at hk; cases hk
  rw [h6]
  simp only [Instr.buildSlice, Sem.run_bind, run_underlying ut.h, Result.andThen_ok, sz.h, if_neg h8, if_neg h9, Sem.run_pure, zr.h, hzs, h7, newRow_run]⟩) hn
end
end Go.Proofs.YtkagfkbkpiebjaaGreatDoor
set_option linter.unusedVariables false
namespace Go.Proofs.YtkagfkbkpiebjaaGreatDoor
def envFrom : Nat → List Value → Env
 | _, [] => []
 | i, v :: vs => (i, v) :: envFrom (i + 1) vs
theorem envFrom_get {vs : List Value} : ∀ (i t : Nat) (v : Value), (envFrom i vs).get? t = some v → i ≤ t ∧ vs[t - i]? = some v := by
 induction vs with
 | nil => intro i t v h; cases h
 | cons u vs ih =>
  intro i t v h
  simp only [envFrom, Env.get?] at h
  split at h
  ·rename_i hb
   have := Nat.eq_of_beq_eq_true hb
   subst this
   simp only [Option.some.injEq] at h
   simp [h]
  ·have := ih (i + 1) t v h
   have ht : t - i = (t - (i + 1)) + 1 := by omega
   exact ⟨by omega, by rw [ht]; simpa using this.2⟩
def rvSem (tmps : Array Value) (rv : ResultVar) : Sem Value := match rv with
 | .tmp t => pure (tmps.getD t undef)
 | .cell x t => do loadVar t (← asAddr (tmps.getD x undef))
theorem results_rv (fn : Func) (tmps : Array Value) : results fn tmps = (do let vs ← fn.results.mapM (rvSem tmps); pure (if h : vs.size = 1 then vs[0] else .tuple vs)) := rfl
class RV (R : Rds) (H : Segs) (env : Env) (P : Program) (rv : ResultVar) (v : outParam Value) : Prop where
 h : ∀ (a : Act) (w : World), EnvOK a env → Sat w H → RO w R H → (rvSem a.tmps rv).run P w = .ok v w
section
variable {P : Program} {N : Nat} {R : Rds} {env : Env} {H : Segs} {Q : Exit → Env → Segs → Prop}
theorem RV.tmp {t : Nat} {v : Value} (h : Env.get? env t = some v) : RV R H env P (.tmp t) v := ⟨fun a w ha s ro => by
 have := ha t v h
 simp [rvSem, this]⟩
theorem RV.cellA {x : Nat} {t : TypeId} {p : Value} {n : Nat} {vs : List Value} (hx : Env.get? env x = some p) [ag : Agg P t true] [sz : Sz P t n] [rc : RC R H p vs] (hn : vs.length = n) : RV R H env P (.cell x t) (.agg vs.toArray) := ⟨fun a w ha s ro => by
 obtain ⟨b, off, h1, h2⟩ := pc_cells (P := P) rc.h s ro
 subst h1; subst hn
 have := run_loadCellsFrom (P := P) (w := w) (b := b) (off := off) vs 0 #[] (by simpa using h2)
 have h4 := ha x _ hx
 simp [rvSem, h4, asAddr, loadVar, ag.h, sz.h, loadCells, this]⟩
def Res (P : Program) (R : Rds) (rs : List ResultVar) (env : Env) (H : Segs) (v : Value) : Prop :=
 ∀ (a : Act) (w : World) (fn : Func), fn.results = rs.toArray → EnvOK a env → Sat w H → RO w R H → (results fn a.tmps).run P w = .ok v w
theorem Res.none : Res P R [] env H (.tuple #[]) := fun a w fn hf ha s ro => by simp [results, hf]
theorem Res.one {r : ResultVar} {v : Value} (h : RV R H env P r v) : Res P R [r] env H v := fun a w fn hf ha s ro => by
 have := h.h a w ha s ro
 rw [results_rv, hf]
 simp [this]
theorem Res.two {r1 r2 : ResultVar} {v1 v2 : Value} (h1 : RV R H env P r1 v1) (h2 : RV R H env P r2 v2) : Res P R [r1, r2] env H (.tuple #[v1, v2]) := fun a w fn hf ha s ro => by
 have e1 := h1.h a w ha s ro
 have e2 := h2.h a w ha s ro
 rw [results_rv, hf]
 simp [e1, e2]
theorem Res.three {r1 r2 r3 : ResultVar} {v1 v2 v3 : Value} (h1 : RV R H env P r1 v1) (h2 : RV R H env P r2 v2) (h3 : RV R H env P r3 v3) : Res P R [r1, r2, r3] env H (.tuple #[v1, v2, v3]) := fun a w fn hf ha s ro => by
 have e1 := h1.h a w ha s ro
 have e2 := h2.h a w ha s ro
 have e3 := h3.h a w ha s ro
 rw [results_rv, hf]
 simp [e1, e2, e3]
def retQ (P : Program) (R : Rds) (rs : List ResultVar) (Post : Value → Segs → Prop) : Exit → Env → Segs → Prop
 | .normal, env, H => ∃ v H', Res P R rs env H v ∧ HLe H H' ∧ Post v H'
 | .ret, env, H => ∃ v H', Res P R rs env H v ∧ HLe H H' ∧ Post v H'
 | _, _, _ => False
theorem Spec.body {f : FuncId} {fn : Func} {c : Code} {args : List Value} {rs : List ResultVar} {Post : Value → Segs → Prop} (hf : P.funcs[f]? = some fn) (hb : fn.body = some c) (hr : fn.results = rs.toArray) (hn : fn.ntmps = N) (ha : Nat.ble args.length N = true)
  (h : Tri P N R c (envFrom 0 args) H (retQ P R rs Post)) : Spec P f args R H Post := fun w s ro => by
 refine calls_of_wp hf hb ?_
 have hle : args.length ≤ N := Nat.le_of_ble_eq_true ha
 have h0 : St N R { tmps := args.toArray ++ Array.replicate (fn.ntmps - args.toArray.size) undef, defers := [] } w (envFrom 0 args) H w H := by
  refine ⟨rfl, by simp [hn]; omega, fun t v hv => ?_, s, ro, Frame.refl w H⟩
  have := (envFrom_get 0 t v hv).2
  simp only [Nat.sub_zero] at this
  have hlt : t < args.length := by
   rcases Nat.lt_or_ge t args.length with h | h
   ·exact h
   ·rw [List.getElem?_eq_none h] at this; cases this
  rw [Array.getElem?_append_left (by simpa using hlt)]
  simpa using this
 refine h _ w H (fun e env' H' a' w' hq s' => ?_) _ w h0
 cases e with
 | normal => obtain ⟨v, H2, hv, hl, hp⟩ := hq; exact ⟨s'.defers, v, hv a' w' fn hr s'.env s'.sat s'.ro, v, H2, rfl, hp, hl.sat s'.sat, s'.fr.trans (hl.frame w')⟩
 | ret => obtain ⟨v, H2, hv, hl, hp⟩ := hq; exact ⟨s'.defers, v, hv a' w' fn hr s'.env s'.sat s'.ro, v, H2, rfl, hp, hl.sat s'.sat, s'.fr.trans (hl.frame w')⟩
 | exit id => exact hq.elim
 | goto l => exact hq.elim
 | panic ch => exact hq.elim
 | outgrown => exact hq.elim
theorem seqQ_n {y : Code} (h : Tri P N R y env H Q) : seqQ P N R y Q .normal env H := h
theorem seqQ_r {y : Code} (h : Q .ret env H) : seqQ P N R y Q .ret env H := h
theorem seqQ_x {y : Code} {id : Nat} (h : Q (.exit id) env H) : seqQ P N R y Q (.exit id) env H := h
theorem blkQ_n {id : Nat} (h : Q .normal env H) : blkQ id Q .normal env H := h
theorem blkQ_r {id : Nat} (h : Q .ret env H) : blkQ id Q .ret env H := h
theorem blkQ_x {id : Nat} (h : Q .normal env H) : blkQ id Q (.exit id) env H := by simp only [blkQ, if_true]; exact h
theorem blkQ_y {id id' : Nat} (h : Q (.exit id') env H) (hne : Nat.beq id' id = false := by rfl) : blkQ id Q (.exit id') env H := by
 have : ¬ id' = id := fun e => by subst e; rw [Nat.beq_refl] at hne; cases hne
 simp only [blkQ, if_neg this]; exact h
theorem loopQ_r {I : Env → Segs → Prop} (h : Q .ret env H) : loopQ I Q .ret env H := h
theorem loopQ_x {I : Env → Segs → Prop} {id : Nat} (h : Q (.exit id) env H) : loopQ I Q (.exit id) env H := h
theorem retQ_r {rs : List ResultVar} {Post : Value → Segs → Prop} {H' : Segs} (v : Value) (h : Res P R rs env H v) (hl : HLe H H') (hp : Post v H') : retQ P R rs Post .ret env H := ⟨v, H', h, hl, hp⟩
theorem retQ_n {rs : List ResultVar} {Post : Value → Segs → Prop} {H' : Segs} (v : Value) (h : Res P R rs env H v) (hl : HLe H H') (hp : Post v H') : retQ P R rs Post .normal env H := ⟨v, H', h, hl, hp⟩
theorem HLe.none (H : Segs) : HLe H [] := HLe.pick [] H
theorem HLe.one (is : List Nat) (H : Segs) : HLe H [(take is H).flatten] := ⟨(rest is H).flatten, by simpa using take_perm is H⟩
theorem Spec.segs {f : FuncId} {args : List Value} {H' : Segs} {Post : Value → Segs → Prop} (h : H.flatten = H'.flatten) (s : Spec P f args R H' Post) : Spec P f args R H Post := fun w hs hr => by
 have h1 : Sat w H' := hs.perm (by rw [h])
 have h2 : RO w R H' := fun b o hb => ⟨(hr b o hb).1, by rw [← h]; exact (hr b o hb).2⟩
 refine (s w h1 h2).mono fun e w' ⟨v, H2, he, hp, hs', hf⟩ => ⟨v, H2, he, hp, hs', hf.le, fun b hb hn => hf.keep b hb (by rw [← h]; exact hn), fun p hp => by rw [h]; exact hf.dom p hp, hf.os, hf.output, hf.tape⟩
end
end Go.Proofs.YtkagfkbkpiebjaaGreatDoor
set_option linter.unusedVariables false
namespace Go.Proofs.YtkagfkbkpiebjaaGreatDoor
variable {α β : Type}
def Row (c : Array Value) (off : Nat) (cs : List Value) : Prop := ∀ k, k < cs.length → c[off + k]? = cs[k]?
theorem flatMap_length {enc : α → List Value} {sz : Nat} : ∀ {xs : List α}, (∀ x ∈ xs, (enc x).length = sz) → (xs.flatMap enc).length = xs.length * sz
 | [], _ => by simp
 | x :: xs, h => by
  rw [List.flatMap_cons, List.length_append, flatMap_length (fun y hy => h y (by simp [hy])), h x (by simp), List.length_cons]
  rw [Nat.succ_mul]; omega
theorem flatMap_get {enc : α → List Value} {sz : Nat} : ∀ {xs : List α} {i : Nat} {x : α}, (∀ x ∈ xs, (enc x).length = sz) → xs[i]? = some x → ∀ j, j < sz → (xs.flatMap enc)[i * sz + j]? = (enc x)[j]?
 | [], i, x, _, h, j, _ => by simp at h
 | y :: xs, 0, x, hl, h, j, hj => by
  simp only [List.getElem?_cons_zero, Option.some.injEq] at h
  subst h
  rw [List.flatMap_cons, List.getElem?_append_left (by rw [hl y (by simp)]; omega)]
  simp
 | y :: xs, i + 1, x, hl, h, j, hj => by
  simp only [List.getElem?_cons_succ] at h
  have h0 := hl y (by simp)
  rw [List.flatMap_cons, List.getElem?_append_right (by rw [h0, Nat.succ_mul]; omega), h0, show (i + 1) * sz + j - sz = i * sz + j by rw [Nat.succ_mul]; omega]
  exact flatMap_get (fun z hz => hl z (by simp [hz])) h j hj
theorem flatMap_set {enc : α → List Value} {sz : Nat} : ∀ {xs : List α} {i : Nat} {x x' : α} {k : Nat} {cs : List Value}, (∀ x ∈ xs, (enc x).length = sz) → xs[i]? = some x → (enc x').length = sz → enc x' = setL (enc x) k cs → k + cs.length ≤ sz →
  (xs.set i x').flatMap enc = setL (xs.flatMap enc) (i * sz + k) cs
 | [], i, x, x', k, cs, _, h, _, _, _ => by simp at h
 | y :: xs, 0, x, x', k, cs, hl, h, hx', he, hk => by
  simp only [List.getElem?_cons_zero, Option.some.injEq] at h
  subst h
  have h0 := hl y (by simp)
  simp only [List.set_cons_zero, List.flatMap_cons, he, setL_eq, Nat.zero_mul, Nat.zero_add]
  rw [List.take_append_of_le_length (by omega), List.drop_append_of_le_length (by omega)]
  simp
 | y :: xs, i + 1, x, x', k, cs, hl, h, hx', he, hk => by
  simp only [List.getElem?_cons_succ] at h
  have h0 := hl y (by simp)
  have ih := flatMap_set (fun z hz => hl z (by simp [hz])) h hx' he hk
  simp only [List.set_cons_succ, List.flatMap_cons, ih, setL_eq]
  rw [List.take_append, List.drop_append, h0, List.take_of_length_le (l := enc y) (by rw [h0, Nat.succ_mul]; omega), List.drop_eq_nil_of_le (show (enc y).length ≤ _ by rw [h0, Nat.succ_mul]; omega)]
  rw [show (i + 1) * sz + k - sz = i * sz + k by rw [Nat.succ_mul]; omega, show (i + 1) * sz + k + cs.length - sz = i * sz + k + cs.length by rw [Nat.succ_mul]; omega]
  simp
structure RS (R : Rds) (sz : Nat) (enc : α → List Value) (v : Value) (xs : List α) : Prop where
 len : ∀ x ∈ xs, (enc x).length = sz
 one : ∀ x ∈ xs, ∀ u ∈ enc x, oneCell u = true
 h : ∃ p cap, v = .slice p xs.length cap ∧ xs.length ≤ cap ∧ cap ≤ maxLen ∧ (xs = [] ∨ ∃ b off c E fr, p = some ⟨b, off, none⟩ ∧ R b (.cells c E fr) ∧ Row c off (xs.flatMap enc))
structure OS (E : TypeId) (sz : Nat) (enc : α → List Value) (v : Value) (xs : List α) (T : Seg) : Prop where
 len : ∀ x ∈ xs, (enc x).length = sz
 one : ∀ x ∈ xs, ∀ u ∈ enc x, oneCell u = true
 h : (v = .slice none 0 0 ∧ xs = [] ∧ T = []) ∨ ∃ b off c cap, v = .slice (some ⟨b, off, none⟩) xs.length cap ∧ T = [(b, .cells c E (0, 0))] ∧ xs.length ≤ cap ∧ cap ≤ maxLen ∧ off + cap * sz ≤ c.size ∧ Row c off (xs.flatMap enc)
theorem RS.mono {R R' : Rds} {sz : Nat} {enc : α → List Value} {v : Value} {xs : List α} (h : RS R sz enc v xs) (hr : ∀ b o, R b o → R' b o) : RS R' sz enc v xs :=
 ⟨h.len, h.one, by
  obtain ⟨p, cap, h1, h2, h3, h4⟩ := h.h
  refine ⟨p, cap, h1, h2, h3, h4.imp id fun ⟨b, off, c, E, fr, g1, g2, g3⟩ => ⟨b, off, c, E, fr, g1, hr _ _ g2, g3⟩⟩⟩
theorem RS.rx {R : Rds} {H : Segs} {sz : Nat} {enc : α → List Value} {v : Value} {xs : List α} (h : RS R sz enc v xs) : RS (Rx R H) sz enc v xs := h.mono fun _ _ => .inl
theorem OS.rs {R : Rds} {E : TypeId} {sz : Nat} {enc : α → List Value} {v : Value} {xs : List α} {T : Seg} (h : OS E sz enc v xs T) (hr : ∀ p ∈ T, R p.1 p.2) : RS R sz enc v xs :=
 ⟨h.len, h.one, by
  rcases h.h with ⟨rfl, rfl, rfl⟩ | ⟨b, off, c, cap, rfl, rfl, h3, h4, h5, h6⟩
  ·exact ⟨none, 0, rfl, Nat.le_refl _, Nat.zero_le _, .inl rfl⟩
  ·exact ⟨some ⟨b, off, none⟩, cap, rfl, h3, h4, .inr ⟨b, off, c, E, (0, 0), rfl, hr (b, _) (by simp), h6⟩⟩⟩
class SegAt (H : Segs) (T : Seg) (upd : outParam (Seg → Segs)) : Prop where h : ∃ H1 H2, H = H1 ++ T :: H2 ∧ ∀ T', upd T' = H1 ++ T' :: H2
instance SegAt.there {H : Segs} {T T0 : Seg} {upd : Seg → Segs} [h : SegAt H T upd] : SegAt (T0 :: H) T (fun T' => T0 :: upd T') :=
 ⟨let ⟨H1, H2, h1, h2⟩ := h.h; ⟨T0 :: H1, H2, by rw [h1]; rfl, fun T' => by rw [h2]; rfl⟩⟩
instance SegAt.here {H : Segs} {T : Seg} : SegAt (T :: H) T (fun T' => T' :: H) := ⟨⟨[], H, rfl, fun _ => rfl⟩⟩
theorem SegAt.mem {H : Segs} {T : Seg} {upd : Seg → Segs} (h : SegAt H T upd) : ∀ p ∈ T, p ∈ H.flatten := by
 obtain ⟨H1, H2, h1, _⟩ := h.h
 subst h1
 intro p hp; simp [hp]
theorem OS.rx {R : Rds} {H : Segs} {E : TypeId} {sz : Nat} {enc : α → List Value} {v : Value} {xs : List α} {T : Seg} {upd : Seg → Segs} (h : OS E sz enc v xs T) [s : SegAt H T upd] : RS (Rx R H) sz enc v xs := h.rs fun p hp => .inr (s.mem p hp)
theorem OS.nil {E : TypeId} {sz : Nat} {enc : α → List Value} : OS E sz enc (.slice none 0 0) ([] : List α) [] := ⟨by simp, by simp, .inl ⟨rfl, rfl, rfl⟩⟩
theorem RS.oneCell {R : Rds} {sz : Nat} {enc : α → List Value} {v : Value} {xs : List α} (h : RS R sz enc v xs) : One v := ⟨by obtain ⟨p, cap, h1, _⟩ := h.h; rw [h1]; rfl⟩
theorem OS.oneCell {E : TypeId} {sz : Nat} {enc : α → List Value} {v : Value} {xs : List α} {T : Seg} (h : OS E sz enc v xs T) : One v := ⟨by
 rcases h.h with ⟨h1, _, _⟩ | ⟨b, off, c, cap, h1, _⟩ <;> rw [h1] <;> rfl⟩
theorem RS.le {R : Rds} {sz : Nat} {enc : α → List Value} {v : Value} {xs : List α} (h : RS R sz enc v xs) : xs.length ≤ 9223372036854775807 := by
 obtain ⟨p, cap, _, h2, h3, _⟩ := h.h
 unfold maxLen at h3; omega
theorem OS.le {E : TypeId} {sz : Nat} {enc : α → List Value} {v : Value} {xs : List α} {T : Seg} (h : OS E sz enc v xs T) : xs.length ≤ 9223372036854775807 := by
 rcases h.h with ⟨_, h2, _⟩ | ⟨b, off, c, cap, _, _, h2, h3, _⟩
 ·subst h2; simp
 ·unfold maxLen at h3; omega
theorem RS.val {R : Rds} {sz : Nat} {enc : α → List Value} {v : Value} {xs : List α} (h : RS R sz enc v xs) : ∃ p cap, v = .slice p xs.length cap := let ⟨p, cap, h1, _⟩ := h.h; ⟨p, cap, h1⟩
theorem RS.pc {R : Rds} {sz : Nat} {enc : α → List Value} {v : Value} {xs : List α} {i : Nat} {x : α} (h : RS R sz enc v xs) (hx : xs[i]? = some x) : PC R (baseP v (i * sz)) (enc x) := by
 obtain ⟨p, cap, h1, h2, h3, h4⟩ := h.h
 have hne : xs ≠ [] := fun e => by subst e; simp at hx
 obtain ⟨b, off, c, E, fr, rfl, g2, g3⟩ := h4.resolve_left hne
 subst h1
 have hm := List.mem_of_getElem? hx
 have hl := h.len x hm
 refine ⟨b, off + i * sz, c, E, fr, ?_, g2, fun j hj => ?_⟩
 ·simp only [baseP, Addr.add]; split
  ·rename_i h0; rw [h0]; rfl
  ·rfl
 ·have h5 := flatMap_get h.len hx j (by omega)
  have h6 : i * sz + j < (xs.flatMap enc).length := by
   rw [flatMap_length h.len]
   have : i < xs.length := (List.getElem?_eq_some_iff.1 hx).1
   have := Nat.mul_le_mul_right sz this
   rw [Nat.succ_mul] at this; omega
  have h7 := g3 _ h6
  rw [Nat.add_assoc, h7, h5, List.getElem?_eq_getElem hj]
theorem OS.pc {E : TypeId} {sz : Nat} {enc : α → List Value} {v : Value} {xs : List α} {T : Seg} {i : Nat} {x : α} (h : OS E sz enc v xs T) (hx : xs[i]? = some x) : PC (sg T) (baseP v (i * sz)) (enc x) :=
 (h.rs (R := sg T) fun p hp => hp).pc hx
section
variable {P : Program} {N : Nat} {R : Rds} {ops : Array Oper} {l : List Oper} {env : Env} {H : Segs} {K : Env → Segs → Prop} {ty : TypeId} {pos : String} {af : Array Edge} {m : Bool}
theorem Quiet.lenV {x : Operand} {t e : TypeId} {p : Option Addr} {n cap : Nat} (hx : ev env x = some (.slice p n cap)) [ut : Und P t (.slice e)] : Quiet P R env H (.call ⟨.builtin .len, #[x], #[t]⟩) ty (.int .i64 n) := fun a w d pos af g ha _ _ => by
 simp [execOp, resolve, ha.eval hx, invoke, builtin, Builtin.len_, run_underlying ut.h, goInt]
theorem Quiet.lenR {R' : Rds} {x : Operand} {t e : TypeId} {sz : Nat} {enc : α → List Value} {v : Value} {xs : List α} (h : RS R' sz enc v xs) (hx : ev env x = some v := by rfl) [ut : Und P t (.slice e)] : Quiet P R env H (.call ⟨.builtin .len, #[x], #[t]⟩) ty (.int .i64 xs.length) := by
 obtain ⟨p, cap, h1⟩ := h.val
 subst h1
 exact Quiet.lenV hx
theorem Quiet.lenO {x : Operand} {t e E : TypeId} {sz : Nat} {enc : α → List Value} {v : Value} {xs : List α} {T : Seg} (h : OS E sz enc v xs T) (hx : ev env x = some v := by rfl) [ut : Und P t (.slice e)] : Quiet P R env H (.call ⟨.builtin .len, #[x], #[t]⟩) ty (.int .i64 xs.length) :=
 Quiet.lenR (h.rs (R := sg T) fun p hp => hp) hx
theorem run_indexAt {t e : TypeId} {sz n cap i : Nat} {a0 : Addr} {k : IntKind} {w : World} [ut : Und P t (.slice e)] [s : Sz P e sz] (hi : i < n) : (Instr.indexAt t (.slice (some a0) n cap) (.int k i)).run P w = .ok (baseP (.slice (some a0) n cap) (i * sz)) w := by
 have h1 : (0 : Int) ≤ i ∧ (i : Int) < n := by omega
 simp [Instr.indexAt, asIntOf, run_underlying ut.h, h1, s.h, baseP, hi]
theorem Quiet.indexR {R' : Rds} {x y : Operand} {t e : TypeId} {sz : Nat} {enc : α → List Value} {v : Value} {xs : List α} {k : IntKind} {j : Int} {z : α} (i : Nat) (h : RS R' sz enc v xs) (hz : xs[i]? = some z) (hx : ev env x = some v) (hy : ev env y = some (.int k j)) (hj : j = (i : Int)) [ut : Und P t (.slice e)] [s : Sz P e sz] :
  Quiet P R env H (.indexAddr t x y) ty (baseP v (i * sz)) := fun a w d pos af g ha _ _ => by
 obtain ⟨p, cap, h1, h2, h3, h4⟩ := h.h
 have hne : xs ≠ [] := fun e => by subst e; simp at hz
 obtain ⟨b, off, c, E, fr, rfl, g2, g3⟩ := h4.resolve_left hne
 subst h1; subst hj
 have hi : i < xs.length := (List.getElem?_eq_some_iff.1 hz).1
 simp [execOp, ha.eval hx, ha.eval hy, run_indexAt (P := P) (e := e) (sz := sz) hi]
theorem TriOps.indexR {d : Nat} {x y : Operand} {t e : TypeId} {sz : Nat} {enc : α → List Value} {v : Value} {xs : List α} {k : IntKind} {j : Int} {z : α} (i : Nat) (h : RS R sz enc v xs) (hz : xs[i]? = some z) [ut : Und P t (.slice e)] [s : Sz P e sz]
  (hn : PC R (baseP v (i * sz)) (enc z) → TriOps m P N R ops l ((d, baseP v (i * sz)) :: env) H K) (hx : ev env x = some v := by rfl) (hy : ev env y = some (.int k j) := by rfl) (hj : j = (i : Int) := by rfl) (hd : Nat.blt d N = true := by rfl) :
  TriOps m P N R ops (⟨some d, .indexAddr t x y, ty, pos, af, none⟩ :: l) env H K :=
 TriOps.q (Quiet.indexR i h hz hx hy hj) (hn (h.pc hz)) hd
theorem TriOps.indexO {d : Nat} {x y : Operand} {t e E : TypeId} {sz : Nat} {enc : α → List Value} {v : Value} {xs : List α} {T : Seg} {k : IntKind} {j : Int} {z : α} (i : Nat) (h : OS E sz enc v xs T) (hz : xs[i]? = some z) [ut : Und P t (.slice e)] [s : Sz P e sz]
  (hn : PS T (baseP v (i * sz)) (enc z) → TriOps m P N R ops l ((d, baseP v (i * sz)) :: env) H K) (hx : ev env x = some v := by rfl) (hy : ev env y = some (.int k j) := by rfl) (hj : j = (i : Int) := by rfl) (hd : Nat.blt d N = true := by rfl) :
  TriOps m P N R ops (⟨some d, .indexAddr t x y, ty, pos, af, none⟩ :: l) env H K :=
 TriOps.q (Quiet.indexR i (h.rs (R := sg T) fun p hp => hp) hz hx hy hj) (hn ⟨h.pc hz⟩) hd
theorem run_sliceBound {x : Value} {y n : Nat} {k : IntKind} {code : BoundsCode} {w : World} (hx : x = .int k n) (h : n ≤ y) : (Instr.sliceBound x y code).run P w = .ok n w := by
 subst hx
 have h1 : (0 : Int) ≤ n ∧ (n : Int) ≤ y := by omega
 simp [Instr.sliceBound, asIntOf, h1]
def optN (env : Env) (x : Option Operand) (dflt n : Nat) : Prop := match x with
 | none => n = dflt
 | some o => ∃ k, ev env o = some (.int k n)
theorem run_sliceAt {t e : TypeId} {sz n cap lo hi : Nat} {p : Option Addr} {xl xh : Option Operand} {a : Act} {w : World} (ha : EnvOK a env) [ut : Und P t (.slice e)] [s : Sz P e sz] (h1 : optN env xl 0 lo) (h2 : optN env xh n hi) (h3 : lo ≤ hi) (h4 : hi ≤ cap) :
  (Instr.sliceAt t (.slice p n cap) (xl.map a.eval) (xh.map a.eval) none).run P w = .ok (.slice (if cap = lo then p else p.map (·.add (lo * sz))) (hi - lo) (cap - lo)) w := by
 have b1 : ∀ {x : Operand} {k : IntKind} {y n : Nat} {code : BoundsCode}, ev env x = some (.int k n) → n ≤ y → (Instr.sliceBound (a.eval x) y code).run P w = .ok n w := fun hx hn => run_sliceBound (ha.eval hx) hn
 unfold Instr.sliceAt
 simp only [Sem.run_bind, run_underlying ut.h, Result.andThen_ok]
 unfold Instr.slice
 simp only [Sem.run_bind, run_underlying ut.h, Result.andThen_ok]
 unfold Instr.sliceBounds
 cases xl with
 | none =>
  simp only [optN] at h1
  subst h1
  cases xh with
  | none => simp only [optN] at h2; subst h2; simp [s.h]
  | some o => obtain ⟨k, hk⟩ := h2; simp [s.h, b1 hk h4]
 | some o =>
  obtain ⟨k, hk⟩ := h1
  cases xh with
  | none => simp only [optN] at h2; subst h2; simp [s.h, b1 hk h3]
  | some o' => obtain ⟨k', hk'⟩ := h2; simp [s.h, b1 hk h3, b1 hk' h4]
theorem Row.sub {c : Array Value} {off : Nat} {cs : List Value} (h : Row c off cs) (i n : Nat) : Row c (off + i) ((cs.drop i).take n) := fun k hk => by
 rw [List.length_take, List.length_drop] at hk
 rw [List.getElem?_take_of_lt (by omega), List.getElem?_drop, Nat.add_assoc]
 exact h (i + k) (by omega)
theorem flatMap_drop {enc : α → List Value} {sz : Nat} : ∀ {xs : List α} (i : Nat), (∀ x ∈ xs, (enc x).length = sz) → (xs.drop i).flatMap enc = (xs.flatMap enc).drop (i * sz)
 | [], i, _ => by simp
 | x :: xs, 0, _ => by simp
 | x :: xs, i + 1, h => by
  have h0 := h x (by simp)
  rw [List.drop_succ_cons, flatMap_drop i (fun y hy => h y (by simp [hy])), List.flatMap_cons, List.drop_append, h0, List.drop_eq_nil_of_le (show (enc x).length ≤ _ by rw [h0, Nat.succ_mul]; omega), Nat.succ_mul]
  simp
theorem flatMap_take {enc : α → List Value} {sz : Nat} : ∀ {xs : List α} (i : Nat), (∀ x ∈ xs, (enc x).length = sz) → (xs.take i).flatMap enc = (xs.flatMap enc).take (i * sz)
 | [], i, _ => by simp
 | x :: xs, 0, _ => by simp
 | x :: xs, i + 1, h => by
  have h0 := h x (by simp)
  rw [List.take_succ_cons, List.flatMap_cons, flatMap_take i (fun y hy => h y (by simp [hy])), List.flatMap_cons, List.take_append, h0, List.take_of_length_le (l := enc x) (by rw [h0, Nat.succ_mul]; omega), Nat.succ_mul]
  simp
theorem Row.piece {c : Array Value} {off sz : Nat} {enc : α → List Value} {xs : List α} (h : Row c off (xs.flatMap enc)) (hl : ∀ x ∈ xs, (enc x).length = sz) (lo n : Nat) : Row c (off + lo * sz) (((xs.drop lo).take n).flatMap enc) := by
 rw [flatMap_take n (fun x hx => hl x (List.mem_of_mem_drop hx)), flatMap_drop lo hl]
 exact h.sub _ _
theorem Quiet.sliceR {R' : Rds} {x : Operand} {xl xh : Option Operand} {t e : TypeId} {sz : Nat} {enc : α → List Value} {v : Value} {xs : List α} (lo hi : Nat) (h : RS R' sz enc v xs) [ut : Und P t (.slice e)] [s : Sz P e sz] (h1 : optN env xl 0 lo) (h2 : optN env xh xs.length hi) (h3 : lo ≤ hi) (h4 : hi ≤ xs.length) (hx : ev env x = some v := by rfl) :
  ∃ v', RS R' sz enc v' ((xs.drop lo).take (hi - lo)) ∧ Quiet P R env H (.slice t x xl xh none) ty v' := by
 obtain ⟨p, cap, g1, g2, g3, g4⟩ := h.h
 subst g1
 have hn : ((xs.drop lo).take (hi - lo)).length = hi - lo := by simp; omega
 refine ⟨.slice (if cap = lo then p else p.map (·.add (lo * sz))) (hi - lo) (cap - lo), ⟨fun x hx => h.len x (List.mem_of_mem_drop (List.mem_of_mem_take hx)), fun x hx => h.one x (List.mem_of_mem_drop (List.mem_of_mem_take hx)), _, _, by rw [hn], by rw [hn]; omega, by omega, ?_⟩, ?_⟩
 ·rcases g4 with rfl | ⟨b, off, c, E, fr, rfl, r1, r2⟩
  ·exact .inl (by simp)
  ·by_cases he : cap = lo
   ·left
    have : hi - lo = 0 := by omega
    rw [this]; simp
   ·right
    refine ⟨b, off + lo * sz, c, E, fr, ?_, r1, r2.piece h.len lo (hi - lo)⟩
    rw [if_neg he]
    simp only [Option.map_some, Addr.add]
    split
    ·rename_i h0; rw [h0]; rfl
    ·rfl
 ·intro a w d pos af g ha _ _
  have := run_sliceAt (P := P) (w := w) (p := p) (n := xs.length) (cap := cap) ha h1 h2 h3 (by omega) (t := t) (e := e) (sz := sz)
  simp only [execOp, ha.eval hx, Option.map_none]
  rw [Sem.run_bind, this]
  rfl
theorem Quiet.sliceO {x : Operand} {xl xh : Option Operand} {t e E : TypeId} {sz : Nat} {enc : α → List Value} {v : Value} {xs : List α} {T : Seg} (lo hi : Nat) (h : OS E sz enc v xs T) [ut : Und P t (.slice e)] [s : Sz P e sz] (h1 : optN env xl 0 lo) (h2 : optN env xh xs.length hi) (h3 : lo ≤ hi) (h4 : hi ≤ xs.length) (hx : ev env x = some v := by rfl) :
  ∃ v', OS E sz enc v' ((xs.drop lo).take (hi - lo)) T ∧ Quiet P R env H (.slice t x xl xh none) ty v' := by
 have hl := fun x hx => h.len x (List.mem_of_mem_drop (List.mem_of_mem_take (i := hi - lo) (l := xs.drop lo) hx))
 have ho := fun x hx => h.one x (List.mem_of_mem_drop (List.mem_of_mem_take (i := hi - lo) (l := xs.drop lo) hx))
 have hn : ((xs.drop lo).take (hi - lo)).length = hi - lo := by simp; omega
 rcases h.h with ⟨rfl, rfl, rfl⟩ | ⟨b, off, c, cap, rfl, rfl, g3, g4, g5, g6⟩
 ·have e1 : lo = 0 := by simp at h4; omega
  have e2 : hi = 0 := by simpa using h4
  subst e1; subst e2
  refine ⟨.slice none 0 0, ⟨hl, ho, .inl ⟨rfl, by simp, rfl⟩⟩, fun a w d pos af g ha _ _ => ?_⟩
  have := run_sliceAt (P := P) (w := w) (p := none) (n := 0) (cap := 0) ha h1 h2 h3 (by omega) (t := t) (e := e) (sz := sz)
  simp only [execOp, ha.eval hx, Option.map_none]
  rw [Sem.run_bind, this]
  rfl
 ·refine ⟨.slice (if cap = lo then some ⟨b, off, none⟩ else (some (⟨b, off, none⟩ : Addr)).map (·.add (lo * sz))) (hi - lo) (cap - lo), ⟨hl, ho, .inr ?_⟩, fun a w d pos af g ha _ _ => ?_⟩
  ·by_cases he : cap = lo
   ·have e0 : hi - lo = 0 := by omega
    refine ⟨b, off, c, cap - lo, ?_, rfl, by rw [hn]; omega, by omega, ?_, ?_⟩
    ·rw [hn, if_pos he]
    ·rw [he, Nat.sub_self]; simp; omega
    ·rw [e0]; intro k hk; simp at hk
   ·refine ⟨b, off + lo * sz, c, cap - lo, ?_, rfl, by rw [hn]; omega, by omega, ?_, g6.piece h.len lo (hi - lo)⟩
    ·rw [hn, if_neg he]
     simp only [Option.map_some, Addr.add]
     split
     ·rename_i h0; rw [h0]; rfl
     ·rfl
    ·have : (cap - lo) * sz = cap * sz - lo * sz := Nat.sub_mul ..
     have h6 : lo * sz ≤ cap * sz := Nat.mul_le_mul_right _ (by omega)
     omega
  ·have := run_sliceAt (P := P) (w := w) (p := some ⟨b, off, none⟩) (n := xs.length) (cap := cap) ha h1 h2 h3 (by omega) (t := t) (e := e) (sz := sz)
   simp only [execOp, ha.eval hx, Option.map_none]
   rw [Sem.run_bind, this]
   rfl
end
end Go.Proofs.YtkagfkbkpiebjaaGreatDoor
set_option linter.unusedVariables false
set_option linter.unusedSimpArgs false
namespace Go.Proofs.YtkagfkbkpiebjaaGreatDoor
def L64 : List UInt8 := [65,66,67,68,69,70,71,72,73,74,75,76,77,78,79,80,81,82,83,84,85,86,87,88,89,90,97,98,99,100,101,102,103,104,105,106,107,108,109,110,111,112,113,114,115,116,117,118,119,120,121,122,48,49,50,51,52,53,54,55,56,57,45,95]
def l64 (n : Nat) : UInt8 := L64.getD (n % 64) 0
def e64 : List UInt8 → List UInt8
 | a :: b :: c :: r => l64 (a.toNat / 4) :: l64 (a.toNat % 4 * 16 + b.toNat / 16) :: l64 (b.toNat % 16 * 4 + c.toNat / 64) :: l64 c.toNat :: e64 r
 | [a, b] => [l64 (a.toNat / 4), l64 (a.toNat % 4 * 16 + b.toNat / 16), l64 (b.toNat % 16 * 4)]
 | [a] => [l64 (a.toNat / 4), l64 (a.toNat % 4 * 16)]
 | [] => []
def emit (h n : Nat) : List UInt8 := if 6 ≤ n then l64 (h / 2 ^ (n - 6)) :: emit h (n - 6) else []
termination_by n
def held (h : Nat) (c : UInt8) : Nat := (h * 256 + c.toNat) % 18446744073709551616
def step64 (s : Nat × Nat × List UInt8) (c : UInt8) : Nat × Nat × List UInt8 := (held s.1 c, (s.2.1 + 8) % 6, s.2.2 ++ emit (held s.1 c) (s.2.1 + 8))
def fin64 (s : Nat × Nat × List UInt8) : List UInt8 := s.2.2 ++ if 0 < s.2.1 then [l64 (s.1 * 2 ^ (6 - s.2.1))] else []
theorem l64_mod (n : Nat) : l64 (n % 64) = l64 n := by unfold l64; rw [Nat.mod_mod]
theorem l64_eq {n m : Nat} (h : n % 64 = m % 64) : l64 n = l64 m := by unfold l64; rw [h]
theorem emit_small {h n : Nat} (hn : ¬ 6 ≤ n) : emit h n = [] := by rw [emit, if_neg hn]
theorem emit_big {h n : Nat} (hn : 6 ≤ n) : emit h n = l64 (h / 2 ^ (n - 6)) :: emit h (n - 6) := by rw [emit, if_pos hn]
theorem emit8 (h : Nat) : emit h 8 = [l64 (h / 4)] := by rw [emit_big (by omega), emit_small (by omega)]
theorem emit10 (h : Nat) : emit h 10 = [l64 (h / 16)] := by rw [emit_big (by omega), emit_small (by omega)]
theorem emit12 (h : Nat) : emit h 12 = [l64 (h / 64), l64 h] := by rw [emit_big (by omega), emit_big (by omega), emit_small (by omega)]; simp
theorem enc_fold : ∀ (l : List UInt8) (h : Nat) (o : List UInt8), fin64 (l.foldl step64 (h, 0, o)) = o ++ e64 l
 | [], h, o => by simp [fin64, e64]
 | [a], h, o => by
  have ha := a.toNat_lt
  simp only [List.foldl, step64, fin64, Nat.zero_add, emit8, e64, held]
  rw [if_pos (by decide), List.append_assoc]
  congr 1
  rw [show (8 % 6 : Nat) = 2 from rfl, show (6 - 2 : Nat) = 4 from rfl]
  simp only [List.cons_append, List.nil_append]
  congr 1
  ·exact l64_eq (by omega)
  ·congr 1; exact l64_eq (by omega)
 | [a, b], h, o => by
  have ha := a.toNat_lt
  have hb := b.toNat_lt
  simp only [List.foldl, step64, fin64, Nat.zero_add, emit8, e64, held, Nat.reduceAdd, Nat.reduceMod, emit10]
  rw [if_pos (by decide), List.append_assoc, List.append_assoc]
  congr 1
  simp only [List.cons_append, List.nil_append, Nat.reduceSub]
  congr 1
  ·exact l64_eq (by omega)
  ·congr 1
   ·exact l64_eq (by omega)
   ·congr 1; exact l64_eq (by omega)
 | a :: b :: c :: r, h, o => by
  have ha := a.toNat_lt
  have hb := b.toNat_lt
  have hc := c.toNat_lt
  simp only [List.foldl, step64, Nat.zero_add, emit8, e64, Nat.reduceAdd, Nat.reduceMod, emit10, emit12]
  rw [enc_fold r, List.append_assoc, List.append_assoc, List.append_assoc]
  congr 1
  simp only [List.cons_append, List.nil_append]
  congr 1
  ·exact l64_eq (by unfold held; omega)
  ·congr 1
   ·exact l64_eq (by unfold held; omega)
   ·congr 1
    ·exact l64_eq (by unfold held; omega)
    ·congr 1
     exact l64_eq (by unfold held; omega)
end Go.Proofs.YtkagfkbkpiebjaaGreatDoor
