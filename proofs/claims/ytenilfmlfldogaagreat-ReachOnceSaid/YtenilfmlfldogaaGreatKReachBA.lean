/- What the law 'ReachB' uses. No condition. -/
import Derived.KernelRfl
import Derived.LaidEql
import Derived.Laws.StructEq
import Derived.OrdersHeld
import Derived.Shelf.Abstract
import Derived.Still
import Derived.StillTail
import Derived.Tactics
import GoSem.ClaimData
set_option linter.unusedVariables false
namespace Go.Proofs.YtenilfmlfldogaaGreat
section
abbrev Blk := Nat × Obj
abbrev Seg := List Blk
abbrev Segs := List Seg
abbrev Env := List (Nat × Value)
abbrev Rds := Nat -> Obj -> Prop
def Env.get? : Env -> Nat -> Option Value
 | [], _ => none
 | (k, v) :: r, t => match Nat.beq k t with
  | true => some v
  | false => Env.get? r t
def ev (env : Env) : Operand -> Option Value
 | .tmp t => env.get? t
 | .const v => some v
 | .global g => some (.pointer (some ⟨g, 0, none⟩))
 | .func f => some (.func (.func f) #[] #[])
def evs (env : Env) : List Operand -> Option (List Value)
 | [] => some []
 | x :: r => match ev env x, evs env r with
  | some v, some vs => some (v :: vs)
  | _, _ => none
def EnvOK (a : Act) (env : Env) : Prop := ∀ t v, env.get? t = some v -> a.tmps[t]? = some v
theorem EnvOK.eval {a : Act} {env : Env} (h : EnvOK a env) {x : Operand} {v : Value} (hx : ev env x = some v) : a.eval x = v := by
 cases x with
 | tmp t => have := h t v hx; simp [Act.eval, this]
 | const u => simpa [ev, Act.eval] using hx
 | global g => simpa [ev, Act.eval] using hx
 | func f => simpa [ev, Act.eval] using hx
theorem EnvOK.evals {a : Act} {env : Env} (h : EnvOK a env) : ∀ {xs : List Operand} {vs : List Value}, evs env xs = some vs -> xs.map a.eval = vs
 | [], vs, hx => by simp [evs] at hx; simp [hx]
 | x :: r, vs, hx => by
  simp only [evs] at hx
  split at hx
  ·rename_i v vs' h1 h2
   simp only [Option.some.injEq] at hx
   subst hx
   simp [h.eval h1, h.evals h2]
  ·cases hx
theorem EnvOK.evalsA {a : Act} {env : Env} (h : EnvOK a env) {xs : List Operand} {vs : List Value} (hx : evs env xs = some vs) : xs.toArray.map a.eval = vs.toArray := by
 rw [List.map_toArray, h.evals hx]
theorem EnvOK.put {a : Act} {env : Env} (h : EnvOK a env) {d : Nat} {v : Value} (hd : d < a.tmps.size) : EnvOK (a.put (some d) v) ((d, v) :: env) := by
 intro t u hu
 simp only [Env.get?] at hu
 by_cases hdt : d = t
 ·subst hdt
  have : Nat.beq d d = true := Nat.beq_refl d
  rw [this] at hu
  simp only [Option.some.injEq] at hu
  subst hu
  simp [Act.put, hd]
 ·have : Nat.beq d t = false := by
   cases hb : Nat.beq d t with
   | false => rfl
   | true => exact absurd (Nat.eq_of_beq_eq_true hb) hdt
  rw [this] at hu
  have := h t u hu
  simp [Act.put, Array.getElem?_setIfInBounds_ne hdt, this]
def Sat (w : World) (H : Segs) : Prop := (H.flatten.map (·.1)).Nodup /\ ∀ p ∈ H.flatten, w.heap[p.1]? = some p.2
def RO (w : World) (R : Rds) (H : Segs) : Prop := ∀ b o, R b o -> w.heap[b]? = some o /\ ∀ p ∈ H.flatten, p.1 ≠ b
structure Frame (w : World) (H : Segs) (w' : World) (H' : Segs) : Prop where
 le : w.heap.size <= w'.heap.size
 keep : ∀ b, b < w.heap.size -> (∀ p ∈ H.flatten, p.1 ≠ b) -> w'.heap[b]? = w.heap[b]?
 dom : ∀ p ∈ H'.flatten, (∃ q ∈ H.flatten, q.1 = p.1) \/ w.heap.size <= p.1
 os : w'.os = w.os
 output : w'.output = w.output
 tape : w'.tape = w.tape
theorem Frame.refl (w : World) (H : Segs) : Frame w H w H :=
 ⟨Nat.le_refl _, λ _ _ _ => rfl, λ p hp => .inl ⟨p, hp, rfl⟩, rfl, rfl, rfl⟩
theorem Frame.trans {w w' w'' : World} {H H' H'' : Segs} (h : Frame w H w' H') (h' : Frame w' H' w'' H'') : Frame w H w'' H'' where
 le := Nat.le_trans h.le h'.le
 keep b hb hn := by
  rw [h'.keep b (Nat.lt_of_lt_of_le hb h.le) ?_, h.keep b hb hn]
  intro p hp he
  rcases h.dom p hp with ⟨q, hq, hqp⟩ | hge
  ·exact hn q hq (hqp.trans he)
  ·omega
 dom p hp := by
  rcases h'.dom p hp with ⟨q, hq, hqp⟩ | hge
  ·rcases h.dom q hq with ⟨r, hr, hrq⟩ | hge
   ·exact .inl ⟨r, hr, hrq.trans hqp⟩
   ·exact .inr (by omega)
  ·exact .inr (Nat.le_trans h.le hge)
 os := h'.os.trans h.os
 output := h'.output.trans h.output
 tape := h'.tape.trans h.tape
structure St (N : Nat) (R : Rds) (a : Act) (w : World) (env : Env) (H : Segs) (w0 : World) (H0 : Segs) : Prop where
 defers : a.defers = []
 size : a.tmps.size = N
 env : EnvOK a env
 sat : Sat w H
 ro : RO w R H
 fr : Frame w0 H0 w H
theorem lt_of_some {w : World} {b : Nat} {o : Obj} (h : w.heap[b]? = some o) : b < w.heap.size := by
 rcases Nat.lt_or_ge b w.heap.size with h' | h'
 ·exact h'
 ·rw [Array.getElem?_eq_none h'] at h; cases h
theorem RO.frame {w w' : World} {R : Rds} {H H' : Segs} (h : RO w R H) (f : Frame w H w' H') : RO w' R H' := by
 intro b o hb
 obtain ⟨h1, h2⟩ := h b o hb
 have hlt := lt_of_some h1
 refine ⟨by rw [f.keep b hlt h2]; exact h1, λ p hp he => ?_⟩
 rcases f.dom p hp with ⟨q, hq, hqp⟩ | hge
 ·exact h2 q hq (hqp.trans he)
 ·omega
theorem St.step {N : Nat} {R : Rds} {a : Act} {w w' : World} {env : Env} {H H' : Segs} {w0 : World} {H0 : Segs} (s : St N R a w env H w0 H0) (f : Frame w H w' H') (hs : Sat w' H') : St N R a w' env H' w0 H0 :=
 ⟨s.defers, s.size, s.env, hs, s.ro.frame f, s.fr.trans f⟩
theorem St.put {N : Nat} {R : Rds} {a : Act} {w : World} {env : Env} {H : Segs} {w0 : World} {H0 : Segs} (s : St N R a w env H w0 H0) {d : Nat} (v : Value) (hd : Nat.blt d N = true) : St N R (a.put (some d) v) w ((d, v) :: env) H w0 H0 :=
 ⟨s.defers, by simp [Act.put, s.size], s.env.put (by rw [s.size]; exact Nat.le_of_ble_eq_true hd), s.sat, s.ro, s.fr⟩
theorem Frame.drew (w : World) (H : Segs) (n : Nat) : Frame w H { w with drawn := n } H :=
 ⟨Nat.le_refl _, λ _ _ _ => rfl, λ p hp => .inl ⟨p, hp, rfl⟩, rfl, rfl, rfl⟩
theorem Sat.drew {w : World} {H : Segs} (h : Sat w H) (n : Nat) : Sat { w with drawn := n } H := h
theorem alloc_heap (w : World) (o : Obj) : (w.alloc o).heap = w.heap.push o := rfl
theorem Frame.alloc (w : World) (H : Segs) (o : Obj) : Frame w H (w.alloc o) ([(w.heap.size, o)] :: H) where
 le := by rw [alloc_heap, Array.size_push]; omega
 keep b hb _ := by rw [alloc_heap, Array.getElem?_push, if_neg (Nat.ne_of_lt hb)]
 dom p hp := by
  simp only [List.flatten_cons, List.mem_append, List.mem_singleton] at hp
  rcases hp with rfl | hp
  ·exact .inr (Nat.le_refl _)
  ·exact .inl ⟨p, hp, rfl⟩
 os := rfl
 output := rfl
 tape := rfl
theorem Sat.alloc {w : World} {H : Segs} (h : Sat w H) (o : Obj) : Sat (w.alloc o) ([(w.heap.size, o)] :: H) := by
 have hlt : ∀ p ∈ H.flatten, p.1 < w.heap.size := λ p hp => lt_of_some (h.2 p hp)
 refine ⟨?_, λ p hp => ?_⟩
 ·simp only [List.flatten_cons, List.cons_append, List.nil_append, List.map_cons, List.nodup_cons]
  refine ⟨λ hm => ?_, h.1⟩
  obtain ⟨p, hp, he⟩ := List.mem_map.1 hm
  have := hlt p hp
  omega
 ·simp only [List.flatten_cons, List.mem_append, List.mem_singleton] at hp
  rcases hp with rfl | hp
  ·rw [alloc_heap, Array.getElem?_push, if_pos rfl]
  ·have := hlt p hp
   rw [alloc_heap, Array.getElem?_push, if_neg (Nat.ne_of_lt this), h.2 p hp]
def setO (w : World) (b : Nat) (o : Obj) : World := { w with heap := w.heap.setIfInBounds b o }
theorem Sat.set {w : World} {H1 H2 : Segs} {T1 T2 : Seg} {b : Nat} {o o' : Obj} (h : Sat w (H1 ++ (T1 ++ (b, o) :: T2) :: H2)) : Sat (setO w b o') (H1 ++ (T1 ++ (b, o') :: T2) :: H2) := by
 obtain ⟨hn, hm⟩ := h
 have e : ∀ o : Obj, ((H1 ++ (T1 ++ (b, o) :: T2) :: H2).flatten.map (·.1)) = (H1.flatten.map (·.1) ++ T1.map (·.1)) ++ b :: (T2.map (·.1) ++ H2.flatten.map (·.1)) := λ o => by
  simp
 rw [e] at hn
 refine ⟨by rw [e]; exact hn, λ p hp => ?_⟩
 have hb : w.heap[b]? = some o := hm (b, o) (by simp)
 have hlt := lt_of_some hb
 have hne : ∀ q : Blk, q ∈ H1.flatten \/ q ∈ T1 \/ q ∈ T2 \/ q ∈ H2.flatten -> q.1 ≠ b := by
  intro q hq he
  rw [List.nodup_append] at hn
  obtain ⟨_, h2, h3⟩ := hn
  rcases hq with hq | hq | hq | hq
  ·exact h3 q.1 (List.mem_append_left _ (List.mem_map_of_mem hq)) b (by simp) he
  ·exact h3 q.1 (List.mem_append_right _ (List.mem_map_of_mem hq)) b (by simp) he
  ·exact (List.nodup_cons.1 h2).1 (List.mem_append_left _ (he ▸ List.mem_map_of_mem hq))
  ·exact (List.nodup_cons.1 h2).1 (List.mem_append_right _ (he ▸ List.mem_map_of_mem hq))
 simp only [List.flatten_append, List.flatten_cons, List.mem_append, List.mem_cons] at hp
 have old : ∀ q : Blk, q ∈ H1.flatten \/ q ∈ T1 \/ q ∈ T2 \/ q ∈ H2.flatten -> (setO w b o').heap[q.1]? = some q.2 := λ q hq => by
  have h1 := hne q hq
  have h2 : w.heap[q.1]? = some q.2 := hm q (by
   simp only [List.flatten_append, List.flatten_cons, List.mem_append, List.mem_cons]
   rcases hq with hq | hq | hq | hq
   ·exact .inl hq
   ·exact .inr (.inl (.inl hq))
   ·exact .inr (.inl (.inr (.inr hq)))
   ·exact .inr (.inr hq))
  simp [setO, Array.getElem?_setIfInBounds_ne (Ne.symm h1), h2]
 rcases hp with hp | (hp | rfl | hp) | hp
 ·exact old p (.inl hp)
 ·exact old p (.inr (.inl hp))
 ·simp [setO, hlt]
 ·exact old p (.inr (.inr (.inl hp)))
 ·exact old p (.inr (.inr (.inr hp)))
theorem Frame.set {w : World} {H1 H2 : Segs} {T1 T2 : Seg} {b : Nat} {o o' : Obj} : Frame w (H1 ++ (T1 ++ (b, o) :: T2) :: H2) (setO w b o') (H1 ++ (T1 ++ (b, o') :: T2) :: H2) where
 le := by simp [setO]
 keep c hc hn := by
  have : b ≠ c := λ he => hn (b, o) (by simp) he
  simp [setO, Array.getElem?_setIfInBounds_ne this]
 dom p hp := by
  simp only [List.flatten_append, List.flatten_cons, List.mem_append, List.mem_cons] at hp
  rcases hp with hp | (hp | rfl | hp) | hp
  ·exact .inl ⟨p, by simp [hp], rfl⟩
  ·exact .inl ⟨p, by simp [hp], rfl⟩
  ·exact .inl ⟨(b, o), by simp, rfl⟩
  ·exact .inl ⟨p, by simp [hp], rfl⟩
  ·exact .inl ⟨p, by simp [hp], rfl⟩
 os := rfl
 output := rfl
 tape := rfl
def HLe (H H' : Segs) : Prop := ∃ G : Seg, H.flatten.Perm (H'.flatten ++ G)
theorem HLe.refl (H : Segs) : HLe H H := ⟨[], by simp⟩
theorem HLe.sat {H H' : Segs} (h : HLe H H') {w : World} (s : Sat w H) : Sat w H' := by
 obtain ⟨G, hp⟩ := h
 refine ⟨?_, λ p hm => s.2 p (hp.mem_iff.2 (List.mem_append_left _ hm))⟩
 have := (hp.map (·.1)).nodup_iff.1 s.1
 rw [List.map_append] at this
 exact (List.nodup_append.1 this).1
theorem HLe.frame {H H' : Segs} (h : HLe H H') (w : World) : Frame w H w H' := by
 obtain ⟨G, hp⟩ := h
 exact ⟨Nat.le_refl _, λ _ _ _ => rfl, λ p hm => .inl ⟨p, hp.mem_iff.2 (List.mem_append_left _ hm), rfl⟩, rfl, rfl, rfl⟩
def pick : List Nat -> Segs -> Segs
 | [], _ => []
 | i :: is, H => (H.getD i []) :: pick is H
def dropAt : Nat -> Segs -> Segs
 | _, [] => []
 | 0, _ :: r => r
 | i + 1, T :: r => T :: dropAt i r
def rest : List Nat -> Segs -> Segs
 | [], H => H
 | i :: is, H => rest is (dropAt i H)
def take : List Nat -> Segs -> Segs
 | [], _ => []
 | i :: is, H => (H.getD i []) :: take is (dropAt i H)
theorem dropAt_perm : ∀ (i : Nat) (H : Segs), H.flatten.Perm (H.getD i [] ++ (dropAt i H).flatten)
 | _, [] => by simp [dropAt]
 | 0, T :: r => by simp [dropAt]
 | i + 1, T :: r => by
  have := dropAt_perm i r
  simp only [List.flatten_cons, dropAt, List.getD_cons_succ]
  refine (this.append_left T).trans ?_
  rw [<- List.append_assoc, <- List.append_assoc]
  exact (List.perm_append_comm).append_right _
theorem take_perm : ∀ (is : List Nat) (H : Segs), H.flatten.Perm ((take is H).flatten ++ (rest is H).flatten)
 | [], H => by simp [take, rest]
 | i :: is, H => by
  have h1 := dropAt_perm i H
  have h2 := take_perm is (dropAt i H)
  simp only [take, rest, List.flatten_cons, List.append_assoc]
  exact h1.trans (h2.append_left _)
theorem HLe.pick (is : List Nat) (H : Segs) : HLe H (take is H) := ⟨(rest is H).flatten, take_perm is H⟩
theorem HLe.drop (is : List Nat) (H : Segs) : HLe H (rest is H) := ⟨(take is H).flatten, (take_perm is H).trans List.perm_append_comm⟩
theorem Sat.perm {w : World} {H H' : Segs} (hp : H.flatten.Perm H'.flatten) (s : Sat w H) : Sat w H' :=
 ⟨((hp.map (·.1)).nodup_iff).1 s.1, λ p hm => s.2 p (hp.mem_iff.2 hm)⟩
def Tri (P : Program) (N : Nat) (R : Rds) (c : Code) (env : Env) (H : Segs) (Q : Exit -> Env -> Segs -> Prop) : Prop :=
 ∀ (Q' : Exit -> Act -> World -> Prop) (w0 : World) (H0 : Segs), (∀ e env' H' a' w', Q e env' H' -> St N R a' w' env' H' w0 H0 -> Q' e a' w') ->
  ∀ a w, St N R a w env H w0 H0 -> c.wp P Q' a w
def Spec (P : Program) (f : FuncId) (args : List Value) (R : Rds) (H : Segs) (Post : Value -> Segs -> Prop) : Prop :=
 ∀ w, Sat w H -> RO w R H -> Calls P f args.toArray w λ e w' => ∃ v H', e = .returned v /\ Post v H' /\ Sat w' H' /\ Frame w H w' H'
theorem Spec.mono {P : Program} {f : FuncId} {args : List Value} {R : Rds} {H : Segs} {Post Post' : Value -> Segs -> Prop} (h : Spec P f args R H Post) (hp : ∀ v H', Post v H' -> Post' v H') : Spec P f args R H Post' :=
 λ w hs hr => (h w hs hr).mono λ _ _ ⟨v, H', he, hq, hs', hf⟩ => ⟨v, H', he, hp _ _ hq, hs', hf⟩
theorem Spec.weaken {P : Program} {f : FuncId} {args : List Value} {R R' : Rds} {H : Segs} {Post : Value -> Segs -> Prop} (h : Spec P f args R' H Post) (hr : ∀ b o, R' b o -> R b o) : Spec P f args R H Post :=
 λ w hs hro => h w hs λ b o hb => hro b o (hr b o hb)
section rules
variable {P : Program} {N : Nat} {R : Rds} {env : Env} {H : Segs} {Q : Exit -> Env -> Segs -> Prop}
def seqQ (P : Program) (N : Nat) (R : Rds) (y : Code) (Q : Exit -> Env -> Segs -> Prop) : Exit -> Env -> Segs -> Prop
 | .normal, env, H => Tri P N R y env H Q
 | e, env, H => Q e env H
def blkQ (id : Nat) (Q : Exit -> Env -> Segs -> Prop) : Exit -> Env -> Segs -> Prop
 | .exit id', env, H => if id' = id then Q .normal env H else Q (.exit id') env H
 | e, env, H => Q e env H
def loopQ (I : Env -> Segs -> Prop) (Q : Exit -> Env -> Segs -> Prop) : Exit -> Env -> Segs -> Prop
 | .normal, env, H => I env H
 | e, env, H => Q e env H
theorem Tri.seq {x y : Code} (h : Tri P N R x env H (seqQ P N R y Q)) : Tri P N R (.seq x y) env H Q :=
 λ Q' w0 H0 hQ a w s => wp_seq (h _ w0 H0 (λ e env' H' a' w' hq s' => by
  cases e with
  | normal => exact hq Q' w0 H0 hQ a' w' s'
  | _ => exact hQ _ _ _ _ _ hq s') a w s)
theorem Tri.skip (h : Q .normal env H) : Tri P N R .skip env H Q := λ _ _ _ hQ a w s => wp_skip (hQ _ _ _ _ _ h s)
theorem Tri.exit {id : Nat} (h : Q (.exit id) env H) : Tri P N R (.exit id) env H Q := λ _ _ _ hQ a w s => wp_exit (hQ _ _ _ _ _ h s)
theorem Tri.ret (h : Q .ret env H) : Tri P N R .ret env H Q := λ _ _ _ hQ a w s => wp_ret (hQ _ _ _ _ _ h s)
theorem Tri.block {id : Nat} {c : Code} (h : Tri P N R c env H (blkQ id Q)) : Tri P N R (.block id c) env H Q :=
 λ Q' w0 H0 hQ a w s => wp_block (h _ w0 H0 (λ e env' H' a' w' hq s' => by
  cases e with
  | exit id' =>
   simp only [blkQ] at hq
   simp only [Exit.inBlock]
   split
   ·rename_i he; rw [if_pos he] at hq; exact hQ _ _ _ _ _ hq s'
   ·rename_i he; rw [if_neg he] at hq; exact hQ _ _ _ _ _ hq s'
  | _ => exact hQ _ _ _ _ _ hq s') a w s)
theorem Tri.cond {c : Operand} {x y : Code} {b : Bool} (hc : ev env c = some (.bool b)) (ht : b = true -> Tri P N R x env H Q) (hf : b = false -> Tri P N R y env H Q) : Tri P N R (.cond c x y) env H Q :=
 λ Q' w0 H0 hQ a w s => wp_cond_split (s.env.eval hc) (λ h => ht h Q' w0 H0 hQ a w s) (λ h => hf h Q' w0 H0 hQ a w s)
def EnvLe (env env' : Env) : Prop := ∀ t v, Env.get? env' t = some v -> Env.get? env t = some v
theorem EnvLe.refl (env : Env) : EnvLe env env := λ _ _ h => h
theorem EnvLe.nil (env : Env) : EnvLe env [] := λ _ _ h => by cases h
theorem EnvLe.cons {env env' : Env} {t : Nat} {v : Value} (h : EnvLe env env') (hv : Env.get? env t = some v) : EnvLe env ((t, v) :: env') := λ u x hx => by
 simp only [Env.get?] at hx
 split at hx
 ·rename_i hb
  have := Nat.eq_of_beq_eq_true hb
  simp only [Option.some.injEq] at hx
  subst hx; subst this; exact hv
 ·exact h u x hx
theorem EnvLe.d {env env' : Env} {t : Nat} {v : Value} (h : EnvLe env env') (hv : Env.get? env t = some v) : EnvLe env ((t, v) :: env') := h.cons hv
theorem EnvLe.c {env env' : Env} {t : Nat} {v : Value} (h : EnvLe env env') (hv : Env.get? env t = some v := by rfl) : EnvLe env ((t, v) :: env') := h.cons hv
theorem kE {env : Env} : EnvLe env [] := EnvLe.nil _
theorem EnvOK.le {a : Act} {env env' : Env} (h : EnvOK a env) (hl : EnvLe env env') : EnvOK a env' := λ t v hv => h t v (hl t v hv)
theorem St.le {a : Act} {w : World} {env env' : Env} {H H' : Segs} {w0 : World} {H0 : Segs} (s : St N R a w env H w0 H0) (he : EnvLe env env') (hh : HLe H H') : St N R a w env' H' w0 H0 :=
 let s' := s.step (hh.frame w) (hh.sat s.sat)
 ⟨s'.defers, s'.size, s'.env.le he, s'.sat, s'.ro, s'.fr⟩
theorem Tri.le {c : Code} {env' : Env} {H' : Segs} (he : EnvLe env env') (hh : HLe H H') (h : Tri P N R c env' H' Q) : Tri P N R c env H Q :=
 λ Q' w0 H0 hQ a w s => h Q' w0 H0 hQ a w (s.le he hh)
theorem Tri.loop {X : Type} {c : Code} (I : X -> Prop) (e : X -> Env) (h : X -> Segs) (μ : X -> Nat) (x0 : X) (hI : I x0) (he : EnvLe env (e x0)) (hh : HLe H (h x0))
  (round : ∀ x, I x -> Tri P N R c (e x) (h x) (loopQ (λ env' H' => ∃ x', I x' /\ μ x' < μ x /\ EnvLe env' (e x') /\ HLe H' (h x')) Q)) : Tri P N R (.loop c) env H Q :=
 λ Q' w0 H0 hQ a w s b k cs => by
  have key : ∀ n x a w, μ x = n -> I x -> St N R a w (e x) (h x) w0 H0 ->
    ∃ ex a' w', Q' ex a' w' /\ Arrives P (lone (b.at a (.code c :: .inLoop c :: k)) cs w) b k cs ex a' w' := by
   intro n
   induction n using Nat.strongRecOn with
   | _ n ih =>
    intro x a w hn hI s
    have hr := round x hI (Exit.then (λ a' w' => ∃ x', I x' /\ μ x' < μ x /\ St N R a' w' (e x') (h x') w0 H0) Q') w0 H0 (λ ex env' H' a' w' hq s' => by
     cases ex with
     | normal => obtain ⟨x', h1, h2, h3, h4⟩ := hq; exact ⟨x', h1, h2, s'.le h3 h4⟩
     | _ => exact hQ _ _ _ _ _ hq s') a w s
    obtain ⟨ex, a1, w1, hq, harr⟩ := hr b (.inLoop c :: k) cs
    cases ex with
    | normal =>
     obtain ⟨x', h1, h2, s'⟩ := hq
     obtain ⟨e2, a2, w2, hq2, harr2⟩ := ih (μ x') (hn ▸ h2) x' a1 w1 rfl h1 s'
     exact ⟨e2, a2, w2, hq2, .of_steps (Steps.trans harr (.one step_inLoop)) harr2⟩
    | exit id => exact ⟨_, a1, w1, hq, .pass (x := .inLoop c) rfl (λ _ _ => .inl (by simp)) harr⟩
    | goto l => exact ⟨_, a1, w1, hq, .pass (x := .inLoop c) rfl (λ _ _ => .inl (by simp)) harr⟩
    | ret => exact ⟨_, a1, w1, hq, .pass (x := .inLoop c) rfl (λ _ _ => .inl (by simp)) harr⟩
    | panic ch => exact ⟨_, a1, w1, hq, .pass (x := .inLoop c) rfl (λ _ _ => .inl (by simp)) harr⟩
    | outgrown => exact ⟨_, a1, w1, hq, .pass (x := .inLoop c) rfl (λ _ _ => .inl (by simp)) harr⟩
  obtain ⟨e1, a', w', hq, harr⟩ := key _ x0 a w rfl hI (s.le he hh)
  exact ⟨e1, a', w', hq, .of_steps (.one step_loop) harr⟩
end rules
end
section
class Und (P : Program) (t : TypeId) (d : outParam TypeDesc) : Prop where h : P.underlying t = some d
class Sz (P : Program) (t : TypeId) (n : outParam Nat) : Prop where h : ∀ w, (sizeOf t).run P w = .ok n w
class Zr (P : Program) (t : TypeId) (v : outParam Value) : Prop where h : ∀ w, (zeroValue t).run P w = .ok v w
class Agg (P : Program) (t : TypeId) (b : outParam Bool) : Prop where h : ∀ w, (isAgg t).run P w = .ok b w
class By (P : Program) (t : TypeId) (n : outParam Nat) : Prop where h : ∀ w, ∃ i, (typeInfo t).run P w = .ok i w /\ i.bytes = n
class Fld (P : Program) (s : TypeId) (f : Nat) (off : outParam Nat) : Prop where
 h : ∀ (a : Addr) w, (Instr.fieldAt s (.pointer (some a)) f).run P w = .ok (.pointer (some (a.add off))) w
class Ent (P : Program) (f : FuncId) : Prop where h : ∀ (args : Array Value) (w : World), (callFunc f args).run P w = .ok (.enter f args) w
theorem Fld.of {P : Program} {s : TypeId} {fs : Array Field} {f : Nat} {fd : Field} {n off : Nat} (hu : P.underlying s = some (.struct fs)) (hf : fs[f]? = some fd)
  (hs : ∀ w, (sizeOf fd.type).run P w = .ok n w) (hn : (n == 0) = false) (ho : fd.offset = off) : Fld P s f off := ⟨λ a w => by
 have hn' : n ≠ 0 := by simpa using hn
 simp [Instr.fieldAt, run_underlying hu, hf, Instr.sureAddr, fieldPlace, hs, hn', ho]⟩
def Quiet (P : Program) (R : Rds) (env : Env) (H : Segs) (op : Op) (ty : TypeId) (v : Value) : Prop :=
 ∀ (a : Act) (w : World) (d : Option Tmp) (pos : String) (af : Array Edge) (g : Option (Nat × Bool)), EnvOK a env -> Sat w H -> RO w R H -> (execOp a.eval ⟨d, op, ty, pos, af, g⟩).run P w = .ok (.value v) w
def TriOps (m : Bool) (P : Program) (N : Nat) (R : Rds) (ops : Array Oper) (l : List Oper) (env : Env) (H : Segs) (K : Env -> Segs -> Prop) : Prop :=
 ∀ (Q' : Exit -> Act -> World -> Prop) (w0 : World) (H0 : Segs), (∀ env' H' a' w', K env' H' -> St N R a' w' env' H' w0 H0 -> Q' .normal a' w') ->
  ∀ a w, St N R a w env H w0 H0 -> match m with
   | true => wpStill P ops w (λ a' => Q' .normal a' w) l a
   | false => wpList P ops Q' l a w
section
variable {P : Program} {N : Nat} {R : Rds} {ops : Array Oper} {l : List Oper} {env : Env} {H : Segs} {K : Env -> Segs -> Prop} {Q : Exit -> Env -> Segs -> Prop} {m : Bool}
theorem Tri.region {id : Nat} (h : TriOps false P N R l.toArray l env H (Q .normal)) : Tri P N R (.region id l.toArray false) env H Q :=
 λ Q' w0 H0 hQ a w s => wp_region_lit (h Q' w0 H0 (λ env' H' a' w' hk s' => hQ _ _ _ _ _ hk s') a w s)
theorem Tri.region_still {id : Nat} (hm : P.follows .mixedOrders = true) (hB : Region.lexB .any l.toArray = true) (h : TriOps true P N R l.toArray l env H (Q .normal)) : Tri P N R (.region id l.toArray true) env H Q :=
 λ Q' w0 H0 hQ a w s => wp_region_still_lit hm hB (h Q' w0 H0 (λ env' H' a' w' hk s' => hQ _ _ _ _ _ hk s') a _ (s.step (Frame.drew w H _) (s.sat.drew _)))
theorem Tri.region_tail {id : Nat} (n : Nat) (hm : P.follows .mixedOrders = true) (hB : Region.lexTailB .any l.toArray n = true)
  (h : TriOps true P N R l.toArray (l.take n) env H λ env' H' => TriOps false P N R l.toArray (l.drop n) env' H' (Q .normal)) : Tri P N R (.region id l.toArray true) env H Q :=
 λ Q' w0 H0 hQ a w s => wp_region_still_tail n hm hB (h (λ _ a' w' => wpList P l.toArray Q' (l.drop n) a' w') w0 H0
  (λ env' H' a' w' hk s' => hk Q' w0 H0 (λ env' H' a' w' hk s' => hQ _ _ _ _ _ hk s') a' w' s') a _ (s.step (Frame.drew w H _) (s.sat.drew _)))
theorem TriOps.nil (h : K env H) : TriOps m P N R ops [] env H K := λ Q' w0 H0 hQ a w s => by
 cases m
 ·exact wpList_nil (hQ _ _ _ _ h s)
 ·exact wpStill_nil (hQ _ _ _ _ h s)
theorem TriOps.q {d : Nat} {op : Op} {ty : TypeId} {pos : String} {af : Array Edge} {v : Value} (hq : Quiet P R env H op ty v) (hn : TriOps m P N R ops l ((d, v) :: env) H K) (hd : Nat.blt d N = true := by rfl) :
  TriOps m P N R ops (⟨some d, op, ty, pos, af, none⟩ :: l) env H K := λ Q' w0 H0 hQ a w s => by
 have hr := hq a w (some d) pos af none s.env s.sat s.ro
 have hn' := hn Q' w0 H0 hQ _ w (s.put v hd)
 cases m
 ·simp only [wpList, Region.wanted, if_true]
  exact .inl (by rw [Oper.wp, hr]; exact hn')
 ·simp only [wpStill, Region.wanted, if_true]
  rw [Oper.still, hr]
  exact ⟨rfl, hn'⟩
def gdst (ops : Array Oper) (j : Nat) : Option Nat := (ops[j]?).bind (·.dst)
theorem yielded_env {a : Act} {j t : Nat} {b : Bool} (he : EnvOK a env) (hj : gdst ops j = some t) (hv : Env.get? env t = some (.bool b)) : yielded ops a.tmps j = some b := by
 unfold gdst at hj
 simp [yielded, hj, he t _ hv]
theorem TriOps.gt {j t : Nat} {want : Bool} {dst : Option Nat} {op : Op} {ty : TypeId} {pos : String} {af : Array Edge} (hv : Env.get? env t = some (.bool want)) (hn : TriOps m P N R ops (⟨dst, op, ty, pos, af, none⟩ :: l) env H K) (hj : gdst ops j = some t := by rfl) :
  TriOps m P N R ops (⟨dst, op, ty, pos, af, some (j, want)⟩ :: l) env H K := λ Q' w0 H0 hQ a w s => by
 have hw : Region.wanted ⟨dst, op, ty, pos, af, some (j, want)⟩ (yielded ops a.tmps) = true := by
  simp [Region.wanted, yielded_env s.env hj hv]
 have h := hn Q' w0 H0 hQ a w s
 cases m
 ·simp only [wpList] at h ⊢
  rw [if_pos hw]
  rw [if_pos (by simp [Region.wanted])] at h
  exact h
 ·simp only [wpStill] at h ⊢
  rw [if_pos hw]
  rw [if_pos (by simp [Region.wanted])] at h
  exact h
theorem TriOps.gf {j t d : Nat} {want b : Bool} {op : Op} {ty : TypeId} {pos : String} {af : Array Edge} (hv : Env.get? env t = some (.bool b)) (hb : (b == want) = false) (hn : TriOps m P N R ops l ((d, undef) :: env) H K) (hj : gdst ops j = some t := by rfl) (hd : Nat.blt d N = true := by rfl) :
  TriOps m P N R ops (⟨some d, op, ty, pos, af, some (j, want)⟩ :: l) env H K := λ Q' w0 H0 hQ a w s => by
 have hw : ¬ Region.wanted ⟨some d, op, ty, pos, af, some (j, want)⟩ (yielded ops a.tmps) = true := by
  have hne : ¬ b = want := by simpa using hb
  simp [Region.wanted, yielded_env s.env hj hv, hne]
 have h := hn Q' w0 H0 hQ _ w (s.put undef hd)
 cases m
 ·simp only [wpList]
  rw [if_neg hw]
  exact h
 ·simp only [wpStill]
  rw [if_neg hw]
  exact h
theorem TriOps.eff {d : Nat} {op : Op} {ty : TypeId} {pos : String} {af : Array Edge} (hd : Nat.blt d N = true)
  (h : ∀ a w, EnvOK a env -> Sat w H -> RO w R H -> ∃ v w' H', (execOp a.eval ⟨some d, op, ty, pos, af, none⟩).run P w = .ok (.value v) w' /\ Frame w H w' H' /\ Sat w' H' /\ TriOps false P N R ops l ((d, v) :: env) H' K) :
  TriOps false P N R ops (⟨some d, op, ty, pos, af, none⟩ :: l) env H K := λ Q' w0 H0 hQ a w s => by
 obtain ⟨v, w', H', hr, hf, hs, hn⟩ := h a w s.env s.sat s.ro
 simp only [wpList, Region.wanted, if_true]
 exact .inl (by rw [Oper.wp, hr]; exact hn Q' w0 H0 hQ _ w' ((s.step hf hs).put v hd))
theorem TriOps.eff0 {op : Op} {ty : TypeId} {pos : String} {af : Array Edge}
  (h : ∀ a w, EnvOK a env -> Sat w H -> RO w R H -> ∃ w' H', ((execOp a.eval ⟨none, op, ty, pos, af, none⟩).run P w = .ok .skip w' \/ ∃ v, (execOp a.eval ⟨none, op, ty, pos, af, none⟩).run P w = .ok (.value v) w') /\ Frame w H w' H' /\ Sat w' H' /\ TriOps false P N R ops l env H' K) :
  TriOps false P N R ops (⟨none, op, ty, pos, af, none⟩ :: l) env H K := λ Q' w0 H0 hQ a w s => by
 obtain ⟨w', H', hr, hf, hs, hn⟩ := h a w s.env s.sat s.ro
 simp only [wpList, Region.wanted, if_true]
 refine .inl ?_
 rcases hr with hr | ⟨v, hr⟩
 ·rw [Oper.wp, hr]; exact hn Q' w0 H0 hQ _ w' (s.step hf hs)
 ·rw [Oper.wp, hr]; exact hn Q' w0 H0 hQ _ w' (s.step hf hs)
def Rx (R : Rds) (H : Segs) : Rds := λ b o => R b o \/ (b, o) ∈ H.flatten
theorem sat_split {w : World} {is : List Nat} (s : Sat w H) : Sat w (take is H) /\ Sat w (rest is H) /\ ∀ p ∈ (take is H).flatten, ∀ q ∈ (rest is H).flatten, p.1 ≠ q.1 := by
 have hp := take_perm is H
 have hn := (hp.map (·.1)).nodup_iff.1 s.1
 rw [List.map_append, List.nodup_append] at hn
 refine ⟨⟨hn.1, λ p hm => s.2 p (hp.mem_iff.2 (List.mem_append_left _ hm))⟩, ⟨hn.2.1, λ p hm => s.2 p (hp.mem_iff.2 (List.mem_append_right _ hm))⟩, λ p h1 q h2 he => ?_⟩
 exact hn.2.2 p.1 (List.mem_map_of_mem h1) q.1 (List.mem_map_of_mem h2) he
theorem RO.split {w : World} {is : List Nat} (s : Sat w H) (r : RO w R H) : RO w (Rx R (rest is H)) (take is H) := by
 obtain ⟨s1, s2, s3⟩ := sat_split (is := is) s
 intro b o hb
 rcases hb with hb | hb
 ·exact ⟨(r b o hb).1, λ p hp => (r b o hb).2 p ((take_perm is H).mem_iff.2 (List.mem_append_left _ hp))⟩
 ·exact ⟨s2.2 _ hb, λ p hp he => s3 p hp _ hb he⟩
theorem sat_join {w w' : World} {is : List Nat} {H' : Segs} (s : Sat w H) (s' : Sat w' H') (f : Frame w (take is H) w' H') : Sat w' (H' ++ rest is H) /\ Frame w H w' (H' ++ rest is H) := by
 obtain ⟨s1, s2, s3⟩ := sat_split (is := is) s
 have hlt : ∀ q ∈ (rest is H).flatten, q.1 < w.heap.size := λ q hq => lt_of_some (s2.2 q hq)
 have hdis : ∀ p ∈ H'.flatten, ∀ q ∈ (rest is H).flatten, p.1 ≠ q.1 := λ p hp q hq he => by
  rcases f.dom p hp with ⟨r, hr, hrp⟩ | hge
  ·exact s3 r hr q hq (hrp.trans he)
  ·have := hlt q hq; omega
 refine ⟨⟨?_, λ p hp => ?_⟩, ⟨f.le, λ b hb hn => ?_, λ p hp => ?_, f.os, f.output, f.tape⟩⟩
 ·rw [List.flatten_append, List.map_append, List.nodup_append]
  refine ⟨s'.1, s2.1, λ x hx y hy he => ?_⟩
  obtain ⟨p, hp, rfl⟩ := List.mem_map.1 hx
  obtain ⟨q, hq, rfl⟩ := List.mem_map.1 hy
  exact hdis p hp q hq he
 ·rw [List.flatten_append, List.mem_append] at hp
  rcases hp with hp | hp
  ·exact s'.2 p hp
  ·rw [f.keep p.1 (hlt p hp) (λ q hq he => s3 q hq p hp he)]
   exact s2.2 p hp
 ·exact f.keep b hb λ p hp => hn p ((take_perm is H).mem_iff.2 (List.mem_append_left _ hp))
 ·rw [List.flatten_append, List.mem_append] at hp
  rcases hp with hp | hp
  ·rcases f.dom p hp with ⟨r, hr, hrp⟩ | hge
   ·exact .inl ⟨r, (take_perm is H).mem_iff.2 (List.mem_append_left _ hr), hrp⟩
   ·exact .inr hge
  ·exact .inl ⟨p, (take_perm is H).mem_iff.2 (List.mem_append_right _ hp), rfl⟩
theorem TriOps.call_gen {dst : Option Nat} {op : Op} {ty : TypeId} {pos : String} {af : Array Edge} (is : List Nat) {f : FuncId} {vs : List Value} {Post : Value -> Segs -> Prop}
  (hx : ∀ a w, EnvOK a env -> (execOp a.eval ⟨dst, op, ty, pos, af, none⟩).run P w = .ok (.enter f vs.toArray) w)
  (hs : Spec P f vs (Rx R (rest is H)) (take is H) Post)
  (hn : ∀ v H', Post v H' -> match dst with
   | some d => Nat.blt d N = true /\ TriOps false P N R ops l ((d, v) :: env) (H' ++ rest is H) K
   | none => TriOps false P N R ops l env (H' ++ rest is H) K) :
  TriOps false P N R ops (⟨dst, op, ty, pos, af, none⟩ :: l) env H K := λ Q' w0 H0 hQ a w s => by
 simp only [wpList, Region.wanted, if_true]
 refine .inl ?_
 rw [Oper.wp, hx a w s.env]
 obtain ⟨s1, s2, s3⟩ := sat_split (is := is) s.sat
 refine (hs w s1 (RO.split s.sat s.ro)).mono λ e w' ⟨v, H', he, hp, hs', hf⟩ => ?_
 subst he
 obtain ⟨j1, j2⟩ := sat_join s.sat hs' hf
 have hn' := hn v H' hp
 cases dst with
 | some d => exact hn'.2 Q' w0 H0 hQ _ w' ((s.step j2 j1).put v hn'.1)
 | none => exact hn' Q' w0 H0 hQ _ w' (s.step j2 j1)
theorem run_call {f : FuncId} [e : Ent P f] {xs : List Operand} {ats : Array TypeId} {vs : List Value} {dst : Option Nat} {ty : TypeId} {pos : String} {af : Array Edge} {g : Option (Nat × Bool)} (hxs : evs env xs = some vs) (a : Act) (w : World) (ha : EnvOK a env) :
  (execOp a.eval ⟨dst, .call ⟨.value (.func f), xs.toArray, ats⟩, ty, pos, af, g⟩).run P w = .ok (.enter f vs.toArray) w := by
 have h1 := ha.evalsA hxs
 simp only [execOp, resolve, h1, Act.eval, Deferred.ofValue]
 have := e.h vs.toArray w
 simp [invoke, this]
theorem TriOps.call {d : Nat} {ty : TypeId} {pos : String} {af : Array Edge} (is : List Nat) {f : FuncId} [e : Ent P f] {xs : List Operand} {ats : Array TypeId} {vs : List Value} {Post : Value -> Segs -> Prop}
  (hs : Spec P f vs (Rx R (rest is H)) (take is H) Post)
  (hn : ∀ v H', Post v H' -> TriOps false P N R ops l ((d, v) :: env) (H' ++ rest is H) K) (hxs : evs env xs = some vs := by rfl) (hd : Nat.blt d N = true := by rfl) :
  TriOps false P N R ops (⟨some d, .call ⟨.value (.func f), xs.toArray, ats⟩, ty, pos, af, none⟩ :: l) env H K :=
 TriOps.call_gen is (λ a w ha => run_call hxs a w ha) hs (λ v H' hp => ⟨hd, hn v H' hp⟩)
theorem TriOps.callV {d : Nat} {ty : TypeId} {pos : String} {af : Array Edge} (is : List Nat) {t : Nat} {f : FuncId} {first captured : List Value} [e : Ent P f] {xs : List Operand} {ats : Array TypeId} {vs : List Value} {Post : Value -> Segs -> Prop}
  (ht : Env.get? env t = some (.func (.func f) first.toArray captured.toArray))
  (hs : Spec P f (first ++ vs ++ captured) (Rx R (rest is H)) (take is H) Post)
  (hn : ∀ v H', Post v H' -> TriOps false P N R ops l ((d, v) :: env) (H' ++ rest is H) K) (hxs : evs env xs = some vs := by rfl) (hd : Nat.blt d N = true := by rfl) :
  TriOps false P N R ops (⟨some d, .call ⟨.value (.tmp t), xs.toArray, ats⟩, ty, pos, af, none⟩ :: l) env H K :=
 TriOps.call_gen is (λ a w ha => by
  have h1 := ha.evalsA hxs
  have h2 : a.eval (.tmp t) = _ := ha.eval ht
  simp only [execOp, resolve, h1, h2, Deferred.ofValue]
  have := e.h (first ++ vs ++ captured).toArray w
  rw [<- List.append_toArray, <- List.append_toArray] at this ⊢
  exact this) hs (λ v H' hp => ⟨hd, hn v H' hp⟩)
end
end
section
def addP (p : Value) (k : Nat) : Value := match p with
 | .pointer (some a) => .pointer (some (a.add k))
 | v => v
def baseP (v : Value) (k : Nat) : Value := match v with
 | .slice (some a) _ _ => .pointer (some (a.add k))
 | v => v
class PC (T : Rds) (p : Value) (vs : outParam (List Value)) : Prop where
 h : ∃ b off c E fr, p = .pointer (some ⟨b, off, none⟩) /\ T b (.cells c E fr) /\ ∀ j (hj : j < vs.length), c[off + j]? = some vs[j]
def sg (T : Seg) : Rds := λ b o => (b, o) ∈ T
class RC (R : Rds) (H : Segs) (p : Value) (vs : outParam (List Value)) : Prop where
 h : PC (Rx R H) p vs
theorem PC.mono {T T' : Rds} {p : Value} {vs : List Value} (h : PC T p vs) (ht : ∀ b o, T b o -> T' b o) : PC T' p vs :=
 ⟨let ⟨b, off, c, E, fr, h1, h2, h3⟩ := h.h; ⟨b, off, c, E, fr, h1, ht _ _ h2, h3⟩⟩
theorem PC.add {T : Rds} {p : Value} {vs : List Value} (h : PC T p vs) (k : Nat) : PC T (addP p k) (vs.drop k) := by
 obtain ⟨b, off, c, E, fr, rfl, h2, h3⟩ := h.h
 refine ⟨b, off + k, c, E, fr, ?_, h2, λ j hj => ?_⟩
 ·simp only [addP, Addr.add]; split
  ·rename_i h0; subst h0; rfl
  ·rfl
 ·rw [List.length_drop] at hj
  have := h3 (k + j) (by omega)
  rw [List.getElem_drop, Nat.add_assoc]
  exact this
instance RC.there {R : Rds} {H : Segs} {T : Seg} {p : Value} {vs : List Value} [h : RC R H p vs] : RC R (T :: H) p vs :=
 ⟨h.h.mono λ b o hb => hb.imp id λ hm => by simp [hm]⟩
instance RC.here {R : Rds} {H : Segs} {b : Nat} {vs : List Value} {E : TypeId} {fr : Nat × Nat} : RC R ([(b, .cells vs.toArray E fr)] :: H) (.pointer (some ⟨b, 0, none⟩)) vs :=
 ⟨⟨b, 0, vs.toArray, E, fr, rfl, .inr (by simp), λ j hj => by simp [hj]⟩⟩
class PS (T : Seg) (p : Value) (vs : outParam (List Value)) : Prop where h : PC (sg T) p vs
instance RC.ofSeg {R : Rds} {H : Segs} {T : Seg} {p : Value} {vs : List Value} [h : PS T p vs] : RC R (T :: H) p vs :=
 ⟨h.h.mono λ b o hb => .inr (List.mem_flatten.2 ⟨T, by simp, hb⟩)⟩
instance RC.ofR {R : Rds} {H : Segs} {p : Value} {vs : List Value} [h : PC R p vs] : RC R H p vs := ⟨h.mono λ b o hb => .inl hb⟩
instance RC.add {R : Rds} {H : Segs} {p : Value} {k : Nat} {vs : List Value} [h : RC R H p vs] : RC R H (addP p k) (vs.drop k) := ⟨h.h.add k⟩
theorem pc_cells {P : Program} {R : Rds} {H : Segs} {p : Value} {vs : List Value} (h : PC (Rx R H) p vs) {w : World} (s : Sat w H) (r : RO w R H) :
  ∃ b off, p = .pointer (some ⟨b, off, none⟩) /\ ∀ j (hj : j < vs.length), w.cell? ⟨b, off + j, none⟩ = some vs[j] := by
 obtain ⟨b, off, c, E, fr, h1, h2, h3⟩ := h.h
 refine ⟨b, off, h1, λ j hj => ?_⟩
 have hb : w.heap[b]? = some (.cells c E fr) := by
  rcases h2 with h2 | h2
  ·exact (r b _ h2).1
  ·exact s.2 _ h2
 simp [World.cell?, hb, h3 j hj]
theorem run_load1 {P : Program} {a : Addr} {v : Value} {w : World} (h : w.cell? a = some v) : (load a).run P w = .ok v w := by
 rw [run_load, h]
theorem run_loadCellsFrom {P : Program} {w : World} {b off : Nat} : ∀ (vs : List Value) (i : Nat) (acc : Array Value), (∀ j (hj : j < vs.length), w.cell? ⟨b, off + i + j, none⟩ = some vs[j]) ->
  (loadCellsFrom ⟨b, off, none⟩ i vs.length acc).run P w = .ok (acc ++ vs.toArray) w
 | [], i, acc, _ => by simp [loadCellsFrom]
 | v :: r, i, acc, h => by
  have h0 := h 0 (by simp)
  have hi : (⟨b, off, none⟩ : Addr).add i = ⟨b, off + i, none⟩ := by
   simp only [Addr.add]; split
   ·rename_i h0; subst h0; rfl
   ·rfl
  have h1 : (load ⟨b, off + i, none⟩).run P w = .ok v w := run_load1 (by simpa using h0)
  have h2 := run_loadCellsFrom (P := P) r (i + 1) (acc.push v) (λ j hj => by
   have := h (j + 1) (by simp; omega)
   simpa [Nat.add_assoc, Nat.add_comm 1 j] using this)
  simp only [List.length_cons, loadCellsFrom, hi, Sem.run_bind, h1, Result.andThen_ok, h2]
  simp
section
variable {P : Program} {R : Rds} {env : Env} {H : Segs} {ty : TypeId}
theorem Quiet.move {x : Operand} {v : Value} (h : ev env x = some v := by rfl) : Quiet P R env H (.move x) ty v := λ a w d pos af g ha _ _ => by
 simp [execOp, ha.eval h]
theorem Quiet.assign {x : Operand} {v : Value} (h : ev env x = some v := by rfl) : Quiet P R env H (.assign x) ty v := λ a w d pos af g ha _ _ => by
 simp [execOp, ha.eval h]
theorem Quiet.pick {c x y : Operand} {b : Bool} {u v : Value} (hc : ev env c = some (.bool b) := by rfl) (hx : ev env x = some u := by rfl) (hy : ev env y = some v := by rfl) :
  Quiet P R env H (.pick c x y) ty (if b then u else v) := λ a w d pos af g ha _ _ => by
 simp [execOp, ha.eval hc, ha.eval hx, ha.eval hy, asBool]
theorem Quiet.pickT {c x y : Operand} {u : Value} (hc : ev env c = some (.bool true) := by rfl) (hx : ev env x = some u := by rfl) :
  Quiet P R env H (.pick c x y) ty u := λ a w d pos af g ha _ _ => by
 simp [execOp, ha.eval hc, ha.eval hx, asBool]
theorem Quiet.pickF {c x y : Operand} {v : Value} (hc : ev env c = some (.bool false) := by rfl) (hy : ev env y = some v := by rfl) :
  Quiet P R env H (.pick c x y) ty v := λ a w d pos af g ha _ _ => by
 simp [execOp, ha.eval hc, ha.eval hy, asBool]
theorem Quiet.nilCheck {x : Operand} {p : Value} {vs : List Value} (hx : ev env x = some p) [rc : RC R H p vs] : Quiet P R env H (.nilCheck x) ty p := λ a w d pos af g ha _ _ => by
 obtain ⟨b, off, c, E, fr, h1, _, _⟩ := rc.h.h
 subst h1
 simp [execOp, ha.eval hx]
theorem Quiet.fieldAddr {x : Operand} {s : TypeId} {f off : Nat} {p : Value} {vs : List Value} (hx : ev env x = some p) [fl : Fld P s f off] [rc : RC R H p vs] : Quiet P R env H (.fieldAddr s x f) ty (addP p off) := λ a w d pos af g ha _ _ => by
 obtain ⟨b, o, c, E, fr, h1, _, _⟩ := rc.h.h
 subst h1
 simp [execOp, ha.eval hx, fl.h, addP]
theorem Quiet.load1 {x : Operand} {t : TypeId} {p u : Value} {vs r : List Value} (hx : ev env x = some p) [ag : Agg P t false] [rc : RC R H p vs] (hu : vs = u :: r := by rfl) : Quiet P R env H (.load t x) ty u := λ a w d pos af g ha s ro => by
 obtain ⟨b, off, h1, h2⟩ := pc_cells (P := P) rc.h s ro
 subst h1; subst hu
 have := h2 0 (by simp)
 have h3 : w.cell? ⟨b, off, none⟩ = some u := by simpa using this
 simp [execOp, ha.eval hx, Instr.loadAt, Instr.sureAddr, loadVar, ag.h, h3]
theorem Quiet.loadA {x : Operand} {t : TypeId} {p : Value} {n : Nat} {vs : List Value} (hx : ev env x = some p) [ag : Agg P t true] [sz : Sz P t n] [rc : RC R H p vs] (hn : vs.length = n := by rfl) : Quiet P R env H (.load t x) ty (.agg vs.toArray) := λ a w d pos af g ha s ro => by
 obtain ⟨b, off, h1, h2⟩ := pc_cells (P := P) rc.h s ro
 subst h1; subst hn
 have := run_loadCellsFrom (P := P) (w := w) (b := b) (off := off) vs 0 #[] (by simpa using h2)
 simp [execOp, ha.eval hx, Instr.loadAt, Instr.sureAddr, loadVar, ag.h, sz.h, loadCells, this]
theorem Quiet.loadT {x : Operand} {t : TypeId} {p : Value} {n : Nat} {vs us : List Value} (hx : ev env x = some p) [ag : Agg P t true] [sz : Sz P t n] [rc : RC R H p vs] (hn : vs.take n = us := by rfl) (hl : us.length = n := by rfl) : Quiet P R env H (.load t x) ty (.agg us.toArray) := λ a w d pos af g ha s ro => by
 obtain ⟨b, off, h1, h2⟩ := pc_cells (P := P) rc.h s ro
 subst h1; subst hl
 have hle : us.length <= vs.length := by
  have := congrArg List.length hn; rw [List.length_take] at this; omega
 have := run_loadCellsFrom (P := P) (w := w) (b := b) (off := off) us 0 #[] (λ j hj => by
  have := h2 j (by omega)
  have e : us[j] = vs[j]'(by omega) := by rw [List.getElem_of_eq hn.symm hj, List.getElem_take]
  rw [e]; simpa using this)
 simp [execOp, ha.eval hx, Instr.loadAt, Instr.sureAddr, loadVar, ag.h, sz.h, loadCells, this]
theorem Quiet.makeFunc {fn : Fn} {xs ys : List Operand} {us vs : List Value} (hx : evs env xs = some us := by rfl) (hy : evs env ys = some vs := by rfl) : Quiet P R env H (.makeFunc fn xs.toArray ys.toArray) ty (.func fn us.toArray vs.toArray) := λ a w d pos af g ha _ _ => by
 have h1 := ha.evalsA hx
 have h2 := ha.evalsA hy
 simp only [execOp, h1, h2, Instr.makeFunc]
 rfl
theorem Quiet.extract {x : Operand} {i : Nat} {vs : List Value} {v : Value} (hx : ev env x = some (.tuple vs.toArray) := by rfl) (hv : vs[i]? = some v := by rfl) : Quiet P R env H (.extract x i) ty v := λ a w d pos af g ha _ _ => by
 simp [execOp, ha.eval hx, Instr.extract, hv]
theorem Quiet.not {x : Operand} {t : TypeId} {b : Bool} (hx : ev env x = some (.bool b) := by rfl) : Quiet P R env H (.unOp .not t x) ty (.bool (!b)) := λ a w d pos af g ha _ _ => by
 simp [execOp, ha.eval hx, Op.unary]
theorem eqGuard_other {op : BinOp} {t : TypeId} {x y : Operand} {u v : Value} {w : World} (h : (match u, v with | .nilIface, .nilIface => false | .agg _, .agg _ => false | _, _ => true) = true) : (eqGuard op t x y u v).run P w = .ok () w := by
 unfold eqGuard
 cases u <;> cases v <;> first | (cases h; done) | (cases op <;> rfl)
section ints
variable {x y : Operand} {t u : TypeId} {k : IntKind} {m n : Int}
theorem Quiet.add (hx : ev env x = some (.int k m) := by rfl) (hy : ev env y = some (.int k n) := by rfl) : Quiet P R env H (.binOp .add t x y u) ty (.int k (k.wrap (m + n))) := λ a w d pos af g ha _ _ => by
 simp [execOp, ha.eval hx, ha.eval hy, eqGuard, binOp, Op.intArith]
theorem Quiet.sub (hx : ev env x = some (.int k m) := by rfl) (hy : ev env y = some (.int k n) := by rfl) : Quiet P R env H (.binOp .sub t x y u) ty (.int k (k.wrap (m - n))) := λ a w d pos af g ha _ _ => by
 simp [execOp, ha.eval hx, ha.eval hy, eqGuard, binOp, Op.intArith]
theorem Quiet.mul (hx : ev env x = some (.int k m) := by rfl) (hy : ev env y = some (.int k n) := by rfl) : Quiet P R env H (.binOp .mul t x y u) ty (.int k (k.wrap (m * n))) := λ a w d pos af g ha _ _ => by
 simp [execOp, ha.eval hx, ha.eval hy, eqGuard, binOp, Op.intArith]
theorem Quiet.quo (hx : ev env x = some (.int k m) := by rfl) (hy : ev env y = some (.int k n) := by rfl) (hn : n ≠ 0 := by decide) : Quiet P R env H (.binOp .quo t x y u) ty (.int k (k.wrap (m.tdiv n))) := λ a w d pos af g ha _ _ => by
 simp [execOp, ha.eval hx, ha.eval hy, eqGuard, binOp, Op.intDiv, hn]
theorem Quiet.lss (hx : ev env x = some (.int k m) := by rfl) (hy : ev env y = some (.int k n) := by rfl) : Quiet P R env H (.binOp .lss t x y u) ty (.bool (m < n)) := λ a w d pos af g ha _ _ => by
 simp [execOp, ha.eval hx, ha.eval hy, eqGuard, binOp, Op.intCmp]
theorem Quiet.leq (hx : ev env x = some (.int k m) := by rfl) (hy : ev env y = some (.int k n) := by rfl) : Quiet P R env H (.binOp .leq t x y u) ty (.bool (m <= n)) := λ a w d pos af g ha _ _ => by
 simp [execOp, ha.eval hx, ha.eval hy, eqGuard, binOp, Op.intCmp]
theorem Quiet.gtr (hx : ev env x = some (.int k m) := by rfl) (hy : ev env y = some (.int k n) := by rfl) : Quiet P R env H (.binOp .gtr t x y u) ty (.bool (n < m)) := λ a w d pos af g ha _ _ => by
 simp [execOp, ha.eval hx, ha.eval hy, eqGuard, binOp, Op.intCmp]
theorem Quiet.geq (hx : ev env x = some (.int k m) := by rfl) (hy : ev env y = some (.int k n) := by rfl) : Quiet P R env H (.binOp .geq t x y u) ty (.bool (n <= m)) := λ a w d pos af g ha _ _ => by
 simp [execOp, ha.eval hx, ha.eval hy, eqGuard, binOp, Op.intCmp]
theorem Quiet.eqI (hx : ev env x = some (.int k m) := by rfl) (hy : ev env y = some (.int k n) := by rfl) : Quiet P R env H (.binOp .eql t x y u) ty (.bool (m == n)) := λ a w d pos af g ha _ _ => by
 simp [execOp, ha.eval hx, ha.eval hy, eqGuard, binOp, Op.intCmp]
theorem Quiet.neI (hx : ev env x = some (.int k m) := by rfl) (hy : ev env y = some (.int k n) := by rfl) : Quiet P R env H (.binOp .neq t x y u) ty (.bool (m != n)) := λ a w d pos af g ha _ _ => by
 simp [execOp, ha.eval hx, ha.eval hy, eqGuard, binOp, Op.intCmp]
theorem Quiet.convI {dst : TypeId} {k' : IntKind} (hx : ev env x = some (.int k n) := by rfl) {ds : TypeDesc} [us : Und P t ds] [ud : Und P dst (.int k')] : Quiet P R env H (.convert t dst x) ty (.int k' (k'.wrap n)) := λ a w d pos af g ha _ _ => by
 simp [execOp, ha.eval hx, convert, run_underlying us.h, run_underlying ud.h, Conv.intToInt]
end ints
theorem run_eqlOp {op : Op} {t : TypeId} {x y : Operand} {u v : Value} {ty u2 : TypeId} {a : Act} {w : World} {d : Option Tmp} {pos : String} {af : Array Edge} {g : Option (Nat × Bool)} {r : Bool} (hx : a.eval x = u) (hy : a.eval y = v)
  (hg : (eqGuard .eql t x y u v).run P w = .ok () w) (hb : binOp .eql t u v = do pure (.bool (<- Op.equal t u v))) (he : (Op.equalIn (9999 + 1) t u v).run P w = .ok r w) :
  (execOp a.eval ⟨d, .binOp .eql t x y u2, ty, pos, af, g⟩).run P w = .ok (.value (.bool r)) w := by
 have he' : (Op.equal t u v).run P w = .ok r w := he
 simp only [execOp, hx, hy, Sem.run_bind, hg, Result.andThen_ok, hb, he']
 rfl
theorem run_neqOp {op : Op} {t : TypeId} {x y : Operand} {u v : Value} {ty u2 : TypeId} {a : Act} {w : World} {d : Option Tmp} {pos : String} {af : Array Edge} {g : Option (Nat × Bool)} {r : Bool} (hx : a.eval x = u) (hy : a.eval y = v)
  (hg : (eqGuard .neq t x y u v).run P w = .ok () w) (hb : binOp .neq t u v = do pure (.bool (!(<- Op.equal t u v)))) (he : (Op.equalIn (9999 + 1) t u v).run P w = .ok r w) :
  (execOp a.eval ⟨d, .binOp .neq t x y u2, ty, pos, af, g⟩).run P w = .ok (.value (.bool (!r))) w := by
 have he' : (Op.equal t u v).run P w = .ok r w := he
 simp only [execOp, hx, hy, Sem.run_bind, hg, Result.andThen_ok, hb, he']
 rfl
section bools
variable {x y : Operand} {t u : TypeId} {b c : Bool}
theorem run_equalIn_bool (n : Nat) {w : World} (ut : P.underlying t = some .bool) : (Op.equalIn (n + 1) t (.bool b) (.bool c)).run P w = .ok (b == c) w := by
 simp [Op.equalIn, run_underlying ut]
theorem Quiet.neB (hx : ev env x = some (.bool b) := by rfl) (hy : ev env y = some (.bool c) := by rfl) [ut : Und P t .bool] : Quiet P R env H (.binOp .neq t x y u) ty (.bool !(b == c)) := λ a w d pos af g ha _ _ =>
 run_neqOp (op := .move x) (ha.eval hx) (ha.eval hy) (eqGuard_other rfl) rfl (run_equalIn_bool _ ut.h)
end bools
theorem toList_inj {a b : ByteArray} (h : a.toList = b.toList) : a = b := by
 rw [ByteArray.toList_eq, ByteArray.toList_eq] at h
 exact ByteArray.ext (Array.toList_inj.1 h)
theorem beq_str (a b : ByteArray) : (a.toList == b.toList) = decide (a = b) := by
 by_cases h : a = b
 ·subst h; simp
 ·simp only [h, decide_false, beq_eq_false_iff_ne, ne_eq]
  exact λ e => h (toList_inj e)
theorem beq_str' (a b : ByteArray) : (a == b) = decide (a = b) := by rw [beq_toListBytes, beq_str]
def sLt (a b : ByteArray) : Bool := Op.bytesLess a.toList b.toList
section strs
variable {x y : Operand} {t u : TypeId} {p q : ByteArray}
theorem Quiet.eqS (hx : ev env x = some (.string p) := by rfl) (hy : ev env y = some (.string q) := by rfl) : Quiet P R env H (.binOp .eql t x y u) ty (.bool (decide (p = q))) := λ a w d pos af g ha _ _ => by
 rw [<- beq_str]; simp [execOp, ha.eval hx, ha.eval hy, eqGuard, binOp, Op.stringOp]
theorem Quiet.neS (hx : ev env x = some (.string p) := by rfl) (hy : ev env y = some (.string q) := by rfl) : Quiet P R env H (.binOp .neq t x y u) ty (.bool !(decide (p = q))) := λ a w d pos af g ha _ _ => by
 rw [<- beq_str]; simp [execOp, ha.eval hx, ha.eval hy, eqGuard, binOp, Op.stringOp]
theorem Quiet.ltS (hx : ev env x = some (.string p) := by rfl) (hy : ev env y = some (.string q) := by rfl) : Quiet P R env H (.binOp .lss t x y u) ty (.bool (sLt p q)) := λ a w d pos af g ha _ _ => by
 simp [execOp, ha.eval hx, ha.eval hy, eqGuard, binOp, Op.stringOp, sLt]
theorem Quiet.lenS (hx : ev env x = some (.string p) := by rfl) [ut : Und P t .string] : Quiet P R env H (.call ⟨.builtin .len, #[x], #[t]⟩) ty (.int .i64 p.size) := λ a w d pos af g ha _ _ => by
 simp [execOp, resolve, ha.eval hx, invoke, builtin, Builtin.len_, run_underlying ut.h, goInt]
theorem Quiet.indexS {i : Operand} {k : IntKind} {j : Int} (n : Nat) (hn : n < p.size) (hx : ev env x = some (.string p) := by rfl) (hi : ev env i = some (.int k j) := by rfl) (hj : j = (n : Int) := by rfl) [ut : Und P t .string] :
  Quiet P R env H (.index t x i) ty (.int .u8 (p[n]).toNat) := λ a w d pos af g ha _ _ => by
 subst hj
 simp [execOp, ha.eval hx, ha.eval hi, Instr.index, asIntOf, run_underlying ut.h, hn]
end strs
section nils
variable {x y : Operand} {t u e : TypeId}
theorem run_equalIn_nil (n : Nat) {w : World} {p : Option Addr} (ut : P.underlying t = some (.pointer e)) : (Op.equalIn (n + 1) t (.pointer p) (.pointer none)).run P w = .ok p.isNone w := by
 cases p <;> simp [Op.equalIn, run_underlying ut]
theorem Quiet.eqNilA {p : Option Addr} (hx : ev env x = some (.pointer p)) (hy : ev env y = some (.pointer none)) [ut : Und P t (.pointer e)] : Quiet P R env H (.binOp .eql t x y u) ty (.bool p.isNone) := λ a w d pos af g ha _ _ =>
 run_eqlOp (op := .move x) (ha.eval hx) (ha.eval hy) (eqGuard_other rfl) rfl (run_equalIn_nil _ ut.h)
theorem Quiet.neNilA {p : Option Addr} (hx : ev env x = some (.pointer p)) (hy : ev env y = some (.pointer none)) [ut : Und P t (.pointer e)] : Quiet P R env H (.binOp .neq t x y u) ty (.bool !p.isNone) := λ a w d pos af g ha _ _ =>
 run_neqOp (op := .move x) (ha.eval hx) (ha.eval hy) (eqGuard_other rfl) rfl (run_equalIn_nil _ ut.h)
theorem Quiet.eqNilP {p : Value} {vs : List Value} (hx : ev env x = some p) (hy : ev env y = some (.pointer none)) [ut : Und P t (.pointer e)] [rc : RC R H p vs] : Quiet P R env H (.binOp .eql t x y u) ty (.bool false) := λ a w d pos af g ha _ _ => by
 obtain ⟨b, off, c, E, fr, h1, _, _⟩ := rc.h.h
 subst h1
 exact run_eqlOp (op := .move x) (ha.eval hx) (ha.eval hy) (eqGuard_other rfl) rfl (run_equalIn_nil _ ut.h)
theorem Quiet.neNilP {p : Value} {vs : List Value} (hx : ev env x = some p) (hy : ev env y = some (.pointer none)) [ut : Und P t (.pointer e)] [rc : RC R H p vs] : Quiet P R env H (.binOp .neq t x y u) ty (.bool true) := λ a w d pos af g ha _ _ => by
 obtain ⟨b, off, c, E, fr, h1, _, _⟩ := rc.h.h
 subst h1
 exact run_neqOp (op := .move x) (ha.eval hx) (ha.eval hy) (eqGuard_other rfl) rfl (run_equalIn_nil _ ut.h)
end nils
end
end
section
def oneCell : Value -> Bool
 | .agg _ | .tuple _ => false
 | _ => true
class One (v : Value) : Prop where h : oneCell v = true
instance One.bool {b : Bool} : One (.bool b) := ⟨rfl⟩
instance One.int {k : IntKind} {n : Int} : One (.int k n) := ⟨rfl⟩
instance One.string {s : ByteArray} : One (.string s) := ⟨rfl⟩
instance One.pointer {a : Option Addr} : One (.pointer a) := ⟨rfl⟩
instance One.slice {a : Option Addr} {m n : Nat} : One (.slice a m n) := ⟨rfl⟩
instance One.map {r : Option Nat} : One (.map r) := ⟨rfl⟩
instance One.func {f : Fn} {a b : Array Value} : One (.func f a b) := ⟨rfl⟩
instance One.nilFunc : One .nilFunc := ⟨rfl⟩
class Ones (vs : List Value) : Prop where h : ∀ v ∈ vs, oneCell v = true
instance Ones.nil : Ones [] := ⟨by simp⟩
instance Ones.cons {v : Value} {vs : List Value} [h1 : One v] [h2 : Ones vs] : Ones (v :: vs) := ⟨by simpa using ⟨h1.h, h2.h⟩⟩
theorem cells_one {v : Value} (h : oneCell v = true) : v.cells = #[v] := by cases v <;> simp_all [oneCell, Value.cells]
def setL : List Value -> Nat -> List Value -> List Value
 | [], _, cs => cs
 | v :: vs, k + 1, cs => v :: setL vs k cs
 | v :: vs, 0, [] => v :: vs
 | _ :: vs, 0, c :: cs => c :: setL vs 0 cs
theorem setL_eq : ∀ (vs : List Value) (off : Nat) (cs : List Value), setL vs off cs = vs.take off ++ cs ++ vs.drop (off + cs.length)
 | [], k, cs => by simp [setL]
 | v :: vs, k + 1, cs => by simp [setL, setL_eq vs k cs, Nat.add_right_comm]
 | v :: vs, 0, [] => by simp [setL]
 | v :: vs, 0, c :: cs => by simp [setL, setL_eq vs 0 cs]
instance Ones.setL {vs cs : List Value} {k : Nat} [h1 : Ones vs] [h2 : Ones cs] : Ones (Go.Proofs.YtenilfmlfldogaaGreat.setL vs k cs) := ⟨λ v hv => by
 simp only [setL_eq, List.mem_append] at hv
 rcases hv with (hv | hv) | hv
 ·exact h1.h v (List.mem_of_mem_take hv)
 ·exact h2.h v hv
 ·exact h1.h v (List.mem_of_mem_drop hv)⟩
instance Ones.take {vs : List Value} {k : Nat} [h1 : Ones vs] : Ones (vs.take k) := ⟨λ v hv => h1.h v (List.mem_of_mem_take hv)⟩
instance Ones.drop {vs : List Value} {k : Nat} [h1 : Ones vs] : Ones (vs.drop k) := ⟨λ v hv => h1.h v (List.mem_of_mem_drop hv)⟩
theorem setL_length {vs cs : List Value} {off : Nat} (h : off + cs.length <= vs.length) : (setL vs off cs).length = vs.length := by rw [setL_eq]; simp; omega
theorem setL_nil {vs : List Value} {off : Nat} : setL vs off [] = vs := by rw [setL_eq]; simp
theorem setL_cons {vs cs : List Value} {off : Nat} {c : Value} (h : off + cs.length < vs.length) : setL vs off (c :: cs) = setL (vs.set off c) (off + 1) cs := by
 apply List.ext_getElem?
 intro i
 simp only [setL_eq, List.getElem?_append, List.length_append, List.length_take, List.getElem?_take, List.getElem?_drop, List.getElem?_set, List.length_cons, List.length_set]
 have e : min off vs.length = off := by omega
 have e' : min (off + 1) vs.length = off + 1 := by omega
 simp only [e, e', List.getElem?_cons]
 by_cases h1 : i < off
 ·simp [h1, show i < off + (cs.length + 1) by omega, show i < off + 1 by omega, show i < off + 1 + cs.length by omega, show ¬ off = i by omega]
 ·by_cases h2 : i = off
  ·subst h2; simp [show i < i + (cs.length + 1) by omega, show i < i + 1 + cs.length by omega, show i < vs.length by omega]
  ·by_cases h3 : i < off + (cs.length + 1)
   ·simp [h1, h3, show ¬ i < off + 1 by omega, show i < off + 1 + cs.length by omega, show ¬ i - off = 0 by omega, show i - off - 1 = i - (off + 1) by omega]
   ·simp [h3, show ¬ i < off + 1 + cs.length by omega]
    rw [if_neg (by omega), show off + (cs.length + 1) + (i - (off + (cs.length + 1))) = off + 1 + cs.length + (i - (off + 1 + cs.length)) by omega]
theorem setO_setO (w : World) (b : Nat) (o o' : Obj) : setO (setO w b o) b o' = setO w b o' := by simp [setO]
theorem setCell_setO {w : World} {b off : Nat} {vs : List Value} {E : TypeId} {fr : Nat × Nat} (h : w.heap[b]? = some (.cells vs.toArray E fr)) (v : Value) : w.setCell ⟨b, off, none⟩ v = setO w b (.cells (vs.set off v).toArray E fr) := by
 have hb := lt_of_some h
 unfold World.setCell setO
 congr 1
 apply Array.ext_getElem?
 intro i
 simp only [Array.getElem?_modify, Array.getElem?_setIfInBounds, hb]
 by_cases hi : b = i
 ·subst hi; simp [h]
 ·simp [hi]
theorem run_storeCells {P : Program} {b off : Nat} {E : TypeId} : ∀ (cs : List Value) (i : Nat) (vs : List Value) (w : World), w.heap[b]? = some (.cells vs.toArray E (0, 0)) -> (∀ v ∈ cs, oneCell v = true) -> off + i + cs.length <= vs.length ->
  (storeCells ⟨b, off, none⟩ cs i).run P w = .ok () (setO w b (.cells (setL vs (off + i) cs).toArray E (0, 0)))
 | [], i, vs, w, hw, _, _ => by
  have : setO w b (.cells vs.toArray E (0, 0)) = w := by
   unfold setO
   have : w.heap.setIfInBounds b (.cells vs.toArray E (0, 0)) = w.heap := by
    apply Array.ext_getElem?
    intro i
    simp only [Array.getElem?_setIfInBounds]
    by_cases hi : b = i
    ·subst hi; rw [hw]; simp [lt_of_some hw]
    ·simp [hi]
   rw [this]
  rw [setL_nil, this]; rfl
 | v :: cs, i, vs, w, hw, ho, hl => by
  simp only [List.length_cons] at hl
  have hi : (⟨b, off, none⟩ : Addr).add i = ⟨b, off + i, none⟩ := by
   simp only [Addr.add]; split
   ·rename_i h0; subst h0; rfl
   ·rfl
  have hc : w.cell? ⟨b, off + i, none⟩ = some (vs[off + i]'(by omega)) := by simp [World.cell?, hw]
  have hf : w.frozen? ⟨b, off + i, none⟩ = false := by simp [World.frozen?, hw]
  have hv := ho v (by simp)
  have h1 : (store ⟨b, off + i, none⟩ v).run P w = .ok () (setO w b (.cells (vs.set (off + i) v).toArray E (0, 0))) := by
   rw [<- setCell_setO hw]
   cases v <;> simp_all [store, Sem.run, oneCell]
  have hw' : (setO w b (.cells (vs.set (off + i) v).toArray E (0, 0))).heap[b]? = some (.cells (vs.set (off + i) v).toArray E (0, 0)) := by
   simp [setO, lt_of_some hw]
  have h2 := run_storeCells (P := P) (b := b) (off := off) (E := E) cs (i + 1) (vs.set (off + i) v) _ hw' (λ u hu => ho u (by simp [hu])) (by simp; omega)
  simp only [storeCells, hi, Sem.run_bind, h1, Result.andThen_ok, h2, setO_setO]
  rw [setL_cons (by omega), Nat.add_assoc]
class Wr (H : Segs) (p : Value) (vs : outParam (List Value)) (off : outParam Nat) (upd : outParam (List Value -> Segs)) : Prop where
 h : ∃ b E H1 H2 T1 T2, p = .pointer (some ⟨b, off, none⟩) /\ H = H1 ++ (T1 ++ (b, .cells vs.toArray E (0, 0)) :: T2) :: H2 /\ ∀ vs', upd vs' = H1 ++ (T1 ++ (b, .cells vs'.toArray E (0, 0)) :: T2) :: H2
instance Wr.there {H : Segs} {T : Seg} {p : Value} {vs : List Value} {off : Nat} {upd : List Value -> Segs} [h : Wr H p vs off upd] : Wr (T :: H) p vs off (λ vs' => T :: upd vs') :=
 ⟨let ⟨b, E, H1, H2, T1, T2, h1, h2, h3⟩ := h.h; ⟨b, E, T :: H1, H2, T1, T2, h1, by rw [h2]; rfl, λ vs' => by rw [h3]; rfl⟩⟩
instance Wr.here {H : Segs} {b : Nat} {vs : List Value} {E : TypeId} : Wr ([(b, .cells vs.toArray E (0, 0))] :: H) (.pointer (some ⟨b, 0, none⟩)) vs 0 (λ vs' => [(b, .cells vs'.toArray E (0, 0))] :: H) :=
 ⟨⟨b, E, [], H, [], [], rfl, rfl, λ _ => rfl⟩⟩
instance Wr.add {H : Segs} {p : Value} {k : Nat} {vs : List Value} {off : Nat} {upd : List Value -> Segs} [h : Wr H p vs off upd] : Wr H (addP p k) vs (off + k) upd :=
 ⟨by
  obtain ⟨b, E, H1, H2, T1, T2, h1, h2, h3⟩ := h.h
  refine ⟨b, E, H1, H2, T1, T2, ?_, h2, h3⟩
  subst h1
  simp only [addP, Addr.add]; split
  ·rename_i h0; subst h0; rfl
  ·rfl⟩
section
variable {P : Program} {N : Nat} {R : Rds} {ops : Array Oper} {l : List Oper} {env : Env} {H : Segs} {K : Env -> Segs -> Prop} {ty : TypeId} {pos : String} {af : Array Edge}
theorem run_storeAt {t : TypeId} {n : Nat} [sz : Sz P t n] {b off : Nat} {E : TypeId} {v : Value} {cs vs : List Value} {w : World} (hc : v.cells = cs.toArray) (hn : cs.length = n) (hw : w.heap[b]? = some (.cells vs.toArray E (0, 0))) (ho : ∀ u ∈ cs, oneCell u = true) (hl : off + cs.length <= vs.length) :
  (Instr.storeAt t (.pointer (some ⟨b, off, none⟩)) v).run P w = .ok () (setO w b (.cells (setL vs off cs).toArray E (0, 0))) := by
 have h := run_storeCells (P := P) (b := b) (off := off) (E := E) cs 0 vs w hw ho (by omega)
 subst hn
 have hz : v.cells.size = cs.length := by rw [hc]; simp
 simp only [Instr.storeAt, Instr.sureAddr, Sem.run_bind, Sem.run_pure, Result.andThen_ok, storeVar, sz.h, hz, ne_eq, not_true, if_false]
 rw [hc]
 exact h
theorem TriOps.store_gen {t : TypeId} {x y : Operand} {n : Nat} {p v : Value} {vs cs : List Value} {off : Nat} {upd : List Value -> Segs} (hx : ev env x = some p) (hy : ev env y = some v) (hc : v.cells = cs.toArray) (hn : cs.length = n) [sz : Sz P t n] [wr : Wr H p vs off upd] (ho : ∀ u ∈ cs, oneCell u = true)
  (hl : off + cs.length <= vs.length) (hn' : TriOps false P N R ops l env (upd (setL vs off cs)) K) : TriOps false P N R ops (⟨none, .store t x y, ty, pos, af, none⟩ :: l) env H K :=
 TriOps.eff0 λ a w ha s ro => by
  obtain ⟨b, E, H1, H2, T1, T2, h1, h2, h3⟩ := wr.h
  subst h1; subst h2
  have hw : w.heap[b]? = some (.cells vs.toArray E (0, 0)) := s.2 (b, _) (by simp)
  refine ⟨setO w b (.cells (setL vs off cs).toArray E (0, 0)), upd (setL vs off cs), .inl ?_, ?_, ?_, hn'⟩
  ·simp [execOp, ha.eval hx, ha.eval hy, run_storeAt hc hn hw ho hl]
  ·rw [h3]; exact Frame.set
  ·rw [h3]; exact Sat.set s
theorem TriOps.store1 {t : TypeId} {x y : Operand} {p v : Value} {vs : List Value} {off : Nat} {upd : List Value -> Segs} (hx : ev env x = some p) (hy : ev env y = some v) [sz : Sz P t 1] [wr : Wr H p vs off upd] [o : One v] (hn' : TriOps false P N R ops l env (upd (setL vs off [v])) K)
  (hl : off + 1 <= vs.length := by first | decide | exact Nat.le_of_ble_eq_true rfl) : TriOps false P N R ops (⟨none, .store t x y, ty, pos, af, none⟩ :: l) env H K :=
 TriOps.store_gen (cs := [v]) hx hy (cells_one o.h) rfl (by simpa using o.h) (by simpa using hl) hn'
theorem TriOps.storeA {t : TypeId} {x y : Operand} {n : Nat} {p : Value} {vs cs : List Value} {off : Nat} {upd : List Value -> Segs} (hx : ev env x = some p) (hy : ev env y = some (.agg cs.toArray)) [sz : Sz P t n] [wr : Wr H p vs off upd] [o : Ones cs] (hn' : TriOps false P N R ops l env (upd (setL vs off cs)) K)
  (hn : cs.length = n := by rfl) (hl : off + cs.length <= vs.length := by first | decide | exact Nat.le_of_ble_eq_true rfl) : TriOps false P N R ops (⟨none, .store t x y, ty, pos, af, none⟩ :: l) env H K :=
 TriOps.store_gen (cs := cs) hx hy rfl hn o.h hl hn'
theorem TriOps.fresh {op : Op} {d : Nat} {o : Obj} {v : Nat -> Value} (hd : Nat.blt d N = true) (h : ∀ a w, EnvOK a env -> Sat w H -> RO w R H -> ∃ n, (execOp a.eval ⟨some d, op, ty, pos, af, none⟩).run P w = .ok (.value (v w.heap.size)) (({ w with drawn := n } : World).alloc o))
  (hn : ∀ b, TriOps false P N R ops l ((d, v b) :: env) ([(b, o)] :: H) K) : TriOps false P N R ops (⟨some d, op, ty, pos, af, none⟩ :: l) env H K :=
 TriOps.eff hd λ a w ha s ro => by
  obtain ⟨n, hr⟩ := h a w ha s ro
  refine ⟨_, _, _, hr, ?_, ?_, hn w.heap.size⟩
  ·exact (Frame.drew w H n).trans (Frame.alloc { w with drawn := n } H o)
  ·exact Sat.alloc (w := { w with drawn := n }) (s.drew n) o
theorem newRow_run {t : TypeId} {c : Array Value} {w : World} : (newRow t c).run P w = .ok ⟨w.heap.size, 0, none⟩ (w.alloc (.cells c t)) := by
 simp [newRow]
theorem TriOps.box1 {d : Nat} {E : TypeId} {x : Operand} {v : Value} (hx : ev env x = some v) [o : One v] (hn : ∀ b, TriOps false P N R ops l ((d, .pointer (some ⟨b, 0, none⟩)) :: env) ([(b, .cells [v].toArray E (0, 0))] :: H) K) (hd : Nat.blt d N = true := by rfl) :
  TriOps false P N R ops (⟨some d, .box E x, ty, pos, af, none⟩ :: l) env H K :=
 TriOps.fresh (v := λ b => .pointer (some ⟨b, 0, none⟩)) hd (λ a w ha s ro => ⟨w.drawn, by
  have := cells_one o.h
  simp [execOp, ha.eval hx, Instr.box, newVar, this, newRow_run]⟩) hn
theorem TriOps.boxA {d : Nat} {E : TypeId} {x : Operand} {cs : List Value} (hx : ev env x = some (.agg cs.toArray)) (hn : ∀ b, TriOps false P N R ops l ((d, .pointer (some ⟨b, 0, none⟩)) :: env) ([(b, .cells cs.toArray E (0, 0))] :: H) K) (hd : Nat.blt d N = true := by rfl) :
  TriOps false P N R ops (⟨some d, .box E x, ty, pos, af, none⟩ :: l) env H K :=
 TriOps.fresh (v := λ b => .pointer (some ⟨b, 0, none⟩)) hd (λ a w ha s ro => ⟨w.drawn, by
  simp [execOp, ha.eval hx, Instr.box, newVar, newRow_run, Value.cells]⟩) hn
theorem TriOps.alloc1 {d : Nat} {E : TypeId} {z : Value} [zr : Zr P E z] [o : One z] (hn : ∀ b, TriOps false P N R ops l ((d, .pointer (some ⟨b, 0, none⟩)) :: env) ([(b, .cells [z].toArray E (0, 0))] :: H) K) (hd : Nat.blt d N = true := by rfl) :
  TriOps false P N R ops (⟨some d, .alloc E, ty, pos, af, none⟩ :: l) env H K :=
 TriOps.fresh (v := λ b => .pointer (some ⟨b, 0, none⟩)) hd (λ a w ha s ro => ⟨w.drawn, by
  have := cells_one o.h
  simp [execOp, Instr.alloc, zr.h, newVar, this, newRow_run]⟩) hn
theorem TriOps.allocA {d : Nat} {E : TypeId} {cs : List Value} [zr : Zr P E (.agg cs.toArray)] (hn : ∀ b, TriOps false P N R ops l ((d, .pointer (some ⟨b, 0, none⟩)) :: env) ([(b, .cells cs.toArray E (0, 0))] :: H) K) (hd : Nat.blt d N = true := by rfl) :
  TriOps false P N R ops (⟨some d, .alloc E, ty, pos, af, none⟩ :: l) env H K :=
 TriOps.fresh (v := λ b => .pointer (some ⟨b, 0, none⟩)) hd (λ a w ha s ro => ⟨w.drawn, by
  simp [execOp, Instr.alloc, zr.h, newVar, newRow_run, Value.cells]⟩) hn
theorem TriOps.makeMap {d : Nat} {T : TypeId} (hn : ∀ b, TriOps false P N R ops l ((d, .map (some b)) :: env) ([(b, .map #[] 0)] :: H) K) (hd : Nat.blt d N = true := by rfl) :
  TriOps false P N R ops (⟨some d, .makeMap T none, ty, pos, af, none⟩ :: l) env H K :=
 TriOps.fresh (v := λ b => .map (some b)) hd (λ a w ha s ro => ⟨w.drawn, by
  simp [execOp, Instr.makeMap, newObj, Sem.run]⟩) hn
class Bld (P : Program) (t : TypeId) (places : outParam (List (Nat × Nat))) (zero : outParam (List Value)) : Prop where
 h : ∃ fs : Array Field, P.underlying t = some (.struct fs) /\ (∀ w, (zeroValue t).run P w = .ok (.agg zero.toArray) w) /\ ∀ w, (fs.mapM λ f => do pure (f.offset, <- sizeOf f.type) : Sem _).run P w = .ok places.toArray w
def fillL (places : List (Nat × Nat)) (cells : List Value) : List (Nat × Value) -> Option (List Value)
 | [] => some cells
 | (i, v) :: r => match places[i]? with
  | none => none
  | some (off, size) => match v with
   | .agg cs => match Nat.beq cs.toList.length size && Nat.ble (off + cs.toList.length) cells.length with
    | true => fillL places (setL cells off cs.toList) r
    | false => none
   | v => match Nat.beq 1 size && Nat.ble (off + 1) cells.length with
    | true => fillL places (setL cells off [v]) r
    | false => none
theorem foldl_set (cs : List Value) : ∀ (off : Nat) (vs : List Value) (k : Nat), off + k + cs.length <= vs.length -> (cs.zipIdx k).foldl (λ (c : Array Value) x => c.setIfInBounds (off + x.2) x.1) vs.toArray = (setL vs (off + k) cs).toArray := by
 induction cs with
 | nil => intro off vs k _; simp [setL_nil]
 | cons c cs ih =>
  intro off vs k h
  simp only [List.length_cons] at h
  rw [List.zipIdx_cons, List.foldl_cons, setL_cons (by omega)]
  simp only [List.setIfInBounds_toArray]
  rw [ih off _ (k + 1) (by simp; omega), Nat.add_assoc]
theorem fill_of_fillL {places : List (Nat × Nat)} : ∀ (parts : List (Nat × Value)) (cells : List Value) {out : List Value}, fillL places cells parts = some out -> Instr.fill (places[·]?) cells.toArray parts = some out.toArray
 | [], cells, out, h => by simp [fillL] at h; simp [Instr.fill, h]
 | (i, v) :: r, cells, out, h => by
  simp only [fillL] at h
  cases hp : places[i]? with
  | none => simp [hp] at h
  | some os =>
   obtain ⟨off, size⟩ := os
   simp only [hp] at h
   have key : ∀ cs : List Value, v.cells = cs.toArray -> (Nat.beq cs.length size && Nat.ble (off + cs.length) cells.length) = true -> fillL places (setL cells off cs) r = some out -> Instr.fill (places[·]?) cells.toArray ((i, v) :: r) = some out.toArray := by
    intro cs hcs hb hr
    simp only [Bool.and_eq_true] at hb
    have h1 := Nat.eq_of_beq_eq_true hb.1
    have h2 := Nat.le_of_ble_eq_true hb.2
    subst h1
    have hz : v.cells.size = cs.length := by rw [hcs]; simp
    have hf := foldl_set cs off cells 0 (by omega)
    have e : v.cells.zipIdx.foldl (λ cs x => cs.setIfInBounds (off + x.2) x.1) cells.toArray = (setL cells off cs).toArray := by
     rw [hcs, <- Array.foldl_toList, Array.toList_zipIdx]; exact hf
    simp only [Instr.fill, hp, hz, ne_eq, not_true]
    rw [if_neg (by simp; omega)]
    refine Eq.trans ?_ (fill_of_fillL r _ hr)
    exact congrArg (λ c => Instr.fill (places[·]?) c r) e
   cases v with
   | agg cs =>
    simp only at h
    split at h
    ·rename_i hb; exact key cs.toList (by simp [Value.cells]) hb h
    ·cases h
   | _ =>
    simp only at h
    split at h
    ·rename_i hb; exact key [_] rfl hb h
    ·cases h
theorem fill_congr {p q : Nat -> Option (Nat × Nat)} : ∀ (parts : List (Nat × Value)), (∀ x ∈ parts, p x.1 = q x.1) -> ∀ cells, Instr.fill p cells parts = Instr.fill q cells parts
 | [], _, cells => rfl
 | (i, v) :: r, h, cells => by
  have h1 := h (i, v) (by simp)
  simp only at h1
  simp only [Instr.fill, h1]
  split
  ·rfl
  ·split
   ·rfl
   ·exact fill_congr r (λ x hx => h x (by simp [hx])) _
theorem Quiet.build {H : Segs} {t : TypeId} {places : List (Nat × Nat)} {zero out : List Value} {xs : List (Nat × Operand)} {parts : List (Nat × Value)} [bl : Bld P t places zero]
  (hx : ∀ a, EnvOK a env -> xs.map (λ p => (p.1, a.eval p.2)) = parts) (hf : fillL places zero parts = some out) : Quiet P R env H (.build t xs.toArray) ty (.agg out.toArray) := λ a w d pos af g ha s ro => by
 obtain ⟨fs, h1, h2, h3⟩ := bl.h
 have h4 := fill_of_fillL parts zero hf
 have h5 : xs.toArray.map (λ x => (x.1, a.eval x.2)) = parts.toArray := by rw [List.map_toArray, hx a ha]
 have h6 : (execOp a.eval ⟨d, .build t xs.toArray, ty, pos, af, g⟩) = (do pure (.value (<- Instr.build t parts.toArray))) := by
  show (do pure (Next.value (<- Instr.build t (xs.toArray.map λ x : Nat × Operand => (x.1, a.eval x.2))))) = _
  rw [h5]
 have h7 : (λ i : Nat => places.toArray[i]?) = (λ i : Nat => places[i]?) := by funext i; simp
 rw [h6]
 simp only [Instr.build, Sem.run_bind, h2, Result.andThen_ok, run_underlying h1, h3, Value.cells, h7, h4]
 rfl
def evp (env : Env) : List (Nat × Operand) -> Option (List (Nat × Value))
 | [] => some []
 | (i, x) :: r => match ev env x, evp env r with
  | some v, some vs => some ((i, v) :: vs)
  | _, _ => none
theorem EnvOK.evalp {a : Act} {env : Env} (h : EnvOK a env) : ∀ {xs : List (Nat × Operand)} {vs : List (Nat × Value)}, evp env xs = some vs -> xs.map (λ p => (p.1, a.eval p.2)) = vs
 | [], vs, hx => by simp [evp] at hx; simp [hx]
 | (i, x) :: r, vs, hx => by
  simp only [evp] at hx
  split at hx
  ·rename_i v vs' h1 h2
   simp only [Option.some.injEq] at hx
   subst hx
   simp [h.eval h1, h.evalp h2]
  ·cases hx
theorem Quiet.bld {H : Segs} {t : TypeId} {places : List (Nat × Nat)} {zero out : List Value} {xs : List (Nat × Operand)} {parts : List (Nat × Value)} [bl : Bld P t places zero]
  (hx : evp env xs = some parts := by rfl) (hf : fillL places zero parts = some out := by rfl) : Quiet P R env H (.build t xs.toArray) ty (.agg out.toArray) :=
 Quiet.build (λ a ha => ha.evalp hx) hf
theorem TriOps.buildSlice {d : Nat} {T E : TypeId} {n k : Nat} {z : Value} {zs out : List Value} {xs : List (Nat × Operand)} {parts : List (Nat × Value)} [ut : Und P T (.slice E)] [sz : Sz P E k] [zr : Zr P E z]
  (hsmall : Nat.ble (n * k) (2 ^ 24) = true) (hk : Nat.beq (n * k) 0 = false) (hzs : ((Array.range (n * k)).map (z.cells[· % z.cells.size]!)) = zs.toArray) (hx : evp env xs = some parts)
  (hf : fillL ((List.range n).map λ i => (i * k, k)) zs parts = some out)
  (hn : ∀ b, TriOps false P N R ops l ((d, .slice (some ⟨b, 0, none⟩) n n) :: env) ([(b, .cells out.toArray E (0, 0))] :: H) K) (hd : Nat.blt d N = true := by rfl) (hp : parts.all (λ p => Nat.blt p.1 n) = true := by rfl) :
  TriOps false P N R ops (⟨some d, .buildSlice T n xs.toArray, ty, pos, af, none⟩ :: l) env H K :=
 TriOps.fresh (v := λ b => .slice (some ⟨b, 0, none⟩) n n) hd (λ a w ha s ro => ⟨w.drawn, by
  have h5 : xs.toArray.map (λ x => (x.1, a.eval x.2)) = parts.toArray := by rw [List.map_toArray, ha.evalp hx]
  have h6 : (execOp a.eval ⟨some d, .buildSlice T n xs.toArray, ty, pos, af, none⟩) = (do pure (.value (<- Instr.buildSlice T n parts.toArray))) := by
   show (do pure (Next.value (<- Instr.buildSlice T n (xs.toArray.map λ x : Nat × Operand => (x.1, a.eval x.2))))) = _
   rw [h5]
  have h7 : Instr.fill (λ i => some (i * k, k)) zs.toArray parts = some out.toArray := by
   rw [<- fill_of_fillL parts zs hf]
   refine fill_congr parts (λ p hp' => ?_) zs.toArray
   have : p.1 < n := Nat.le_of_ble_eq_true (List.all_eq_true.1 hp p hp')
   simp [this]
  have h8 : ¬ n * k > 2 ^ 24 := Nat.not_lt.2 (Nat.le_of_ble_eq_true hsmall)
  have h9 : ¬ n * k = 0 := λ e => by rw [e] at hk; cases hk
  rw [h6]
  simp only [Instr.buildSlice, Sem.run_bind, run_underlying ut.h, Result.andThen_ok, sz.h, if_neg h8, if_neg h9, Sem.run_pure, zr.h, hzs, h7, newRow_run]⟩) hn
end
end
section
def envFrom : Nat -> List Value -> Env
 | _, [] => []
 | i, v :: vs => (i, v) :: envFrom (i + 1) vs
theorem envFrom_get {vs : List Value} : ∀ (i t : Nat) (v : Value), (envFrom i vs).get? t = some v -> i <= t /\ vs[t - i]? = some v := by
 induction vs with
 | nil => intro i t v h; cases h
 | cons u vs ih =>
  intro i t v h
  simp only [envFrom, Env.get?] at h
  split at h
  ·rename_i hb
   have := Nat.eq_of_beq_eq_true hb
   subst this
   simp only [Option.some.injEq] at h
   simp [h]
  ·have := ih (i + 1) t v h
   have ht : t - i = (t - (i + 1)) + 1 := by omega
   exact ⟨by omega, by rw [ht]; simpa using this.2⟩
def rvSem (tmps : Array Value) (rv : ResultVar) : Sem Value := match rv with
 | .tmp t => pure (tmps.getD t undef)
 | .cell x t => do loadVar t (<- asAddr (tmps.getD x undef))
theorem results_rv (fn : Func) (tmps : Array Value) : results fn tmps = (do let vs <- fn.results.mapM (rvSem tmps); pure (if h : vs.size = 1 then vs[0] else .tuple vs)) := rfl
class RV (R : Rds) (H : Segs) (env : Env) (P : Program) (rv : ResultVar) (v : outParam Value) : Prop where
 h : ∀ (a : Act) (w : World), EnvOK a env -> Sat w H -> RO w R H -> (rvSem a.tmps rv).run P w = .ok v w
section
variable {P : Program} {N : Nat} {R : Rds} {env : Env} {H : Segs} {Q : Exit -> Env -> Segs -> Prop}
theorem RV.tmp {t : Nat} {v : Value} (h : Env.get? env t = some v) : RV R H env P (.tmp t) v := ⟨λ a w ha s ro => by
 have := ha t v h
 simp [rvSem, this]⟩
theorem RV.cellA {x : Nat} {t : TypeId} {p : Value} {n : Nat} {vs : List Value} (hx : Env.get? env x = some p) [ag : Agg P t true] [sz : Sz P t n] [rc : RC R H p vs] (hn : vs.length = n) : RV R H env P (.cell x t) (.agg vs.toArray) := ⟨λ a w ha s ro => by
 obtain ⟨b, off, h1, h2⟩ := pc_cells (P := P) rc.h s ro
 subst h1; subst hn
 have := run_loadCellsFrom (P := P) (w := w) (b := b) (off := off) vs 0 #[] (by simpa using h2)
 have h4 := ha x _ hx
 simp [rvSem, h4, asAddr, loadVar, ag.h, sz.h, loadCells, this]⟩
def Res (P : Program) (R : Rds) (rs : List ResultVar) (env : Env) (H : Segs) (v : Value) : Prop :=
 ∀ (a : Act) (w : World) (fn : Func), fn.results = rs.toArray -> EnvOK a env -> Sat w H -> RO w R H -> (results fn a.tmps).run P w = .ok v w
theorem Res.none : Res P R [] env H (.tuple #[]) := λ a w fn hf ha s ro => by simp [results, hf]
theorem Res.one {r : ResultVar} {v : Value} (h : RV R H env P r v) : Res P R [r] env H v := λ a w fn hf ha s ro => by
 have := h.h a w ha s ro
 rw [results_rv, hf]
 simp [this]
theorem Res.two {r1 r2 : ResultVar} {v1 v2 : Value} (h1 : RV R H env P r1 v1) (h2 : RV R H env P r2 v2) : Res P R [r1, r2] env H (.tuple #[v1, v2]) := λ a w fn hf ha s ro => by
 have e1 := h1.h a w ha s ro
 have e2 := h2.h a w ha s ro
 rw [results_rv, hf]
 simp [e1, e2]
def retQ (P : Program) (R : Rds) (rs : List ResultVar) (Post : Value -> Segs -> Prop) : Exit -> Env -> Segs -> Prop
 | .normal, env, H => ∃ v H', Res P R rs env H v /\ HLe H H' /\ Post v H'
 | .ret, env, H => ∃ v H', Res P R rs env H v /\ HLe H H' /\ Post v H'
 | _, _, _ => False
theorem Spec.body {f : FuncId} {fn : Func} {c : Code} {args : List Value} {rs : List ResultVar} {Post : Value -> Segs -> Prop} (hf : P.funcs[f]? = some fn) (hb : fn.body = some c) (hr : fn.results = rs.toArray) (hn : fn.ntmps = N) (ha : Nat.ble args.length N = true)
  (h : Tri P N R c (envFrom 0 args) H (retQ P R rs Post)) : Spec P f args R H Post := λ w s ro => by
 refine calls_of_wp hf hb ?_
 have hle : args.length <= N := Nat.le_of_ble_eq_true ha
 have h0 : St N R { tmps := args.toArray ++ Array.replicate (fn.ntmps - args.toArray.size) undef, defers := [] } w (envFrom 0 args) H w H := by
  refine ⟨rfl, by simp [hn]; omega, λ t v hv => ?_, s, ro, Frame.refl w H⟩
  have := (envFrom_get 0 t v hv).2
  simp only [Nat.sub_zero] at this
  have hlt : t < args.length := by
   rcases Nat.lt_or_ge t args.length with h | h
   ·exact h
   ·rw [List.getElem?_eq_none h] at this; cases this
  rw [Array.getElem?_append_left (by simpa using hlt)]
  simpa using this
 refine h _ w H (λ e env' H' a' w' hq s' => ?_) _ w h0
 cases e with
 | normal => obtain ⟨v, H2, hv, hl, hp⟩ := hq; exact ⟨s'.defers, v, hv a' w' fn hr s'.env s'.sat s'.ro, v, H2, rfl, hp, hl.sat s'.sat, s'.fr.trans (hl.frame w')⟩
 | ret => obtain ⟨v, H2, hv, hl, hp⟩ := hq; exact ⟨s'.defers, v, hv a' w' fn hr s'.env s'.sat s'.ro, v, H2, rfl, hp, hl.sat s'.sat, s'.fr.trans (hl.frame w')⟩
 | exit id => exact hq.elim
 | goto l => exact hq.elim
 | panic ch => exact hq.elim
 | outgrown => exact hq.elim
theorem seqQ_n {y : Code} (h : Tri P N R y env H Q) : seqQ P N R y Q .normal env H := h
theorem seqQ_r {y : Code} (h : Q .ret env H) : seqQ P N R y Q .ret env H := h
theorem seqQ_x {y : Code} {id : Nat} (h : Q (.exit id) env H) : seqQ P N R y Q (.exit id) env H := h
theorem blkQ_n {id : Nat} (h : Q .normal env H) : blkQ id Q .normal env H := h
theorem blkQ_r {id : Nat} (h : Q .ret env H) : blkQ id Q .ret env H := h
theorem blkQ_x {id : Nat} (h : Q .normal env H) : blkQ id Q (.exit id) env H := by simp only [blkQ, if_true]; exact h
theorem blkQ_y {id id' : Nat} (h : Q (.exit id') env H) (hne : Nat.beq id' id = false := by rfl) : blkQ id Q (.exit id') env H := by
 have : ¬ id' = id := λ e => by subst e; rw [Nat.beq_refl] at hne; cases hne
 simp only [blkQ, if_neg this]; exact h
theorem loopQ_r {I : Env -> Segs -> Prop} (h : Q .ret env H) : loopQ I Q .ret env H := h
theorem loopQ_x {I : Env -> Segs -> Prop} {id : Nat} (h : Q (.exit id) env H) : loopQ I Q (.exit id) env H := h
theorem retQ_r {rs : List ResultVar} {Post : Value -> Segs -> Prop} {H' : Segs} (v : Value) (h : Res P R rs env H v) (hl : HLe H H') (hp : Post v H') : retQ P R rs Post .ret env H := ⟨v, H', h, hl, hp⟩
theorem retQ_n {rs : List ResultVar} {Post : Value -> Segs -> Prop} {H' : Segs} (v : Value) (h : Res P R rs env H v) (hl : HLe H H') (hp : Post v H') : retQ P R rs Post .normal env H := ⟨v, H', h, hl, hp⟩
theorem HLe.none (H : Segs) : HLe H [] := HLe.pick [] H
theorem HLe.one (is : List Nat) (H : Segs) : HLe H [(take is H).flatten] := ⟨(rest is H).flatten, by simpa using take_perm is H⟩
theorem Spec.segs {f : FuncId} {args : List Value} {H' : Segs} {Post : Value -> Segs -> Prop} (h : H.flatten = H'.flatten) (s : Spec P f args R H' Post) : Spec P f args R H Post := λ w hs hr => by
 have h1 : Sat w H' := hs.perm (by rw [h])
 have h2 : RO w R H' := λ b o hb => ⟨(hr b o hb).1, by rw [<- h]; exact (hr b o hb).2⟩
 refine (s w h1 h2).mono λ e w' ⟨v, H2, he, hp, hs', hf⟩ => ⟨v, H2, he, hp, hs', hf.le, λ b hb hn => hf.keep b hb (by rw [<- h]; exact hn), λ p hp => by rw [h]; exact hf.dom p hp, hf.os, hf.output, hf.tape⟩
end
end
section
variable {α β : Type}
def Row (c : Array Value) (off : Nat) (cs : List Value) : Prop := ∀ k, k < cs.length -> c[off + k]? = cs[k]?
theorem flatMap_length {enc : α -> List Value} {sz : Nat} : ∀ {xs : List α}, (∀ x ∈ xs, (enc x).length = sz) -> (xs.flatMap enc).length = xs.length * sz
 | [], _ => by simp
 | x :: xs, h => by
  rw [List.flatMap_cons, List.length_append, flatMap_length (λ y hy => h y (by simp [hy])), h x (by simp), List.length_cons]
  rw [Nat.succ_mul]; omega
theorem flatMap_get {enc : α -> List Value} {sz : Nat} : ∀ {xs : List α} {i : Nat} {x : α}, (∀ x ∈ xs, (enc x).length = sz) -> xs[i]? = some x -> ∀ j, j < sz -> (xs.flatMap enc)[i * sz + j]? = (enc x)[j]?
 | [], i, x, _, h, j, _ => by simp at h
 | y :: xs, 0, x, hl, h, j, hj => by
  simp only [List.getElem?_cons_zero, Option.some.injEq] at h
  subst h
  rw [List.flatMap_cons, List.getElem?_append_left (by rw [hl y (by simp)]; omega)]
  simp
 | y :: xs, i + 1, x, hl, h, j, hj => by
  simp only [List.getElem?_cons_succ] at h
  have h0 := hl y (by simp)
  rw [List.flatMap_cons, List.getElem?_append_right (by rw [h0, Nat.succ_mul]; omega), h0, show (i + 1) * sz + j - sz = i * sz + j by rw [Nat.succ_mul]; omega]
  exact flatMap_get (λ z hz => hl z (by simp [hz])) h j hj
theorem flatMap_set {enc : α -> List Value} {sz : Nat} : ∀ {xs : List α} {i : Nat} {x x' : α} {k : Nat} {cs : List Value}, (∀ x ∈ xs, (enc x).length = sz) -> xs[i]? = some x -> (enc x').length = sz -> enc x' = setL (enc x) k cs -> k + cs.length <= sz ->
  (xs.set i x').flatMap enc = setL (xs.flatMap enc) (i * sz + k) cs
 | [], i, x, x', k, cs, _, h, _, _, _ => by simp at h
 | y :: xs, 0, x, x', k, cs, hl, h, hx', he, hk => by
  simp only [List.getElem?_cons_zero, Option.some.injEq] at h
  subst h
  have h0 := hl y (by simp)
  simp only [List.set_cons_zero, List.flatMap_cons, he, setL_eq, Nat.zero_mul, Nat.zero_add]
  rw [List.take_append_of_le_length (by omega), List.drop_append_of_le_length (by omega)]
  simp
 | y :: xs, i + 1, x, x', k, cs, hl, h, hx', he, hk => by
  simp only [List.getElem?_cons_succ] at h
  have h0 := hl y (by simp)
  have ih := flatMap_set (λ z hz => hl z (by simp [hz])) h hx' he hk
  simp only [List.set_cons_succ, List.flatMap_cons, ih, setL_eq]
  rw [List.take_append, List.drop_append, h0, List.take_of_length_le (l := enc y) (by rw [h0, Nat.succ_mul]; omega), List.drop_eq_nil_of_le (show (enc y).length <= _ by rw [h0, Nat.succ_mul]; omega)]
  rw [show (i + 1) * sz + k - sz = i * sz + k by rw [Nat.succ_mul]; omega, show (i + 1) * sz + k + cs.length - sz = i * sz + k + cs.length by rw [Nat.succ_mul]; omega]
  simp
structure RS (R : Rds) (sz : Nat) (enc : α -> List Value) (v : Value) (xs : List α) : Prop where
 len : ∀ x ∈ xs, (enc x).length = sz
 one : ∀ x ∈ xs, ∀ u ∈ enc x, oneCell u = true
 h : ∃ p cap, v = .slice p xs.length cap /\ xs.length <= cap /\ cap <= maxLen /\ (xs = [] \/ ∃ b off c E fr, p = some ⟨b, off, none⟩ /\ R b (.cells c E fr) /\ Row c off (xs.flatMap enc))
structure OS (E : TypeId) (sz : Nat) (enc : α -> List Value) (v : Value) (xs : List α) (T : Seg) : Prop where
 len : ∀ x ∈ xs, (enc x).length = sz
 one : ∀ x ∈ xs, ∀ u ∈ enc x, oneCell u = true
 h : (v = .slice none 0 0 /\ xs = [] /\ T = []) \/ ∃ b off c cap, v = .slice (some ⟨b, off, none⟩) xs.length cap /\ T = [(b, .cells c E (0, 0))] /\ xs.length <= cap /\ cap <= maxLen /\ off + cap * sz <= c.size /\ Row c off (xs.flatMap enc)
theorem RS.mono {R R' : Rds} {sz : Nat} {enc : α -> List Value} {v : Value} {xs : List α} (h : RS R sz enc v xs) (hr : ∀ b o, R b o -> R' b o) : RS R' sz enc v xs :=
 ⟨h.len, h.one, by
  obtain ⟨p, cap, h1, h2, h3, h4⟩ := h.h
  refine ⟨p, cap, h1, h2, h3, h4.imp id λ ⟨b, off, c, E, fr, g1, g2, g3⟩ => ⟨b, off, c, E, fr, g1, hr _ _ g2, g3⟩⟩⟩
theorem RS.rx {R : Rds} {H : Segs} {sz : Nat} {enc : α -> List Value} {v : Value} {xs : List α} (h : RS R sz enc v xs) : RS (Rx R H) sz enc v xs := h.mono λ _ _ => .inl
theorem OS.rs {R : Rds} {E : TypeId} {sz : Nat} {enc : α -> List Value} {v : Value} {xs : List α} {T : Seg} (h : OS E sz enc v xs T) (hr : ∀ p ∈ T, R p.1 p.2) : RS R sz enc v xs :=
 ⟨h.len, h.one, by
  rcases h.h with ⟨rfl, rfl, rfl⟩ | ⟨b, off, c, cap, rfl, rfl, h3, h4, h5, h6⟩
  ·exact ⟨none, 0, rfl, Nat.le_refl _, Nat.zero_le _, .inl rfl⟩
  ·exact ⟨some ⟨b, off, none⟩, cap, rfl, h3, h4, .inr ⟨b, off, c, E, (0, 0), rfl, hr (b, _) (by simp), h6⟩⟩⟩
class SegAt (H : Segs) (T : Seg) (upd : outParam (Seg -> Segs)) : Prop where h : ∃ H1 H2, H = H1 ++ T :: H2 /\ ∀ T', upd T' = H1 ++ T' :: H2
instance SegAt.there {H : Segs} {T T0 : Seg} {upd : Seg -> Segs} [h : SegAt H T upd] : SegAt (T0 :: H) T (λ T' => T0 :: upd T') :=
 ⟨let ⟨H1, H2, h1, h2⟩ := h.h; ⟨T0 :: H1, H2, by rw [h1]; rfl, λ T' => by rw [h2]; rfl⟩⟩
instance SegAt.here {H : Segs} {T : Seg} : SegAt (T :: H) T (λ T' => T' :: H) := ⟨⟨[], H, rfl, λ _ => rfl⟩⟩
theorem SegAt.mem {H : Segs} {T : Seg} {upd : Seg -> Segs} (h : SegAt H T upd) : ∀ p ∈ T, p ∈ H.flatten := by
 obtain ⟨H1, H2, h1, _⟩ := h.h
 subst h1
 intro p hp; simp [hp]
theorem OS.rx {R : Rds} {H : Segs} {E : TypeId} {sz : Nat} {enc : α -> List Value} {v : Value} {xs : List α} {T : Seg} {upd : Seg -> Segs} (h : OS E sz enc v xs T) [s : SegAt H T upd] : RS (Rx R H) sz enc v xs := h.rs λ p hp => .inr (s.mem p hp)
theorem OS.nil {E : TypeId} {sz : Nat} {enc : α -> List Value} : OS E sz enc (.slice none 0 0) ([] : List α) [] := ⟨by simp, by simp, .inl ⟨rfl, rfl, rfl⟩⟩
theorem RS.oneCell {R : Rds} {sz : Nat} {enc : α -> List Value} {v : Value} {xs : List α} (h : RS R sz enc v xs) : One v := ⟨by obtain ⟨p, cap, h1, _⟩ := h.h; rw [h1]; rfl⟩
theorem OS.oneCell {E : TypeId} {sz : Nat} {enc : α -> List Value} {v : Value} {xs : List α} {T : Seg} (h : OS E sz enc v xs T) : One v := ⟨by
 rcases h.h with ⟨h1, _, _⟩ | ⟨b, off, c, cap, h1, _⟩ <;> rw [h1] <;> rfl⟩
theorem RS.le {R : Rds} {sz : Nat} {enc : α -> List Value} {v : Value} {xs : List α} (h : RS R sz enc v xs) : xs.length <= 9223372036854775807 := by
 obtain ⟨p, cap, _, h2, h3, _⟩ := h.h
 unfold maxLen at h3; omega
theorem OS.le {E : TypeId} {sz : Nat} {enc : α -> List Value} {v : Value} {xs : List α} {T : Seg} (h : OS E sz enc v xs T) : xs.length <= 9223372036854775807 := by
 rcases h.h with ⟨_, h2, _⟩ | ⟨b, off, c, cap, _, _, h2, h3, _⟩
 ·subst h2; simp
 ·unfold maxLen at h3; omega
theorem RS.val {R : Rds} {sz : Nat} {enc : α -> List Value} {v : Value} {xs : List α} (h : RS R sz enc v xs) : ∃ p cap, v = .slice p xs.length cap := let ⟨p, cap, h1, _⟩ := h.h; ⟨p, cap, h1⟩
theorem RS.pc {R : Rds} {sz : Nat} {enc : α -> List Value} {v : Value} {xs : List α} {i : Nat} {x : α} (h : RS R sz enc v xs) (hx : xs[i]? = some x) : PC R (baseP v (i * sz)) (enc x) := by
 obtain ⟨p, cap, h1, h2, h3, h4⟩ := h.h
 have hne : xs ≠ [] := λ e => by subst e; simp at hx
 obtain ⟨b, off, c, E, fr, rfl, g2, g3⟩ := h4.resolve_left hne
 subst h1
 have hm := List.mem_of_getElem? hx
 have hl := h.len x hm
 refine ⟨b, off + i * sz, c, E, fr, ?_, g2, λ j hj => ?_⟩
 ·simp only [baseP, Addr.add]; split
  ·rename_i h0; rw [h0]; rfl
  ·rfl
 ·have h5 := flatMap_get h.len hx j (by omega)
  have h6 : i * sz + j < (xs.flatMap enc).length := by
   rw [flatMap_length h.len]
   have : i < xs.length := (List.getElem?_eq_some_iff.1 hx).1
   have := Nat.mul_le_mul_right sz this
   rw [Nat.succ_mul] at this; omega
  have h7 := g3 _ h6
  rw [Nat.add_assoc, h7, h5, List.getElem?_eq_getElem hj]
theorem OS.pc {E : TypeId} {sz : Nat} {enc : α -> List Value} {v : Value} {xs : List α} {T : Seg} {i : Nat} {x : α} (h : OS E sz enc v xs T) (hx : xs[i]? = some x) : PC (sg T) (baseP v (i * sz)) (enc x) :=
 (h.rs (R := sg T) λ p hp => hp).pc hx
section
variable {P : Program} {N : Nat} {R : Rds} {ops : Array Oper} {l : List Oper} {env : Env} {H : Segs} {K : Env -> Segs -> Prop} {ty : TypeId} {pos : String} {af : Array Edge} {m : Bool}
theorem Quiet.lenV {x : Operand} {t e : TypeId} {p : Option Addr} {n cap : Nat} (hx : ev env x = some (.slice p n cap)) [ut : Und P t (.slice e)] : Quiet P R env H (.call ⟨.builtin .len, #[x], #[t]⟩) ty (.int .i64 n) := λ a w d pos af g ha _ _ => by
 simp [execOp, resolve, ha.eval hx, invoke, builtin, Builtin.len_, run_underlying ut.h, goInt]
theorem Quiet.lenR {R' : Rds} {x : Operand} {t e : TypeId} {sz : Nat} {enc : α -> List Value} {v : Value} {xs : List α} (h : RS R' sz enc v xs) (hx : ev env x = some v := by rfl) [ut : Und P t (.slice e)] : Quiet P R env H (.call ⟨.builtin .len, #[x], #[t]⟩) ty (.int .i64 xs.length) := by
 obtain ⟨p, cap, h1⟩ := h.val
 subst h1
 exact Quiet.lenV hx
theorem Quiet.lenO {x : Operand} {t e E : TypeId} {sz : Nat} {enc : α -> List Value} {v : Value} {xs : List α} {T : Seg} (h : OS E sz enc v xs T) (hx : ev env x = some v := by rfl) [ut : Und P t (.slice e)] : Quiet P R env H (.call ⟨.builtin .len, #[x], #[t]⟩) ty (.int .i64 xs.length) :=
 Quiet.lenR (h.rs (R := sg T) λ p hp => hp) hx
theorem run_indexAt {t e : TypeId} {sz n cap i : Nat} {a0 : Addr} {k : IntKind} {w : World} [ut : Und P t (.slice e)] [s : Sz P e sz] (hi : i < n) : (Instr.indexAt t (.slice (some a0) n cap) (.int k i)).run P w = .ok (baseP (.slice (some a0) n cap) (i * sz)) w := by
 have h1 : (0 : Int) <= i /\ (i : Int) < n := by omega
 simp [Instr.indexAt, asIntOf, run_underlying ut.h, h1, s.h, baseP, hi]
theorem Quiet.indexR {R' : Rds} {x y : Operand} {t e : TypeId} {sz : Nat} {enc : α -> List Value} {v : Value} {xs : List α} {k : IntKind} {j : Int} {z : α} (i : Nat) (h : RS R' sz enc v xs) (hz : xs[i]? = some z) (hx : ev env x = some v) (hy : ev env y = some (.int k j)) (hj : j = (i : Int)) [ut : Und P t (.slice e)] [s : Sz P e sz] :
  Quiet P R env H (.indexAddr t x y) ty (baseP v (i * sz)) := λ a w d pos af g ha _ _ => by
 obtain ⟨p, cap, h1, h2, h3, h4⟩ := h.h
 have hne : xs ≠ [] := λ e => by subst e; simp at hz
 obtain ⟨b, off, c, E, fr, rfl, g2, g3⟩ := h4.resolve_left hne
 subst h1; subst hj
 have hi : i < xs.length := (List.getElem?_eq_some_iff.1 hz).1
 simp [execOp, ha.eval hx, ha.eval hy, run_indexAt (P := P) (e := e) (sz := sz) hi]
theorem TriOps.indexR {d : Nat} {x y : Operand} {t e : TypeId} {sz : Nat} {enc : α -> List Value} {v : Value} {xs : List α} {k : IntKind} {j : Int} {z : α} (i : Nat) (h : RS R sz enc v xs) (hz : xs[i]? = some z) [ut : Und P t (.slice e)] [s : Sz P e sz]
  (hn : PC R (baseP v (i * sz)) (enc z) -> TriOps m P N R ops l ((d, baseP v (i * sz)) :: env) H K) (hx : ev env x = some v := by rfl) (hy : ev env y = some (.int k j) := by rfl) (hj : j = (i : Int) := by rfl) (hd : Nat.blt d N = true := by rfl) :
  TriOps m P N R ops (⟨some d, .indexAddr t x y, ty, pos, af, none⟩ :: l) env H K :=
 TriOps.q (Quiet.indexR i h hz hx hy hj) (hn (h.pc hz)) hd
theorem TriOps.indexO {d : Nat} {x y : Operand} {t e E : TypeId} {sz : Nat} {enc : α -> List Value} {v : Value} {xs : List α} {T : Seg} {k : IntKind} {j : Int} {z : α} (i : Nat) (h : OS E sz enc v xs T) (hz : xs[i]? = some z) [ut : Und P t (.slice e)] [s : Sz P e sz]
  (hn : PS T (baseP v (i * sz)) (enc z) -> TriOps m P N R ops l ((d, baseP v (i * sz)) :: env) H K) (hx : ev env x = some v := by rfl) (hy : ev env y = some (.int k j) := by rfl) (hj : j = (i : Int) := by rfl) (hd : Nat.blt d N = true := by rfl) :
  TriOps m P N R ops (⟨some d, .indexAddr t x y, ty, pos, af, none⟩ :: l) env H K :=
 TriOps.q (Quiet.indexR i (h.rs (R := sg T) λ p hp => hp) hz hx hy hj) (hn ⟨h.pc hz⟩) hd
theorem run_sliceBound {x : Value} {y n : Nat} {k : IntKind} {code : BoundsCode} {w : World} (hx : x = .int k n) (h : n <= y) : (Instr.sliceBound x y code).run P w = .ok n w := by
 subst hx
 have h1 : (0 : Int) <= n /\ (n : Int) <= y := by omega
 simp [Instr.sliceBound, asIntOf, h1]
def optN (env : Env) (x : Option Operand) (dflt n : Nat) : Prop := match x with
 | none => n = dflt
 | some o => ∃ k, ev env o = some (.int k n)
theorem run_sliceAt {t e : TypeId} {sz n cap lo hi : Nat} {p : Option Addr} {xl xh : Option Operand} {a : Act} {w : World} (ha : EnvOK a env) [ut : Und P t (.slice e)] [s : Sz P e sz] (h1 : optN env xl 0 lo) (h2 : optN env xh n hi) (h3 : lo <= hi) (h4 : hi <= cap) :
  (Instr.sliceAt t (.slice p n cap) (xl.map a.eval) (xh.map a.eval) none).run P w = .ok (.slice (if cap = lo then p else p.map (·.add (lo * sz))) (hi - lo) (cap - lo)) w := by
 have b1 : ∀ {x : Operand} {k : IntKind} {y n : Nat} {code : BoundsCode}, ev env x = some (.int k n) -> n <= y -> (Instr.sliceBound (a.eval x) y code).run P w = .ok n w := λ hx hn => run_sliceBound (ha.eval hx) hn
 unfold Instr.sliceAt
 simp only [Sem.run_bind, run_underlying ut.h, Result.andThen_ok]
 unfold Instr.slice
 simp only [Sem.run_bind, run_underlying ut.h, Result.andThen_ok]
 unfold Instr.sliceBounds
 cases xl with
 | none =>
  simp only [optN] at h1
  subst h1
  cases xh with
  | none => simp only [optN] at h2; subst h2; simp [s.h]
  | some o => obtain ⟨k, hk⟩ := h2; simp [s.h, b1 hk h4]
 | some o =>
  obtain ⟨k, hk⟩ := h1
  cases xh with
  | none => simp only [optN] at h2; subst h2; simp [s.h, b1 hk h3]
  | some o' => obtain ⟨k', hk'⟩ := h2; simp [s.h, b1 hk h3, b1 hk' h4]
theorem Row.sub {c : Array Value} {off : Nat} {cs : List Value} (h : Row c off cs) (i n : Nat) : Row c (off + i) ((cs.drop i).take n) := λ k hk => by
 rw [List.length_take, List.length_drop] at hk
 rw [List.getElem?_take_of_lt (by omega), List.getElem?_drop, Nat.add_assoc]
 exact h (i + k) (by omega)
theorem flatMap_drop {enc : α -> List Value} {sz : Nat} : ∀ {xs : List α} (i : Nat), (∀ x ∈ xs, (enc x).length = sz) -> (xs.drop i).flatMap enc = (xs.flatMap enc).drop (i * sz)
 | [], i, _ => by simp
 | x :: xs, 0, _ => by simp
 | x :: xs, i + 1, h => by
  have h0 := h x (by simp)
  rw [List.drop_succ_cons, flatMap_drop i (λ y hy => h y (by simp [hy])), List.flatMap_cons, List.drop_append, h0, List.drop_eq_nil_of_le (show (enc x).length <= _ by rw [h0, Nat.succ_mul]; omega), Nat.succ_mul]
  simp
theorem flatMap_take {enc : α -> List Value} {sz : Nat} : ∀ {xs : List α} (i : Nat), (∀ x ∈ xs, (enc x).length = sz) -> (xs.take i).flatMap enc = (xs.flatMap enc).take (i * sz)
 | [], i, _ => by simp
 | x :: xs, 0, _ => by simp
 | x :: xs, i + 1, h => by
  have h0 := h x (by simp)
  rw [List.take_succ_cons, List.flatMap_cons, flatMap_take i (λ y hy => h y (by simp [hy])), List.flatMap_cons, List.take_append, h0, List.take_of_length_le (l := enc x) (by rw [h0, Nat.succ_mul]; omega), Nat.succ_mul]
  simp
theorem Row.piece {c : Array Value} {off sz : Nat} {enc : α -> List Value} {xs : List α} (h : Row c off (xs.flatMap enc)) (hl : ∀ x ∈ xs, (enc x).length = sz) (lo n : Nat) : Row c (off + lo * sz) (((xs.drop lo).take n).flatMap enc) := by
 rw [flatMap_take n (λ x hx => hl x (List.mem_of_mem_drop hx)), flatMap_drop lo hl]
 exact h.sub _ _
theorem Quiet.sliceR {R' : Rds} {x : Operand} {xl xh : Option Operand} {t e : TypeId} {sz : Nat} {enc : α -> List Value} {v : Value} {xs : List α} (lo hi : Nat) (h : RS R' sz enc v xs) [ut : Und P t (.slice e)] [s : Sz P e sz] (h1 : optN env xl 0 lo) (h2 : optN env xh xs.length hi) (h3 : lo <= hi) (h4 : hi <= xs.length) (hx : ev env x = some v := by rfl) :
  ∃ v', RS R' sz enc v' ((xs.drop lo).take (hi - lo)) /\ Quiet P R env H (.slice t x xl xh none) ty v' := by
 obtain ⟨p, cap, g1, g2, g3, g4⟩ := h.h
 subst g1
 have hn : ((xs.drop lo).take (hi - lo)).length = hi - lo := by simp; omega
 refine ⟨.slice (if cap = lo then p else p.map (·.add (lo * sz))) (hi - lo) (cap - lo), ⟨λ x hx => h.len x (List.mem_of_mem_drop (List.mem_of_mem_take hx)), λ x hx => h.one x (List.mem_of_mem_drop (List.mem_of_mem_take hx)), _, _, by rw [hn], by rw [hn]; omega, by omega, ?_⟩, ?_⟩
 ·rcases g4 with rfl | ⟨b, off, c, E, fr, rfl, r1, r2⟩
  ·exact .inl (by simp)
  ·by_cases he : cap = lo
   ·left
    have : hi - lo = 0 := by omega
    rw [this]; simp
   ·right
    refine ⟨b, off + lo * sz, c, E, fr, ?_, r1, r2.piece h.len lo (hi - lo)⟩
    rw [if_neg he]
    simp only [Option.map_some, Addr.add]
    split
    ·rename_i h0; rw [h0]; rfl
    ·rfl
 ·intro a w d pos af g ha _ _
  have := run_sliceAt (P := P) (w := w) (p := p) (n := xs.length) (cap := cap) ha h1 h2 h3 (by omega) (t := t) (e := e) (sz := sz)
  simp only [execOp, ha.eval hx, Option.map_none]
  rw [Sem.run_bind, this]
  rfl
end
end
section
set_option linter.unusedVariables false
structure Ed where
 f : Nat
 t : Nat
 a : Bool
deriving DecidableEq
def Ed.w (e : Ed) : Nat := if e.a then 1 else 0
def jstep (now next : List Nat) (e : Ed) : List Nat := if next.getD e.f 0 < now.getD e.t 0 + e.w then next.set e.f (now.getD e.t 0 + e.w) else next
def jac (E : List Ed) (n : Nat) (now : List Nat) : List Nat := E.foldl (jstep now) (List.replicate n 0)
def level (E : List Ed) (n : Nat) : Nat -> List Nat
 | 0 => List.replicate n 0
 | s + 1 => jac E n (level E n s)
def rise1 (n : List Nat) (e : Ed) : List Nat := if n.getD e.f 0 < n.getD e.t 0 + e.w then n.set e.f (n.getD e.t 0 + e.w) else n
def pass (E : List Ed) (n : List Nat) : List Nat := E.foldl rise1 n
def settle (E : List Ed) : Nat -> List Nat -> Option (List Nat)
 | 0, _ => none
 | k + 1, n => if pass E n = n then some n else settle E k (pass E n)
def FixE (E : List Ed) (v : List Nat) : Prop := ∀ e ∈ E, v.getD e.t 0 + e.w <= v.getD e.f 0
section
variable {E : List Ed} {n : Nat}
theorem getD_set (l : List Nat) (i j x : Nat) (h : i < l.length) : (l.set i x).getD j 0 = if i = j then x else l.getD j 0 := by
 rw [List.getD_eq_getElem?_getD, List.getD_eq_getElem?_getD, List.getElem?_set]
 split
 ·rename_i e; subst e; simp
 ·rfl
theorem jstep_len (now next : List Nat) (e : Ed) : (jstep now next e).length = next.length := by unfold jstep; split <;> simp
theorem jfold_len (now : List Nat) : ∀ (E : List Ed) (next : List Nat), (E.foldl (jstep now) next).length = next.length
 | [], _ => rfl
 | e :: E, next => by rw [List.foldl_cons, jfold_len now E, jstep_len]
theorem jac_len (now : List Nat) : (jac E n now).length = n := by unfold jac; rw [jfold_len, List.length_replicate]
theorem level_len : ∀ k, (level E n k).length = n
 | 0 => by simp [level]
 | k + 1 => by rw [level, jac_len]
theorem jstep_ge (now next : List Nat) (e : Ed) (he : e.f < next.length) (i : Nat) : next.getD i 0 <= (jstep now next e).getD i 0 := by
 unfold jstep
 split
 ·rw [getD_set _ _ _ _ he]
  split
  ·rename_i h1 h2; subst h2; omega
  ·exact Nat.le_refl _
 ·exact Nat.le_refl _
theorem jstep_up (now next : List Nat) (e : Ed) (he : e.f < next.length) : now.getD e.t 0 + e.w <= (jstep now next e).getD e.f 0 := by
 unfold jstep
 split
 ·rw [getD_set _ _ _ _ he, if_pos rfl]; exact Nat.le_refl _
 ·omega
theorem jstep_of (now next : List Nat) (e : Ed) (he : e.f < next.length) (i : Nat) : (jstep now next e).getD i 0 = next.getD i 0 \/ (e.f = i /\ (jstep now next e).getD i 0 = now.getD e.t 0 + e.w) := by
 unfold jstep
 split
 ·rw [getD_set _ _ _ _ he]
  split
  ·rename_i h2; exact .inr ⟨h2, rfl⟩
  ·exact .inl rfl
 ·exact .inl rfl
theorem jfold_ge (now : List Nat) (i : Nat) : ∀ (E : List Ed) (next : List Nat), (∀ e ∈ E, e.f < next.length) -> next.getD i 0 <= (E.foldl (jstep now) next).getD i 0
 | [], _, _ => Nat.le_refl _
 | e :: E, next, h => by
  rw [List.foldl_cons]
  have h1 := h e List.mem_cons_self
  exact Nat.le_trans (jstep_ge now next e h1 i) (jfold_ge now i E _ λ e' he' => by rw [jstep_len]; exact h e' (List.mem_cons_of_mem _ he'))
theorem jfold_up (now : List Nat) : ∀ (E : List Ed) (next : List Nat), (∀ e ∈ E, e.f < next.length) -> ∀ e ∈ E, now.getD e.t 0 + e.w <= (E.foldl (jstep now) next).getD e.f 0
 | [], _, _, e, he => by cases he
 | x :: E, next, h, e, he => by
  rw [List.foldl_cons]
  have h1 := h x List.mem_cons_self
  have h2 : ∀ e' ∈ E, e'.f < (jstep now next x).length := λ e' he' => by rw [jstep_len]; exact h e' (List.mem_cons_of_mem _ he')
  rcases List.mem_cons.1 he with rfl | he
  ·exact Nat.le_trans (jstep_up now next e h1) (jfold_ge now e.f E _ h2)
  ·exact jfold_up now E _ h2 e he
theorem jfold_of (now : List Nat) (i : Nat) : ∀ (E : List Ed) (next : List Nat), (∀ e ∈ E, e.f < next.length) -> (E.foldl (jstep now) next).getD i 0 = next.getD i 0 \/ ∃ e ∈ E, e.f = i /\ (E.foldl (jstep now) next).getD i 0 = now.getD e.t 0 + e.w
 | [], _, _ => .inl rfl
 | x :: E, next, h => by
  rw [List.foldl_cons]
  have h1 := h x List.mem_cons_self
  have h2 : ∀ e' ∈ E, e'.f < (jstep now next x).length := λ e' he' => by rw [jstep_len]; exact h e' (List.mem_cons_of_mem _ he')
  rcases jfold_of now i E _ h2 with h3 | ⟨e, he, h3, h4⟩
  ·rcases jstep_of now next x h1 i with h5 | ⟨h5, h6⟩
   ·exact .inl (h3.trans h5)
   ·exact .inr ⟨x, List.mem_cons_self, h5, h3.trans h6⟩
  ·exact .inr ⟨e, List.mem_cons_of_mem _ he, h3, h4⟩
theorem getD_zeros (n i : Nat) : (List.replicate n 0).getD i 0 = 0 := by
 rw [List.getD_eq_getElem?_getD, List.getElem?_replicate]
 split <;> rfl
variable (hE : ∀ e ∈ E, e.f < n)
include hE
theorem level_up (k : Nat) : ∀ e ∈ E, (level E n k).getD e.t 0 + e.w <= (level E n (k + 1)).getD e.f 0 :=
 jfold_up _ E _ (by simpa using hE)
theorem level_of (k i : Nat) : (level E n (k + 1)).getD i 0 = 0 \/ ∃ e ∈ E, e.f = i /\ (level E n (k + 1)).getD i 0 = (level E n k).getD e.t 0 + e.w := by
 have h := jfold_of (level E n k) i E (List.replicate n 0) (by simpa using hE)
 rw [getD_zeros] at h
 exact h
theorem level_mono1 : ∀ (k i : Nat), (level E n k).getD i 0 <= (level E n (k + 1)).getD i 0
 | 0, i => by rw [level, getD_zeros]; exact Nat.zero_le _
 | k + 1, i => by
  rcases level_of hE k i with h | ⟨e, he, rfl, h⟩
  ·rw [h]; exact Nat.zero_le _
  ·rw [h]
   exact Nat.le_trans (Nat.add_le_add_right (level_mono1 k e.t) _) (level_up hE (k + 1) e he)
theorem level_mono {k m : Nat} (h : k <= m) (i : Nat) : (level E n k).getD i 0 <= (level E n m).getD i 0 := by
 induction m with
 | zero => rw [Nat.le_zero.1 h]; exact Nat.le_refl _
 | succ m ih =>
  rcases Nat.lt_or_ge m k with h1 | h1
  ·rw [show k = m + 1 from by omega]; exact Nat.le_refl _
  ·exact Nat.le_trans (ih h1) (level_mono1 hE m i)
theorem level_le_fix {v : List Nat} (hv : FixE E v) : ∀ (k i : Nat), (level E n k).getD i 0 <= v.getD i 0
 | 0, i => by rw [level, getD_zeros]; exact Nat.zero_le _
 | k + 1, i => by
  rcases level_of hE k i with h | ⟨e, he, rfl, h⟩
  ·rw [h]; exact Nat.zero_le _
  ·rw [h]; exact Nat.le_trans (Nat.add_le_add_right (level_le_fix hv k e.t) _) (hv e he)
theorem level_le : ∀ (k i : Nat), (level E n k).getD i 0 <= k
 | 0, i => by rw [level, getD_zeros]; exact Nat.le_refl _
 | k + 1, i => by
  rcases level_of hE k i with h | ⟨e, he, rfl, h⟩
  ·rw [h]; exact Nat.zero_le _
  ·rw [h]; have := level_le k e.t; have : e.w <= 1 := by unfold Ed.w; split <;> omega
   omega
end
theorem php : ∀ (n : Nat) (g : Nat -> Nat), (∀ j, j <= n -> g j < n) -> ∃ a b, a < b /\ b <= n /\ g a = g b
 | 0, g, h => absurd (h 0 (Nat.le_refl _)) (by omega)
 | n + 1, g, h => by
  by_cases h1 : ∃ j, j <= n /\ g j = g (n + 1)
  ·obtain ⟨j, hj, e⟩ := h1
   exact ⟨j, n + 1, by omega, Nat.le_refl _, e⟩
  ·have h2 : ∀ j, j <= n -> g j ≠ g (n + 1) := λ j hj e => h1 ⟨j, hj, e⟩
   obtain ⟨a, b, hab, hb, e⟩ := php n (λ j => if g j = n then g (n + 1) else g j) λ j hj => by
    have h3 := h j (by omega)
    have h4 := h (n + 1) (Nat.le_refl _)
    have h5 := h2 j hj
    split <;> omega
   refine ⟨a, b, hab, by omega, ?_⟩
   have ha2 := h2 a (by omega)
   have hb2 := h2 b hb
   split at e <;> split at e <;> omega
section
variable {E : List Ed} {n : Nat} (hE : ∀ e ∈ E, e.f < n) (hT : ∀ e ∈ E, e.t < n)
include hE hT
theorem chain {v : List Nat} (hv : FixE E v) : ∀ (m i : Nat), i < n -> (level E n m).getD i 0 < (level E n (m + 1)).getD i 0 ->
  ∃ g : Nat -> Nat, g 0 = i /\ (∀ j, j <= m + 1 -> g j < n) /\ (∀ j, j <= m -> (level E n (m - j)).getD (g j) 0 < (level E n (m + 1 - j)).getD (g j) 0) /\
   ∀ j, j <= m -> v.getD (g (j + 1)) 0 + (level E n (m + 1 - j)).getD (g j) 0 <= v.getD (g j) 0 + (level E n (m - j)).getD (g (j + 1)) 0
 | 0, i, hi, h => by
  rcases level_of hE 0 i with h1 | ⟨e, he, rfl, h1⟩
  ·omega
  ·refine ⟨λ j => if j = 0 then e.f else e.t, by simp, λ j hj => ?_, λ j hj => ?_, λ j hj => ?_⟩
   ·simp only; split
    ·exact hi
    ·exact hT e he
   ·rw [show j = 0 from by omega]; simpa using h
   ·rw [show j = 0 from by omega]
    have := hv e he
    simp only [Nat.zero_add, Nat.sub_zero, if_true, Nat.one_ne_zero, if_false]
    rw [h1]; omega
 | m + 1, i, hi, h => by
  rcases level_of hE (m + 1) i with h1 | ⟨e, he, rfl, h1⟩
  ·omega
  ·have hup := level_up hE m e he
   obtain ⟨g, hg0, hg1, hg2, hg3⟩ := chain hv m e.t (hT e he) (by omega)
   refine ⟨λ j => if j = 0 then e.f else g (j - 1), by simp, λ j hj => ?_, λ j hj => ?_, λ j hj => ?_⟩
   ·simp only; split
    ·exact hi
    ·exact hg1 _ (by omega)
   ·cases j with
    | zero => simpa using h
    | succ j =>
     have := hg2 j (by omega)
     simp only [Nat.succ_ne_zero, if_false, Nat.add_sub_cancel, Nat.add_sub_add_right]
     exact this
   ·cases j with
    | zero =>
     have := hv e he
     simp only [Nat.zero_add, Nat.sub_zero, if_true, Nat.one_ne_zero, if_false, Nat.sub_self]
     rw [h1, hg0]; omega
    | succ j =>
     have := hg3 j (by omega)
     simp only [Nat.succ_ne_zero, if_false, Nat.add_sub_cancel, Nat.add_sub_add_right]
     exact this
theorem level_stop {v : List Nat} (hv : FixE E v) (m : Nat) (hm : m + 1 = n) (i : Nat) (hi : i < n) : (level E n (m + 1)).getD i 0 = (level E n m).getD i 0 := by
 refine Nat.le_antisymm (Nat.not_lt.1 λ h => ?_) (level_mono1 hE m i)
 obtain ⟨g, _, hg1, hg2, hg3⟩ := chain hE hT hv m i hi h
 obtain ⟨a, b, hab, hb, e⟩ := php n g λ j hj => hg1 j (by omega)
 have hd : ∀ j, a + j <= n -> v.getD (g (a + j)) 0 + (level E n (m + 1 - a)).getD (g a) 0 <= v.getD (g a) 0 + (level E n (m + 1 - (a + j))).getD (g (a + j)) 0 := by
  intro j
  induction j with
  | zero => intro _; rw [Nat.add_zero]; exact Nat.le_refl _
  | succ j ih =>
   intro hj
   have h1 := ih (by omega)
   have h2 := hg3 (a + j) (by omega)
   rw [show a + (j + 1) = a + j + 1 from rfl]
   rw [show m + 1 - (a + j + 1) = m - (a + j) from by omega]
   omega
 have h1 := hd (b - a) (by omega)
 rw [show a + (b - a) = b from by omega, <- e] at h1
 have h2 := hg2 a (by omega)
 have h3 := level_mono hE (k := m + 1 - b) (m := m - a) (by omega) (g a)
 omega
omit hE hT in
theorem list_ext0 {l m : List Nat} (h : l.length = m.length) (h2 : ∀ i, i < l.length -> l.getD i 0 = m.getD i 0) : l = m := by
 refine List.ext_getElem h λ i h3 h4 => ?_
 have := h2 i h3
 rw [List.getD_eq_getElem?_getD, List.getD_eq_getElem?_getD, List.getElem?_eq_getElem h3, List.getElem?_eq_getElem h4] at this
 simpa using this
omit hT in
theorem level_fix_of {m : Nat} (h : level E n (m + 1) = level E n m) : FixE E (level E n m) := λ e he => by
 have := level_up hE m e he
 rwa [h] at this
omit hE hT in
theorem level_same {m : Nat} (h : level E n (m + 1) = level E n m) : ∀ k, level E n (m + k) = level E n m
 | 0 => rfl
 | k + 1 => by rw [show m + (k + 1) = m + k + 1 from rfl, level, level_same h k]; exact h
theorem level_limit {v : List Nat} (hv : FixE E v) (hn : 0 < n) : FixE E (level E n (n - 1)) /\ (∀ k, n - 1 <= k -> level E n k = level E n (n - 1)) /\ (∀ i, (level E n (n - 1)).getD i 0 < n) := by
 have h : level E n (n - 1 + 1) = level E n (n - 1) := list_ext0 (by rw [level_len, level_len]) λ i hi => level_stop hE hT hv (n - 1) (by omega) i (by rw [level_len] at hi; exact hi)
 refine ⟨level_fix_of hE h, λ k hk => ?_, λ i => ?_⟩
 ·have := level_same h (k - (n - 1))
  rwa [show n - 1 + (k - (n - 1)) = k from by omega] at this
 ·have := level_le hE (n - 1) i
  omega
def docOK (E : List Ed) (n : Nat) : Bool := decide (level E n (n + 1) = level E n ((n + 1) * (n + 1))) && (level E n (n + 1)).all λ x => decide (x < n)
theorem docOK_iff (hn : 0 < n) : docOK E n = true ↔ ∃ v, FixE E v := by
 constructor
 ·intro h
  unfold docOK at h
  simp only [Bool.and_eq_true, decide_eq_true_eq] at h
  refine ⟨_, level_fix_of hE (m := n + 1) (list_ext0 (by rw [level_len, level_len]) λ i _ => Nat.le_antisymm ?_ (level_mono1 hE (n + 1) i))⟩
  have h1 := level_mono hE (k := n + 1 + 1) (m := (n + 1) * (n + 1)) (by
   have : (n + 1) * (n + 1) = n * n + 2 * n + 1 := by rw [Nat.add_mul, Nat.mul_add]; omega
   have h2 : 1 <= n * n := Nat.mul_le_mul hn hn
   omega) i
  rw [<- h.1] at h1
  exact h1
 ·rintro ⟨v, hv⟩
  obtain ⟨h1, h2, h3⟩ := level_limit hE hT hv hn
  unfold docOK
  rw [h2 (n + 1) (by omega), h2 ((n + 1) * (n + 1)) (by
   have : (n + 1) * (n + 1) = n * n + 2 * n + 1 := by rw [Nat.add_mul, Nat.mul_add]; omega
   omega)]
  simp only [decide_true, Bool.true_and, List.all_eq_true, decide_eq_true_eq]
  intro x hx
  obtain ⟨i, hi, rfl⟩ := List.getElem_of_mem hx
  have := h3 i
  rw [List.getD_eq_getElem?_getD, List.getElem?_eq_getElem hi] at this
  exact this
end
section
variable {E : List Ed} {n : Nat}
theorem rise1_len (l : List Nat) (e : Ed) : (rise1 l e).length = l.length := by unfold rise1; split <;> simp
theorem pass_len : ∀ (E : List Ed) (l : List Nat), (pass E l).length = l.length
 | [], _ => rfl
 | e :: E, l => by
  show (pass E (rise1 l e)).length = _
  rw [pass_len E, rise1_len]
theorem rise1_ge (l : List Nat) (e : Ed) (he : e.f < l.length) (i : Nat) : l.getD i 0 <= (rise1 l e).getD i 0 := by
 unfold rise1
 split
 ·rw [getD_set _ _ _ _ he]
  split
  ·rename_i h1 h2; subst h2; omega
  ·exact Nat.le_refl _
 ·exact Nat.le_refl _
theorem rise1_up (l : List Nat) (e : Ed) (he : e.f < l.length) (now : Nat) (h : now <= l.getD e.t 0) : now + e.w <= (rise1 l e).getD e.f 0 := by
 unfold rise1
 split
 ·rw [getD_set _ _ _ _ he, if_pos rfl]; omega
 ·omega
theorem rise1_fix {v l : List Nat} (e : Ed) (he : e.f < l.length) (hv : v.getD e.t 0 + e.w <= v.getD e.f 0) (h : ∀ i, l.getD i 0 <= v.getD i 0) (i : Nat) : (rise1 l e).getD i 0 <= v.getD i 0 := by
 unfold rise1
 split
 ·rw [getD_set _ _ _ _ he]
  split
  ·rename_i h2; subst h2; have := h e.t; omega
  ·exact h i
 ·exact h i
theorem pass_ge : ∀ (E : List Ed) (l : List Nat), (∀ e ∈ E, e.f < l.length) -> ∀ i, l.getD i 0 <= (pass E l).getD i 0
 | [], _, _, _ => Nat.le_refl _
 | e :: E, l, h, i => by
  have h1 := h e List.mem_cons_self
  exact Nat.le_trans (rise1_ge l e h1 i) (pass_ge E (rise1 l e) (λ e' he' => by rw [rise1_len]; exact h e' (List.mem_cons_of_mem _ he')) i)
theorem pass_up (now : List Nat) : ∀ (E : List Ed) (l : List Nat), (∀ e ∈ E, e.f < l.length) -> (∀ i, now.getD i 0 <= l.getD i 0) -> ∀ e ∈ E, now.getD e.t 0 + e.w <= (pass E l).getD e.f 0
 | [], _, _, _, e, he => by cases he
 | x :: E, l, h, h2, e, he => by
  have h1 := h x List.mem_cons_self
  have h3 : ∀ e' ∈ E, e'.f < (rise1 l x).length := λ e' he' => by rw [rise1_len]; exact h e' (List.mem_cons_of_mem _ he')
  show _ <= (pass E (rise1 l x)).getD e.f 0
  rcases List.mem_cons.1 he with rfl | he
  ·exact Nat.le_trans (rise1_up l e h1 _ (h2 e.t)) (pass_ge E _ h3 e.f)
  ·exact pass_up now E _ h3 (λ i => Nat.le_trans (h2 i) (rise1_ge l x h1 i)) e he
theorem pass_fix {v : List Nat} : ∀ (E : List Ed) (l : List Nat), (∀ e ∈ E, e.f < l.length) -> FixE E v -> (∀ i, l.getD i 0 <= v.getD i 0) -> ∀ i, (pass E l).getD i 0 <= v.getD i 0
 | [], _, _, _, h => h
 | e :: E, l, h, hv, h2 => by
  have h1 := h e List.mem_cons_self
  exact pass_fix E (rise1 l e) (λ e' he' => by rw [rise1_len]; exact h e' (List.mem_cons_of_mem _ he')) (λ e' he' => hv e' (List.mem_cons_of_mem _ he')) (rise1_fix e h1 (hv e List.mem_cons_self) h2)
theorem pass_same {l : List Nat} (hE : ∀ e ∈ E, e.f < l.length) : pass E l = l ↔ FixE E l := by
 constructor
 ·intro h e he
  have := pass_up l E l hE (λ _ => Nat.le_refl _) e he
  rwa [h] at this
 ·intro h
  exact list_ext0 (pass_len E l) λ i _ => Nat.le_antisymm (pass_fix E l hE h (λ _ => Nat.le_refl _) i) (pass_ge E l hE i)
def passes (E : List Ed) (n : Nat) : Nat -> List Nat
 | 0 => List.replicate n 0
 | k + 1 => pass E (passes E n k)
theorem passes_len : ∀ k, (passes E n k).length = n
 | 0 => by simp [passes]
 | k + 1 => by rw [passes, pass_len, passes_len k]
theorem passes_level (hE : ∀ e ∈ E, e.f < n) : ∀ (k i : Nat), (level E n k).getD i 0 <= (passes E n k).getD i 0
 | 0, i => Nat.le_refl _
 | k + 1, i => by
  rcases level_of hE k i with h | ⟨e, he, rfl, h⟩
  ·rw [h]; exact Nat.zero_le _
  ·rw [h]; exact pass_up _ E _ (by rw [passes_len]; exact hE) (passes_level hE k) e he
theorem passes_fix (hE : ∀ e ∈ E, e.f < n) {v : List Nat} (hv : FixE E v) : ∀ (k i : Nat), (passes E n k).getD i 0 <= v.getD i 0
 | 0, i => by rw [passes, getD_zeros]; exact Nat.zero_le _
 | k + 1, i => pass_fix E _ (by rw [passes_len]; exact hE) hv (passes_fix hE hv k) i
theorem settle_none : ∀ (k : Nat) (l : List Nat), (∀ e ∈ E, e.f < l.length) -> (¬ ∃ v, FixE E v) -> settle E k l = none
 | 0, _, _, _ => rfl
 | k + 1, l, hl, h => by
  unfold settle
  rw [if_neg λ h1 => h ⟨l, (pass_same hl).1 h1⟩]
  exact settle_none k _ (by rw [pass_len]; exact hl) h
theorem settle_at (hE : ∀ e ∈ E, e.f < n) {f : List Nat} (hf : FixE E f) (hl : f.length = n) (hle : ∀ v, FixE E v -> ∀ i, f.getD i 0 <= v.getD i 0) (r : Nat) (hr : passes E n r = f) : ∀ (d j : Nat), j + d = r -> ∀ k, d + 1 <= k -> settle E k (passes E n j) = some f
 | 0, j, hj, k, hk => by
  obtain ⟨k, rfl⟩ : ∃ k', k = k' + 1 := ⟨k - 1, by omega⟩
  have : passes E n j = f := by rw [<- hr, <- hj]; rfl
  unfold settle
  rw [this, if_pos ((pass_same (by rw [hl]; exact hE)).2 hf)]
 | d + 1, j, hj, k, hk => by
  obtain ⟨k, rfl⟩ : ∃ k', k = k' + 1 := ⟨k - 1, by omega⟩
  unfold settle
  split
  ·rename_i h
   have h1 := (pass_same (by rw [passes_len]; exact hE)).1 h
   rw [list_ext0 (l := passes E n j) (m := f) (by rw [passes_len, hl]) λ i _ => Nat.le_antisymm (passes_fix hE hf j i) (hle _ h1 i)]
  ·exact settle_at hE hf hl hle r hr d (j + 1) (by omega) k (by omega)
theorem settle_doc (hE : ∀ e ∈ E, e.f < n) (hT : ∀ e ∈ E, e.t < n) : settle E (n + 1) (List.replicate n 0) = if docOK E n = true then some (level E n (n + 1)) else none := by
 rcases Nat.eq_zero_or_pos n with rfl | hn
 ·have : E = [] := by
   cases E with
   | nil => rfl
   | cons e E => exact absurd (hE e List.mem_cons_self) (by omega)
  subst this
  simp [settle, pass, docOK, level, jac]
 ·by_cases h : ∃ v, FixE E v
  ·rw [if_pos ((docOK_iff hE hT hn).2 h)]
   obtain ⟨v, hv⟩ := h
   obtain ⟨h1, h2, h3⟩ := level_limit hE hT hv hn
   rw [h2 (n + 1) (by omega)]
   refine settle_at hE h1 (level_len _) (λ v hv i => level_le_fix hE hv _ i) (n - 1) ?_ (n - 1) 0 (by omega) (n + 1) (by omega)
   exact list_ext0 (by rw [passes_len, level_len]) λ i _ => Nat.le_antisymm (passes_fix hE h1 _ i) (passes_level hE _ i)
  ·rw [if_neg λ h9 => h ((docOK_iff hE hT hn).1 h9)]
   exact settle_none _ _ (by simpa using hE) h
end
structure Nd where
 kind : Int
 rel : ByteArray
 thn : ByteArray
 a : Int
 b : Int
def Nd.op (n : Nd) : Bool := n.kind == 4 || n.kind == 5 || n.kind == 6
def Nd.leaf (W : ByteArray -> Bool) (n : Nd) : Bool :=
 (n.a == 0 && n.b == 0) && (if n.kind = 1 then decide (n.rel = ⟨#[]⟩) && decide (n.thn = ⟨#[]⟩) else if n.kind = 2 then W n.rel && decide (n.thn = ⟨#[]⟩) else if n.kind = 3 then W n.rel && W n.thn else false)
def tree (W : ByteArray -> Bool) (l : List Nd) (m : Nat) : Option (Nat × Nat) :=
 match m with
 | 0 => none
 | e + 1 => match l[e]? with
  | none => none
  | some n =>
   if n.op then
    match tree W l e with
    | none => none
    | some (b, x) => if h : b <= e then
      match tree W l b with
      | none => none
      | some (a, y) => if n.a ≠ (b : Int) - 1 \/ n.b ≠ (e : Int) - 1 \/ n.rel ≠ ⟨#[]⟩ \/ n.thn ≠ ⟨#[]⟩ then none else some (a, max x y + 1)
     else none
   else if n.leaf W then some (e, 1) else none
termination_by m
def deepD (W : ByteArray -> Bool) (l : List Nd) : Nat :=
 match tree W l l.length with
 | none => 0
 | some (b, x) => if b = 0 then x else 0
def dstep (W : ByteArray -> Bool) (S : List (Nat × Nat)) (n : Nd) : Option (List (Nat × Nat)) :=
 if n.op then
  if n.rel ≠ ⟨#[]⟩ \/ n.thn ≠ ⟨#[]⟩ \/ n.b ≠ (S.length : Int) - 1 \/ n.b < 0 \/ n.a ≠ (S.length : Int) - 1 - (S.getD (S.length - 1) (0, 0)).1 \/ n.a < 0 then none
  else some (S ++ [((S.getD n.a.toNat (0, 0)).1 + (S.getD n.b.toNat (0, 0)).1 + 1, max (S.getD n.a.toNat (0, 0)).2 (S.getD n.b.toNat (0, 0)).2 + 1)])
 else if n.leaf W then some (S ++ [(1, 1)]) else none
def dsteps (W : ByteArray -> Bool) : List Nd -> List (Nat × Nat) -> Option (List (Nat × Nat))
 | [], S => some S
 | n :: l, S => (dstep W S n).bind (dsteps W l)
def deepC (W : ByteArray -> Bool) (l : List Nd) : Nat :=
 match dsteps W l [] with
 | none => 0
 | some S => if l = [] \/ (S.getD (l.length - 1) (0, 0)).1 ≠ l.length then 0 else (S.getD (l.length - 1) (0, 0)).2
section
variable {W : ByteArray -> Bool} {l : List Nd}
theorem tree_leaf {e : Nat} {n : Nd} (hn : l[e]? = some n) (h : n.op = false) : tree W l (e + 1) = if n.leaf W then some (e, 1) else none := by
 rw [tree]; simp only [hn, h, Bool.false_eq_true, if_false]
theorem tree_op {e : Nat} {n : Nd} {r : Nat × Nat} (hn : l[e]? = some n) (h : n.op = true) (ht : tree W l (e + 1) = some r) :
  ∃ b x y, tree W l e = some (b, x) /\ b <= e /\ tree W l b = some (r.1, y) /\ n.a = (b : Int) - 1 /\ n.b = (e : Int) - 1 /\ n.rel = ⟨#[]⟩ /\ n.thn = ⟨#[]⟩ /\ r.2 = max x y + 1 := by
 rw [tree] at ht
 simp only [hn, h, if_true] at ht
 split at ht
 ·cases ht
 ·rename_i b x hb
  split at ht
  ·rename_i hbe
   split at ht
   ·cases ht
   ·rename_i a y ha
    split at ht
    ·cases ht
    ·rename_i hc
     cases ht
     simp only [not_or, Decidable.not_not] at hc
     exact ⟨b, x, y, hb, hbe, ha, hc.1, hc.2.1, hc.2.2.1, hc.2.2.2, rfl⟩
  ·cases ht
theorem tree_mk {e b x a y : Nat} {n : Nd} (hn : l[e]? = some n) (h : n.op = true) (h1 : tree W l e = some (b, x)) (h2 : b <= e) (h3 : tree W l b = some (a, y)) (h4 : n.a = (b : Int) - 1) (h5 : n.b = (e : Int) - 1) (h6 : n.rel = ⟨#[]⟩) (h7 : n.thn = ⟨#[]⟩) :
  tree W l (e + 1) = some (a, max x y + 1) := by
 rw [tree]
 simp only [hn, h, if_true, h1, h2, dif_pos, h3]
 rw [if_neg]
 simp [h4, h5, h6, h7]
theorem tree_some : ∀ (m : Nat) (r : Nat × Nat), tree W l m = some r -> 0 < m /\ m <= l.length /\ r.1 < m /\ ∀ i, r.1 <= i -> i < m -> (tree W l (i + 1)).isSome = true
 | m, r, h => by
  cases m with
  | zero => rw [tree] at h; cases h
  | succ e =>
   cases hn : l[e]? with
   | none => rw [tree] at h; simp only [hn] at h; cases h
   | some n =>
    have hlt := (List.getElem?_eq_some_iff.1 hn).1
    by_cases ho : n.op = true
    ·obtain ⟨b, x, y, h1, h2, h3, _⟩ := tree_op hn ho h
     obtain ⟨_, _, h4, h5⟩ := tree_some e _ h1
     obtain ⟨_, _, h6, h7⟩ := tree_some b _ h3
     refine ⟨by omega, by omega, by simp only at h4 h6; omega, λ i hi hi2 => ?_⟩
     by_cases h8 : i = e
     ·subst h8; rw [h]; rfl
     ·by_cases h9 : b <= i
      ·exact h5 i h9 (by omega)
      ·exact h7 i hi (by omega)
    ·rw [tree_leaf hn (by simpa using ho)] at h
     split at h
     ·cases h
      refine ⟨by omega, by omega, by simp, λ i hi hi2 => ?_⟩
      have : i = e := by simp only at hi; omega
      subst this
      rw [tree_leaf hn (by simpa using ho)]
      rename_i hl
      rw [if_pos hl]; rfl
     ·cases h
termination_by m => m
structure DI (W : ByteArray -> Bool) (l : List Nd) (S : List (Nat × Nat)) : Prop where
 le : S.length <= l.length
 t : ∀ j, j < S.length -> 1 <= (S.getD j (0, 0)).1 /\ (S.getD j (0, 0)).1 <= j + 1 /\ tree W l (j + 1) = some (j + 1 - (S.getD j (0, 0)).1, (S.getD j (0, 0)).2)
theorem getD_app {α : Type} (S : List α) (x d : α) (j : Nat) : (S ++ [x]).getD j d = if j < S.length then S.getD j d else if j = S.length then x else d := by
 rw [List.getD_eq_getElem?_getD, List.getD_eq_getElem?_getD]
 split
 ·rw [List.getElem?_append_left (by assumption)]
 ·rw [List.getElem?_append_right (by omega)]
  split
  ·rename_i h; subst h; simp
  ·rename_i h; rw [List.getElem?_eq_none (by simp; omega)]; rfl
theorem DI.app {S : List (Nat × Nat)} (h : DI W l S) {s d : Nat} (hl : S.length < l.length) (h1 : 1 <= s) (h2 : s <= S.length + 1) (h3 : tree W l (S.length + 1) = some (S.length + 1 - s, d)) : DI W l (S ++ [(s, d)]) :=
 ⟨by simp; omega, λ j hj => by
  rw [getD_app]
  simp only [List.length_append, List.length_singleton] at hj
  split
  ·exact h.t j (by assumption)
  ·have : j = S.length := by omega
   subst this
   rw [if_pos rfl]
   exact ⟨h1, h2, h3⟩⟩
theorem DI.step {S S' : List (Nat × Nat)} {n : Nd} (h : DI W l S) (hn : l[S.length]? = some n) (hs : dstep W S n = some S') : DI W l S' := by
 have hl := (List.getElem?_eq_some_iff.1 hn).1
 unfold dstep at hs
 split at hs
 ·rename_i ho
  split at hs
  ·cases hs
  ·rename_i hc
   cases hs
   simp only [not_or, Decidable.not_not, Int.not_lt] at hc
   obtain ⟨c1, c2, c3, c4, c5, c6⟩ := hc
   have hp : 0 < S.length := by omega
   obtain ⟨p1, p2, p3⟩ := h.t (S.length - 1) (by omega)
   have ea : n.a.toNat = S.length - 1 - (S.getD (S.length - 1) (0, 0)).1 := by omega
   have eb : n.b.toNat = S.length - 1 := by omega
   obtain ⟨q1, q2, q3⟩ := h.t n.a.toNat (by omega)
   rw [eb]
   rw [show S.length - 1 + 1 = S.length from by omega] at p3 p2
   rw [Nat.max_comm]
   refine h.app hl (by omega) (by omega) ?_
   have := tree_mk (W := W) hn ho p3 (by omega) (a := n.a.toNat + 1 - (S.getD n.a.toNat (0, 0)).1) (y := (S.getD n.a.toNat (0, 0)).2) (by rw [<- q3]; congr 1; omega) (by omega) (by omega) c1 c2
   rw [this]
   congr 2
   omega
 ·rename_i ho
  split at hs
  ·rename_i hf
   cases hs
   refine h.app hl (by omega) (by omega) ?_
   rw [tree_leaf hn (by simpa using ho), if_pos hf]
   rfl
  ·cases hs
theorem DI.fail {S : List (Nat × Nat)} {n : Nd} (h : DI W l S) (hn : l[S.length]? = some n) (hs : dstep W S n = none) : tree W l (S.length + 1) = none := by
 unfold dstep at hs
 split at hs
 ·rename_i ho
  split at hs
  ·rename_i hc
   cases ht : tree W l (S.length + 1) with
   | none => rfl
   | some r =>
    exfalso
    obtain ⟨b, x, y, h1, h2, h3, h4, h5, h6, h7, _⟩ := tree_op hn ho ht
    obtain ⟨s1, _, s2, _⟩ := tree_some _ _ h1
    obtain ⟨t1, _, t2, _⟩ := tree_some _ _ h3
    obtain ⟨p1, p2, p3⟩ := h.t (S.length - 1) (by omega)
    rw [show S.length - 1 + 1 = S.length from by omega] at p3 p2
    rw [h1] at p3
    cases p3
    rcases hc with hc | hc | hc | hc | hc | hc
    ·exact hc h6
    ·exact hc h7
    ·exact hc h5
    ·omega
    ·refine hc ?_; rw [h4]; omega
    ·omega
  ·cases hs
 ·rename_i ho
  split at hs
  ·cases hs
  ·rename_i hf
   rw [tree_leaf hn (by simpa using ho), if_neg hf]
theorem dsteps_all : ∀ (k : List Nd) (S : List (Nat × Nat)), DI W l S -> l.drop S.length = k ->
  (∃ S', dsteps W k S = some S' /\ DI W l S' /\ S'.length = l.length) \/ (dsteps W k S = none /\ ∃ i, S.length <= i /\ i < l.length /\ tree W l (i + 1) = none)
 | [], S, h, hk => .inl ⟨S, rfl, h, Nat.le_antisymm h.le (by have := congrArg List.length hk; simp at this; omega)⟩
 | n :: k, S, h, hk => by
  have hl : S.length < l.length := by have := congrArg List.length hk; simp at this; omega
  have hn : l[S.length]? = some n := by
   have := congrArg (λ x => x[0]?) hk
   simpa using this
  unfold dsteps
  cases hs : dstep W S n with
  | none => exact .inr ⟨rfl, S.length, Nat.le_refl _, hl, h.fail hn hs⟩
  | some S' =>
   have hS' := h.step hn hs
   have hl' : S'.length = S.length + 1 := by
    unfold dstep at hs
    split at hs
    ·split at hs
     ·cases hs
     ·cases hs; simp
    ·split at hs
     ·cases hs; simp
     ·cases hs
   rcases dsteps_all k S' hS' (by rw [hl', <- List.drop_drop, hk]; rfl) with ⟨T, h1, h2, h3⟩ | ⟨h1, i, h2, h3, h4⟩
   ·exact .inl ⟨T, h1, h2, h3⟩
   ·exact .inr ⟨h1, i, by omega, h3, h4⟩
theorem deep_doc (W : ByteArray -> Bool) (l : List Nd) : deepC W l = deepD W l := by
 unfold deepC deepD
 rcases dsteps_all (W := W) (l := l) l [] ⟨Nat.zero_le _, λ j hj => absurd hj (by simp)⟩ rfl with ⟨S, h1, h2, h3⟩ | ⟨h1, i, _, h2, h3⟩
 ·rw [h1]
  simp only
  by_cases hl : l = []
  ·subst hl; simp [tree]
  ·have hp : 0 < l.length := Nat.pos_of_ne_zero λ h => hl (List.length_eq_zero_iff.1 h)
   obtain ⟨p1, p2, p3⟩ := h2.t (l.length - 1) (by omega)
   rw [show l.length - 1 + 1 = l.length from by omega] at p3 p2
   rw [p3]
   simp only
   by_cases h9 : (S.getD (l.length - 1) (0, 0)).1 = l.length
   ·rw [if_neg (λ h => h.elim hl λ h => h h9), if_pos (by omega)]
   ·rw [if_pos (.inr h9), if_neg (by omega)]
 ·rw [h1]
  simp only
  cases ht : tree W l l.length with
  | none => rfl
  | some r =>
   simp only
   split
   ·rename_i h0
    have := (tree_some _ _ ht).2.2.2 i (by omega) h2
    rw [h3] at this
    cases this
   ·rfl
end
structure Ty where
 space : ByteArray
 rel : ByteArray
deriving DecidableEq
structure Rl where
 name : ByteArray
 types : List Ty
 nodes : List Nd
structure Sp where
 name : ByteArray
 rels : List Rl
structure Sc where
 name : ByteArray
 ospace : ByteArray
 oid : ByteArray
 rel : ByteArray
structure Cf where
 spaces : List Sp
 scopes : List Sc
def Cf.all (c : Cf) : List (ByteArray × Rl) := c.spaces.flatMap λ s => s.rels.map λ r => (s.name, r)
def rkey (x : ByteArray × Rl) : Ty := ⟨x.1, x.2.name⟩
def rfind (l : List (ByteArray × Rl)) (t : Ty) : Option Nat := l.findIdx? λ x => decide (rkey x = t)
def Cf.uniq (c : Cf) : Prop := (c.spaces.map (·.name)).Nodup /\ (c.all.map rkey).Nodup /\ (c.scopes.map (·.name)).Nodup
instance (c : Cf) : Decidable c.uniq := by unfold Cf.uniq; infer_instance
def setsT (l : List Ty) : List Ty := l.filter λ t => !decide (t.space = ⟨#[]⟩)
def findAll (l : List (ByteArray × Rl)) : List Ty -> Option (List Nat)
 | [] => some []
 | t :: ts => (rfind l t).bind λ i => (findAll l ts).map (i :: ·)
def targets (l : List (ByteArray × Rl)) (sp : ByteArray) (types : List Ty) (n : Nd) : Option (List Nat) :=
 if n.kind = 1 then findAll l (setsT types)
 else if n.kind = 2 then findAll l [⟨sp, n.rel⟩]
 else if n.kind = 3 then
  match rfind l ⟨sp, n.rel⟩ with
  | none => none
  | some i => match (setsT ((l.map (·.2.types)).getD i [])).map λ t => (⟨t.space, n.thn⟩ : Ty) with
   | [] => none
   | t :: ts => findAll l (t :: ts)
 else some []
def nodeE (l : List (ByteArray × Rl)) (i : Nat) (sp : ByteArray) (r : Rl) (ab : Bool) (n : Nd) : Option (List Ed) := (targets l sp r.types n).map λ ts => ts.map λ t => ⟨i, t, ab⟩
def cat {α β : Type} (f : α -> Option (List β)) : List α -> Option (List β)
 | [] => some []
 | x :: l => (f x).bind λ a => (cat f l).map (a ++ ·)
theorem cat_append {α β : Type} (f : α -> Option (List β)) : ∀ (a b : List α), cat f (a ++ b) = (cat f a).bind λ x => (cat f b).map (x ++ ·)
 | [], b => by simp [cat]
 | y :: a, b => by
  rw [List.cons_append, cat, cat_append f a b, cat]
  cases f y with
  | none => rfl
  | some u => cases cat f a with
   | none => rfl
   | some v => cases cat f b with
    | none => rfl
    | some w => simp
def walkL (l : List Nd) (m : Nat) (ab : Bool) : List (Nat × Bool) :=
 match m with
 | 0 => []
 | e + 1 => match l[e]? with
  | none => []
  | some n => if n.op then (if h : n.a.toNat + 1 <= e /\ n.b.toNat + 1 <= e then walkL l (n.a.toNat + 1) ab ++ walkL l (n.b.toNat + 1) (ab || n.kind == 6) else []) else [(e, ab)]
termination_by m
def absStep (l : List Nd) (out : List Bool) (i : Nat) : List Bool :=
 match l[i]? with
 | none => out
 | some n => if n.op then (out.set n.a.toNat (out.getD i false)).set n.b.toNat ((out.set n.a.toNat (out.getD i false)).getD i false || n.kind == 6) else out
def down (l : List Nd) (lo : Nat) : Nat -> List Bool -> List Bool
 | 0, out => out
 | k + 1, out => down l lo k (absStep l out (lo + k))
def absC (l : List Nd) : List Bool := down l 0 l.length (List.replicate l.length false)
theorem absStep_len (l : List Nd) (out : List Bool) (i : Nat) : (absStep l out i).length = out.length := by
 unfold absStep
 split
 ·rfl
 ·split <;> simp
theorem down_len (l : List Nd) (lo : Nat) : ∀ (k : Nat) (out : List Bool), (down l lo k out).length = out.length
 | 0, _ => rfl
 | k + 1, out => by rw [down, down_len l lo k, absStep_len]
theorem down_add (l : List Nd) (lo p : Nat) : ∀ (q : Nat) (out : List Bool), down l lo (p + q) out = down l lo p (down l (lo + p) q out)
 | 0, _ => rfl
 | q + 1, out => by
  rw [show p + (q + 1) = p + q + 1 from rfl, down, down_add l lo p q, down, Nat.add_assoc]
theorem bset (l : List Bool) (i j : Nat) (x : Bool) : (l.set i x).getD j false = if i = j /\ i < l.length then x else l.getD j false := by
 rw [List.getD_eq_getElem?_getD, List.getD_eq_getElem?_getD, List.getElem?_set]
 by_cases h : i = j
 ·subst h
  by_cases h2 : i < l.length
  ·simp [h2]
  ·simp [h2]
 ·simp [h]
def leafAt (l : List Nd) (i : Nat) : Bool := ((l[i]?).map λ n => !n.op).getD false
def leaves (l : List Nd) (b k : Nat) : List Nat := (List.range' b k).filter (leafAt l)
theorem leaves_add (l : List Nd) (b p q : Nat) : leaves l b (p + q) = leaves l b p ++ leaves l (b + p) q := by
 unfold leaves
 rw [<- List.filter_append]
 congr 1
 have := List.range'_append (s := b) (m := p) (n := q) (step := 1)
 rw [Nat.one_mul] at this
 exact this.symm
theorem seg {W : ByteArray -> Bool} {l : List Nd} : ∀ (m : Nat) (r : Nat × Nat), tree W l m = some r -> ∀ (out : List Bool), out.length = l.length ->
  (∀ j, j < r.1 \/ m <= j + 1 -> (down l r.1 (m - r.1) out).getD j false = out.getD j false) /\
   walkL l m (out.getD (m - 1) false) = (leaves l r.1 (m - r.1)).map λ i => (i, (down l r.1 (m - r.1) out).getD i false)
 | m, r, h => by
  intro out ho
  obtain ⟨hm0, hml, hrm, _⟩ := tree_some m r h
  cases m with
  | zero => omega
  | succ e =>
   have hel : e < l.length := by omega
   have hn : l[e]? = some l[e] := List.getElem?_eq_getElem hel
   obtain ⟨n, hne⟩ : ∃ n, n = l[e] := ⟨_, rfl⟩
   rw [<- hne] at hn
   by_cases hop : n.op = true
   ·obtain ⟨b, x, y, h1, h2, h3, ha, hb, _, _, _⟩ := tree_op hn hop h
    obtain ⟨t1, _, t2, _⟩ := tree_some _ _ h1
    obtain ⟨u1, _, u2, _⟩ := tree_some _ _ h3
    simp only at t2 u2
    have ea : n.a.toNat = b - 1 := by omega
    have eb : n.b.toNat = e - 1 := by omega
    -- the node, the second operand's, the first one's
    have hd : down l r.1 (e + 1 - r.1) out = down l r.1 (b - r.1) (down l b (e - b) (absStep l out e)) := by
     rw [show e + 1 - r.1 = (b - r.1) + ((e - b) + 1) from by omega, down_add, show r.1 + (b - r.1) = b from by omega, down, show b + (e - b) = e from by omega]
    have hs : absStep l out e = (out.set (b - 1) (out.getD e false)).set (e - 1) (out.getD e false || n.kind == 6) := by
     unfold absStep
     simp only [hn, hop, if_true, ea, eb]
     congr 2
     rw [bset, if_neg (by omega)]
    have hsl : (absStep l out e).length = l.length := by rw [absStep_len, ho]
    obtain ⟨p1, p2⟩ := seg e (b, x) h1 (absStep l out e) hsl
    simp only at p1 p2
    have hdl : (down l b (e - b) (absStep l out e)).length = l.length := by rw [down_len, hsl]
    obtain ⟨q1, q2⟩ := seg b (r.1, y) h3 (down l b (e - b) (absStep l out e)) hdl
    simp only at q1 q2
    rw [hd]
    have hse : ∀ j, j ≠ b - 1 -> j ≠ e - 1 -> (absStep l out e).getD j false = out.getD j false := λ j j1 j2 => by
     rw [hs, bset, if_neg (by omega), bset, if_neg (by omega)]
    refine ⟨λ j hj => ?_, ?_⟩
    ·rw [q1 j (by omega), p1 j (by omega), hse j (by omega) (by omega)]
    ·have hw : walkL l (e + 1) (out.getD (e + 1 - 1) false) = walkL l b (out.getD e false) ++ walkL l e (out.getD e false || n.kind == 6) := by
      rw [walkL]
      simp only [hn, hop, if_true, Nat.add_sub_cancel]
      rw [dif_pos (by omega), ea, eb, show b - 1 + 1 = b from by omega, show e - 1 + 1 = e from by omega]
     have v1 : (absStep l out e).getD (e - 1) false = (out.getD e false || n.kind == 6) := by rw [hs, bset, if_pos ⟨rfl, by simp; omega⟩]
     have v2 : (down l b (e - b) (absStep l out e)).getD (b - 1) false = out.getD e false := by
      rw [p1 (b - 1) (by omega), hs, bset, if_neg (by omega), bset, if_pos ⟨rfl, by omega⟩]
     rw [v1] at p2
     rw [v2] at q2
     rw [hw, p2, q2, show e + 1 - r.1 = (b - r.1) + ((e - b) + 1) from by omega, leaves_add, leaves_add, show r.1 + (b - r.1) = b from by omega, show b + (e - b) = e from by omega, List.map_append, List.map_append]
     have hl0 : leaves l e 1 = [] := by
      unfold leaves
      rw [List.range'_one, List.filter_cons_of_neg, List.filter_nil]
      simp [leafAt, hn, hop]
     rw [hl0, List.map_nil, List.append_nil]
     congr 1
     refine List.map_congr_left λ i hi => ?_
     have hi' := (List.mem_filter.1 hi).1
     rw [List.mem_range'_1] at hi'
     rw [q1 i (by omega)]
   ·have hop' : n.op = false := by simpa using hop
    rw [tree_leaf hn hop'] at h
    split at h
    ·cases h
     simp only
     rw [show e + 1 - e = 0 + 1 from by omega, down, down]
     have hs : absStep l out (e + 0) = out := by unfold absStep; simp only [Nat.add_zero, hn, hop', Bool.false_eq_true, if_false]
     rw [hs]
     refine ⟨λ j _ => rfl, ?_⟩
     rw [walkL]
     simp only [hn, hop', Bool.false_eq_true, if_false, Nat.add_sub_cancel]
     unfold leaves
     rw [List.range'_one, List.filter_cons_of_pos, List.filter_nil]
     ·rfl
     ·simp [leafAt, hn, hop']
    ·cases h
termination_by m => m
def relD (l : List (ByteArray × Rl)) (i : Nat) (sp : ByteArray) (r : Rl) : Option (List Ed) :=
 if (findAll l (setsT r.types)).isSome then cat (λ p : Nat × Bool => (r.nodes[p.1]?).bind λ n => nodeE l i sp r p.2 n) (walkL r.nodes r.nodes.length false) else none
def relC (l : List (ByteArray × Rl)) (i : Nat) (sp : ByteArray) (r : Rl) : Option (List Ed) :=
 if (findAll l (setsT r.types)).isSome then cat (λ k : Nat => (r.nodes[k]?).bind λ n => nodeE l i sp r ((absC r.nodes).getD k false) n) (List.range' 0 r.nodes.length) else none
theorem targets_op {l : List (ByteArray × Rl)} {sp : ByteArray} {ts : List Ty} {n : Nd} (h : n.op = true) : targets l sp ts n = some [] := by
 unfold Nd.op at h
 unfold targets
 rw [if_neg (λ e => by simp [e] at h), if_neg (λ e => by simp [e] at h), if_neg (λ e => by simp [e] at h)]
theorem cat_leaves {l : List Nd} {β : Type} (f : Nat -> Option (List β)) (hf : ∀ i, leafAt l i = false -> i < l.length -> f i = some []) : ∀ (k b : Nat), b + k <= l.length -> cat f (List.range' b k) = cat f (leaves l b k)
 | 0, b, _ => rfl
 | k + 1, b, h => by
  unfold leaves
  rw [List.range'_succ, List.filter_cons]
  have ih := cat_leaves f hf k (b + 1) (by omega)
  unfold leaves at ih
  split
  ·rw [cat, cat, ih]
  ·rename_i h1
   rw [cat, hf b (by simpa using h1) (by omega), ih]
   cases cat f (List.filter (leafAt l) (List.range' (b + 1) k)) <;> rfl
theorem cat_map {α γ β : Type} (f : α -> Option (List β)) (g : γ -> α) : ∀ l : List γ, cat f (l.map g) = cat (λ x => f (g x)) l
 | [] => rfl
 | x :: l => by rw [List.map_cons, cat, cat, cat_map f g l]
theorem rel_doc {W : ByteArray -> Bool} {l : List (ByteArray × Rl)} {i : Nat} {sp : ByteArray} {r : Rl} (h : deepD W r.nodes ≠ 0) : relC l i sp r = relD l i sp r := by
 unfold relC relD
 split
 ·unfold deepD at h
  cases ht : tree W r.nodes r.nodes.length with
  | none => rw [ht] at h; exact absurd rfl h
  | some p =>
   obtain ⟨b, x⟩ := p
   rw [ht] at h
   simp only at h
   have hb : b = 0 := by
    by_cases h0 : b = 0
    ·exact h0
    ·rw [if_neg h0] at h; exact absurd rfl h
   subst hb
   have hs := (seg _ _ ht (List.replicate r.nodes.length false) (by simp)).2
   simp only [Nat.sub_zero] at hs
   rw [show (List.replicate r.nodes.length false).getD (r.nodes.length - 1) false = false from by
    rw [List.getD_eq_getElem?_getD, List.getElem?_replicate]; split <;> rfl] at hs
   rw [hs, cat_map]
   refine cat_leaves _ (λ k hk hkl => ?_) _ 0 (by omega)
   have hn : r.nodes[k]? = some r.nodes[k] := List.getElem?_eq_getElem hkl
   unfold leafAt at hk
   rw [hn] at hk ⊢
   simp only [Option.map_some, Option.getD_some, Bool.not_eq_false'] at hk
   simp only [Option.bind_some, nodeE, targets_op hk, Option.map_some, List.map_nil]
 ·rfl
def kindOK (W : ByteArray -> Bool) (t : Ty) : Bool := decide (t.space = ⟨#[]⟩) && decide (t.rel = ⟨#[]⟩) || W t.space && W t.rel
def relOK (W : ByteArray -> Bool) (r : Rl) : Bool := W r.name && deepD W r.nodes != 0 && r.types.all (kindOK W)
def muchR (W : ByteArray -> Bool) (r : Rl) : Bool := decide (8 < r.types.length) || decide (64 < r.nodes.length) || decide (16 < deepD W r.nodes)
def Cf.much (W : ByteArray -> Bool) (c : Cf) : Bool := decide (16 < c.spaces.length) || decide (16 < c.scopes.length) || c.spaces.any λ s => decide (16 < s.rels.length) || s.rels.any (muchR W)
def scOK (W : ByteArray -> Bool) (F : ByteArray -> ByteArray -> Bool) (s : Sc) : Bool := W s.name && F s.ospace s.oid && W s.rel
def Cf.right (W : ByteArray -> Bool) (F : ByteArray -> ByteArray -> Bool) (c : Cf) : Bool := (c.spaces.all λ s => W s.name && s.rels.all (relOK W)) && c.scopes.all (scOK W F) && !c.much W
def enum {α : Type} : Nat -> List α -> List (Nat × α)
 | _, [] => []
 | i, x :: l => (i, x) :: enum (i + 1) l
theorem enum_mem {α : Type} {x : Nat × α} : ∀ {l : List α} {i : Nat}, x ∈ enum i l -> i <= x.1 /\ x.1 < i + l.length /\ x.2 ∈ l
 | [], _, h => by cases h
 | y :: l, i, h => by
  rcases List.mem_cons.1 h with rfl | h
  ·exact ⟨Nat.le_refl _, by simp, List.mem_cons_self⟩
  ·obtain ⟨h1, h2, h3⟩ := enum_mem h
   exact ⟨by omega, by simp only [List.length_cons]; omega, List.mem_cons_of_mem _ h3⟩
def scopesOK (c : Cf) : Bool := c.scopes.all λ s => (rfind c.all ⟨s.ospace, s.rel⟩).isSome
def Cf.edgesD (c : Cf) : Option (List Ed) := if scopesOK c then cat (λ p : Nat × (ByteArray × Rl) => relD c.all p.1 p.2.1 p.2.2) (enum 0 c.all) else none
def Cf.edgesC (c : Cf) : Option (List Ed) := if scopesOK c then cat (λ p : Nat × (ByteArray × Rl) => relC c.all p.1 p.2.1 p.2.2) (enum 0 c.all) else none
theorem cat_congr {α β : Type} {f g : α -> Option (List β)} : ∀ {l : List α}, (∀ x ∈ l, f x = g x) -> cat f l = cat g l
 | [], _ => rfl
 | x :: l, h => by rw [cat, cat, h x List.mem_cons_self, cat_congr λ y hy => h y (List.mem_cons_of_mem _ hy)]
theorem cat_mem {α β : Type} {f : α -> Option (List β)} {y : β} : ∀ {l : List α} {o : List β}, cat f l = some o -> y ∈ o -> ∃ x ∈ l, ∃ u, f x = some u /\ y ∈ u
 | [], o, h, hy => by cases h; cases hy
 | x :: l, o, h, hy => by
  rw [cat] at h
  cases hx : f x with
  | none => rw [hx] at h; cases h
  | some u =>
   cases hl : cat f l with
   | none => rw [hx, hl] at h; cases h
   | some v =>
    rw [hx, hl] at h
    simp only [Option.bind_some, Option.map_some, Option.some.injEq] at h
    subst h
    rcases List.mem_append.1 hy with hy | hy
    ·exact ⟨x, List.mem_cons_self, u, hx, hy⟩
    ·obtain ⟨z, hz, w, hw, hyw⟩ := cat_mem hl hy
     exact ⟨z, List.mem_cons_of_mem _ hz, w, hw, hyw⟩
section
variable {W : ByteArray -> Bool} {F : ByteArray -> ByteArray -> Bool} {c : Cf}
theorem right_rel (h : c.right W F = true) : ∀ x ∈ c.all, relOK W x.2 = true /\ muchR W x.2 = false := λ x hx => by
 unfold Cf.right Cf.much at h
 simp only [Bool.and_eq_true, List.all_eq_true, Bool.not_eq_true', Bool.or_eq_false_iff, List.any_eq_false] at h
 obtain ⟨s, hs, hx⟩ := List.mem_flatMap.1 hx
 obtain ⟨r, hr, rfl⟩ := List.mem_map.1 hx
 have h1 := (h.1.1 s hs).2 r hr
 have h2 := h.2.2 s hs
 simp only [Bool.not_eq_true, Bool.or_eq_false_iff, List.any_eq_false] at h2
 exact ⟨h1, by simpa using h2.2 r hr⟩
theorem edges_doc (h : c.right W F = true) : c.edgesC = c.edgesD := by
 unfold Cf.edgesC Cf.edgesD
 split
 ·refine cat_congr λ p hp => ?_
  have h1 := (right_rel h _ (enum_mem hp).2.2).1
  unfold relOK at h1
  simp only [Bool.and_eq_true, bne_iff_ne, ne_eq] at h1
  exact rel_doc h1.1.2
 ·rfl
theorem rfind_lt {l : List (ByteArray × Rl)} {t : Ty} {i : Nat} (h : rfind l t = some i) : i < l.length := by
 unfold rfind at h
 exact (List.findIdx?_eq_some_iff_getElem.1 h).1
theorem findAll_lt {l : List (ByteArray × Rl)} : ∀ {ts : List Ty} {o : List Nat}, findAll l ts = some o -> ∀ i ∈ o, i < l.length
 | [], o, h, i, hi => by cases h; cases hi
 | t :: ts, o, h, i, hi => by
  rw [findAll] at h
  cases h1 : rfind l t with
  | none => rw [h1] at h; cases h
  | some j =>
   cases h2 : findAll l ts with
   | none => rw [h1, h2] at h; cases h
   | some v =>
    rw [h1, h2] at h
    simp only [Option.bind_some, Option.map_some, Option.some.injEq] at h
    subst h
    rcases List.mem_cons.1 hi with rfl | hi
    ·exact rfind_lt h1
    ·exact findAll_lt h2 i hi
theorem targets_lt {l : List (ByteArray × Rl)} {sp : ByteArray} {ts : List Ty} {n : Nd} {o : List Nat} (h : targets l sp ts n = some o) : ∀ i ∈ o, i < l.length := by
 unfold targets at h
 split at h
 ·exact findAll_lt h
 ·split at h
  ·exact findAll_lt h
  ·split at h
   ·split at h
    ·cases h
    ·split at h
     ·cases h
     ·exact findAll_lt h
   ·cases h; intro i hi; cases hi
theorem edgesD_lt {E : List Ed} (h : c.edgesD = some E) : ∀ e ∈ E, e.f < c.all.length /\ e.t < c.all.length := λ e he => by
 unfold Cf.edgesD at h
 split at h
 ·obtain ⟨p, hp, u, hu, heu⟩ := cat_mem h he
  have hpl := (enum_mem hp).2.1
  unfold relD at hu
  split at hu
  ·obtain ⟨q, hq, v, hv, hev⟩ := cat_mem hu heu
   cases hn : p.2.2.nodes[q.1]? with
   | none => rw [hn] at hv; cases hv
   | some n =>
    rw [hn, Option.bind_some] at hv
    unfold nodeE at hv
    cases ht : targets c.all p.2.1 p.2.2.types n with
    | none => rw [ht] at hv; cases hv
    | some o =>
     rw [ht, Option.map_some, Option.some.injEq] at hv
     subst hv
     obtain ⟨i, hi, rfl⟩ := List.mem_map.1 hev
     exact ⟨by simpa using hpl, targets_lt ht i hi⟩
  ·cases hu
 ·cases h
end
def rows : List Sp -> List Nat -> List (List Nat)
 | [], _ => []
 | s :: l, n => n.take s.rels.length :: rows l (n.drop s.rels.length)
def Cf.numbers (W : ByteArray -> Bool) (F : ByteArray -> ByteArray -> Bool) (c : Cf) : Int × List (List Nat) :=
 if c.right W F = false then (4, []) else if ¬ c.uniq then (10, []) else
 match c.edgesD with
 | none => (14, [])
 | some E => if docOK E c.all.length = true then (0, rows c.spaces (level E c.all.length (c.all.length + 1))) else (15, [])
def Cf.numbersC (W : ByteArray -> Bool) (F : ByteArray -> ByteArray -> Bool) (c : Cf) : Int × List (List Nat) :=
 if c.right W F = false then (4, []) else if ¬ c.uniq then (10, []) else
 match c.edgesC with
 | none => (14, [])
 | some E => match settle E (c.all.length + 1) (List.replicate c.all.length 0) with
  | none => (15, [])
  | some n => (0, rows c.spaces n)
theorem numbers_doc (W : ByteArray -> Bool) (F : ByteArray -> ByteArray -> Bool) (c : Cf) : c.numbersC W F = c.numbers W F := by
 unfold Cf.numbersC Cf.numbers
 split
 ·rfl
 ·rename_i h
  split
  ·rfl
  ·rw [edges_doc (by simpa using h)]
   cases he : c.edgesD with
   | none => rfl
   | some E =>
    simp only
    rw [settle_doc (λ e h9 => (edgesD_lt he e h9).1) λ e h9 => (edgesD_lt he e h9).2]
    by_cases hd : docOK E c.all.length = true
    ·rw [if_pos hd, if_pos hd]
    ·rw [if_neg hd, if_neg hd]
structure LTok where
 kind : Int
 text : ByteArray
 pos : Nat
deriving DecidableEq
def isLetter (c : UInt8) : Bool := (decide (97 <= c.toNat) && decide (c.toNat <= 122)) || (decide (65 <= c.toNat) && decide (c.toNat <= 90)) || (decide (48 <= c.toNat) && decide (c.toNat <= 57)) || decide (c.toNat = 95)
def isBlank (c : UInt8) : Bool := decide (c.toNat = 32) || decide (c.toNat = 9) || decide (c.toNat = 10) || decide (c.toNat = 13)
def isRest (c : UInt8) : Bool := !decide (c.toNat = 10)
def isInner (c : UInt8) : Bool := decide (32 <= c.toNat) && decide (c.toNat <= 126) && !decide (c.toNat = 34)
def signsL : List UInt8 := [123, 125, 59, 58, 61, 124, 38, 45, 40, 41, 35, 44]
def byteAt (s : ByteArray) (i : Nat) : UInt8 := s.data.getD i 0
def runE (s : ByteArray) (p : UInt8 -> Bool) : Nat -> Nat -> Nat
 | 0, i => i
 | f + 1, i => if i < s.size && p (byteAt s i) then runE s p f (i + 1) else i
def run (s : ByteArray) (p : UInt8 -> Bool) (i : Nat) : Nat := runE s p (s.size - i) i
structure RunTo (s : ByteArray) (p : UInt8 -> Bool) (i j : Nat) : Prop where
 le : i <= j
 sz : j <= s.size
 all : ∀ k, i <= k -> k < j -> p (byteAt s k) = true
 stop : j = s.size \/ p (byteAt s j) = false
theorem RunTo.uniq {s : ByteArray} {p : UInt8 -> Bool} {i j k : Nat} (h : RunTo s p i j) (h' : RunTo s p i k) : j = k := by
 rcases Nat.lt_trichotomy j k with h1 | h1 | h1
 ·have := h'.all j h.le h1
  rcases h.stop with h2 | h2
  ·have := h'.sz; omega
  ·rw [h2] at this; cases this
 ·exact h1
 ·have := h.all k h'.le h1
  rcases h'.stop with h2 | h2
  ·have := h.sz; omega
  ·rw [h2] at this; cases this
theorem runE_to {s : ByteArray} {p : UInt8 -> Bool} : ∀ (f i : Nat), i <= s.size -> s.size <= i + f -> RunTo s p i (runE s p f i)
 | 0, i, h, hf => ⟨Nat.le_refl _, h, λ k h1 h2 => absurd h2 (by rw [runE]; omega), .inl (by rw [runE]; omega)⟩
 | f + 1, i, h, hf => by
  rw [runE]
  split
  ·rename_i hc
   simp only [Bool.and_eq_true, decide_eq_true_eq] at hc
   have ih := runE_to (s := s) (p := p) f (i + 1) (by omega) (by omega)
   refine ⟨by have := ih.le; omega, ih.sz, λ k h1 h2 => ?_, ih.stop⟩
   by_cases e : k = i
   ·rw [e]; exact hc.2
   ·exact ih.all k (by omega) h2
  ·rename_i hc
   refine ⟨Nat.le_refl _, h, λ k h1 h2 => absurd h2 (by omega), ?_⟩
   rcases Nat.lt_or_ge i s.size with h1 | h1
   ·right
    cases hp : p (byteAt s i) with
    | false => rfl
    | true => exact absurd (by simp [h1, hp]) hc
   ·exact .inl (by omega)
theorem run_to {s : ByteArray} {p : UInt8 -> Bool} {i : Nat} (h : i <= s.size) : RunTo s p i (run s p i) := runE_to _ _ h (by omega)
theorem RunTo.run {s : ByteArray} {p : UInt8 -> Bool} {i j : Nat} (h : RunTo s p i j) : j = run s p i := h.uniq (run_to (Nat.le_trans h.le h.sz))
def two (s : ByteArray) (i : Nat) (a b : UInt8) : Bool := decide (i + 2 <= s.size) && decide (byteAt s i = a) && decide (byteAt s (i + 1) = b)
def skipE (s : ByteArray) : Nat -> Nat -> Nat
 | 0, i => run s isBlank i
 | f + 1, i => if two s (run s isBlank i) 47 47 then skipE s f (run s isRest (run s isBlank i)) else run s isBlank i
def skipT (s : ByteArray) (i : Nat) : Nat := skipE s (s.size - i) i
theorem skip_ge {s : ByteArray} {i : Nat} (h : i <= s.size) : i <= run s isBlank i /\ run s isBlank i <= s.size := ⟨(run_to h).le, (run_to h).sz⟩
theorem rest_more {s : ByteArray} {i : Nat} (h : two s i 47 47 = true) : i + 2 <= run s isRest i /\ run s isRest i <= s.size := by
 unfold two at h
 simp only [Bool.and_eq_true, decide_eq_true_eq] at h
 have ht := run_to (s := s) (p := isRest) (i := i) (by omega)
 refine ⟨?_, ht.sz⟩
 rcases Nat.lt_or_ge (run s isRest i) (i + 2) with h1 | h1
 ·exfalso
  rcases ht.stop with h2 | h2
  ·omega
  ·have h3 := ht.le
   rcases Nat.lt_or_ge i (run s isRest i) with h4 | h4
   ·have : run s isRest i = i + 1 := by omega
    rw [this, h.2] at h2
    revert h2; decide
   ·have : run s isRest i = i := by omega
    rw [this, h.1.2] at h2
    revert h2; decide
 ·exact h1
theorem skipE_fuel {s : ByteArray} : ∀ (f g i : Nat), i <= s.size -> s.size <= i + f -> s.size <= i + g -> skipE s f i = skipE s g i
 | 0, 0, _, _, _, _ => rfl
 | 0, g + 1, i, h, hf, _ => by
  rw [skipE, skipE, if_neg]
  unfold two
  simp only [Bool.and_eq_true, decide_eq_true_eq]
  have := (skip_ge h).1
  omega
 | f + 1, 0, i, h, _, hg => by
  rw [skipE, skipE, if_neg]
  unfold two
  simp only [Bool.and_eq_true, decide_eq_true_eq]
  have := (skip_ge h).1
  omega
 | f + 1, g + 1, i, h, hf, hg => by
  rw [skipE, skipE]
  split
  ·rename_i hc
   have h1 := (skip_ge h).1
   obtain ⟨h2, h3⟩ := rest_more hc
   exact skipE_fuel f g _ h3 (by omega) (by omega)
  ·rfl
theorem skip_turn {s : ByteArray} {i : Nat} (h : i <= s.size) : skipT s i = if two s (run s isBlank i) 47 47 then skipT s (run s isRest (run s isBlank i)) else run s isBlank i := by
 by_cases hc : two s (run s isBlank i) 47 47 = true
 ·rw [if_pos hc]
  have h1 := (skip_ge h).1
  obtain ⟨h2, h3⟩ := rest_more hc
  unfold skipT
  obtain ⟨f, hf⟩ : ∃ f, s.size - i = f + 1 := ⟨s.size - i - 1, by omega⟩
  rw [hf, skipE, if_pos hc]
  exact skipE_fuel _ _ _ h3 (by omega) (by omega)
 ·rw [if_neg hc]
  unfold skipT
  cases s.size - i with
  | zero => rfl
  | succ f => rw [skipE, if_neg hc]
def tokenE (s : ByteArray) (i : Nat) : Option (LTok × Nat) :=
 if isLetter (byteAt s i) then some (⟨1, s.extract i (run s isLetter i), i⟩, run s isLetter i)
 else if (byteAt s i).toNat = 34 then
  if run s isInner (i + 1) = s.size \/ (byteAt s (run s isInner (i + 1))).toNat ≠ 34 then none
  else some (⟨2, s.extract (i + 1) (run s isInner (i + 1)), i⟩, run s isInner (i + 1) + 1)
 else if two s i 45 62 then some (⟨3, ⟨#[45, 62]⟩, i⟩, i + 2)
 else if signsL.contains (byteAt s i) then some (⟨3, s.extract i (i + 1), i⟩, i + 1)
 else none
theorem token_more {s : ByteArray} {i j : Nat} {t : LTok} (hi : i < s.size) (h : tokenE s i = some (t, j)) : i < j /\ j <= s.size := by
 unfold tokenE at h
 split at h
 ·rename_i hl
  cases h
  have ht := run_to (s := s) (p := isLetter) (i := i) (by omega)
  refine ⟨?_, ht.sz⟩
  rcases Nat.lt_or_ge i (run s isLetter i) with h1 | h1
  ·exact h1
  ·have e : run s isLetter i = i := Nat.le_antisymm h1 ht.le
   rcases ht.stop with h2 | h2
   ·omega
   ·rw [e, hl] at h2; cases h2
 ·split at h
  ·split at h
   ·cases h
   ·rename_i hc
    cases h
    have ht := run_to (s := s) (p := isInner) (i := i + 1) (by omega)
    have h1 := ht.le
    have h2 := ht.sz
    exact ⟨by omega, by omega⟩
  ·split at h
   ·rename_i h2
    cases h
    unfold two at h2
    simp only [Bool.and_eq_true, decide_eq_true_eq] at h2
    omega
   ·split at h
    ·cases h; omega
    ·cases h
def lexE (s : ByteArray) : Nat -> Nat -> List LTok -> Option (List LTok)
 | 0, _, _ => none
 | f + 1, i, l => if skipT s i = s.size then some l else
  match tokenE s (skipT s i) with
  | none => none
  | some (t, j) => lexE s f j (l ++ [t])
def lexT (s : ByteArray) : Option (List LTok) := lexE s (s.size + 1) 0 []
def tNamespace : ByteArray := ⟨#[110, 97, 109, 101, 115, 112, 97, 99, 101]⟩
def tScope : ByteArray := ⟨#[115, 99, 111, 112, 101]⟩
def tRelation : ByteArray := ⟨#[114, 101, 108, 97, 116, 105, 111, 110]⟩
def tUser : ByteArray := ⟨#[117, 115, 101, 114]⟩
def tThis : ByteArray := ⟨#[116, 104, 105, 115]⟩
def tOpen : ByteArray := ⟨#[123]⟩
def tClose : ByteArray := ⟨#[125]⟩
def tColon : ByteArray := ⟨#[58]⟩
def tBar : ByteArray := ⟨#[124]⟩
def tEq : ByteArray := ⟨#[61]⟩
def tSemi : ByteArray := ⟨#[59]⟩
def tHash : ByteArray := ⟨#[35]⟩
def tMinus : ByteArray := ⟨#[45]⟩
def tAnd : ByteArray := ⟨#[38]⟩
def tLp : ByteArray := ⟨#[40]⟩
def tRp : ByteArray := ⟨#[41]⟩
def tArrow : ByteArray := ⟨#[45, 62]⟩
abbrev PSt : Type := List LTok × Bool
def pFail : PSt := ([], true)
def pTake (s : ByteArray) (st : PSt) : Option PSt :=
 match st.1 with
 | [] => none
 | t :: r => if t.kind = 2 \/ t.text ≠ s then none else some (r, st.2)
def pMust (s : ByteArray) (st : PSt) : PSt := (pTake s st).getD pFail
section
variable (W : ByteArray -> Bool)
def pWord (st : PSt) : ByteArray × PSt :=
 match st.1 with
 | [] => (⟨#[]⟩, pFail)
 | t :: r => if t.kind ≠ 1 \/ W t.text = false then (⟨#[]⟩, pFail) else (t.text, (r, st.2))
def pKind (st : PSt) : Ty × PSt :=
 match pTake tUser st with
 | some s => (⟨⟨#[]⟩, ⟨#[]⟩⟩, s)
 | none => (⟨(pWord W st).1, (pWord W (pMust tHash (pWord W st).2)).1⟩, (pWord W (pMust tHash (pWord W st).2)).2)
def pTypes : Nat -> List Ty -> PSt -> List Ty × PSt
 | 0, l, st => (l, st)
 | f + 1, l, st => match pTake tBar st with
  | none => (l, st)
  | some s => pTypes f (l ++ [(pKind W s).1]) (pKind W s).2
def joined (l : List Nd) (kind : Int) (a : Int) : List Nd := l ++ [⟨kind, ⟨#[]⟩, ⟨#[]⟩, a, (l.length : Int) - 1⟩]
def termLoop (fac : List Nd -> PSt -> List Nd × PSt) : Nat -> List Nd -> PSt -> List Nd × PSt
 | 0, l, st => (l, st)
 | g + 1, l, st => if st.2 then (l, st) else
  match pTake tAnd st with
  | none => (l, st)
  | some s => termLoop fac g (joined (fac l s).1 5 ((l.length : Int) - 1)) (fac l s).2
def pTerm (fac : List Nd -> PSt -> List Nd × PSt) (l : List Nd) (st : PSt) : List Nd × PSt := termLoop fac ((fac l st).2.1.length + 1) (fac l st).1 (fac l st).2
def pOper (st : PSt) : Option (Int × PSt) :=
 match pTake tBar st with
 | some s => some (4, s)
 | none => (pTake tMinus st).map λ s => (6, s)
def exprLoop (fac : List Nd -> PSt -> List Nd × PSt) : Nat -> List Nd -> PSt -> List Nd × PSt
 | 0, l, st => (l, st)
 | g + 1, l, st => match pOper st with
  | none => (l, st)
  | some (k, s) => if s.2 then (l, s) else exprLoop fac g (joined (pTerm fac l s).1 k ((l.length : Int) - 1)) (pTerm fac l s).2
def pExpr (fac : List Nd -> PSt -> List Nd × PSt) (l : List Nd) (st : PSt) : List Nd × PSt := exprLoop fac ((pTerm fac l st).2.1.length + 1) (pTerm fac l st).1 (pTerm fac l st).2
def pFactor : Nat -> List Nd -> PSt -> List Nd × PSt
 | 0, l, st => (l, st)
 | f + 1, l, st =>
  match pTake tThis st with
  | some s => (l ++ [⟨1, ⟨#[]⟩, ⟨#[]⟩, 0, 0⟩], s)
  | none => match pTake tLp st with
   | some s => ((pExpr (pFactor f) l s).1, pMust tRp (pExpr (pFactor f) l s).2)
   | none => match pTake tArrow (pWord W st).2 with
    | none => (l ++ [⟨2, (pWord W st).1, ⟨#[]⟩, 0, 0⟩], (pWord W st).2)
    | some s => (l ++ [⟨3, (pWord W st).1, (pWord W s).1, 0, 0⟩], (pWord W s).2)
def pNodes (st : PSt) : List Nd × PSt :=
 match pTake tEq st with
 | none => ([⟨1, ⟨#[]⟩, ⟨#[]⟩, 0, 0⟩], st)
 | some s => pExpr (pFactor W (s.1.length + 1)) [] s
def pTyped (st : PSt) : List Ty × PSt :=
 match pTake tColon st with
 | none => ([], st)
 | some s => pTypes W ((pKind W s).2.1.length + 1) [(pKind W s).1] (pKind W s).2
def pRel (st : PSt) : Rl × PSt :=
 (⟨(pWord W st).1, (pTyped W (pWord W st).2).1, (pNodes W (pTyped W (pWord W st).2).2).1⟩, pMust tSemi (pNodes W (pTyped W (pWord W st).2).2).2)
def pRels : Nat -> List Rl -> PSt -> List Rl × PSt
 | 0, l, st => (l, st)
 | f + 1, l, st => match pTake tRelation st with
  | none => (l, st)
  | some s => pRels f (l ++ [(pRel W s).1]) (pRel W s).2
def pSpace (st : PSt) : Sp × PSt :=
 let s1 := pWord W st
 let s2 := pMust tOpen s1.2
 let s3 := pRels W (s2.1.length + 1) [] s2
 (⟨s1.1, s3.1⟩, pMust tClose s3.2)
end
def offs : List Sp -> Nat -> Nat
 | [], _ => 0
 | _, 0 => 0
 | s :: l, i + 1 => s.rels.length + offs l i
def total (l : List Sp) : Nat := offs l l.length
theorem total_all (c : Cf) : total c.spaces = c.all.length := by
 unfold Cf.all total
 induction c.spaces with
 | nil => rfl
 | cons s l ih => rw [List.length_cons, offs, ih, List.flatMap_cons, List.length_append, List.length_map]
theorem rows_len : ∀ (l : List Sp) (n : List Nat), (rows l n).length = l.length
 | [], _ => rfl
 | s :: l, n => by rw [rows, List.length_cons, rows_len l, List.length_cons]
theorem offs_le : ∀ {l : List Sp} {i : Nat} {s : Sp}, l[i]? = some s -> offs l i + s.rels.length <= total l
 | [], i, s, h => by simp at h
 | x :: l, 0, s, h => by
  simp only [List.getElem?_cons_zero, Option.some.injEq] at h
  subst h
  show offs (x :: l) 0 + _ <= x.rels.length + offs l l.length
  simp [offs]
 | x :: l, i + 1, s, h => by
  have := offs_le (l := l) (i := i) (s := s) (by simpa using h)
  show x.rels.length + offs l i + _ <= x.rels.length + offs l l.length
  unfold total at this
  omega
theorem rows_at : ∀ {l : List Sp} {n : List Nat} {i : Nat} {s : Sp}, l[i]? = some s -> (rows l n)[i]? = some ((n.drop (offs l i)).take s.rels.length)
 | [], n, i, s, h => by simp at h
 | x :: l, n, 0, s, h => by
  simp only [List.getElem?_cons_zero, Option.some.injEq] at h
  subst h
  rw [rows]
  simp [offs]
 | x :: l, n, i + 1, s, h => by
  rw [rows, List.getElem?_cons_succ, rows_at (l := l) (n := n.drop x.rels.length) (by simpa using h), List.drop_drop]
  rfl
theorem rows_set : ∀ {l : List Sp} {n : List Nat} {i k x : Nat} {s : Sp}, l[i]? = some s -> k < s.rels.length -> n.length = total l ->
  rows l (n.set (offs l i + k) x) = (rows l n).set i (((n.drop (offs l i)).take s.rels.length).set k x)
 | [], n, i, k, x, s, h, _, _ => by simp at h
 | y :: l, n, 0, k, x, s, h, hk, hn => by
  simp only [List.getElem?_cons_zero, Option.some.injEq] at h
  subst h
  rw [rows, rows, List.set_cons_zero]
  simp only [offs, Nat.zero_add, List.drop_zero]
  rw [List.take_set, List.drop_set_of_lt hk]
 | y :: l, n, i + 1, k, x, s, h, hk, hn => by
  have h' : l[i]? = some s := by simpa using h
  have hn' : (n.drop y.rels.length).length = total l := by
   rw [List.length_drop, hn]
   show y.rels.length + offs l l.length - y.rels.length = offs l l.length
   omega
  rw [rows, rows, List.set_cons_succ]
  have e : offs (y :: l) (i + 1) + k = y.rels.length + (offs l i + k) := by show y.rels.length + offs l i + k = _; omega
  rw [e]
  congr 1
  ·rw [List.take_set, List.set_eq_of_length_le]
   rw [List.length_take]; omega
  ·rw [List.drop_set, if_neg (by omega), show y.rels.length + (offs l i + k) - y.rels.length = offs l i + k from by omega, rows_set h' hk hn', List.drop_drop]
   rfl
theorem rows_zero : ∀ (l : List Sp), rows l (List.replicate (total l) 0) = l.map λ s => List.replicate s.rels.length 0
 | [] => rfl
 | s :: l => by
  have e : total (s :: l) = s.rels.length + total l := rfl
  rw [rows, e, List.map_cons]
  congr 1
  ·rw [List.take_replicate]; congr 1; omega
  ·rw [List.drop_replicate, show s.rels.length + total l - s.rels.length = total l from by omega, rows_zero l]
theorem all_at : ∀ {l : List Sp} {i k : Nat} {s : Sp} {r : Rl}, l[i]? = some s -> s.rels[k]? = some r -> (l.flatMap λ s => s.rels.map λ r => (s.name, r))[offs l i + k]? = some (s.name, r)
 | [], i, k, s, r, h, _ => by simp at h
 | x :: l, 0, k, s, r, h, hr => by
  simp only [List.getElem?_cons_zero, Option.some.injEq] at h
  subst h
  have hk := (List.getElem?_eq_some_iff.1 hr).1
  rw [List.flatMap_cons, List.getElem?_append_left (by simp [offs]; exact hk), offs, Nat.zero_add, List.getElem?_map, hr]
  ·rfl
  ·simp
 | x :: l, i + 1, k, s, r, h, hr => by
  rw [List.flatMap_cons, List.getElem?_append_right (by rw [List.length_map]; show _ <= x.rels.length + offs l i + k; omega), List.length_map]
  show (List.flatMap _ l)[x.rels.length + offs l i + k - x.rels.length]? = _
  rw [show x.rels.length + offs l i + k - x.rels.length = offs l i + k from by omega]
  exact all_at (by simpa using h) hr
def spotsR (i : Nat) (sp : ByteArray) : Nat -> List Rl -> List (Ty × (Nat × Nat))
 | _, [] => []
 | k, r :: rs => (⟨sp, r.name⟩, (i, k)) :: spotsR i sp (k + 1) rs
def spots : Nat -> List Sp -> List (Ty × (Nat × Nat))
 | _, [] => []
 | i, s :: l => spotsR i s.name 0 s.rels ++ spots (i + 1) l
theorem spotsR_keys (i : Nat) (sp : ByteArray) : ∀ (rs : List Rl) (k : Nat), (spotsR i sp k rs).map (·.1) = rs.map λ r => rkey (sp, r)
 | [], _ => rfl
 | r :: rs, k => by rw [spotsR, List.map_cons, List.map_cons, spotsR_keys i sp rs]; rfl
theorem spots_keys : ∀ (l : List Sp) (i : Nat), (spots i l).map (·.1) = (l.flatMap λ s => s.rels.map λ r => (s.name, r)).map rkey
 | [], _ => rfl
 | s :: l, i => by
  rw [spots, List.map_append, List.flatMap_cons, List.map_append, spots_keys l, spotsR_keys, List.map_map]
  rfl
theorem spotsR_get (i : Nat) (sp : ByteArray) : ∀ {rs : List Rl} {k j : Nat} {x : Ty × (Nat × Nat)}, (spotsR i sp k rs)[j]? = some x -> ∃ r, rs[j]? = some r /\ x = (⟨sp, r.name⟩, (i, k + j))
 | [], k, j, x, h => by simp [spotsR] at h
 | r :: rs, k, 0, x, h => by
  rw [spotsR, List.getElem?_cons_zero, Option.some.injEq] at h
  exact ⟨r, rfl, h.symm⟩
 | r :: rs, k, j + 1, x, h => by
  rw [spotsR, List.getElem?_cons_succ] at h
  obtain ⟨q, h1, h2⟩ := spotsR_get i sp h
  exact ⟨q, by simpa using h1, by rw [h2, show k + 1 + j = k + (j + 1) from by omega]⟩
theorem spotsR_len (i : Nat) (sp : ByteArray) (rs : List Rl) (k : Nat) : (spotsR i sp k rs).length = rs.length := by
 have := congrArg List.length (spotsR_keys i sp rs k)
 simpa using this
theorem spots_get : ∀ {l : List Sp} {b j : Nat} {x : Ty × (Nat × Nat)}, (spots b l)[j]? = some x -> ∃ i k s r, x = (⟨s.name, r.name⟩, (b + i, k)) /\ l[i]? = some s /\ s.rels[k]? = some r /\ j = offs l i + k
 | [], b, j, x, h => by simp [spots] at h
 | s :: l, b, j, x, h => by
  rw [spots] at h
  by_cases hj : j < s.rels.length
  ·rw [List.getElem?_append_left (by rw [spotsR_len]; exact hj)] at h
   obtain ⟨r, h1, h2⟩ := spotsR_get b s.name h
   exact ⟨0, j, s, r, by rw [h2, Nat.zero_add, Nat.add_zero], rfl, h1, by simp [offs]⟩
  ·rw [List.getElem?_append_right (by rw [spotsR_len]; omega), spotsR_len] at h
   obtain ⟨i, k, s', r, h1, h2, h3, h4⟩ := spots_get h
   refine ⟨i + 1, k, s', r, by rw [h1, show b + 1 + i = b + (i + 1) from by omega], by simpa using h2, h3, ?_⟩
   show j = s.rels.length + offs l i + k
   omega
def look (t : Ty) (M : List (Ty × (Nat × Nat))) : Option (Nat × Nat) := (M.find? λ x => decide (x.1 = t)).map (·.2)
theorem find_ix {α β : Type} (f : α -> β) (p : β -> Bool) : ∀ {l : List α} {m : List β}, l.map f = m -> (∀ x, l.find? (λ x => p (f x)) = some x -> ∃ j, m.findIdx? p = some j /\ l[j]? = some x) /\ (l.find? (λ x => p (f x)) = none -> m.findIdx? p = none)
 | [], m, h => by
  subst h
  exact ⟨λ x h => (by cases h), λ _ => rfl⟩
 | y :: l, m, h => by
  subst h
  obtain ⟨h1, h2⟩ := find_ix f p (l := l) rfl
  rw [List.map_cons, List.find?_cons, List.findIdx?_cons]
  cases hp : p (f y) with
  | true =>
   refine ⟨λ x h => ?_, λ h => (by simp at h)⟩
   simp only [Option.some.injEq] at h
   subst h
   exact ⟨0, by simp, rfl⟩
  | false =>
   refine ⟨λ x h => ?_, λ h => ?_⟩
   ·obtain ⟨j, h3, h4⟩ := h1 x h
    exact ⟨j + 1, by simp [h3], by simpa using h4⟩
   ·simp [h2 h]
theorem look_rfind (c : Cf) (t : Ty) :
  match look t (spots 0 c.spaces) with
  | none => rfind c.all t = none
  | some (i, k) => rfind c.all t = some (offs c.spaces i + k) /\ ∃ s r, c.spaces[i]? = some s /\ s.rels[k]? = some r /\ (⟨s.name, r.name⟩ : Ty) = t := by
 have hk := spots_keys c.spaces 0
 obtain ⟨h1, h2⟩ := find_ix (λ x : Ty × (Nat × Nat) => x.1) (λ u => decide (u = t)) hk
 have hm : ∀ (l : List (ByteArray × Rl)), (l.map rkey).findIdx? (λ u => decide (u = t)) = rfind l t := λ l => by
  unfold rfind
  rw [List.findIdx?_map]
  rfl
 rw [hm] at h1 h2
 unfold look
 cases hf : (spots 0 c.spaces).find? λ x => decide (x.1 = t) with
 | none => exact h2 hf
 | some x =>
  obtain ⟨j, h3, h4⟩ := h1 x hf
  obtain ⟨i, k, s, r, h5, h6, h7, h8⟩ := spots_get h4
  subst h5
  simp only [Option.map_some, Nat.zero_add]
  refine ⟨?_, s, r, h6, h7, ?_⟩
  ·rw [<- h8]; exact h3
  ·have := List.find?_some hf
   simpa using this
def Suf (a b : PSt) : Prop := a.1 <:+ b.1
theorem Suf.refl (a : PSt) : Suf a a := List.suffix_refl _
theorem Suf.trans {a b d : PSt} (h : Suf a b) (h2 : Suf b d) : Suf a d := List.IsSuffix.trans h h2
theorem Suf.len {a b : PSt} (h : Suf a b) : a.1.length <= b.1.length := List.IsSuffix.length_le h
theorem Suf.mem {a b : PSt} (h : Suf a b) {t : LTok} (ht : t ∈ a.1) : t ∈ b.1 := List.IsSuffix.subset h ht
theorem fail_suf (b : PSt) : Suf pFail b := List.nil_suffix
theorem take_suf {s : ByteArray} {a b : PSt} (h : pTake s a = some b) : Suf b a /\ b.1.length + 1 = a.1.length /\ b.2 = a.2 := by
 unfold pTake at h
 split at h
 ·cases h
 ·rename_i t r e
  split at h
  ·cases h
  ·cases h
   rw [e]
   refine ⟨?_, by simp, rfl⟩
   unfold Suf
   rw [e]
   exact List.suffix_cons _ _
theorem must_suf (s : ByteArray) (a : PSt) : Suf (pMust s a) a := by
 unfold pMust
 cases h : pTake s a with
 | none => exact fail_suf a
 | some b => exact (take_suf h).1
section
variable {W : ByteArray -> Bool}
theorem word_suf (a : PSt) : Suf (pWord W a).2 a := by
 unfold pWord
 split
 ·exact fail_suf a
 ·rename_i t r e
  split
  ·exact fail_suf a
  ·unfold Suf; rw [e]; exact List.suffix_cons _ _
theorem kind_suf (a : PSt) : Suf (pKind W a).2 a := by
 unfold pKind
 split
 ·rename_i s h; exact (take_suf h).1
 ·exact (word_suf _).trans ((must_suf _ _).trans (word_suf _))
theorem types_suf : ∀ (f : Nat) (l : List Ty) (a : PSt), Suf (pTypes W f l a).2 a
 | 0, _, a => .refl a
 | f + 1, l, a => by
  rw [pTypes]
  split
  ·exact .refl a
  ·rename_i s h
   exact (types_suf f _ _).trans ((kind_suf _).trans (take_suf h).1)
def FacS (fac : List Nd -> PSt -> List Nd × PSt) : Prop := ∀ l a, Suf (fac l a).2 a
theorem termLoop_suf {fac : List Nd -> PSt -> List Nd × PSt} (hf : FacS fac) : ∀ (g : Nat) (l : List Nd) (a : PSt), Suf (termLoop fac g l a).2 a
 | 0, _, a => .refl a
 | g + 1, l, a => by
  rw [termLoop]
  split
  ·exact .refl a
  ·split
   ·exact .refl a
   ·rename_i s h
    exact (termLoop_suf hf g _ _).trans ((hf _ _).trans (take_suf h).1)
theorem term_suf {fac : List Nd -> PSt -> List Nd × PSt} (hf : FacS fac) : FacS (pTerm fac) := λ l a => (termLoop_suf hf _ _ _).trans (hf l a)
theorem oper_suf {a b : PSt} {k : Int} (h : pOper a = some (k, b)) : Suf b a := by
 unfold pOper at h
 split at h
 ·rename_i s hs
  cases h
  exact (take_suf hs).1
 ·cases hs : pTake tMinus a with
  | none => rw [hs] at h; cases h
  | some s =>
   rw [hs] at h
   cases h
   exact (take_suf hs).1
theorem exprLoop_suf {fac : List Nd -> PSt -> List Nd × PSt} (hf : FacS fac) : ∀ (g : Nat) (l : List Nd) (a : PSt), Suf (exprLoop fac g l a).2 a
 | 0, _, a => .refl a
 | g + 1, l, a => by
  rw [exprLoop]
  split
  ·exact .refl a
  ·rename_i k s h
   split
   ·exact oper_suf h
   ·exact (exprLoop_suf hf g _ _).trans ((term_suf hf _ _).trans (oper_suf h))
theorem expr_suf {fac : List Nd -> PSt -> List Nd × PSt} (hf : FacS fac) : FacS (pExpr fac) := λ l a => (exprLoop_suf hf _ _ _).trans (term_suf hf l a)
theorem factor_suf : ∀ f : Nat, FacS (pFactor W f)
 | 0 => λ _ a => .refl a
 | f + 1 => λ l a => by
  rw [pFactor]
  split
  ·rename_i s h; exact (take_suf h).1
  ·split
   ·rename_i s h
    exact (must_suf _ _).trans ((expr_suf (factor_suf f) _ _).trans (take_suf h).1)
   ·split
    ·exact word_suf a
    ·rename_i s h
     exact (word_suf _).trans ((take_suf h).1.trans (word_suf a))
theorem nodes_suf (a : PSt) : Suf (pNodes W a).2 a := by
 unfold pNodes
 split
 ·exact .refl a
 ·rename_i s h
  exact (expr_suf (factor_suf _) _ _).trans (take_suf h).1
theorem typed_suf (a : PSt) : Suf (pTyped W a).2 a := by
 unfold pTyped
 split
 ·exact .refl a
 ·rename_i s h
  exact (types_suf _ _ _).trans ((kind_suf _).trans (take_suf h).1)
theorem rel_suf (a : PSt) : Suf (pRel W a).2 a := (must_suf _ _).trans ((nodes_suf _).trans ((typed_suf _).trans (word_suf a)))
theorem rels_suf : ∀ (f : Nat) (l : List Rl) (a : PSt), Suf (pRels W f l a).2 a
 | 0, _, a => .refl a
 | f + 1, l, a => by
  rw [pRels]
  split
  ·exact .refl a
  ·rename_i s h
   exact (rels_suf f _ _).trans ((rel_suf _).trans (take_suf h).1)
theorem space_suf (a : PSt) : Suf (pSpace W a).2 a := (must_suf _ _).trans ((rels_suf _ _ _).trans ((must_suf _ _).trans (word_suf a)))
end
def pConfig (W : ByteArray -> Bool) : Nat -> List Sp -> PSt -> List Sp × PSt
 | 0, l, st => (l, st)
 | f + 1, l, st => if st.2 = true \/ st.1 = [] then (l, st) else
  match pTake tNamespace st with
  | none => (l, pFail)
  | some s => pConfig W f (l ++ [(pSpace W s).1]) (pSpace W s).2
theorem OS.congr {α β : Type} {E sz : Nat} {enc : α -> List Value} {enc' : β -> List Value} {v : Value} {xs : List α} {ys : List β} {T : Seg} (h : OS E sz enc v xs T) (he : ys.map enc' = xs.map enc) : OS E sz enc' v ys T := by
 have hl : ys.length = xs.length := by simpa using congrArg List.length he
 have hf : ys.flatMap enc' = xs.flatMap enc := by rw [List.flatMap_def, List.flatMap_def, he]
 have hm : ∀ y ∈ ys, ∃ x ∈ xs, enc' y = enc x := λ y hy => by
  have : enc' y ∈ xs.map enc := he ▸ List.mem_map_of_mem hy
  obtain ⟨x, hx, e⟩ := List.mem_map.1 this
  exact ⟨x, hx, e.symm⟩
 refine ⟨λ y hy => ?_, λ y hy => ?_, ?_⟩
 ·obtain ⟨x, hx, e⟩ := hm y hy; rw [e]; exact h.len x hx
 ·obtain ⟨x, hx, e⟩ := hm y hy; rw [e]; exact h.one x hx
 ·rcases h.h with ⟨h1, h2, h3⟩ | ⟨b, off, c, cap, h1, h2, h3, h4, h5, h6⟩
  ·exact .inl ⟨h1, List.length_eq_zero_iff.1 (by rw [hl, h2]; rfl), h3⟩
  ·exact .inr ⟨b, off, c, cap, by rw [hl]; exact h1, h2, by omega, h4, h5, by rw [hf]; exact h6⟩
end
end Go.Proofs.YtenilfmlfldogaaGreat
