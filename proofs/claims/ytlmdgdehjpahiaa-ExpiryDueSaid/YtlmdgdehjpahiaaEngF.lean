/- The engine, part 5: a function's contract from its body; over any program, no condition. -/
import Derived.Test.YtlmdgdehjpahiaaEngW
set_option linter.unusedVariables false
namespace Go.Proofs.Ytlmdgdehjpahiaa

def envFrom : Nat → List Value → Env
  | _, [] => []
  | i, v :: vs => (i, v) :: envFrom (i + 1) vs

theorem envFrom_get {vs : List Value} : ∀ (i t : Nat) (v : Value), (envFrom i vs).get? t = some v → i ≤ t ∧ vs[t - i]? = some v := by
  induction vs with
  | nil => intro i t v h; cases h
  | cons u vs ih =>
    intro i t v h
    simp only [envFrom, Env.get?] at h
    split at h
    · rename_i hb
      have := Nat.eq_of_beq_eq_true hb
      subst this
      simp only [Option.some.injEq] at h
      simp [h]
    · have := ih (i + 1) t v h
      have ht : t - i = (t - (i + 1)) + 1 := by omega
      exact ⟨by omega, by rw [ht]; simpa using this.2⟩

def rvSem (tmps : Array Value) (rv : ResultVar) : Sem Value := match rv with
  | .tmp t => pure (tmps.getD t undef)
  | .cell x t => do loadVar t (← asAddr (tmps.getD x undef))
theorem results_rv (fn : Func) (tmps : Array Value) : results fn tmps = (do let vs ← fn.results.mapM (rvSem tmps); pure (if h : vs.size = 1 then vs[0] else .tuple vs)) := rfl
class RV (R : Rds) (H : Segs) (env : Env) (P : Program) (rv : ResultVar) (v : outParam Value) : Prop where
  h : ∀ (a : Act) (w : World), EnvOK a env → Sat w H → RO w R H → (rvSem a.tmps rv).run P w = .ok v w

section
variable {P : Program} {N : Nat} {R : Rds} {env : Env} {H : Segs} {Q : Exit → Env → Segs → Prop}

theorem RV.tmp {t : Nat} {v : Value} (h : Env.get? env t = some v) : RV R H env P (.tmp t) v := ⟨fun a w ha s ro => by
  have := ha t v h
  simp [rvSem, this]⟩
theorem RV.cell1 {x : Nat} {t : TypeId} {p u : Value} {vs r : List Value} (hx : Env.get? env x = some p) [ag : Agg P t false] [rc : RC R H p vs] (hu : vs = u :: r) : RV R H env P (.cell x t) u := ⟨fun a w ha s ro => by
  obtain ⟨b, off, h1, h2⟩ := pc_cells (P := P) rc.h s ro
  subst h1; subst hu
  have := h2 0 (by simp)
  have h3 : w.cell? ⟨b, off, none⟩ = some u := by simpa using this
  have h4 := ha x _ hx
  simp [rvSem, h4, asAddr, loadVar, ag.h, h3]⟩
theorem RV.cellA {x : Nat} {t : TypeId} {p : Value} {n : Nat} {vs : List Value} (hx : Env.get? env x = some p) [ag : Agg P t true] [sz : Sz P t n] [rc : RC R H p vs] (hn : vs.length = n) : RV R H env P (.cell x t) (.agg vs.toArray) := ⟨fun a w ha s ro => by
  obtain ⟨b, off, h1, h2⟩ := pc_cells (P := P) rc.h s ro
  subst h1; subst hn
  have := run_loadCellsFrom (P := P) (w := w) (b := b) (off := off) vs 0 #[] (by simpa using h2)
  have h4 := ha x _ hx
  simp [rvSem, h4, asAddr, loadVar, ag.h, sz.h, loadCells, this]⟩

/-- What is answered. -/
def Res (P : Program) (R : Rds) (rs : List ResultVar) (env : Env) (H : Segs) (v : Value) : Prop :=
  ∀ (a : Act) (w : World) (fn : Func), fn.results = rs.toArray → EnvOK a env → Sat w H → RO w R H → (results fn a.tmps).run P w = .ok v w

theorem Res.none : Res P R [] env H (.tuple #[]) := fun a w fn hf ha s ro => by simp [results, hf]
theorem Res.one {r : ResultVar} {v : Value} (h : RV R H env P r v) : Res P R [r] env H v := fun a w fn hf ha s ro => by
  have := h.h a w ha s ro
  rw [results_rv, hf]
  simp [this]
theorem Res.two {r1 r2 : ResultVar} {v1 v2 : Value} (h1 : RV R H env P r1 v1) (h2 : RV R H env P r2 v2) : Res P R [r1, r2] env H (.tuple #[v1, v2]) := fun a w fn hf ha s ro => by
  have e1 := h1.h a w ha s ro
  have e2 := h2.h a w ha s ro
  rw [results_rv, hf]
  simp [e1, e2]
theorem Res.three {r1 r2 r3 : ResultVar} {v1 v2 v3 : Value} (h1 : RV R H env P r1 v1) (h2 : RV R H env P r2 v2) (h3 : RV R H env P r3 v3) : Res P R [r1, r2, r3] env H (.tuple #[v1, v2, v3]) := fun a w fn hf ha s ro => by
  have e1 := h1.h a w ha s ro
  have e2 := h2.h a w ha s ro
  have e3 := h3.h a w ha s ro
  rw [results_rv, hf]
  simp [e1, e2, e3]

/-- Behind a body. -/
def retQ (P : Program) (R : Rds) (rs : List ResultVar) (Post : Value → Segs → Prop) : Exit → Env → Segs → Prop
  | .normal, env, H => ∃ v H', Res P R rs env H v ∧ HLe H H' ∧ Post v H'
  | .ret, env, H => ∃ v H', Res P R rs env H v ∧ HLe H H' ∧ Post v H'
  | _, _, _ => False

theorem Spec.body {f : FuncId} {fn : Func} {c : Code} {args : List Value} {rs : List ResultVar} {Post : Value → Segs → Prop} (hf : P.funcs[f]? = some fn) (hb : fn.body = some c) (hr : fn.results = rs.toArray) (hn : fn.ntmps = N) (ha : Nat.ble args.length N = true)
    (h : Tri P N R c (envFrom 0 args) H (retQ P R rs Post)) : Spec P f args R H Post := fun w s ro => by
  refine calls_of_wp hf hb ?_
  have hle : args.length ≤ N := Nat.le_of_ble_eq_true ha
  have h0 : St N R { tmps := args.toArray ++ Array.replicate (fn.ntmps - args.toArray.size) undef, defers := [] } w (envFrom 0 args) H w H := by
    refine ⟨rfl, by simp [hn]; omega, fun t v hv => ?_, s, ro, Frame.refl w H⟩
    have := (envFrom_get 0 t v hv).2
    simp only [Nat.sub_zero] at this
    have hlt : t < args.length := by
      rcases Nat.lt_or_ge t args.length with h | h
      · exact h
      · rw [List.getElem?_eq_none h] at this; cases this
    rw [Array.getElem?_append_left (by simpa using hlt)]
    simpa using this
  refine h _ w H (fun e env' H' a' w' hq s' => ?_) _ w h0
  cases e with
  | normal => obtain ⟨v, H2, hv, hl, hp⟩ := hq; exact ⟨s'.defers, v, hv a' w' fn hr s'.env s'.sat s'.ro, v, H2, rfl, hp, hl.sat s'.sat, s'.fr.trans (hl.frame w')⟩
  | ret => obtain ⟨v, H2, hv, hl, hp⟩ := hq; exact ⟨s'.defers, v, hv a' w' fn hr s'.env s'.sat s'.ro, v, H2, rfl, hp, hl.sat s'.sat, s'.fr.trans (hl.frame w')⟩
  | exit id => exact hq.elim
  | goto l => exact hq.elim
  | panic ch => exact hq.elim
  | outgrown => exact hq.elim

/-! ### The turns of a walk -/
theorem seqQ_n {y : Code} (h : Tri P N R y env H Q) : seqQ P N R y Q .normal env H := h
theorem seqQ_r {y : Code} (h : Q .ret env H) : seqQ P N R y Q .ret env H := h
theorem seqQ_x {y : Code} {id : Nat} (h : Q (.exit id) env H) : seqQ P N R y Q (.exit id) env H := h
theorem blkQ_n {id : Nat} (h : Q .normal env H) : blkQ id Q .normal env H := h
theorem blkQ_r {id : Nat} (h : Q .ret env H) : blkQ id Q .ret env H := h
theorem blkQ_x {id : Nat} (h : Q .normal env H) : blkQ id Q (.exit id) env H := by simp only [blkQ, if_true]; exact h
theorem blkQ_y {id id' : Nat} (h : Q (.exit id') env H) (hne : Nat.beq id' id = false := by rfl) : blkQ id Q (.exit id') env H := by
  have : ¬ id' = id := fun e => by subst e; rw [Nat.beq_refl] at hne; cases hne
  simp only [blkQ, if_neg this]; exact h
theorem loopQ_n {I : Env → Segs → Prop} (h : I env H) : loopQ I Q .normal env H := h
theorem loopQ_r {I : Env → Segs → Prop} (h : Q .ret env H) : loopQ I Q .ret env H := h
theorem loopQ_x {I : Env → Segs → Prop} {id : Nat} (h : Q (.exit id) env H) : loopQ I Q (.exit id) env H := h
theorem retQ_r {rs : List ResultVar} {Post : Value → Segs → Prop} {H' : Segs} (v : Value) (h : Res P R rs env H v) (hl : HLe H H') (hp : Post v H') : retQ P R rs Post .ret env H := ⟨v, H', h, hl, hp⟩
theorem retQ_n {rs : List ResultVar} {Post : Value → Segs → Prop} {H' : Segs} (v : Value) (h : Res P R rs env H v) (hl : HLe H H') (hp : Post v H') : retQ P R rs Post .normal env H := ⟨v, H', h, hl, hp⟩
theorem HLe.none (H : Segs) : HLe H [] := HLe.pick [] H
theorem HLe.one (is : List Nat) (H : Segs) : HLe H [(take is H).flatten] := ⟨(rest is H).flatten, by simpa using take_perm is H⟩
theorem Spec.segs {f : FuncId} {args : List Value} {H' : Segs} {Post : Value → Segs → Prop} (h : H.flatten = H'.flatten) (s : Spec P f args R H' Post) : Spec P f args R H Post := fun w hs hr => by
  have h1 : Sat w H' := hs.perm (by rw [h])
  have h2 : RO w R H' := fun b o hb => ⟨(hr b o hb).1, by rw [← h]; exact (hr b o hb).2⟩
  refine (s w h1 h2).mono fun e w' ⟨v, H2, he, hp, hs', hf⟩ => ⟨v, H2, he, hp, hs', hf.le, fun b hb hn => hf.keep b hb (by rw [← h]; exact hn), fun p hp => by rw [h]; exact hf.dom p hp, hf.os, hf.output, hf.tape⟩
end
end Go.Proofs.Ytlmdgdehjpahiaa
