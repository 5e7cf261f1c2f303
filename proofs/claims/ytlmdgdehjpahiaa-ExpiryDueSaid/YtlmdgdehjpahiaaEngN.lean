/- The engine, part 10: operations on maps, and going through them; over any program, no condition. -/
import Derived.Test.YtlmdgdehjpahiaaEngM
set_option linter.unusedVariables false
namespace Go.Proofs.Ytlmdgdehjpahiaa
variable {κ β : Type} [DecidableEq κ]

/-- Going through a map: what is still to come. -/
def It (Rd : Rds) (encK : κ → Value) (encV : β → Value) (m : Value) (M : List (κ × β)) (it : Value) (todo : List κ) (Ti : Seg) : Prop :=
  ∃ b es clock r seen, m = .map (some b) ∧ Rd b (.map es clock) ∧ MapOK encK encV es clock M ∧ it = .pointer (some ⟨r, 0, none⟩) ∧ Ti = [(r, .mapIter (some b) clock seen clock)] ∧
    todo = ((es.toList.zip M).filter fun p => !seen.contains p.1.born).map (·.2.1)

section
variable {P : Program} {N : Nat} {R : Rds} {ops : Array Oper} {l : List Oper} {env : Env} {H : Segs} {K : Env → Segs → Prop} {ty : TypeId} {pos : String} {af : Array Edge} {m : Bool}
variable {encK : κ → Value} {encV : β → Value} {mp : Value} {M : List (κ × β)} {T : Seg} {upd : Seg → Segs}

theorem rx_in {w : World} (s : Sat w H) (r : RO w R H) : ∀ b o, Rx R H b o → w.heap[b]? = some o := fun b o h => by
  rcases h with h | h
  · exact (r b o h).1
  · exact s.2 _ h

theorem run_lookup {x k : Value} {kt et t : TypeId} {z : Value} {key : κ} {w : World} {ok : Bool} {b : Nat} {es : Array MapEntry} {clock : Nat} (ut : Und P t (.map kt et)) (kk : KeyT P kt encK) (zr : Zr P et z) (hb : w.heap[b]? = some (.map es clock)) (h : MapOK encK encV es clock M) :
    (Instr.lookup t (.map (some b)) (encK key) ok).run P w = .ok (if ok then .tuple #[((mget key M).map encV).getD z, .bool (mget key M).isSome] else ((mget key M).map encV).getD z) w := by
  obtain ⟨r, h1, h2, h3⟩ := h.find (P := P) (kt := kt) key w
  unfold Instr.lookup
  simp only [Sem.run_bind, run_underlying ut.h, Result.andThen_ok, run_getMap hb, kk.ck, h1, Sem.run_pure]
  cases r with
  | none =>
    simp only [Option.map_none] at h2
    have h4 : mget key M = none := by simpa using h2.symm
    simp [h4, zr.h]
  | some jv =>
    obtain ⟨j, v⟩ := jv
    simp only [Option.map_some] at h2
    rw [← h2]
    have h4 : (mget key M).isSome = true := by
      have := congrArg Option.isSome h2
      simpa using this.symm
    simp [h4]

theorem Quiet.lookup2 {x y : Operand} {t kt et : TypeId} {z : Value} {key : κ} (h : RM (Rx R H) encK encV mp M) (hx : ev env x = some mp) (hy : ev env y = some (encK key)) [ut : Und P t (.map kt et)] [kk : KeyT P kt encK] [zr : Zr P et z] :
    Quiet P R env H (.lookup t x y true) ty (.tuple [((mget key M).map encV).getD z, .bool (mget key M).isSome].toArray) := fun a w d pos af g ha s ro => by
  obtain ⟨b, es, clock, rfl, h2, h3⟩ := h
  have := run_lookup (P := P) (x := .nilFunc) (k := .nilFunc) (t := t) (ok := true) (key := key) ut kk zr (rx_in s ro _ _ h2) h3
  simp [execOp, ha.eval hx, ha.eval hy, this]
theorem Quiet.lookup1 {x y : Operand} {t kt et : TypeId} {z : Value} {key : κ} (h : RM (Rx R H) encK encV mp M) (hx : ev env x = some mp) (hy : ev env y = some (encK key)) [ut : Und P t (.map kt et)] [kk : KeyT P kt encK] [zr : Zr P et z] :
    Quiet P R env H (.lookup t x y false) ty (((mget key M).map encV).getD z) := fun a w d pos af g ha s ro => by
  obtain ⟨b, es, clock, rfl, h2, h3⟩ := h
  have := run_lookup (P := P) (x := .nilFunc) (k := .nilFunc) (t := t) (ok := false) (key := key) ut kk zr (rx_in s ro _ _ h2) h3
  simp [execOp, ha.eval hx, ha.eval hy, this]
omit [DecidableEq κ] in
theorem Quiet.lenM {x : Operand} {t kt et : TypeId} (h : RM (Rx R H) encK encV mp M) (hx : ev env x = some mp) [ut : Und P t (.map kt et)] : Quiet P R env H (.call ⟨.builtin .len, #[x], #[t]⟩) ty (.int .i64 M.length) := fun a w d pos af g ha s ro => by
  obtain ⟨b, es, clock, rfl, h2, h3⟩ := h
  have hl := h3.ents.length
  have hl' : es.size = M.length := by simpa using hl
  simp [execOp, resolve, ha.eval hx, invoke, builtin, Builtin.len_, run_underlying ut.h, run_getMap (rx_in s ro _ _ h2), goInt, hl']
omit [DecidableEq κ] in
theorem run_equalIn_mapnil (n : Nat) {t kt et : TypeId} {w : World} {p : Option Nat} (ut : P.underlying t = some (.map kt et)) : (Op.equalIn (n + 1) t (.map p) (.map none)).run P w = .ok p.isNone w := by
  cases p <;> simp [Op.equalIn, run_underlying ut]
omit [DecidableEq κ] in
theorem Quiet.eqNilM {x y : Operand} {t u kt et : TypeId} {p : Option Nat} (hx : ev env x = some (.map p)) (hy : ev env y = some (.map none)) [ut : Und P t (.map kt et)] : Quiet P R env H (.binOp .eql t x y u) ty (.bool p.isNone) := fun a w d pos af g ha _ _ =>
  run_eqlOp (op := .move x) (ha.eval hx) (ha.eval hy) (eqGuard_other rfl) rfl (run_equalIn_mapnil _ ut.h)
omit [DecidableEq κ] in
theorem Quiet.neNilM {x y : Operand} {t u kt et : TypeId} {p : Option Nat} (hx : ev env x = some (.map p)) (hy : ev env y = some (.map none)) [ut : Und P t (.map kt et)] : Quiet P R env H (.binOp .neq t x y u) ty (.bool !p.isNone) := fun a w d pos af g ha _ _ =>
  run_neqOp (op := .move x) (ha.eval hx) (ha.eval hy) (eqGuard_other rfl) rfl (run_equalIn_mapnil _ ut.h)

theorem setO_seg {w : World} {H1 H2 : Segs} {b : Nat} {o o' : Obj} (s : Sat w (H1 ++ [(b, o)] :: H2)) : Frame w (H1 ++ [(b, o)] :: H2) (setO w b o') (H1 ++ [(b, o')] :: H2) ∧ Sat (setO w b o') (H1 ++ [(b, o')] :: H2) :=
  ⟨Frame.set (T1 := []) (T2 := []), Sat.set (T1 := []) (T2 := []) s⟩

omit [DecidableEq κ] in
/-- What 'm[k] = x' does to what goes through the map. -/
theorem it_update {b : Nat} {es es' : Array MapEntry} {clock : Nat} {M' : List (κ × β)} (hm : MapOK encK encV es clock M) (hm' : MapOK encK encV es' clock M') (hb : es'.toList.map (·.born) = es.toList.map (·.born)) (hk : M'.map (·.1) = M.map (·.1)) {it : Value} {todo : List κ} {Ti : Seg}
    (h : It (sg [(b, .map es clock)]) encK encV (.map (some b)) M it todo Ti) : It (sg [(b, .map es' clock)]) encK encV (.map (some b)) M' it todo Ti := by
  obtain ⟨b', e0, c0, r, seen, h1, h2, h3, h4, h5, h6⟩ := h
  simp only [sg, List.mem_singleton, Prod.mk.injEq, Obj.map.injEq] at h2
  obtain ⟨rfl, rfl, rfl⟩ := h2
  refine ⟨b', es', c0, r, seen, h1, by simp [sg], hm', h4, h5, ?_⟩
  rw [h6]
  have key : ∀ (e e' : List MapEntry) (N N' : List (κ × β)), e'.map (·.born) = e.map (·.born) → N'.map (·.1) = N.map (·.1) → e.length = N.length →
      ((e.zip N).filter fun p => !seen.contains p.1.born).map (·.2.1) = ((e'.zip N').filter fun p => !seen.contains p.1.born).map (·.2.1) := by
    intro e
    induction e with
    | nil => intro e' N N' h1 h2 h3; cases e' <;> simp_all
    | cons a e ih =>
      intro e' N N' h1 h2 h3
      cases e' with
      | nil => simp at h1
      | cons a' e' => cases N with
        | nil => simp at h3
        | cons p N => cases N' with
          | nil => simp at h2
          | cons p' N' =>
            simp only [List.map_cons, List.cons.injEq] at h1 h2
            simp only [List.length_cons, Nat.add_right_cancel_iff] at h3
            have := ih e' N N' h1.2 h2.2 h3
            simp only [List.zip_cons_cons, List.filter_cons, h1.1]
            split
            · simp only [List.map_cons, this, h2.1]
            · exact this
  exact key _ _ _ _ hb hk (hm.ents.length)

theorem run_update {P : Program} {kt et t : TypeId} {key : κ} {x : β} {w : World} {b : Nat} {es : Array MapEntry} {clock : Nat} (ut : Und P t (.map kt et)) (kk : KeyT P kt encK) (hb : w.heap[b]? = some (.map es clock)) (h : MapOK encK encV es clock M) :
    ∃ es' clock', (Instr.mapUpdate t (.map (some b)) (encK key) (encV x)).run P w = .ok () (setO w b (.map es' clock')) ∧ MapOK encK encV es' clock' (mset key x M) ∧
      (key ∈ M.map (·.1) → clock' = clock ∧ es'.toList.map (·.born) = es.toList.map (·.born)) := by
  obtain ⟨r, h1, h2, h3⟩ := h.find (P := P) (kt := kt) key w
  cases r with
  | none =>
    refine ⟨_, _, ?_, h.insert x h3, fun hk => absurd hk h3⟩
    unfold Instr.mapUpdate
    simp only [Sem.run_bind, run_underlying ut.h, Result.andThen_ok, run_getMap hb, kk.ck, h1, run_setMap hb]
  | some jv =>
    obtain ⟨j, v⟩ := jv
    obtain ⟨h4, e, h5, h6⟩ := h3
    refine ⟨_, _, ?_, h.update x h4, fun _ => ⟨rfl, ?_⟩⟩
    · unfold Instr.mapUpdate
      simp only [Sem.run_bind, run_underlying ut.h, Result.andThen_ok, run_getMap hb, kk.ck, h1, h5, Option.map_some, Option.getD_some, h6]
      have : (Instr.keyThatStays (encK key) (encK key)).run P w = .ok (encK key) w := by
        unfold Instr.keyThatStays
        rw [kk.same]; rfl
      rw [this]
      simp only [Result.andThen_ok, run_setMap hb]
    · apply List.ext_getElem?; intro i
      simp only [List.getElem?_map, Array.getElem?_toList, Array.getElem?_modify]
      split
      · rename_i hi; subst hi; cases es[j]? <;> simp
      · rfl

theorem TriOps.update {t kt et : TypeId} {x y z : Operand} {key : κ} {u : β} (h : MS encK encV mp M T) [sa : SegAt H T upd] [ut : Und P t (.map kt et)] [kk : KeyT P kt encK] (hx : ev env x = some mp) (hy : ev env y = some (encK key)) (hz : ev env z = some (encV u))
    (hn : ∀ T', MS encK encV mp (mset key u M) T' → (key ∈ M.map (·.1) → ∀ it todo Ti, It (sg T) encK encV mp M it todo Ti → It (sg T') encK encV mp (mset key u M) it todo Ti) → TriOps false P N R ops l env (upd T') K) :
    TriOps false P N R ops (⟨none, .mapUpdate t x y z, ty, pos, af, none⟩ :: l) env H K :=
  TriOps.eff0 fun a w ha s ro => by
    obtain ⟨b, es, clock, rfl, rfl, h3⟩ := h
    obtain ⟨H1, H2, e1, e2⟩ := sa.h
    subst e1
    have hb : w.heap[b]? = some (.map es clock) := s.2 (b, _) (by simp)
    obtain ⟨es', clock', hr, hm, hi⟩ := run_update (P := P) (key := key) (x := u) ut kk hb h3
    obtain ⟨f, s'⟩ := setO_seg (o' := .map es' clock') s
    refine ⟨_, upd [(b, .map es' clock')], .inl ?_, by rw [e2]; exact f, by rw [e2]; exact s', hn _ ⟨b, es', clock', rfl, rfl, hm⟩ fun hk it todo Ti hit => ?_⟩
    · simp [execOp, ha.eval hx, ha.eval hy, ha.eval hz, hr]
    · obtain ⟨hc, hbn⟩ := hi hk
      subst hc
      exact it_update h3 hm hbn (by rw [mset_keys, if_pos hk]) hit

theorem run_delete {P : Program} {kt et t : TypeId} {key : κ} {w : World} {b : Nat} {es : Array MapEntry} {clock : Nat} {ty : TypeId} {t2 : TypeId} (ut : Und P t (.map kt et)) (kk : KeyT P kt encK) (hb : w.heap[b]? = some (.map es clock)) (h : MapOK encK encV es clock M) :
    ∃ es', (Builtin.delete_ #[t, t2] ty #[.map (some b), encK key]).run P w = .ok (.tuple #[]) (setO w b (.map es' clock)) ∧ MapOK encK encV es' clock (mdel key M) ∧
      ∀ seen : Array Nat, ((es'.toList.zip (mdel key M)).filter fun p => !seen.contains p.1.born).map (·.2.1) = (((es.toList.zip M).filter fun p => !seen.contains p.1.born).map (·.2.1)).filter fun k => decide (k ≠ key) := by
  obtain ⟨r, h1, h2, h3⟩ := h.find (P := P) (kt := kt) key w
  have hz : ∀ (e : List MapEntry) (N : List (κ × β)) (seen : Array Nat), key ∉ N.map (·.1) → (((e.zip N).filter fun p => !seen.contains p.1.born).map (·.2.1)).filter (fun k => decide (k ≠ key)) = ((e.zip N).filter fun p => !seen.contains p.1.born).map (·.2.1) := by
    intro e N seen hk
    rw [List.filter_eq_self]
    intro k hkm
    obtain ⟨p, hp, rfl⟩ := List.mem_map.1 hkm
    have hp2 := (List.of_mem_zip ((List.mem_filter.1 hp).1 : (p.1, p.2) ∈ e.zip N)).2
    simp only [ne_eq, decide_eq_true_eq]
    exact fun e => hk (e ▸ List.mem_map_of_mem (f := (·.1)) hp2)
  cases r with
  | none =>
    refine ⟨es, ?_, by rw [mdel_old h3]; exact h, fun seen => by rw [mdel_old h3, hz _ _ _ h3]⟩
    unfold Builtin.delete_
    simp only [List.getElem?_toArray, List.getElem?_cons_zero, List.getElem?_cons_succ, Sem.run_bind, run_underlying ut.h, Result.andThen_ok, run_getMap hb, kk.ck, h1, run_setMap hb, Sem.run_pure]
  | some jv =>
    obtain ⟨j, v⟩ := jv
    obtain ⟨h4, e, h5, h6⟩ := h3
    refine ⟨es.eraseIdxIfInBounds j, ?_, h.delete h4, fun seen => ?_⟩
    · unfold Builtin.delete_
      simp only [List.getElem?_toArray, List.getElem?_cons_zero, List.getElem?_cons_succ, Sem.run_bind, run_underlying ut.h, Result.andThen_ok, run_getMap hb, kk.ck, h1, run_setMap hb, Sem.run_pure]
    · have hl : (es.eraseIdxIfInBounds j).toList = es.toList.eraseIdx j := by simp
      rw [hl, mdel_get h.nd h4]
      have key2 : ∀ (e : List MapEntry) (N : List (κ × β)) (j : Nat), (N.map (·.1)).Nodup → (N.map (·.1))[j]? = some key → e.length = N.length →
          (((e.eraseIdx j).zip (N.eraseIdx j)).filter fun p => !seen.contains p.1.born).map (·.2.1) = (((e.zip N).filter fun p => !seen.contains p.1.born).map (·.2.1)).filter fun k => decide (k ≠ key) := by
        intro e
        induction e with
        | nil => intro N j h1 h2 h3; cases N <;> simp_all
        | cons a e ih =>
          intro N j h1 h2 h3
          cases N with
          | nil => simp at h3
          | cons p N =>
            simp only [List.map_cons, List.nodup_cons] at h1
            simp only [List.length_cons, Nat.add_right_cancel_iff] at h3
            cases j with
            | zero =>
              simp at h2
              have hn : key ∉ N.map (·.1) := h2 ▸ h1.1
              have := hz e N seen hn
              simp only [List.eraseIdx_cons_zero, List.zip_cons_cons, List.filter_cons]
              split
              · simp only [List.map_cons, List.filter_cons, h2, ne_eq, not_true, decide_false, Bool.false_eq_true, if_false]; exact this.symm
              · exact this.symm
            | succ j =>
              simp only [List.map_cons, List.getElem?_cons_succ] at h2
              have hne : p.1 ≠ key := fun e => h1.1 (e ▸ List.mem_of_getElem? h2)
              have := ih N j h1.2 h2 h3
              simp only [List.eraseIdx_cons_succ, List.zip_cons_cons, List.filter_cons]
              split
              · simp only [List.map_cons, List.filter_cons, hne, ne_eq, not_false_eq_true, decide_true, if_true, this]
              · exact this
      exact key2 _ _ _ h.nd h4 h.ents.length

theorem TriOps.delete {t t2 kt et : TypeId} {x y : Operand} {key : κ} (h : MS encK encV mp M T) [sa : SegAt H T upd] [ut : Und P t (.map kt et)] [kk : KeyT P kt encK] (hx : ev env x = some mp) (hy : ev env y = some (encK key))
    (hn : ∀ T', MS encK encV mp (mdel key M) T' → (∀ it todo Ti, It (sg T) encK encV mp M it todo Ti → It (sg T') encK encV mp (mdel key M) it (todo.filter fun k => decide (k ≠ key)) Ti) → TriOps false P N R ops l env (upd T') K) :
    TriOps false P N R ops (⟨none, .call ⟨.builtin .delete, #[x, y], #[t, t2]⟩, ty, pos, af, none⟩ :: l) env H K :=
  TriOps.eff0 fun a w ha s ro => by
    obtain ⟨b, es, clock, rfl, rfl, h3⟩ := h
    obtain ⟨H1, H2, e1, e2⟩ := sa.h
    subst e1
    have hb : w.heap[b]? = some (.map es clock) := s.2 (b, _) (by simp)
    obtain ⟨es', hr, hm, hi⟩ := run_delete (P := P) (key := key) (ty := ty) (t2 := t2) ut kk hb h3
    obtain ⟨f, s'⟩ := setO_seg (o' := .map es' clock) s
    refine ⟨_, upd [(b, .map es' clock)], .inr ⟨.tuple #[], ?_⟩, by rw [e2]; exact f, by rw [e2]; exact s', hn _ ⟨b, es', clock, rfl, rfl, hm⟩ fun it todo Ti hit => ?_⟩
    · simp [execOp, resolve, ha.eval hx, ha.eval hy, invoke, builtin, hr]
    · obtain ⟨b', e0, c0, r, seen, g1, g2, g3, g4, g5, g6⟩ := hit
      simp only [sg, List.mem_singleton, Prod.mk.injEq, Obj.map.injEq] at g2
      obtain ⟨rfl, rfl, rfl⟩ := g2
      exact ⟨b', es', c0, r, seen, g1, by simp [sg], hm, g4, g5, by rw [g6, hi]⟩

omit [DecidableEq κ] in
/-- 'range m' begins. -/
theorem TriOps.range {d : Nat} {x : Operand} {t kt et : TypeId} {Rd : Rds} (h : RM Rd encK encV mp M) (hrd : ∀ b o, Rd b o → Rx R H b o) (hx : ev env x = some mp) [ut : Und P t (.map kt et)]
    (hn : ∀ it Ti, It Rd encK encV mp M it (M.map (·.1)) Ti → TriOps false P N R ops l ((d, it) :: env) (Ti :: H) K) (hd : Nat.blt d N = true := by rfl) :
    TriOps false P N R ops (⟨some d, .range t x, ty, pos, af, none⟩ :: l) env H K :=
  TriOps.eff hd fun a w ha s ro => by
    obtain ⟨b, es, clock, rfl, h2, h3⟩ := h
    have hb := rx_in s ro _ _ (hrd _ _ h2)
    refine ⟨.pointer (some ⟨w.heap.size, 0, none⟩), w.alloc (.mapIter (some b) clock #[] clock), _, ?_, Frame.alloc w H _, Sat.alloc s _, hn _ _ ⟨b, es, clock, w.heap.size, #[], rfl, h2, h3, rfl, rfl, ?_⟩⟩
    · simp [execOp, ha.eval hx, Instr.range, run_underlying ut.h, run_getMap hb, newObj, Sem.run]
    · have hf : (es.toList.zip M).filter (fun p => !(#[] : Array Nat).contains p.1.born) = es.toList.zip M := by
        rw [List.filter_eq_self]; intro p _; simp
      rw [hf]
      have hl := h3.ents.length
      have : (es.toList.zip M).map (·.2) = M := List.map_snd_zip (by omega)
      have h7 := congrArg (List.map (·.1)) this
      rw [List.map_map] at h7
      exact h7.symm

/-- The next one, or none. -/
theorem TriOps.next {d : Nat} {x : Operand} {Rd : Rds} {it : Value} {todo : List κ} {Ti : Seg} (h : It Rd encK encV mp M it todo Ti) [sa : SegAt H Ti upd] (hrd : ∀ b o, Rd b o → Rx R H b o) (hx : ev env x = some it)
    (h0 : todo = [] → TriOps false P N R ops l ((d, .tuple [.bool false].toArray) :: env) H K)
    (hn : ∀ k u Ti', k ∈ todo → mget k M = some u → It Rd encK encV mp M it (todo.filter fun k' => decide (k' ≠ k)) Ti' → TriOps false P N R ops l ((d, .tuple [.bool true, encK k, encV u].toArray) :: env) (upd Ti') K) (hd : Nat.blt d N = true := by rfl) :
    TriOps false P N R ops (⟨some d, .next x false, ty, pos, af, none⟩ :: l) env H K :=
  TriOps.eff hd fun a w ha s ro => by
    obtain ⟨b, es, clock, r, seen, rfl, h2, h3, rfl, rfl, h6⟩ := h
    obtain ⟨H1, H2, e1, e2⟩ := sa.h
    have hb := rx_in s ro _ _ (hrd _ _ h2)
    subst e1
    have hr : w.heap[r]? = some (.mapIter (some b) clock seen clock) := s.2 (r, _) (by simp)
    have hgi : (getObj r).run P w = .ok (.mapIter (some b) clock seen clock) w := by simp [getObj, Sem.run, hr]
    have hl := h3.ents.length
    have hbo := h3.born
    -- what may come
    have hleft : es.filter (fun e => !seen.contains e.born) = ((es.toList.filter fun e => !seen.contains e.born)).toArray := by
      apply Array.toList_inj.1; rw [Array.toList_filter]
    have htodo : (es.toList.filter fun e => !seen.contains e.born).length = todo.length := by
      rw [h6, List.length_map]
      have : ((es.toList.zip M).filter fun p => !seen.contains p.1.born).length = (((es.toList.zip M).map (·.1)).filter fun e => !seen.contains e.born).length := by
        rw [List.filter_map, List.length_map]; rfl
      rw [this, List.map_fst_zip (by omega)]
    have hguard : (!seen.isEmpty && !es.isEmpty && es.all (fun e => decide (e.born ≥ clock))) = false := by
      cases hes : es.toList with
      | nil =>
        have : es = #[] := by simpa using hes
        simp [this]
      | cons e rest =>
        have h1 := hbo e (by rw [hes]; simp)
        have : es.all (fun e => decide (e.born ≥ clock)) = false := by
          rw [← Array.all_toList, hes]
          simp; omega
        rw [this, Bool.and_false]
    have hold : (es.filter fun e => !seen.contains e.born).filter (fun e => decide (e.born < clock)) = es.filter fun e => !seen.contains e.born := by
      rw [Array.filter_eq_self]
      intro e he
      have := hbo e (by simpa using (Array.mem_filter.1 he).1)
      simpa using this
    have hnew : (es.filter fun e => !seen.contains e.born).filter (fun e => decide (e.born ≥ clock)) = #[] := by
      rw [Array.filter_eq_empty_iff]
      intro e he
      have := hbo e (by simpa using (Array.mem_filter.1 he).1)
      simpa using this
    by_cases ht : todo = []
    · refine ⟨.tuple #[.bool false], w, _, ?_, Frame.refl _ _, s, h0 ht⟩
      have he : es.filter (fun e => !seen.contains e.born) = #[] := by
        rw [hleft]
        have : (es.toList.filter fun e => !seen.contains e.born) = [] := List.eq_nil_of_length_eq_zero (by rw [htodo, ht]; rfl)
        rw [this]
      have hc : (choose (.mapNext 1)).run P w = .ok 0 w := by simp [choose, Sem.run, Question.forced]
      simp only [execOp, ha.eval hx, Instr.next, Sem.run_bind, hgi, run_getMap hb, Result.andThen_ok, hguard, Bool.false_eq_true, if_false, he]
      simp [hc]
    · have hne : (es.filter fun e => !seen.contains e.born).isEmpty = false := by
        rw [hleft]
        cases hf : (es.toList.filter fun e => !seen.contains e.born) with
        | nil => rw [hf] at htodo; exact absurd (List.eq_nil_of_length_eq_zero htodo.symm) ht
        | cons _ _ => rfl
      have hpos : 0 < todo.length := List.length_pos_iff.2 ht
      have hsz : (es.filter fun e => !seen.contains e.born).size = todo.length := by rw [hleft]; simpa using htodo
      obtain ⟨n, w1, hc, hlt, hw1⟩ : ∃ n w1, (choose (.mapNext todo.length)).run P w = .ok n w1 ∧ n < todo.length ∧ ∃ q, w1 = { w with drawn := q } := by
        by_cases h1 : todo.length ≤ 1
        · exact ⟨0, w, by simp [choose, Sem.run, Question.forced, h1], hpos, w.drawn, rfl⟩
        · exact ⟨_, _, by simp only [choose, Sem.run, Question.forced, h1, decide_false, Bool.false_eq_true, if_false]; rfl, by simp only [Question.cut]; exact Nat.mod_lt _ hpos, _, rfl⟩
      obtain ⟨q, rfl⟩ := hw1
      have hn' : n < (es.toList.filter fun e => !seen.contains e.born).length := by rw [htodo]; exact hlt
      generalize he : (es.toList.filter fun e => !seen.contains e.born)[n] = e
      have hem : e ∈ es.toList.filter fun e => !seen.contains e.born := he ▸ List.getElem_mem hn'
      obtain ⟨hes, hns⟩ := List.mem_filter.1 hem
      obtain ⟨j, hj, hje⟩ := List.mem_iff_getElem.1 hes
      have hjM : j < M.length := by omega
      have hpair : (e.key, e.val) = (encK M[j].1, encV M[j].2) := by
        have := congrArg (fun l : List (Value × Value) => l[j]?) h3.ents
        simp only [List.getElem?_map, List.getElem?_eq_getElem hj, List.getElem?_eq_getElem hjM, Option.map_some, Option.some.injEq, hje] at this
        exact this
      injection hpair with hp1 hp2
      have hzip : (e, M[j]) ∈ es.toList.zip M := by
        refine List.mem_iff_getElem.2 ⟨j, by rw [List.length_zip]; omega, ?_⟩
        simp only [List.getElem_zip, hje]
      have hkt : M[j].1 ∈ todo := by
        rw [h6]
        exact List.mem_map.2 ⟨(e, M[j]), List.mem_filter.2 ⟨hzip, hns⟩, rfl⟩
      have hget : mget M[j].1 M = some M[j].2 := mget_of_mem h3.nd (List.getElem_mem hjM)
      have hrun : (execOp a.eval ⟨some d, .next x false, ty, pos, af, none⟩).run P w = .ok (.value (.tuple #[.bool true, e.key, e.val])) (setO { w with drawn := q } r (.mapIter (some b) clock (seen.push e.born) clock)) := by
        have hcand : ∀ (A : Array MapEntry), A.isEmpty = false → (if A.isEmpty = true then #[none] else #[]) ++ (A ++ #[]).map some = A.map some := fun A hA => by simp [hA]
        have hget2 : ((es.filter fun e => !seen.contains e.born).map some)[n]? = some (some e) := by
          rw [hleft]
          simp only [List.map_toArray, List.getElem?_toArray, List.getElem?_map, List.getElem?_eq_getElem hn', he, Option.map_some]
        have hset : (setObj r (.mapIter (some b) clock (seen.push e.born) clock)).run P { w with drawn := q } = .ok () (setO { w with drawn := q } r (.mapIter (some b) clock (seen.push e.born) clock)) := by
          have : ({ w with drawn := q } : World).heap[r]? = some (.mapIter (some b) clock seen clock) := hr
          simp [setObj, Sem.run, this, setO]
        simp only [execOp, ha.eval hx, Instr.next, Sem.run_bind, hgi, run_getMap hb, Result.andThen_ok, hguard, Bool.false_eq_true, if_false, hold, hnew]
        rw [hcand _ hne]
        simp only [Array.size_map, hsz, hc, Result.andThen_ok, hget2, Sem.run_bind, hset, Sem.run_pure]
      obtain ⟨f, s'⟩ := setO_seg (w := { w with drawn := q }) (o' := .mapIter (some b) clock (seen.push e.born) clock) (s.drew q)
      refine ⟨_, _, upd [(r, .mapIter (some b) clock (seen.push e.born) clock)], hrun, by rw [e2]; exact (Frame.drew w _ q).trans f, by rw [e2]; exact s', ?_⟩
      rw [hp1, hp2]
      refine hn M[j].1 M[j].2 _ hkt hget ⟨b, es, clock, r, seen.push e.born, rfl, h2, h3, rfl, rfl, ?_⟩
      rw [h6]
      -- the one that came is no more to come, all others are
      have key : ∀ (l : List (MapEntry × (κ × β))), (∀ p ∈ l, (p.1.born = e.born ↔ p.2.1 = M[j].1)) →
          ((l.filter fun p => !seen.contains p.1.born).map (·.2.1)).filter (fun k' => decide (k' ≠ M[j].1)) = (l.filter fun p => !(seen.push e.born).contains p.1.born).map (·.2.1) := by
        intro l
        induction l with
        | nil => intro _; rfl
        | cons p l ih =>
          intro hp
          have h1 := hp p (by simp)
          have h2 := ih fun q hq => hp q (by simp [hq])
          simp only [Array.contains_push] at h2
          simp only [List.filter_cons, Array.contains_push]
          by_cases hc : seen.contains p.1.born = true
          · simp only [hc, Bool.not_true, Bool.false_eq_true, if_false, Bool.true_or]; exact h2
          · simp only [Bool.not_eq_true] at hc
            simp only [hc, Bool.not_false, if_true, Bool.false_or, List.map_cons, List.filter_cons]
            by_cases hb : p.1.born = e.born
            · have := h1.1 hb
              simp only [this, ne_eq, not_true, decide_false, Bool.false_eq_true, if_false, hb, beq_self_eq_true, Bool.not_true]; simpa only [ne_eq] using h2
            · have hk : ¬ p.2.1 = M[j].1 := fun hk => hb (h1.2 hk)
              have hb' : (p.1.born == e.born) = false := by simpa using hb
              simp only [hk, ne_eq, not_false_eq_true, decide_true, if_true, hb', Bool.not_false, List.map_cons]
              exact congrArg _ (by simpa only [ne_eq] using h2)
      refine key _ fun p hp => ?_
      obtain ⟨i, hi, hpi⟩ := List.mem_iff_getElem.1 hp
      have hi' : i < es.toList.length := by simp only [List.length_zip] at hi; omega
      have hiM : i < M.length := by omega
      rw [List.getElem_zip] at hpi
      subst hpi
      simp only
      constructor
      · intro hb
        have : i = j := (List.getElem_inj (h := h3.bnd) (i := i) (j := j) (h₀ := by simpa using hi') (h₁ := by simpa using hj)).1 (by rw [List.getElem_map, List.getElem_map, hb, hje])
        subst this; rfl
      · intro hk
        have : i = j := (List.getElem_inj (h := h3.nd) (i := i) (j := j) (h₀ := by simpa using hiM) (h₁ := by simpa using hjM)).1 (by rw [List.getElem_map, List.getElem_map]; exact hk)
        subst this; rw [hje]
end
end Go.Proofs.Ytlmdgdehjpahiaa
