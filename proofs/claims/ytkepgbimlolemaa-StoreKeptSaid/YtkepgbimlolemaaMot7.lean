/- The engine, in one of its parts: rules by which functions are walked, over any program. No condition. -/
import Derived.Test.YtkepgbimlolemaaMot6

set_option linter.unusedVariables false
namespace Go.Proofs.Ytkepgbimlolemaa
section
variable {κ β : Type} [DecidableEq κ]
variable {P : Program} {N : Nat} {R : Rds} {ops : Array Oper} {l : List Oper} {env : Env} {H : Segs} {K : Env → Segs → Prop} {T : Seg} {upd : Seg → Segs} {ty : TypeId} {pos : String} {af : Array Edge}
variable {encK : κ → Value} {encV : β → Value} {mp : Value} {M : List (κ × β)}
/-- A map with an entry that is to be written: what is written there counts as if it were set at the key. -/
def ME (encK : κ → Value) (encV : β → Value) (m : Value) (M : List (κ × β)) (key : κ) (s : Value) (T : Seg) : Prop :=
  ∃ (b : Nat) (es : Array MapEntry) (clock j : Nat) (e : MapEntry) (M1 : List (κ × β)), m = .map (some b) ∧ T = [(b, .map es clock)] ∧ MapOK encK encV es clock M1 ∧ (M1.map (·.1))[j]? = some key ∧ es[j]? = some e ∧ e.key = encK key ∧ s = goInt (e.born : Nat) ∧ ∀ u, mset key u M1 = mset key u M
theorem mset_mset {k : κ} {x y : β} {M : List (κ × β)} (h : k ∉ M.map (·.1)) : mset k y (mset k x M) = mset k y M := by
  rw [mset_new h, mset_new h]
  induction M with
  | nil => simp [mset]
  | cons p M ih =>
    obtain ⟨k', z⟩ := p
    simp only [List.map_cons, List.mem_cons, not_or] at h
    simp only [List.cons_append, mset, if_neg h.1, ih h.2]
theorem TriOps.mapEntry {d : Nat} {t kt et : TypeId} {x y : Operand} {key : κ} {z : Value} (u0 : β) (h : MS encK encV mp M T) [sa : SegAt H T upd] (hx : ev env x = some mp) (hy : ev env y = some (encK key)) [ut : Und P t (.map kt et)] [kk : KeyT P kt encK] [zr : Zr P et z] (hz : encV u0 = z)
    (hn : ∀ T' s, ME encK encV mp M key s T' → TriOps false P N R ops l ((d, .tuple [((mget key M).map encV).getD z, s].toArray) :: env) (upd T') K) (hd : Nat.blt d N = true := by rfl) :
    TriOps false P N R ops (⟨some d, .mapEntry t x y, ty, pos, af, none⟩ :: l) env H K :=
  TriOps.eff hd fun a w ha s ro => by
    obtain ⟨b, es, clock, rfl, rfl, h3⟩ := h
    obtain ⟨H1, H2, e1, e2⟩ := sa.h
    subst e1
    have hb : w.heap[b]? = some (.map es clock) := s.2 (b, _) (by simp)
    obtain ⟨r, h4, h5, h6⟩ := h3.find (P := P) (kt := kt) key w
    cases r with
    | none =>
      obtain ⟨f, s'⟩ := setO_seg (o' := .map (es.push { key := encK key, val := z, born := clock }) (clock + 1)) s
      have hm := h3.insert u0 h6
      rw [hz] at hm
      have h7 : mget key M = none := by simpa using h5.symm
      refine ⟨.tuple [z, goInt clock].toArray, _, upd [(b, .map (es.push { key := encK key, val := z, born := clock }) (clock + 1))], ?_, by rw [e2]; exact f, by rw [e2]; exact s', ?_⟩
      · simp only [execOp, ha.eval hx, ha.eval hy]
        simp [Instr.mapEntry, run_underlying ut.h, run_getMap hb, kk.ck, h4, zr.h, run_setMap hb]
      · have hk : z = ((mget key M).map encV).getD z := by rw [h7]; rfl
        have := hn [(b, .map (es.push { key := encK key, val := z, born := clock }) (clock + 1))] (goInt clock) ⟨b, _, _, es.size, { key := encK key, val := z, born := clock }, mset key u0 M, rfl, rfl, hm, by
          rw [mset_new h6]
          have := h3.ents.length
          simp at this ⊢
          simp [this], by simp, rfl, rfl, fun u => mset_mset h6⟩
        rw [← hk] at this
        exact this
    | some jv =>
      obtain ⟨j, v⟩ := jv
      obtain ⟨h7, e, h8, h9⟩ := h6
      have hes : (es.modify j fun e => { e with key := encK key }) = es := by
        apply Array.ext_getElem?
        intro i
        rw [Array.getElem?_modify]
        split
        · rename_i hi
          subst hi
          rw [h8]
          simp only [Option.map_some, Option.some.injEq]
          rw [← h9]
        · rfl
      obtain ⟨f, s'⟩ := setO_seg (o' := .map es clock) s
      have hv : v = ((mget key M).map encV).getD z := by rw [← h5]; rfl
      refine ⟨.tuple [v, goInt e.born].toArray, _, upd [(b, .map es clock)], ?_, by rw [e2]; exact f, by rw [e2]; exact s', ?_⟩
      · have hst : (Instr.keyThatStays (encK key) (encK key)).run P w = .ok (encK key) w := by
          unfold Instr.keyThatStays
          rw [kk.same]; rfl
        simp only [execOp, ha.eval hx, ha.eval hy]
        simp [Instr.mapEntry, run_underlying ut.h, run_getMap hb, kk.ck, h4, h8, h9, hst, hes, run_setMap hb]
      · rw [hv]
        exact hn _ _ ⟨b, es, clock, j, e, M, rfl, rfl, h3, h7, h8, h9, rfl, fun u => rfl⟩
theorem Quiet.lookupE {x y : Operand} {t kt et : TypeId} {z v : Value} {key : κ} (h : RM (Rx R H) encK encV mp M) (hx : ev env x = some mp) (hy : ev env y = some (encK key)) (he : ((mget key M).map encV).getD z = v) [ut : Und P t (.map kt et)] [kk : KeyT P kt encK] [zr : Zr P et z] :
    Quiet P R env H (.lookup t x y false) ty v := he ▸ Quiet.lookup1 h hx hy
theorem TriOps.entryStore {t : TypeId} {x y z : Operand} {key : κ} {s : Value} {u : β} (h : ME encK encV mp M key s T) [sa : SegAt H T upd] (hx : ev env x = some mp) (hy : ev env y = some s) (hz : ev env z = some (encV u))
    (hn : ∀ T', MS encK encV mp (mset key u M) T' → TriOps false P N R ops l env (upd T') K) :
    TriOps false P N R ops (⟨none, .entryStore t x y z, ty, pos, af, none⟩ :: l) env H K :=
  TriOps.eff0 fun a w ha s ro => by
    obtain ⟨b, es, clock, j, e, M1, rfl, rfl, h3, h7, h8, h9, rfl, hu⟩ := h
    obtain ⟨H1, H2, e1, e2⟩ := sa.h
    subst e1
    have hb : w.heap[b]? = some (.map es clock) := s.2 (b, _) (by simp)
    have hm := h3.update u h7
    rw [hu] at hm
    have hes : (es.modify j fun e => { e with val := encV u }) = es.modify j fun e => { e with key := encK key, val := encV u } := by
      apply Array.ext_getElem?
      intro i
      rw [Array.getElem?_modify, Array.getElem?_modify]
      split
      · rename_i hi
        subst hi
        rw [h8]
        simp only [Option.map_some, Option.some.injEq]
        rw [← h9]
      · rfl
    have hf : es.findIdx? (fun x => (x.born : Int) == (e.born : Int)) = some j := by
      have hj := (Array.getElem?_eq_some_iff.1 h8)
      have hjl := hj.1
      rw [Array.findIdx?_eq_some_iff_getElem]
      refine ⟨hj.1, by rw [hj.2]; simp, fun i hi => ?_⟩
      have hn2 := List.pairwise_iff_getElem.1 h3.bnd i j (by simp; omega) (by simp; omega) hi
      simp only [List.getElem_map, Array.getElem_toList, hj.2] at hn2
      simp only [beq_iff_eq]
      omega
    obtain ⟨f, s'⟩ := setO_seg (o' := .map (es.modify j fun e => { e with key := encK key, val := encV u }) clock) s
    refine ⟨_, upd [(b, .map (es.modify j fun e => { e with key := encK key, val := encV u }) clock)], .inl ?_, by rw [e2]; exact f, by rw [e2]; exact s', hn _ ⟨b, _, clock, rfl, rfl, hm⟩⟩
    simp only [execOp, ha.eval hx, ha.eval hy, ha.eval hz]
    simp [Instr.entryStore, run_getMap hb, asInt, asIntOf, goInt, hf, hes, run_setMap hb]
theorem Quiet.u64 {op : Op} {z : Int} (c : Int) (h : Quiet P R env H op ty (.int .u64 (IntKind.u64.wrap z))) (e : z = c ∧ 0 ≤ c ∧ c ≤ 18446744073709551615) : Quiet P R env H op ty (.int .u64 c) := by
  obtain ⟨rfl, h1, h2⟩ := e
  have hw : IntKind.u64.wrap z = z := by
    simp [IntKind.wrap, IntKind.bits, IntKind.signed]
    omega
  rw [hw] at h
  exact h
theorem Spec.permH {f : FuncId} {args : List Value} {H' : Segs} {Post : Value → Segs → Prop} (h : H.flatten.Perm H'.flatten) (s : Spec P f args R H' Post) : Spec P f args R H Post := fun w hs hr => by
  have h1 : Sat w H' := hs.perm h
  have h2 : RO w R H' := fun b o hb => ⟨(hr b o hb).1, fun p hp => (hr b o hb).2 p (h.mem_iff.2 hp)⟩
  refine (s w h1 h2).mono fun e w' ⟨v, H2, he, hp, hs', hf⟩ => ⟨v, H2, he, hp, hs', hf.le, fun b hb hn => hf.keep b hb fun p hm => hn p (h.mem_iff.2 hm), fun p hp => ?_, hf.os, hf.output, hf.tape⟩
  rcases hf.dom p hp with ⟨q, hq, he⟩ | hge
  · exact .inl ⟨q, h.mem_iff.2 hq, he⟩
  · exact .inr hge
end
end Go.Proofs.Ytkepgbimlolemaa
