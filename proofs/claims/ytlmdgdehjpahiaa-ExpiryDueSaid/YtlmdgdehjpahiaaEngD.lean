/- The engine, part 13: pieces of a slice by name, clear; over any program, no condition. -/
import Derived.Test.YtlmdgdehjpahiaaEngC
set_option linter.unusedVariables false
namespace Go.Proofs.Ytlmdgdehjpahiaa
section
variable {P : Program} {N : Nat} {R R' : Rds} {ops : Array Oper} {l : List Oper} {env : Env} {H : Segs} {K : Env → Segs → Prop} {T : Seg} {upd : Seg → Segs} {ty : TypeId} {pos : String} {af : Array Edge} {α : Type}

def pieceV (sz lo hi : Nat) (p : Option Addr) (cap : Nat) : Value := .slice (if cap = lo then p else p.map (·.add (lo * sz))) (hi - lo) (cap - lo)
theorem Quiet.sliceE {x : Operand} {xl xh : Option Operand} {t e : TypeId} {sz n cap : Nat} {p : Option Addr} (lo hi : Nat) [ut : Und P t (.slice e)] [s : Sz P e sz] (h1 : optN env xl 0 lo) (h2 : optN env xh n hi) (h3 : lo ≤ hi) (h4 : hi ≤ cap) (hx : ev env x = some (.slice p n cap) := by rfl) :
    Quiet P R env H (.slice t x xl xh none) ty (pieceV sz lo hi p cap) := fun a w d pos af g ha _ _ => by
  have := run_sliceAt (P := P) (w := w) (p := p) (n := n) (cap := cap) ha h1 h2 h3 h4 (t := t) (e := e) (sz := sz)
  simp only [execOp, ha.eval hx, Option.map_none]
  rw [Sem.run_bind, this]
  rfl
theorem OS.shape {E : TypeId} {sz : Nat} {enc : α → List Value} {v : Value} {xs : List α} (h : OS E sz enc v xs T) : ∃ p cap, v = .slice p xs.length cap ∧ xs.length ≤ cap := by
  rcases h.h with ⟨h1, h2, _⟩ | ⟨b, off, c, cap, h1, _, h3, _⟩
  · exact ⟨none, 0, by rw [h1, h2]; rfl, by simp [h2]⟩
  · exact ⟨_, cap, h1, h3⟩
theorem OS.head {E : TypeId} {sz n cap : Nat} {p : Option Addr} {enc : α → List Value} {xs : List α} (h : OS E sz enc (.slice p n cap) xs T) (lo : Nat) (hlo : lo ≤ xs.length) : OS E sz enc (pieceV sz 0 lo p cap) (xs.take lo) T := by
  have hn : (xs.take lo).length = lo := by simp; omega
  refine ⟨fun x hx => h.len x (List.mem_of_mem_take hx), fun x hx => h.one x (List.mem_of_mem_take hx), ?_⟩
  rcases h.h with ⟨h1, h2, h3⟩ | ⟨b, off, c, cap', h1, h2, h3, h4, h5, h6⟩
  · cases h1
    subst h2
    obtain rfl : lo = 0 := by simpa using hlo
    exact .inl ⟨by simp [pieceV], by simp, h3⟩
  · cases h1
    refine .inr ⟨b, off, c, cap, ?_, h2, by omega, h4, h5, by simpa using h6.piece h.len 0 lo⟩
    rw [hn]
    by_cases hc : cap = 0
    · simp [pieceV, hc]
    · simp [pieceV, hc, Addr.add]
theorem zeroCells_get (z : List Value) (n : Nat) (h : ∀ u ∈ z, oneCell u = true) : ∀ u ∈ (Builtin.zeroCells z.toArray n).toList, oneCell u = true := by
  intro u hu
  simp only [Builtin.zeroCells, Array.toList_map, List.mem_map] at hu
  obtain ⟨i, hi, rfl⟩ := hu
  have hi' : i < n * z.length := by simpa using hi
  have hz : 0 < z.length := by
    rcases Nat.eq_zero_or_pos z.length with h0 | h0
    · rw [h0] at hi'; omega
    · exact h0
  have : i % z.length < z.length := Nat.mod_lt _ hz
  simp only [List.size_toArray]
  rw [getElem!_pos z.toArray (i % z.length) (by simpa using this)]
  exact h _ (by simp)
theorem Row.setL {c : Array Value} {off k : Nat} {cs vs : List Value} (h : Row c off cs) (hk : off + cs.length ≤ k) (hl : k + vs.length ≤ c.size) : Row (Go.Proofs.Ytlmdgdehjpahiaa.setL c.toList k vs).toArray off cs := fun j hj => by
  have h1 := h j hj
  have h2 := setL_get (vs := c.toList) (cs := vs) (off := k) (by simpa using hl) (off + j)
  simp only [List.getElem?_toArray]
  rw [h2, if_pos (by omega)]
  simpa using h1
/-- The end of a slice is cleared. -/
theorem TriOps.clearTail {x : Operand} {t E sz n cap : Nat} {p : Option Addr} {enc : α → List Value} {xs : List α} {zs : List Value} {z : Value} (lo : Nat) (h : OS E sz enc (.slice p n cap) xs T) [sa : SegAt H T upd] [ut : Und P t (.slice E)] [zr : Zr P E z]
    (hlo : lo ≤ xs.length) (hx : ev env x = some (pieceV sz lo n p cap)) (hn : ∀ T', OS E sz enc (pieceV sz 0 lo p cap) (xs.take lo) T' → TriOps false P N R ops l env (upd T') K)
    (hz : z.cells = zs.toArray := by rfl) (hzl : zs.length = sz := by rfl) (ho : ∀ u ∈ zs, Go.Proofs.Ytlmdgdehjpahiaa.oneCell u = true := by simp [Go.Proofs.Ytlmdgdehjpahiaa.oneCell]) :
    TriOps false P N R ops (⟨none, .call ⟨.builtin .clear, #[x], #[t]⟩, ty, pos, af, none⟩ :: l) env H K :=
  TriOps.eff0 fun a w ha s ro => by
    obtain ⟨H1, H2, e1, e2⟩ := sa.h
    have hn' := h.shape
    obtain ⟨p0, cap0, e0, hcap⟩ := hn'
    cases e0
    by_cases hc : xs.length - lo = 0
    · refine ⟨w, H, .inr ⟨.tuple #[], ?_⟩, Frame.refl w H, s, ?_⟩
      · have hcl : ∀ (p0 : Option Addr) (c0 : Nat), (Builtin.clear_ #[t] ty #[.slice p0 0 c0]).run P w = .ok (.tuple #[]) w := fun p0 c0 => by cases p0 <;> simp [Builtin.clear_, run_underlying ut.h]
        simp only [pieceV, hc] at hx
        simp [execOp, resolve, ha.eval hx, invoke, builtin, hcl]
      · have := hn T (h.head lo hlo)
        rwa [e2, ← e1] at this
    · rcases h.h with ⟨h1, h2, h3⟩ | ⟨b, off, c, cap', h1, h2, h3, h4, h5, h6⟩
      · subst h2; simp at hc
      · cases h1
        subst h2; subst e1
        have hne : ¬ cap = lo := by omega
        have hb : w.heap[b]? = some (.cells c E (0, 0)) := s.2 (b, _) (by simp)
        have hp : (if cap = lo then some (⟨b, off, none⟩ : Addr) else (some (⟨b, off, none⟩ : Addr)).map (·.add (lo * sz))) = some ⟨b, off + lo * sz, none⟩ := by
          rw [if_neg hne, Option.map_some, add_mk]
        have hsz : (Builtin.zeroCells z.cells (xs.length - lo)).toList.length = (xs.length - lo) * sz := by rw [Array.length_toList, zeroCells_size, hz]; simp [hzl]
        have hbound : off + lo * sz + (xs.length - lo) * sz ≤ c.size := by
          have h7 : lo * sz + (xs.length - lo) * sz = xs.length * sz := by rw [← Nat.add_mul]; congr 1; omega
          have h8 : xs.length * sz ≤ cap * sz := Nat.mul_le_mul_right _ h3
          omega
        have hst := run_storeCells (P := P) (b := b) (off := off + lo * sz) (E := E) (Builtin.zeroCells z.cells (xs.length - lo)).toList 0 c.toList w (by simpa using hb) (by rw [hz]; exact zeroCells_get zs _ ho) (by rw [hsz]; simp; omega)
        refine ⟨_, upd [(b, .cells (Go.Proofs.Ytlmdgdehjpahiaa.setL c.toList (off + lo * sz) (Builtin.zeroCells z.cells (xs.length - lo)).toList).toArray E (0, 0))], .inr ⟨.tuple #[], ?_⟩, by rw [e2]; exact (setO_seg (o' := _) s).1, by rw [e2]; exact (setO_seg (o' := _) s).2, hn _ ?_⟩
        · obtain ⟨m, hm⟩ : ∃ m, xs.length - lo = m + 1 := ⟨xs.length - lo - 1, by omega⟩
          simp only [Nat.add_zero] at hst
          simp only [pieceV, hp] at hx
          rw [hm] at hst hx ⊢
          simp [execOp, resolve, ha.eval hx, invoke, builtin, Builtin.clear_, run_underlying ut.h, zr.h, hst]
        · refine ⟨fun x hx => h.len x (List.mem_of_mem_take hx), fun x hx => h.one x (List.mem_of_mem_take hx), .inr ⟨b, off, _, cap, ?_, rfl, by simp; omega, h4, ?_, ?_⟩⟩
          · have : (xs.take lo).length = lo := by simp; omega
            rw [this]
            by_cases hc0 : cap = 0
            · simp [pieceV, hc0]
            · simp [pieceV, hc0, Addr.add]
          · have := setL_length (vs := c.toList) (cs := (Builtin.zeroCells z.cells (xs.length - lo)).toList) (off := off + lo * sz) (by rw [hsz]; simpa using hbound)
            simp only [List.size_toArray, this]
            simpa using h5
          · have h9 : Row c off ((xs.take lo).flatMap enc) := by simpa using h6.piece h.len 0 lo
            refine h9.setL ?_ (by rw [hsz]; exact hbound)
            rw [flatMap_length (sz := sz) (fun x hx => h.len x (List.mem_of_mem_take hx))]
            simp; exact Nat.mul_le_mul_right _ (Nat.min_le_left _ _)
/-- A call of a function value that changes one segment. -/
theorem TriOps.callMV {d t : Nat} {f : FuncId} {first captured : List Value} [e : Ent P f] {xs : List Operand} {ats : Array TypeId} {vs : List Value} {Post : Value → Seg → Prop}
    (hs : Spec P f (first ++ vs ++ captured) R [T] fun v H' => ∃ T', H' = [T'] ∧ Post v T') (hn : ∀ v T', Post v T' → TriOps false P N R ops l ((d, v) :: env) (upd T') K) [sa : SegAt H T upd]
    (ht : Env.get? env t = some (.func (.func f) first.toArray captured.toArray) := by rfl) (hxs : evs env xs = some vs := by rfl) (hd : Nat.blt d N = true := by rfl) :
    TriOps false P N R ops (⟨some d, .call ⟨.value (.tmp t), xs.toArray, ats⟩, ty, pos, af, none⟩ :: l) env H K :=
  TriOps.callM_gen (fun a w ha => by
    have h1 := ha.evalsA hxs
    have h2 : a.eval (.tmp t) = _ := ha.eval ht
    simp only [execOp, resolve, h1, h2, Deferred.ofValue]
    have := e.h (first ++ vs ++ captured).toArray w
    rw [← List.append_toArray, ← List.append_toArray] at this ⊢
    exact this) hs (fun _ _ h => h) (fun v T' hp => ⟨hd, hn v T' hp⟩)
/-- What a function value does to each of some elements, and to a state. -/
def FnOK (P : Program) (f : FuncId) (caps : List Value) (R : Rds) (enc : α → List Value) {σ : Type} (I : σ → Seg → Prop) (p : α → Bool) (step : σ → α → σ) (xs : List α) : Prop :=
  ∀ x ∈ xs, ∀ s T, I s T → Spec P f ([.agg (enc x).toArray] ++ caps) R [T] fun v H' => ∃ T', H' = [T'] ∧ v = .bool (p x) ∧ I (step s x) T'
theorem FnOK.mono {f : FuncId} {caps : List Value} {R R' : Rds} {enc : α → List Value} {σ : Type} {I : σ → Seg → Prop} {p : α → Bool} {step : σ → α → σ} {xs : List α} (h : FnOK P f caps R enc I p step xs) (hr : ∀ b o, R b o → R' b o) : FnOK P f caps R' enc I p step xs :=
  fun x hx s T hI => (h x hx s T hI).weaken hr
theorem fold_next {σ : Type} {step : σ → α → σ} {s : σ} {xs : List α} {i : Nat} {x : α} (h : xs[i]? = some x) : (xs.take (i + 1)).foldl step s = step ((xs.take i).foldl step s) x := by
  rw [List.take_add_one, h]; simp
theorem run_equalIn_slnil (n : Nat) {t e : TypeId} {w : World} {p : Option Addr} {a c a' c' : Nat} (ut : P.underlying t = some (.slice e)) : (Op.equalIn (n + 1) t (.slice p a c) (.slice none a' c')).run P w = .ok p.isNone w := by
  cases p <;> simp [Op.equalIn, run_underlying ut]
theorem Quiet.eqNilS {x y : Operand} {t u e n c : Nat} {p : Option Addr} {n' c' : Nat} (hx : ev env x = some (.slice p n c)) (hy : ev env y = some (.slice none n' c')) [ut : Und P t (.slice e)] : Quiet P R env H (.binOp .eql t x y u) ty (.bool p.isNone) := fun a w d pos af g ha _ _ =>
  run_eqlOp (op := .move x) (ha.eval hx) (ha.eval hy) (eqGuard_other rfl) rfl (run_equalIn_slnil _ ut.h)
theorem Quiet.neNilS {x y : Operand} {t u e n c : Nat} {p : Option Addr} {n' c' : Nat} (hx : ev env x = some (.slice p n c)) (hy : ev env y = some (.slice none n' c')) [ut : Und P t (.slice e)] : Quiet P R env H (.binOp .neq t x y u) ty (.bool !p.isNone) := fun a w d pos af g ha _ _ =>
  run_neqOp (op := .move x) (ha.eval hx) (ha.eval hy) (eqGuard_other rfl) rfl (run_equalIn_slnil _ ut.h)
theorem TriOps.buildSlice0 {d : Nat} {T E k : Nat} [ut : Und P T (.slice E)] [sz : Sz P E k] (hn : ∀ b, TriOps false P N R ops l ((d, .slice (some ⟨b, 0, none⟩) 0 0) :: env) ([(b, .cells [].toArray E (0, 0))] :: H) K) (hd : Nat.blt d N = true := by rfl) :
    TriOps false P N R ops (⟨some d, .buildSlice T 0 [].toArray, ty, pos, af, none⟩ :: l) env H K :=
  TriOps.fresh (v := fun b => .slice (some ⟨b, 0, none⟩) 0 0) hd (fun a w ha s ro => ⟨w.drawn, by
    have h6 : (execOp a.eval ⟨some d, .buildSlice T 0 [].toArray, ty, pos, af, none⟩) = (do pure (.value (← Instr.buildSlice T 0 #[]))) := by
      show (do pure (Next.value (← Instr.buildSlice T 0 ((#[] : Array (Nat × Operand)).map fun x : Nat × Operand => (x.1, a.eval x.2))))) = _
      rw [Array.map_empty]
    rw [h6]
    have h7 : ((Array.range 0).map fun x => (default : Value)) = #[] := by apply Array.eq_empty_of_size_eq_zero; simp
    simp [Instr.buildSlice, run_underlying ut.h, sz.h, Instr.fill, newRow_run, h7]⟩) hn
theorem OS.empty {E sz b : Nat} {enc : α → List Value} : OS E sz enc (.slice (some ⟨b, 0, none⟩) 0 0) ([] : List α) [(b, .cells [].toArray E (0, 0))] :=
  ⟨by simp, by simp, .inr ⟨b, 0, _, 0, rfl, rfl, by simp, by simp, by simp, fun k hk => by simp at hk⟩⟩
theorem RS.none_nil {sz n c : Nat} {enc : α → List Value} {xs : List α} (h : RS R sz enc (.slice none n c) xs) : xs = [] := by
  obtain ⟨p, cap, h1, _, _, h4⟩ := h.h
  cases h1
  rcases h4 with h4 | ⟨b, off, c, E, fr, h5, _⟩
  · exact h4
  · cases h5
end
end Go.Proofs.Ytlmdgdehjpahiaa
