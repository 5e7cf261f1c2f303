/- The engine, part 4: what makes and changes memory; entering a function; over any program, no condition. -/
import Derived.Test.YtlmdgdehjpahiaaEngQ
set_option linter.unusedVariables false
namespace Go.Proofs.Ytlmdgdehjpahiaa

def oneCell : Value → Bool
  | .agg _ | .tuple _ => false
  | _ => true
class One (v : Value) : Prop where h : oneCell v = true
instance One.bool {b : Bool} : One (.bool b) := ⟨rfl⟩
instance One.int {k : IntKind} {n : Int} : One (.int k n) := ⟨rfl⟩
instance One.string {s : ByteArray} : One (.string s) := ⟨rfl⟩
instance One.pointer {a : Option Addr} : One (.pointer a) := ⟨rfl⟩
instance One.slice {a : Option Addr} {m n : Nat} : One (.slice a m n) := ⟨rfl⟩
instance One.map {r : Option Nat} : One (.map r) := ⟨rfl⟩
instance One.func {f : Fn} {a b : Array Value} : One (.func f a b) := ⟨rfl⟩
instance One.nilFunc : One .nilFunc := ⟨rfl⟩
instance One.iface {t : TypeId} {v : Value} : One (.iface t v) := ⟨rfl⟩
instance One.nilIface : One .nilIface := ⟨rfl⟩
class Ones (vs : List Value) : Prop where h : ∀ v ∈ vs, oneCell v = true
instance Ones.nil : Ones [] := ⟨by simp⟩
instance Ones.cons {v : Value} {vs : List Value} [h1 : One v] [h2 : Ones vs] : Ones (v :: vs) := ⟨by simpa using ⟨h1.h, h2.h⟩⟩

theorem cells_one {v : Value} (h : oneCell v = true) : v.cells = #[v] := by cases v <;> simp_all [oneCell, Value.cells]

/-- Cells put over others. -/
def setL (vs : List Value) (off : Nat) (cs : List Value) : List Value := vs.take off ++ cs ++ vs.drop (off + cs.length)
instance Ones.setL {vs cs : List Value} {k : Nat} [h1 : Ones vs] [h2 : Ones cs] : Ones (Go.Proofs.Ytlmdgdehjpahiaa.setL vs k cs) := ⟨fun v hv => by
  simp only [Go.Proofs.Ytlmdgdehjpahiaa.setL, List.mem_append] at hv
  rcases hv with (hv | hv) | hv
  · exact h1.h v (List.mem_of_mem_take hv)
  · exact h2.h v hv
  · exact h1.h v (List.mem_of_mem_drop hv)⟩
instance Ones.take {vs : List Value} {k : Nat} [h1 : Ones vs] : Ones (vs.take k) := ⟨fun v hv => h1.h v (List.mem_of_mem_take hv)⟩
instance Ones.drop {vs : List Value} {k : Nat} [h1 : Ones vs] : Ones (vs.drop k) := ⟨fun v hv => h1.h v (List.mem_of_mem_drop hv)⟩
instance Ones.arr {vs : List Value} [h1 : Ones vs] : Ones vs.toArray.toList := ⟨fun v hv => h1.h v hv⟩
theorem setL_length {vs cs : List Value} {off : Nat} (h : off + cs.length ≤ vs.length) : (setL vs off cs).length = vs.length := by simp [setL]; omega
theorem setL_nil {vs : List Value} {off : Nat} : setL vs off [] = vs := by simp [setL]
theorem setL_cons {vs cs : List Value} {off : Nat} {c : Value} (h : off + cs.length < vs.length) : setL vs off (c :: cs) = setL (vs.set off c) (off + 1) cs := by
  apply List.ext_getElem?
  intro i
  simp only [setL, List.getElem?_append, List.length_append, List.length_take, List.getElem?_take, List.getElem?_drop, List.getElem?_set, List.length_cons, List.length_set]
  have e : min off vs.length = off := by omega
  have e' : min (off + 1) vs.length = off + 1 := by omega
  simp only [e, e', List.getElem?_cons]
  by_cases h1 : i < off
  · simp [h1, show i < off + (cs.length + 1) by omega, show i < off + 1 by omega, show i < off + 1 + cs.length by omega, show ¬ off = i by omega]
  · by_cases h2 : i = off
    · subst h2; simp [show i < i + (cs.length + 1) by omega, show i < i + 1 + cs.length by omega, show i < vs.length by omega]
    · by_cases h3 : i < off + (cs.length + 1)
      · simp [h1, h3, show ¬ i < off + 1 by omega, show i < off + 1 + cs.length by omega, show ¬ i - off = 0 by omega, show i - off - 1 = i - (off + 1) by omega]
      · simp [h3, show ¬ i < off + 1 + cs.length by omega]
        rw [if_neg (by omega), show off + (cs.length + 1) + (i - (off + (cs.length + 1))) = off + 1 + cs.length + (i - (off + 1 + cs.length)) by omega]

theorem setO_setO (w : World) (b : Nat) (o o' : Obj) : setO (setO w b o) b o' = setO w b o' := by simp [setO]

theorem setCell_setO {w : World} {b off : Nat} {vs : List Value} {E : TypeId} {fr : Nat × Nat} (h : w.heap[b]? = some (.cells vs.toArray E fr)) (v : Value) : w.setCell ⟨b, off, none⟩ v = setO w b (.cells (vs.set off v).toArray E fr) := by
  have hb := lt_of_some h
  unfold World.setCell setO
  congr 1
  apply Array.ext_getElem?
  intro i
  simp only [Array.getElem?_modify, Array.getElem?_setIfInBounds, hb]
  by_cases hi : b = i
  · subst hi; simp [h]
  · simp [hi]

theorem run_storeCells {P : Program} {b off : Nat} {E : TypeId} : ∀ (cs : List Value) (i : Nat) (vs : List Value) (w : World), w.heap[b]? = some (.cells vs.toArray E (0, 0)) → (∀ v ∈ cs, oneCell v = true) → off + i + cs.length ≤ vs.length →
    (storeCells ⟨b, off, none⟩ cs i).run P w = .ok () (setO w b (.cells (setL vs (off + i) cs).toArray E (0, 0)))
  | [], i, vs, w, hw, _, _ => by
    have : setO w b (.cells vs.toArray E (0, 0)) = w := by
      unfold setO
      have : w.heap.setIfInBounds b (.cells vs.toArray E (0, 0)) = w.heap := by
        apply Array.ext_getElem?
        intro i
        simp only [Array.getElem?_setIfInBounds]
        by_cases hi : b = i
        · subst hi; rw [hw]; simp [lt_of_some hw]
        · simp [hi]
      rw [this]
    rw [setL_nil, this]; rfl
  | v :: cs, i, vs, w, hw, ho, hl => by
    simp only [List.length_cons] at hl
    have hi : (⟨b, off, none⟩ : Addr).add i = ⟨b, off + i, none⟩ := by
      simp only [Addr.add]; split
      · rename_i h0; subst h0; rfl
      · rfl
    have hc : w.cell? ⟨b, off + i, none⟩ = some (vs[off + i]'(by omega)) := by simp [World.cell?, hw]
    have hf : w.frozen? ⟨b, off + i, none⟩ = false := by simp [World.frozen?, hw]
    have hv := ho v (by simp)
    have h1 : (store ⟨b, off + i, none⟩ v).run P w = .ok () (setO w b (.cells (vs.set (off + i) v).toArray E (0, 0))) := by
      rw [← setCell_setO hw]
      cases v <;> simp_all [store, Sem.run, oneCell]
    have hw' : (setO w b (.cells (vs.set (off + i) v).toArray E (0, 0))).heap[b]? = some (.cells (vs.set (off + i) v).toArray E (0, 0)) := by
      simp [setO, lt_of_some hw]
    have h2 := run_storeCells (P := P) (b := b) (off := off) (E := E) cs (i + 1) (vs.set (off + i) v) _ hw' (fun u hu => ho u (by simp [hu])) (by simp; omega)
    simp only [storeCells, hi, Sem.run_bind, h1, Result.andThen_ok, h2, setO_setO]
    rw [setL_cons (by omega), Nat.add_assoc]

/-- A place that is owned and may be written. -/
class Wr (H : Segs) (p : Value) (vs : outParam (List Value)) (off : outParam Nat) (upd : outParam (List Value → Segs)) : Prop where
  h : ∃ b E H1 H2 T1 T2, p = .pointer (some ⟨b, off, none⟩) ∧ H = H1 ++ (T1 ++ (b, .cells vs.toArray E (0, 0)) :: T2) :: H2 ∧ ∀ vs', upd vs' = H1 ++ (T1 ++ (b, .cells vs'.toArray E (0, 0)) :: T2) :: H2
instance Wr.there {H : Segs} {T : Seg} {p : Value} {vs : List Value} {off : Nat} {upd : List Value → Segs} [h : Wr H p vs off upd] : Wr (T :: H) p vs off (fun vs' => T :: upd vs') :=
  ⟨let ⟨b, E, H1, H2, T1, T2, h1, h2, h3⟩ := h.h; ⟨b, E, T :: H1, H2, T1, T2, h1, by rw [h2]; rfl, fun vs' => by rw [h3]; rfl⟩⟩
instance Wr.here {H : Segs} {b : Nat} {vs : List Value} {E : TypeId} : Wr ([(b, .cells vs.toArray E (0, 0))] :: H) (.pointer (some ⟨b, 0, none⟩)) vs 0 (fun vs' => [(b, .cells vs'.toArray E (0, 0))] :: H) :=
  ⟨⟨b, E, [], H, [], [], rfl, rfl, fun _ => rfl⟩⟩
instance Wr.add {H : Segs} {p : Value} {k : Nat} {vs : List Value} {off : Nat} {upd : List Value → Segs} [h : Wr H p vs off upd] : Wr H (addP p k) vs (off + k) upd :=
  ⟨by
    obtain ⟨b, E, H1, H2, T1, T2, h1, h2, h3⟩ := h.h
    refine ⟨b, E, H1, H2, T1, T2, ?_, h2, h3⟩
    subst h1
    simp only [addP, Addr.add]; split
    · rename_i h0; subst h0; rfl
    · rfl⟩

section
variable {P : Program} {N : Nat} {R : Rds} {ops : Array Oper} {l : List Oper} {env : Env} {H : Segs} {K : Env → Segs → Prop} {ty : TypeId} {pos : String} {af : Array Edge}

theorem run_storeAt {t : TypeId} {n : Nat} [sz : Sz P t n] {b off : Nat} {E : TypeId} {v : Value} {cs vs : List Value} {w : World} (hc : v.cells = cs.toArray) (hn : cs.length = n) (hw : w.heap[b]? = some (.cells vs.toArray E (0, 0))) (ho : ∀ u ∈ cs, oneCell u = true) (hl : off + cs.length ≤ vs.length) :
    (Instr.storeAt t (.pointer (some ⟨b, off, none⟩)) v).run P w = .ok () (setO w b (.cells (setL vs off cs).toArray E (0, 0))) := by
  have h := run_storeCells (P := P) (b := b) (off := off) (E := E) cs 0 vs w hw ho (by omega)
  subst hn
  have hz : v.cells.size = cs.length := by rw [hc]; simp
  simp only [Instr.storeAt, Instr.sureAddr, Sem.run_bind, Sem.run_pure, Result.andThen_ok, storeVar, sz.h, hz, ne_eq, not_true, if_false]
  rw [hc]
  exact h

theorem TriOps.store_gen {t : TypeId} {x y : Operand} {n : Nat} {p v : Value} {vs cs : List Value} {off : Nat} {upd : List Value → Segs} (hx : ev env x = some p) (hy : ev env y = some v) (hc : v.cells = cs.toArray) (hn : cs.length = n) [sz : Sz P t n] [wr : Wr H p vs off upd] (ho : ∀ u ∈ cs, oneCell u = true)
    (hl : off + cs.length ≤ vs.length) (hn' : TriOps false P N R ops l env (upd (setL vs off cs)) K) : TriOps false P N R ops (⟨none, .store t x y, ty, pos, af, none⟩ :: l) env H K :=
  TriOps.eff0 fun a w ha s ro => by
    obtain ⟨b, E, H1, H2, T1, T2, h1, h2, h3⟩ := wr.h
    subst h1; subst h2
    have hw : w.heap[b]? = some (.cells vs.toArray E (0, 0)) := s.2 (b, _) (by simp)
    refine ⟨setO w b (.cells (setL vs off cs).toArray E (0, 0)), upd (setL vs off cs), .inl ?_, ?_, ?_, hn'⟩
    · simp [execOp, ha.eval hx, ha.eval hy, run_storeAt hc hn hw ho hl]
    · rw [h3]; exact Frame.set
    · rw [h3]; exact Sat.set s

theorem TriOps.store1 {t : TypeId} {x y : Operand} {p v : Value} {vs : List Value} {off : Nat} {upd : List Value → Segs} (hx : ev env x = some p) (hy : ev env y = some v) [sz : Sz P t 1] [wr : Wr H p vs off upd] [o : One v] (hn' : TriOps false P N R ops l env (upd (setL vs off [v])) K)
    (hl : off + 1 ≤ vs.length := by first | decide | exact Nat.le_of_ble_eq_true rfl) : TriOps false P N R ops (⟨none, .store t x y, ty, pos, af, none⟩ :: l) env H K :=
  TriOps.store_gen (cs := [v]) hx hy (cells_one o.h) rfl (by simpa using o.h) (by simpa using hl) hn'
theorem TriOps.storeA {t : TypeId} {x y : Operand} {n : Nat} {p : Value} {vs cs : List Value} {off : Nat} {upd : List Value → Segs} (hx : ev env x = some p) (hy : ev env y = some (.agg cs.toArray)) [sz : Sz P t n] [wr : Wr H p vs off upd] [o : Ones cs] (hn' : TriOps false P N R ops l env (upd (setL vs off cs)) K)
    (hn : cs.length = n := by rfl) (hl : off + cs.length ≤ vs.length := by first | decide | exact Nat.le_of_ble_eq_true rfl) : TriOps false P N R ops (⟨none, .store t x y, ty, pos, af, none⟩ :: l) env H K :=
  TriOps.store_gen (cs := cs) hx hy rfl hn o.h hl hn'

theorem TriOps.fresh {op : Op} {d : Nat} {o : Obj} {v : Nat → Value} (hd : Nat.blt d N = true) (h : ∀ a w, EnvOK a env → Sat w H → RO w R H → ∃ n, (execOp a.eval ⟨some d, op, ty, pos, af, none⟩).run P w = .ok (.value (v w.heap.size)) (({ w with drawn := n } : World).alloc o))
    (hn : ∀ b, TriOps false P N R ops l ((d, v b) :: env) ([(b, o)] :: H) K) : TriOps false P N R ops (⟨some d, op, ty, pos, af, none⟩ :: l) env H K :=
  TriOps.eff hd fun a w ha s ro => by
    obtain ⟨n, hr⟩ := h a w ha s ro
    refine ⟨_, _, _, hr, ?_, ?_, hn w.heap.size⟩
    · exact (Frame.drew w H n).trans (Frame.alloc { w with drawn := n } H o)
    · exact Sat.alloc (w := { w with drawn := n }) (s.drew n) o

theorem newRow_run {t : TypeId} {c : Array Value} {w : World} : (newRow t c).run P w = .ok ⟨w.heap.size, 0, none⟩ (w.alloc (.cells c t)) := by
  simp [newRow]

theorem TriOps.box1 {d : Nat} {E : TypeId} {x : Operand} {v : Value} (hx : ev env x = some v) [o : One v] (hn : ∀ b, TriOps false P N R ops l ((d, .pointer (some ⟨b, 0, none⟩)) :: env) ([(b, .cells [v].toArray E (0, 0))] :: H) K) (hd : Nat.blt d N = true := by rfl) :
    TriOps false P N R ops (⟨some d, .box E x, ty, pos, af, none⟩ :: l) env H K :=
  TriOps.fresh (v := fun b => .pointer (some ⟨b, 0, none⟩)) hd (fun a w ha s ro => ⟨w.drawn, by
    have := cells_one o.h
    simp [execOp, ha.eval hx, Instr.box, newVar, this, newRow_run]⟩) hn
theorem TriOps.boxA {d : Nat} {E : TypeId} {x : Operand} {cs : List Value} (hx : ev env x = some (.agg cs.toArray)) (hn : ∀ b, TriOps false P N R ops l ((d, .pointer (some ⟨b, 0, none⟩)) :: env) ([(b, .cells cs.toArray E (0, 0))] :: H) K) (hd : Nat.blt d N = true := by rfl) :
    TriOps false P N R ops (⟨some d, .box E x, ty, pos, af, none⟩ :: l) env H K :=
  TriOps.fresh (v := fun b => .pointer (some ⟨b, 0, none⟩)) hd (fun a w ha s ro => ⟨w.drawn, by
    simp [execOp, ha.eval hx, Instr.box, newVar, newRow_run, Value.cells]⟩) hn
theorem TriOps.alloc1 {d : Nat} {E : TypeId} {z : Value} [zr : Zr P E z] [o : One z] (hn : ∀ b, TriOps false P N R ops l ((d, .pointer (some ⟨b, 0, none⟩)) :: env) ([(b, .cells [z].toArray E (0, 0))] :: H) K) (hd : Nat.blt d N = true := by rfl) :
    TriOps false P N R ops (⟨some d, .alloc E, ty, pos, af, none⟩ :: l) env H K :=
  TriOps.fresh (v := fun b => .pointer (some ⟨b, 0, none⟩)) hd (fun a w ha s ro => ⟨w.drawn, by
    have := cells_one o.h
    simp [execOp, Instr.alloc, zr.h, newVar, this, newRow_run]⟩) hn
theorem TriOps.allocA {d : Nat} {E : TypeId} {cs : List Value} [zr : Zr P E (.agg cs.toArray)] (hn : ∀ b, TriOps false P N R ops l ((d, .pointer (some ⟨b, 0, none⟩)) :: env) ([(b, .cells cs.toArray E (0, 0))] :: H) K) (hd : Nat.blt d N = true := by rfl) :
    TriOps false P N R ops (⟨some d, .alloc E, ty, pos, af, none⟩ :: l) env H K :=
  TriOps.fresh (v := fun b => .pointer (some ⟨b, 0, none⟩)) hd (fun a w ha s ro => ⟨w.drawn, by
    simp [execOp, Instr.alloc, zr.h, newVar, newRow_run, Value.cells]⟩) hn
theorem TriOps.makeMap {d : Nat} {T : TypeId} (hn : ∀ b, TriOps false P N R ops l ((d, .map (some b)) :: env) ([(b, .map #[] 0)] :: H) K) (hd : Nat.blt d N = true := by rfl) :
    TriOps false P N R ops (⟨some d, .makeMap T none, ty, pos, af, none⟩ :: l) env H K :=
  TriOps.fresh (v := fun b => .map (some b)) hd (fun a w ha s ro => ⟨w.drawn, by
    simp [execOp, Instr.makeMap, newObj, Sem.run]⟩) hn

/-! ### A struct by its parts -/
class Bld (P : Program) (t : TypeId) (places : outParam (List (Nat × Nat))) (zero : outParam (List Value)) : Prop where
  h : ∃ fs : Array Field, P.underlying t = some (.struct fs) ∧ (∀ w, (zeroValue t).run P w = .ok (.agg zero.toArray) w) ∧ ∀ w, (fs.mapM fun f => do pure (f.offset, ← sizeOf f.type) : Sem _).run P w = .ok places.toArray w
def fillL (places : List (Nat × Nat)) (cells : List Value) : List (Nat × Value) → Option (List Value)
  | [] => some cells
  | (i, v) :: r => match places[i]? with
    | none => none
    | some (off, size) => match v with
      | .agg cs => match Nat.beq cs.toList.length size && Nat.ble (off + cs.toList.length) cells.length with
        | true => fillL places (setL cells off cs.toList) r
        | false => none
      | v => match Nat.beq 1 size && Nat.ble (off + 1) cells.length with
        | true => fillL places (setL cells off [v]) r
        | false => none
theorem foldl_set (cs : List Value) : ∀ (off : Nat) (vs : List Value) (k : Nat), off + k + cs.length ≤ vs.length → (cs.zipIdx k).foldl (fun (c : Array Value) x => c.setIfInBounds (off + x.2) x.1) vs.toArray = (setL vs (off + k) cs).toArray := by
  induction cs with
  | nil => intro off vs k _; simp [setL_nil]
  | cons c cs ih =>
    intro off vs k h
    simp only [List.length_cons] at h
    rw [List.zipIdx_cons, List.foldl_cons, setL_cons (by omega)]
    simp only [List.setIfInBounds_toArray]
    rw [ih off _ (k + 1) (by simp; omega), Nat.add_assoc]
theorem fill_of_fillL {places : List (Nat × Nat)} : ∀ (parts : List (Nat × Value)) (cells : List Value) {out : List Value}, fillL places cells parts = some out → Instr.fill (places[·]?) cells.toArray parts = some out.toArray
  | [], cells, out, h => by simp [fillL] at h; simp [Instr.fill, h]
  | (i, v) :: r, cells, out, h => by
    simp only [fillL] at h
    cases hp : places[i]? with
    | none => simp [hp] at h
    | some os =>
      obtain ⟨off, size⟩ := os
      simp only [hp] at h
      have key : ∀ cs : List Value, v.cells = cs.toArray → (Nat.beq cs.length size && Nat.ble (off + cs.length) cells.length) = true → fillL places (setL cells off cs) r = some out → Instr.fill (places[·]?) cells.toArray ((i, v) :: r) = some out.toArray := by
        intro cs hcs hb hr
        simp only [Bool.and_eq_true] at hb
        have h1 := Nat.eq_of_beq_eq_true hb.1
        have h2 := Nat.le_of_ble_eq_true hb.2
        subst h1
        have hz : v.cells.size = cs.length := by rw [hcs]; simp
        have hf := foldl_set cs off cells 0 (by omega)
        have e : v.cells.zipIdx.foldl (fun cs x => cs.setIfInBounds (off + x.2) x.1) cells.toArray = (setL cells off cs).toArray := by
          rw [hcs, ← Array.foldl_toList, Array.toList_zipIdx]; exact hf
        simp only [Instr.fill, hp, hz, ne_eq, not_true]
        rw [if_neg (by simp; omega)]
        refine Eq.trans ?_ (fill_of_fillL r _ hr)
        exact congrArg (fun c => Instr.fill (places[·]?) c r) e
      cases v with
      | agg cs =>
        simp only at h
        split at h
        · rename_i hb; exact key cs.toList (by simp [Value.cells]) hb h
        · cases h
      | _ =>
        simp only at h
        split at h
        · rename_i hb; exact key [_] rfl hb h
        · cases h

theorem fill_congr {p q : Nat → Option (Nat × Nat)} : ∀ (parts : List (Nat × Value)), (∀ x ∈ parts, p x.1 = q x.1) → ∀ cells, Instr.fill p cells parts = Instr.fill q cells parts
  | [], _, cells => rfl
  | (i, v) :: r, h, cells => by
    have h1 := h (i, v) (by simp)
    simp only at h1
    simp only [Instr.fill, h1]
    split
    · rfl
    · split
      · rfl
      · exact fill_congr r (fun x hx => h x (by simp [hx])) _

theorem Quiet.build {H : Segs} {t : TypeId} {places : List (Nat × Nat)} {zero out : List Value} {xs : List (Nat × Operand)} {parts : List (Nat × Value)} [bl : Bld P t places zero]
    (hx : ∀ a, EnvOK a env → xs.map (fun p => (p.1, a.eval p.2)) = parts) (hf : fillL places zero parts = some out) : Quiet P R env H (.build t xs.toArray) ty (.agg out.toArray) := fun a w d pos af g ha s ro => by
  obtain ⟨fs, h1, h2, h3⟩ := bl.h
  have h4 := fill_of_fillL parts zero hf
  have h5 : xs.toArray.map (fun x => (x.1, a.eval x.2)) = parts.toArray := by rw [List.map_toArray, hx a ha]
  have h6 : (execOp a.eval ⟨d, .build t xs.toArray, ty, pos, af, g⟩) = (do pure (.value (← Instr.build t parts.toArray))) := by
    show (do pure (Next.value (← Instr.build t (xs.toArray.map fun x : Nat × Operand => (x.1, a.eval x.2))))) = _
    rw [h5]
  have h7 : (fun i : Nat => places.toArray[i]?) = (fun i : Nat => places[i]?) := by funext i; simp
  rw [h6]
  simp only [Instr.build, Sem.run_bind, h2, Result.andThen_ok, run_underlying h1, h3, Value.cells, h7, h4]
  rfl

def evp (env : Env) : List (Nat × Operand) → Option (List (Nat × Value))
  | [] => some []
  | (i, x) :: r => match ev env x, evp env r with
    | some v, some vs => some ((i, v) :: vs)
    | _, _ => none
theorem EnvOK.evalp {a : Act} {env : Env} (h : EnvOK a env) : ∀ {xs : List (Nat × Operand)} {vs : List (Nat × Value)}, evp env xs = some vs → xs.map (fun p => (p.1, a.eval p.2)) = vs
  | [], vs, hx => by simp [evp] at hx; simp [hx]
  | (i, x) :: r, vs, hx => by
    simp only [evp] at hx
    split at hx
    · rename_i v vs' h1 h2
      simp only [Option.some.injEq] at hx
      subst hx
      simp [h.eval h1, h.evalp h2]
    · cases hx
theorem Quiet.bld {H : Segs} {t : TypeId} {places : List (Nat × Nat)} {zero out : List Value} {xs : List (Nat × Operand)} {parts : List (Nat × Value)} [bl : Bld P t places zero]
    (hx : evp env xs = some parts := by rfl) (hf : fillL places zero parts = some out := by rfl) : Quiet P R env H (.build t xs.toArray) ty (.agg out.toArray) :=
  Quiet.build (fun a ha => ha.evalp hx) hf

/-! ### Slices that a call makes of its parts -/
theorem TriOps.buildSlice {d : Nat} {T E : TypeId} {n k : Nat} {z : Value} {zs out : List Value} {xs : List (Nat × Operand)} {parts : List (Nat × Value)} [ut : Und P T (.slice E)] [sz : Sz P E k] [zr : Zr P E z]
    (hsmall : Nat.ble (n * k) (2 ^ 24) = true) (hk : Nat.beq (n * k) 0 = false) (hzs : ((Array.range (n * k)).map (z.cells[· % z.cells.size]!)) = zs.toArray) (hx : evp env xs = some parts)
    (hf : fillL ((List.range n).map fun i => (i * k, k)) zs parts = some out)
    (hn : ∀ b, TriOps false P N R ops l ((d, .slice (some ⟨b, 0, none⟩) n n) :: env) ([(b, .cells out.toArray E (0, 0))] :: H) K) (hd : Nat.blt d N = true := by rfl) (hp : parts.all (fun p => Nat.blt p.1 n) = true := by rfl) :
    TriOps false P N R ops (⟨some d, .buildSlice T n xs.toArray, ty, pos, af, none⟩ :: l) env H K :=
  TriOps.fresh (v := fun b => .slice (some ⟨b, 0, none⟩) n n) hd (fun a w ha s ro => ⟨w.drawn, by
    have h5 : xs.toArray.map (fun x => (x.1, a.eval x.2)) = parts.toArray := by rw [List.map_toArray, ha.evalp hx]
    have h6 : (execOp a.eval ⟨some d, .buildSlice T n xs.toArray, ty, pos, af, none⟩) = (do pure (.value (← Instr.buildSlice T n parts.toArray))) := by
      show (do pure (Next.value (← Instr.buildSlice T n (xs.toArray.map fun x : Nat × Operand => (x.1, a.eval x.2))))) = _
      rw [h5]
    have h7 : Instr.fill (fun i => some (i * k, k)) zs.toArray parts = some out.toArray := by
      rw [← fill_of_fillL parts zs hf]
      refine fill_congr parts (fun p hp' => ?_) zs.toArray
      have : p.1 < n := Nat.le_of_ble_eq_true (List.all_eq_true.1 hp p hp')
      simp [this]
    have h8 : ¬ n * k > 2 ^ 24 := Nat.not_lt.2 (Nat.le_of_ble_eq_true hsmall)
    have h9 : ¬ n * k = 0 := fun e => by rw [e] at hk; cases hk
    rw [h6]
    simp only [Instr.buildSlice, Sem.run_bind, run_underlying ut.h, Result.andThen_ok, sz.h, if_neg h8, if_neg h9, Sem.run_pure, zr.h, hzs, h7, newRow_run]⟩) hn
end
end Go.Proofs.Ytlmdgdehjpahiaa
