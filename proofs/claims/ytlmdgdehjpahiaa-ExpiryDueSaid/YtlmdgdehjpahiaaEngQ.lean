/- The engine, part 3: quiet operations; over any program, no condition. -/
import Derived.Test.YtlmdgdehjpahiaaEngOps
import Derived.LaidEql
import Derived.Laws.StructEq
set_option linter.unusedVariables false
namespace Go.Proofs.Ytlmdgdehjpahiaa

def addP (p : Value) (k : Nat) : Value := match p with
  | .pointer (some a) => .pointer (some (a.add k))
  | v => v
def baseP (v : Value) (k : Nat) : Value := match v with
  | .slice (some a) _ _ => .pointer (some (a.add k))
  | v => v

/-- At the address 'p', in blocks that T knows, stand the cells 'vs'. -/
class PC (T : Rds) (p : Value) (vs : outParam (List Value)) : Prop where
  h : ∃ b off c E fr, p = .pointer (some ⟨b, off, none⟩) ∧ T b (.cells c E fr) ∧ ∀ j (hj : j < vs.length), c[off + j]? = some vs[j]
def sg (T : Seg) : Rds := fun b o => (b, o) ∈ T
class SegIn (H : Segs) (T : Seg) : Prop where h : T ∈ H
instance SegIn.here {H : Segs} {T : Seg} : SegIn (T :: H) T := ⟨by simp⟩
instance SegIn.there {H : Segs} {T T' : Seg} [h : SegIn H T] : SegIn (T' :: H) T := ⟨List.mem_cons_of_mem _ h.h⟩
class RC (R : Rds) (H : Segs) (p : Value) (vs : outParam (List Value)) : Prop where
  h : PC (Rx R H) p vs

theorem PC.mono {T T' : Rds} {p : Value} {vs : List Value} (h : PC T p vs) (ht : ∀ b o, T b o → T' b o) : PC T' p vs :=
  ⟨let ⟨b, off, c, E, fr, h1, h2, h3⟩ := h.h; ⟨b, off, c, E, fr, h1, ht _ _ h2, h3⟩⟩
theorem PC.add {T : Rds} {p : Value} {vs : List Value} (h : PC T p vs) (k : Nat) : PC T (addP p k) (vs.drop k) := by
  obtain ⟨b, off, c, E, fr, rfl, h2, h3⟩ := h.h
  refine ⟨b, off + k, c, E, fr, ?_, h2, fun j hj => ?_⟩
  · simp only [addP, Addr.add]; split
    · rename_i h0; subst h0; rfl
    · rfl
  · rw [List.length_drop] at hj
    have := h3 (k + j) (by omega)
    rw [List.getElem_drop, Nat.add_assoc]
    exact this

instance RC.there {R : Rds} {H : Segs} {T : Seg} {p : Value} {vs : List Value} [h : RC R H p vs] : RC R (T :: H) p vs :=
  ⟨h.h.mono fun b o hb => hb.imp id fun hm => by simp [hm]⟩
instance RC.here {R : Rds} {H : Segs} {b : Nat} {vs : List Value} {E : TypeId} {fr : Nat × Nat} : RC R ([(b, .cells vs.toArray E fr)] :: H) (.pointer (some ⟨b, 0, none⟩)) vs :=
  ⟨⟨b, 0, vs.toArray, E, fr, rfl, .inr (by simp), fun j hj => by simp [hj]⟩⟩
class PS (T : Seg) (p : Value) (vs : outParam (List Value)) : Prop where h : PC (sg T) p vs
instance RC.ofSeg {R : Rds} {H : Segs} {T : Seg} {p : Value} {vs : List Value} [h : PS T p vs] : RC R (T :: H) p vs :=
  ⟨h.h.mono fun b o hb => .inr (List.mem_flatten.2 ⟨T, by simp, hb⟩)⟩
instance RC.ofR {R : Rds} {H : Segs} {p : Value} {vs : List Value} [h : PC R p vs] : RC R H p vs := ⟨h.mono fun b o hb => .inl hb⟩
instance RC.add {R : Rds} {H : Segs} {p : Value} {k : Nat} {vs : List Value} [h : RC R H p vs] : RC R H (addP p k) (vs.drop k) := ⟨h.h.add k⟩

theorem pc_cells {P : Program} {R : Rds} {H : Segs} {p : Value} {vs : List Value} (h : PC (Rx R H) p vs) {w : World} (s : Sat w H) (r : RO w R H) :
    ∃ b off, p = .pointer (some ⟨b, off, none⟩) ∧ ∀ j (hj : j < vs.length), w.cell? ⟨b, off + j, none⟩ = some vs[j] := by
  obtain ⟨b, off, c, E, fr, h1, h2, h3⟩ := h.h
  refine ⟨b, off, h1, fun j hj => ?_⟩
  have hb : w.heap[b]? = some (.cells c E fr) := by
    rcases h2 with h2 | h2
    · exact (r b _ h2).1
    · exact s.2 _ h2
  simp [World.cell?, hb, h3 j hj]

theorem run_load1 {P : Program} {a : Addr} {v : Value} {w : World} (h : w.cell? a = some v) : (load a).run P w = .ok v w := by
  rw [run_load, h]

theorem run_loadCellsFrom {P : Program} {w : World} {b off : Nat} : ∀ (vs : List Value) (i : Nat) (acc : Array Value), (∀ j (hj : j < vs.length), w.cell? ⟨b, off + i + j, none⟩ = some vs[j]) →
    (loadCellsFrom ⟨b, off, none⟩ i vs.length acc).run P w = .ok (acc ++ vs.toArray) w
  | [], i, acc, _ => by simp [loadCellsFrom]
  | v :: r, i, acc, h => by
    have h0 := h 0 (by simp)
    have hi : (⟨b, off, none⟩ : Addr).add i = ⟨b, off + i, none⟩ := by
      simp only [Addr.add]; split
      · rename_i h0; subst h0; rfl
      · rfl
    have h1 : (load ⟨b, off + i, none⟩).run P w = .ok v w := run_load1 (by simpa using h0)
    have h2 := run_loadCellsFrom (P := P) r (i + 1) (acc.push v) (fun j hj => by
      have := h (j + 1) (by simp; omega)
      simpa [Nat.add_assoc, Nat.add_comm 1 j] using this)
    simp only [List.length_cons, loadCellsFrom, hi, Sem.run_bind, h1, Result.andThen_ok, h2]
    simp

section
variable {P : Program} {R : Rds} {env : Env} {H : Segs} {ty : TypeId}

theorem Quiet.move {x : Operand} {v : Value} (h : ev env x = some v := by rfl) : Quiet P R env H (.move x) ty v := fun a w d pos af g ha _ _ => by
  simp [execOp, ha.eval h]
theorem Quiet.assign {x : Operand} {v : Value} (h : ev env x = some v := by rfl) : Quiet P R env H (.assign x) ty v := fun a w d pos af g ha _ _ => by
  simp [execOp, ha.eval h]
theorem Quiet.pick {c x y : Operand} {b : Bool} {u v : Value} (hc : ev env c = some (.bool b) := by rfl) (hx : ev env x = some u := by rfl) (hy : ev env y = some v := by rfl) :
    Quiet P R env H (.pick c x y) ty (if b then u else v) := fun a w d pos af g ha _ _ => by
  simp [execOp, ha.eval hc, ha.eval hx, ha.eval hy, asBool]
theorem Quiet.pickB {c x y : Operand} {b p q : Bool} (hc : ev env c = some (.bool b) := by rfl) (hx : ev env x = some (.bool p) := by rfl) (hy : ev env y = some (.bool q) := by rfl) :
    Quiet P R env H (.pick c x y) ty (.bool (if b then p else q)) := fun a w d pos af g ha _ _ => by
  simp only [execOp, ha.eval hc, ha.eval hx, ha.eval hy, asBool]
  cases b <;> simp
theorem Quiet.pickT {c x y : Operand} {u : Value} (hc : ev env c = some (.bool true) := by rfl) (hx : ev env x = some u := by rfl) :
    Quiet P R env H (.pick c x y) ty u := fun a w d pos af g ha _ _ => by
  simp [execOp, ha.eval hc, ha.eval hx, asBool]
theorem Quiet.pickF {c x y : Operand} {v : Value} (hc : ev env c = some (.bool false) := by rfl) (hy : ev env y = some v := by rfl) :
    Quiet P R env H (.pick c x y) ty v := fun a w d pos af g ha _ _ => by
  simp [execOp, ha.eval hc, ha.eval hy, asBool]

theorem Quiet.nilCheck {x : Operand} {p : Value} {vs : List Value} (hx : ev env x = some p) [rc : RC R H p vs] : Quiet P R env H (.nilCheck x) ty p := fun a w d pos af g ha _ _ => by
  obtain ⟨b, off, c, E, fr, h1, _, _⟩ := rc.h.h
  subst h1
  simp [execOp, ha.eval hx]
theorem Quiet.nilCheckP {x : Operand} {a0 : Addr} (hx : ev env x = some (.pointer (some a0))) : Quiet P R env H (.nilCheck x) ty (.pointer (some a0)) := fun a w d pos af g ha _ _ => by
  simp [execOp, ha.eval hx]
theorem Quiet.fieldAddr {x : Operand} {s : TypeId} {f off : Nat} {p : Value} {vs : List Value} (hx : ev env x = some p) [fl : Fld P s f off] [rc : RC R H p vs] : Quiet P R env H (.fieldAddr s x f) ty (addP p off) := fun a w d pos af g ha _ _ => by
  obtain ⟨b, o, c, E, fr, h1, _, _⟩ := rc.h.h
  subst h1
  simp [execOp, ha.eval hx, fl.h, addP]
theorem Quiet.load1 {x : Operand} {t : TypeId} {p u : Value} {vs r : List Value} (hx : ev env x = some p) [ag : Agg P t false] [rc : RC R H p vs] (hu : vs = u :: r := by rfl) : Quiet P R env H (.load t x) ty u := fun a w d pos af g ha s ro => by
  obtain ⟨b, off, h1, h2⟩ := pc_cells (P := P) rc.h s ro
  subst h1; subst hu
  have := h2 0 (by simp)
  have h3 : w.cell? ⟨b, off, none⟩ = some u := by simpa using this
  simp [execOp, ha.eval hx, Instr.loadAt, Instr.sureAddr, loadVar, ag.h, h3]
theorem Quiet.loadA {x : Operand} {t : TypeId} {p : Value} {n : Nat} {vs : List Value} (hx : ev env x = some p) [ag : Agg P t true] [sz : Sz P t n] [rc : RC R H p vs] (hn : vs.length = n := by rfl) : Quiet P R env H (.load t x) ty (.agg vs.toArray) := fun a w d pos af g ha s ro => by
  obtain ⟨b, off, h1, h2⟩ := pc_cells (P := P) rc.h s ro
  subst h1; subst hn
  have := run_loadCellsFrom (P := P) (w := w) (b := b) (off := off) vs 0 #[] (by simpa using h2)
  simp [execOp, ha.eval hx, Instr.loadAt, Instr.sureAddr, loadVar, ag.h, sz.h, loadCells, this]
theorem Quiet.loadT {x : Operand} {t : TypeId} {p : Value} {n : Nat} {vs us : List Value} (hx : ev env x = some p) [ag : Agg P t true] [sz : Sz P t n] [rc : RC R H p vs] (hn : vs.take n = us := by rfl) (hl : us.length = n := by rfl) : Quiet P R env H (.load t x) ty (.agg us.toArray) := fun a w d pos af g ha s ro => by
  obtain ⟨b, off, h1, h2⟩ := pc_cells (P := P) rc.h s ro
  subst h1; subst hl
  have hle : us.length ≤ vs.length := by
    have := congrArg List.length hn; rw [List.length_take] at this; omega
  have := run_loadCellsFrom (P := P) (w := w) (b := b) (off := off) us 0 #[] (fun j hj => by
    have := h2 j (by omega)
    have e : us[j] = vs[j]'(by omega) := by rw [List.getElem_of_eq hn.symm hj, List.getElem_take]
    rw [e]; simpa using this)
  simp [execOp, ha.eval hx, Instr.loadAt, Instr.sureAddr, loadVar, ag.h, sz.h, loadCells, this]
theorem Quiet.makeFunc {fn : Fn} {xs ys : List Operand} {us vs : List Value} (hx : evs env xs = some us := by rfl) (hy : evs env ys = some vs := by rfl) : Quiet P R env H (.makeFunc fn xs.toArray ys.toArray) ty (.func fn us.toArray vs.toArray) := fun a w d pos af g ha _ _ => by
  have h1 := ha.evalsA hx
  have h2 := ha.evalsA hy
  simp only [execOp, h1, h2, Instr.makeFunc]
  rfl
theorem Quiet.convS {x : Operand} {t u : TypeId} {s : ByteArray} (hx : ev env x = some (.string s) := by rfl) [ut : Und P t .string] [uu : Und P u .string] : Quiet P R env H (.convert t u x) ty (.string s) := fun a w d pos af g ha _ _ => by
  simp [execOp, ha.eval hx, convert, run_underlying ut.h, run_underlying uu.h]
theorem Quiet.makeInterface {x : Operand} {t : TypeId} {v : Value} {d0 : TypeDesc} [ut : Und P t d0] (hd : (match d0 with | .interface _ => false | _ => true) = true := by rfl) (hx : ev env x = some v := by rfl) : Quiet P R env H (.makeInterface t x) ty (.iface t v) := fun a w d pos af g ha _ _ => by
  cases d0 <;> first | (cases hd; done) | simp [execOp, ha.eval hx, Instr.makeInterface, run_underlying ut.h]
theorem Quiet.extract {x : Operand} {i : Nat} {vs : List Value} {v : Value} (hx : ev env x = some (.tuple vs.toArray) := by rfl) (hv : vs[i]? = some v := by rfl) : Quiet P R env H (.extract x i) ty v := fun a w d pos af g ha _ _ => by
  simp [execOp, ha.eval hx, Instr.extract, hv]
theorem Quiet.not {x : Operand} {t : TypeId} {b : Bool} (hx : ev env x = some (.bool b) := by rfl) : Quiet P R env H (.unOp .not t x) ty (.bool (!b)) := fun a w d pos af g ha _ _ => by
  simp [execOp, ha.eval hx, Op.unary]
theorem Quiet.neg {x : Operand} {t : TypeId} {k : IntKind} {n : Int} (hx : ev env x = some (.int k n) := by rfl) : Quiet P R env H (.unOp .neg t x) ty (.int k (k.wrap (0 - n))) := fun a w d pos af g ha _ _ => by
  simp [execOp, ha.eval hx, Op.unary, Op.intArith]

theorem eqGuard_other {op : BinOp} {t : TypeId} {x y : Operand} {u v : Value} {w : World} (h : (match u, v with | .nilIface, .nilIface => false | .agg _, .agg _ => false | _, _ => true) = true) : (eqGuard op t x y u v).run P w = .ok () w := by
  unfold eqGuard
  cases u <;> cases v <;> first | (cases h; done) | (cases op <;> rfl)

section ints
variable {x y : Operand} {t u : TypeId} {k : IntKind} {m n : Int}
theorem Quiet.add (hx : ev env x = some (.int k m) := by rfl) (hy : ev env y = some (.int k n) := by rfl) : Quiet P R env H (.binOp .add t x y u) ty (.int k (k.wrap (m + n))) := fun a w d pos af g ha _ _ => by
  simp [execOp, ha.eval hx, ha.eval hy, eqGuard, binOp, Op.intArith]
theorem Quiet.sub (hx : ev env x = some (.int k m) := by rfl) (hy : ev env y = some (.int k n) := by rfl) : Quiet P R env H (.binOp .sub t x y u) ty (.int k (k.wrap (m - n))) := fun a w d pos af g ha _ _ => by
  simp [execOp, ha.eval hx, ha.eval hy, eqGuard, binOp, Op.intArith]
theorem Quiet.mul (hx : ev env x = some (.int k m) := by rfl) (hy : ev env y = some (.int k n) := by rfl) : Quiet P R env H (.binOp .mul t x y u) ty (.int k (k.wrap (m * n))) := fun a w d pos af g ha _ _ => by
  simp [execOp, ha.eval hx, ha.eval hy, eqGuard, binOp, Op.intArith]
theorem Quiet.quo (hx : ev env x = some (.int k m) := by rfl) (hy : ev env y = some (.int k n) := by rfl) (hn : n ≠ 0 := by decide) : Quiet P R env H (.binOp .quo t x y u) ty (.int k (k.wrap (m.tdiv n))) := fun a w d pos af g ha _ _ => by
  simp [execOp, ha.eval hx, ha.eval hy, eqGuard, binOp, Op.intDiv, hn]
theorem Quiet.rem (hx : ev env x = some (.int k m) := by rfl) (hy : ev env y = some (.int k n) := by rfl) (hn : n ≠ 0 := by decide) : Quiet P R env H (.binOp .rem t x y u) ty (.int k (m.tmod n)) := fun a w d pos af g ha _ _ => by
  simp [execOp, ha.eval hx, ha.eval hy, eqGuard, binOp, Op.intDiv, hn]
theorem Quiet.lss (hx : ev env x = some (.int k m) := by rfl) (hy : ev env y = some (.int k n) := by rfl) : Quiet P R env H (.binOp .lss t x y u) ty (.bool (m < n)) := fun a w d pos af g ha _ _ => by
  simp [execOp, ha.eval hx, ha.eval hy, eqGuard, binOp, Op.intCmp]
theorem Quiet.leq (hx : ev env x = some (.int k m) := by rfl) (hy : ev env y = some (.int k n) := by rfl) : Quiet P R env H (.binOp .leq t x y u) ty (.bool (m ≤ n)) := fun a w d pos af g ha _ _ => by
  simp [execOp, ha.eval hx, ha.eval hy, eqGuard, binOp, Op.intCmp]
theorem Quiet.gtr (hx : ev env x = some (.int k m) := by rfl) (hy : ev env y = some (.int k n) := by rfl) : Quiet P R env H (.binOp .gtr t x y u) ty (.bool (n < m)) := fun a w d pos af g ha _ _ => by
  simp [execOp, ha.eval hx, ha.eval hy, eqGuard, binOp, Op.intCmp]
theorem Quiet.geq (hx : ev env x = some (.int k m) := by rfl) (hy : ev env y = some (.int k n) := by rfl) : Quiet P R env H (.binOp .geq t x y u) ty (.bool (n ≤ m)) := fun a w d pos af g ha _ _ => by
  simp [execOp, ha.eval hx, ha.eval hy, eqGuard, binOp, Op.intCmp]
theorem Quiet.eqI (hx : ev env x = some (.int k m) := by rfl) (hy : ev env y = some (.int k n) := by rfl) : Quiet P R env H (.binOp .eql t x y u) ty (.bool (m == n)) := fun a w d pos af g ha _ _ => by
  simp [execOp, ha.eval hx, ha.eval hy, eqGuard, binOp, Op.intCmp]
theorem Quiet.neI (hx : ev env x = some (.int k m) := by rfl) (hy : ev env y = some (.int k n) := by rfl) : Quiet P R env H (.binOp .neq t x y u) ty (.bool (m != n)) := fun a w d pos af g ha _ _ => by
  simp [execOp, ha.eval hx, ha.eval hy, eqGuard, binOp, Op.intCmp]
theorem Quiet.convI {dst : TypeId} {k' : IntKind} (hx : ev env x = some (.int k n) := by rfl) {ds : TypeDesc} [us : Und P t ds] [ud : Und P dst (.int k')] : Quiet P R env H (.convert t dst x) ty (.int k' (k'.wrap n)) := fun a w d pos af g ha _ _ => by
  simp [execOp, ha.eval hx, convert, run_underlying us.h, run_underlying ud.h, Conv.intToInt]
end ints

theorem run_eqlOp {op : Op} {t : TypeId} {x y : Operand} {u v : Value} {ty u2 : TypeId} {a : Act} {w : World} {d : Option Tmp} {pos : String} {af : Array Edge} {g : Option (Nat × Bool)} {r : Bool} (hx : a.eval x = u) (hy : a.eval y = v)
    (hg : (eqGuard .eql t x y u v).run P w = .ok () w) (hb : binOp .eql t u v = do pure (.bool (← Op.equal t u v))) (he : (Op.equalIn (9999 + 1) t u v).run P w = .ok r w) :
    (execOp a.eval ⟨d, .binOp .eql t x y u2, ty, pos, af, g⟩).run P w = .ok (.value (.bool r)) w := by
  have he' : (Op.equal t u v).run P w = .ok r w := he
  simp only [execOp, hx, hy, Sem.run_bind, hg, Result.andThen_ok, hb, he']
  rfl
theorem run_neqOp {op : Op} {t : TypeId} {x y : Operand} {u v : Value} {ty u2 : TypeId} {a : Act} {w : World} {d : Option Tmp} {pos : String} {af : Array Edge} {g : Option (Nat × Bool)} {r : Bool} (hx : a.eval x = u) (hy : a.eval y = v)
    (hg : (eqGuard .neq t x y u v).run P w = .ok () w) (hb : binOp .neq t u v = do pure (.bool (!(← Op.equal t u v)))) (he : (Op.equalIn (9999 + 1) t u v).run P w = .ok r w) :
    (execOp a.eval ⟨d, .binOp .neq t x y u2, ty, pos, af, g⟩).run P w = .ok (.value (.bool (!r))) w := by
  have he' : (Op.equal t u v).run P w = .ok r w := he
  simp only [execOp, hx, hy, Sem.run_bind, hg, Result.andThen_ok, hb, he']
  rfl

section bools
variable {x y : Operand} {t u : TypeId} {b c : Bool}
theorem run_equalIn_bool (n : Nat) {w : World} (ut : P.underlying t = some .bool) : (Op.equalIn (n + 1) t (.bool b) (.bool c)).run P w = .ok (b == c) w := by
  simp [Op.equalIn, run_underlying ut]
theorem Quiet.eqB (hx : ev env x = some (.bool b) := by rfl) (hy : ev env y = some (.bool c) := by rfl) [ut : Und P t .bool] : Quiet P R env H (.binOp .eql t x y u) ty (.bool (b == c)) := fun a w d pos af g ha _ _ =>
  run_eqlOp (op := .move x) (ha.eval hx) (ha.eval hy) (eqGuard_other rfl) rfl (run_equalIn_bool _ ut.h)
theorem Quiet.neB (hx : ev env x = some (.bool b) := by rfl) (hy : ev env y = some (.bool c) := by rfl) [ut : Und P t .bool] : Quiet P R env H (.binOp .neq t x y u) ty (.bool !(b == c)) := fun a w d pos af g ha _ _ =>
  run_neqOp (op := .move x) (ha.eval hx) (ha.eval hy) (eqGuard_other rfl) rfl (run_equalIn_bool _ ut.h)
end bools

theorem toList_inj {a b : ByteArray} (h : a.toList = b.toList) : a = b := by
  rw [ByteArray.toList_eq, ByteArray.toList_eq] at h
  exact ByteArray.ext (Array.toList_inj.1 h)
theorem beq_str (a b : ByteArray) : (a.toList == b.toList) = decide (a = b) := by
  by_cases h : a = b
  · subst h; simp
  · simp only [h, decide_false, beq_eq_false_iff_ne, ne_eq]
    exact fun e => h (toList_inj e)
theorem beq_str' (a b : ByteArray) : (a == b) = decide (a = b) := by rw [beq_toListBytes, beq_str]
/-- Whether a text stands ahead of another. -/
def sLt (a b : ByteArray) : Bool := Op.bytesLess a.toList b.toList

section strs
variable {x y : Operand} {t u : TypeId} {p q : ByteArray}
theorem Quiet.eqS (hx : ev env x = some (.string p) := by rfl) (hy : ev env y = some (.string q) := by rfl) : Quiet P R env H (.binOp .eql t x y u) ty (.bool (decide (p = q))) := fun a w d pos af g ha _ _ => by
  rw [← beq_str]; simp [execOp, ha.eval hx, ha.eval hy, eqGuard, binOp, Op.stringOp]
theorem Quiet.neS (hx : ev env x = some (.string p) := by rfl) (hy : ev env y = some (.string q) := by rfl) : Quiet P R env H (.binOp .neq t x y u) ty (.bool !(decide (p = q))) := fun a w d pos af g ha _ _ => by
  rw [← beq_str]; simp [execOp, ha.eval hx, ha.eval hy, eqGuard, binOp, Op.stringOp]
theorem Quiet.ltS (hx : ev env x = some (.string p) := by rfl) (hy : ev env y = some (.string q) := by rfl) : Quiet P R env H (.binOp .lss t x y u) ty (.bool (sLt p q)) := fun a w d pos af g ha _ _ => by
  simp [execOp, ha.eval hx, ha.eval hy, eqGuard, binOp, Op.stringOp, sLt]
theorem Quiet.gtS (hx : ev env x = some (.string p) := by rfl) (hy : ev env y = some (.string q) := by rfl) : Quiet P R env H (.binOp .gtr t x y u) ty (.bool !(sLt p q || decide (p = q))) := fun a w d pos af g ha _ _ => by
  rw [← beq_str]; simp [execOp, ha.eval hx, ha.eval hy, eqGuard, binOp, Op.stringOp, sLt]
theorem Quiet.leS (hx : ev env x = some (.string p) := by rfl) (hy : ev env y = some (.string q) := by rfl) : Quiet P R env H (.binOp .leq t x y u) ty (.bool (sLt p q || decide (p = q))) := fun a w d pos af g ha _ _ => by
  rw [← beq_str]; simp [execOp, ha.eval hx, ha.eval hy, eqGuard, binOp, Op.stringOp, sLt]
theorem Quiet.geS (hx : ev env x = some (.string p) := by rfl) (hy : ev env y = some (.string q) := by rfl) : Quiet P R env H (.binOp .geq t x y u) ty (.bool !(sLt p q)) := fun a w d pos af g ha _ _ => by
  simp [execOp, ha.eval hx, ha.eval hy, eqGuard, binOp, Op.stringOp, sLt]
theorem Quiet.lenS (hx : ev env x = some (.string p) := by rfl) [ut : Und P t .string] : Quiet P R env H (.call ⟨.builtin .len, #[x], #[t]⟩) ty (.int .i64 p.size) := fun a w d pos af g ha _ _ => by
  simp [execOp, resolve, ha.eval hx, invoke, builtin, Builtin.len_, run_underlying ut.h, goInt]
theorem Quiet.indexS {i : Operand} {k : IntKind} {j : Int} (n : Nat) (hn : n < p.size) (hx : ev env x = some (.string p) := by rfl) (hi : ev env i = some (.int k j) := by rfl) (hj : j = (n : Int) := by rfl) [ut : Und P t .string] :
    Quiet P R env H (.index t x i) ty (.int .u8 (p[n]).toNat) := fun a w d pos af g ha _ _ => by
  subst hj
  simp [execOp, ha.eval hx, ha.eval hi, Instr.index, asIntOf, run_underlying ut.h, hn]
end strs

section nils
variable {x y : Operand} {t u e : TypeId}
theorem run_equalIn_nil (n : Nat) {w : World} {p : Option Addr} (ut : P.underlying t = some (.pointer e)) : (Op.equalIn (n + 1) t (.pointer p) (.pointer none)).run P w = .ok p.isNone w := by
  cases p <;> simp [Op.equalIn, run_underlying ut]
theorem Quiet.eqNilA {p : Option Addr} (hx : ev env x = some (.pointer p)) (hy : ev env y = some (.pointer none)) [ut : Und P t (.pointer e)] : Quiet P R env H (.binOp .eql t x y u) ty (.bool p.isNone) := fun a w d pos af g ha _ _ =>
  run_eqlOp (op := .move x) (ha.eval hx) (ha.eval hy) (eqGuard_other rfl) rfl (run_equalIn_nil _ ut.h)
theorem Quiet.neNilA {p : Option Addr} (hx : ev env x = some (.pointer p)) (hy : ev env y = some (.pointer none)) [ut : Und P t (.pointer e)] : Quiet P R env H (.binOp .neq t x y u) ty (.bool !p.isNone) := fun a w d pos af g ha _ _ =>
  run_neqOp (op := .move x) (ha.eval hx) (ha.eval hy) (eqGuard_other rfl) rfl (run_equalIn_nil _ ut.h)
theorem Quiet.eqNilP {p : Value} {vs : List Value} (hx : ev env x = some p) (hy : ev env y = some (.pointer none)) [ut : Und P t (.pointer e)] [rc : RC R H p vs] : Quiet P R env H (.binOp .eql t x y u) ty (.bool false) := fun a w d pos af g ha _ _ => by
  obtain ⟨b, off, c, E, fr, h1, _, _⟩ := rc.h.h
  subst h1
  exact run_eqlOp (op := .move x) (ha.eval hx) (ha.eval hy) (eqGuard_other rfl) rfl (run_equalIn_nil _ ut.h)
theorem Quiet.neNilP {p : Value} {vs : List Value} (hx : ev env x = some p) (hy : ev env y = some (.pointer none)) [ut : Und P t (.pointer e)] [rc : RC R H p vs] : Quiet P R env H (.binOp .neq t x y u) ty (.bool true) := fun a w d pos af g ha _ _ => by
  obtain ⟨b, off, c, E, fr, h1, _, _⟩ := rc.h.h
  subst h1
  exact run_neqOp (op := .move x) (ha.eval hx) (ha.eval hy) (eqGuard_other rfl) rfl (run_equalIn_nil _ ut.h)
end nils
end
end Go.Proofs.Ytlmdgdehjpahiaa
