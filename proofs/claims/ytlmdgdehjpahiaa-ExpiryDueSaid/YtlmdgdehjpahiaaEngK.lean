/- The engine, part 8: equality of plain values, keys; over any program, no condition. -/
import Derived.Test.YtlmdgdehjpahiaaEngA
set_option linter.unusedVariables false
namespace Go.Proofs.Ytlmdgdehjpahiaa

inductive CK where
  | i (k : IntKind)
  | s
  | b
def ckOf : CK → Value → Prop
  | .i k, .int k' _ => k' = k
  | .s, .string _ => True
  | .b, .bool _ => True
  | _, _ => False
def HasK : List CK → List Value → Prop
  | [], [] => True
  | k :: ks, v :: vs => ckOf k v ∧ HasK ks vs
  | _, _ => False
def cellEq : Value → Value → Bool
  | .int _ a, .int _ b => a == b
  | .string a, .string b => decide (a = b)
  | .bool a, .bool b => a == b
  | _, _ => false
def cellsEq : List Value → List Value → Bool
  | [], [] => true
  | a :: l, b :: l2 => cellEq a b && cellsEq l l2
  | _, _ => false
def pack : Bool → List Value → Value
  | false, [x] => x
  | _, xs => .agg xs.toArray

theorem HasK.length : ∀ {ks : List CK} {vs : List Value}, HasK ks vs → vs.length = ks.length
  | [], [], _ => rfl
  | _ :: ks, _ :: vs, h => by simp [HasK.length (ks := ks) (vs := vs) h.2]
  | [], _ :: _, h => h.elim
  | _ :: _, [], h => h.elim
theorem HasK.split : ∀ {ks ks' : List CK} {vs : List Value}, HasK (ks ++ ks') vs → HasK ks (vs.take ks.length) ∧ HasK ks' (vs.drop ks.length)
  | [], ks', vs, h => by simpa [HasK] using h
  | k :: ks, ks', v :: vs, h => by
    have := HasK.split (ks := ks) (ks' := ks') (vs := vs) h.2
    exact ⟨⟨h.1, this.1⟩, this.2⟩
  | _ :: _, _, [], h => h.elim
theorem cellsEq_split : ∀ (n : Nat) {xs ys : List Value}, n ≤ xs.length → n ≤ ys.length → cellsEq xs ys = (cellsEq (xs.take n) (ys.take n) && cellsEq (xs.drop n) (ys.drop n))
  | 0, xs, ys, _, _ => by simp [cellsEq]
  | n + 1, x :: xs, y :: ys, h1, h2 => by
    simp only [List.length_cons] at h1 h2
    simp only [cellsEq, List.take_succ_cons, List.drop_succ_cons]
    rw [cellsEq_split n (by omega) (by omega), Bool.and_assoc]
  | n + 1, [], _, h1, _ => by simp at h1
  | n + 1, _ :: _, [], _, h2 => by simp at h2

class EqT (P : Program) (t : TypeId) (n : outParam Nat) (ks : outParam (List CK)) (agg : outParam Bool) : Prop where
  ne : 0 < n
  eq : ∀ d, n ≤ d → ∀ w xs ys, HasK ks xs → HasK ks ys → (Op.equalIn d t (pack agg xs) (pack agg ys)).run P w = .ok (cellsEq xs ys) w
  ck : ∀ d, n ≤ d → ∀ e w xs, HasK ks xs → (Instr.checkKey e d t (pack agg xs)).run P w = .ok () w
  part : ∀ w (X : List Value) off xs, (X.drop off).take ks.length = xs → xs.length = ks.length → (part t X.toArray off).run P w = .ok (pack agg xs) w

def ckFields (e : Bool) (d : Nat) (xs : Array Value) : List Field → Sem Unit
  | [] => pure ()
  | f :: fs => if f.name ≠ "_" then do Instr.checkKey e d f.type (← part f.type xs f.offset); ckFields e d xs fs else ckFields e d xs fs

structure EqFs (P : Program) (n off : Nat) (fs : List Field) (ks : List CK) : Prop where
  eq : ∀ d, n ≤ d → ∀ w (X Y xs ys : List Value), X.drop off = xs → Y.drop off = ys → HasK ks xs → HasK ks ys → (Op.eqFields d X.toArray Y.toArray fs).run P w = .ok (cellsEq xs ys) w
  ck : ∀ d, n ≤ d → ∀ e w (X xs : List Value), X.drop off = xs → HasK ks xs → (ckFields e d X.toArray fs).run P w = .ok () w

section
variable {P : Program}

theorem hasK_one {k : CK} {xs : List Value} (h : HasK [k] xs) : ∃ x, xs = [x] ∧ ckOf k x := by
  match xs, h with
  | [x], h => exact ⟨x, rfl, h.1⟩

theorem part_one {t : TypeId} (ag : Agg P t false) (w : World) (X : List Value) (off : Nat) (xs : List Value) (h : (X.drop off).take 1 = xs) (hl : xs.length = 1) : (part t X.toArray off).run P w = .ok (pack false xs) w := by
  match xs, hl with
  | [x], _ =>
    have hx : X[off]? = some x := by
      have h2 := congrArg (fun l : List Value => l[0]?) h
      simpa [List.getElem?_take, List.getElem?_drop] using h2
    simp [Go.part, ag.h, hx, pack]

theorem EqT.int {t : TypeId} {k : IntKind} (u : Und P t (.int k)) (ag : Agg P t false) : EqT P t 1 [.i k] false where
  ne := by decide
  eq d hd w xs ys hx hy := by
    obtain ⟨x, rfl, h1⟩ := hasK_one hx
    obtain ⟨y, rfl, h2⟩ := hasK_one hy
    obtain ⟨d, rfl⟩ : ∃ d', d = d' + 1 := ⟨d - 1, by omega⟩
    cases x <;> simp only [ckOf] at h1
    cases y <;> simp only [ckOf] at h2
    subst h1; subst h2
    simp [pack, Op.equalIn, run_underlying u.h, cellsEq, cellEq]
  ck d hd e w xs hx := by
    obtain ⟨x, rfl, h1⟩ := hasK_one hx
    obtain ⟨d, rfl⟩ : ∃ d', d = d' + 1 := ⟨d - 1, by omega⟩
    simp [pack, Instr.checkKey, run_underlying u.h]
  part w X off xs h hl := part_one ag w X off xs h hl
theorem EqT.str {t : TypeId} (u : Und P t .string) (ag : Agg P t false) : EqT P t 1 [.s] false where
  ne := by decide
  eq d hd w xs ys hx hy := by
    obtain ⟨x, rfl, h1⟩ := hasK_one hx
    obtain ⟨y, rfl, h2⟩ := hasK_one hy
    obtain ⟨d, rfl⟩ : ∃ d', d = d' + 1 := ⟨d - 1, by omega⟩
    cases x <;> simp only [ckOf] at h1
    cases y <;> simp only [ckOf] at h2
    simp [pack, Op.equalIn, run_underlying u.h, cellsEq, cellEq, beq_str']
  ck d hd e w xs hx := by
    obtain ⟨x, rfl, h1⟩ := hasK_one hx
    obtain ⟨d, rfl⟩ : ∃ d', d = d' + 1 := ⟨d - 1, by omega⟩
    simp [pack, Instr.checkKey, run_underlying u.h]
  part w X off xs h hl := part_one ag w X off xs h hl
theorem EqT.bool {t : TypeId} (u : Und P t .bool) (ag : Agg P t false) : EqT P t 1 [.b] false where
  ne := by decide
  eq d hd w xs ys hx hy := by
    obtain ⟨x, rfl, h1⟩ := hasK_one hx
    obtain ⟨y, rfl, h2⟩ := hasK_one hy
    obtain ⟨d, rfl⟩ : ∃ d', d = d' + 1 := ⟨d - 1, by omega⟩
    cases x <;> simp only [ckOf] at h1
    cases y <;> simp only [ckOf] at h2
    simp [pack, Op.equalIn, run_underlying u.h, cellsEq, cellEq]
  ck d hd e w xs hx := by
    obtain ⟨x, rfl, h1⟩ := hasK_one hx
    obtain ⟨d, rfl⟩ : ∃ d', d = d' + 1 := ⟨d - 1, by omega⟩
    simp [pack, Instr.checkKey, run_underlying u.h]
  part w X off xs h hl := part_one ag w X off xs h hl

theorem EqFs.nil {n off : Nat} : EqFs P n off [] [] where
  eq d hd w X Y xs ys hx hy h1 h2 := by
    cases xs <;> cases ys <;> simp_all [HasK, Op.eqFields, cellsEq]
  ck d hd e w X xs hx h1 := rfl
theorem EqFs.cons {n m off : Nat} {f : Field} {fs : List Field} {kf ks : List CK} {agg : Bool} (ef : EqT P f.type m kf agg) (h : EqFs P n (off + kf.length) fs ks) (hm : m ≤ n := by decide) (ho : f.offset = off := by rfl) (hn : f.name ≠ "_" := by decide) : EqFs P n off (f :: fs) (kf ++ ks) where
  eq d hd w X Y xs ys hx hy h1 h2 := by
    obtain ⟨a1, a2⟩ := h1.split
    obtain ⟨b1, b2⟩ := h2.split
    have l1 := h1.length
    have l2 := h2.length
    rw [List.length_append] at l1 l2
    have e1 := ef.part w X off (xs.take kf.length) (by rw [hx]) a1.length
    have e2 := ef.part w Y off (ys.take kf.length) (by rw [hy]) b1.length
    have e3 := ef.eq d (by omega) w _ _ a1 b1
    have e4 := h.eq d hd w X Y (xs.drop kf.length) (ys.drop kf.length) (by rw [← hx, List.drop_drop]) (by rw [← hy, List.drop_drop]) a2 b2
    simp only [Op.eqFields, hn, ne_eq, not_false_eq_true, if_true, ho, Sem.run_bind, e1, e2, e3, Result.andThen_ok]
    rw [cellsEq_split kf.length (xs := xs) (ys := ys) (by omega) (by omega)]
    cases cellsEq (xs.take kf.length) (ys.take kf.length)
    · simp
    · simp only [Bool.not_true, Bool.false_eq_true, if_false, Bool.true_and]; exact e4
  ck d hd e w X xs hx h1 := by
    obtain ⟨a1, a2⟩ := h1.split
    have e1 := ef.part w X off (xs.take kf.length) (by rw [hx]) a1.length
    have e3 := ef.ck d (by omega) e w _ a1
    have e4 := h.ck d hd e w X (xs.drop kf.length) (by rw [← hx, List.drop_drop]) a2
    simp only [ckFields, hn, ne_eq, not_false_eq_true, if_true, ho, Sem.run_bind, e1, e3, Result.andThen_ok]
    exact e4

theorem run_checkKey_struct {t : TypeId} {fs : Array Field} (e : Bool) (d : Nat) (xs : Array Value) (w : World) (ht : P.underlying t = some (.struct fs)) : (Instr.checkKey e (d + 1) t (.agg xs)).run P w = (ckFields e d xs fs.toList).run P w := by
  simp only [Instr.checkKey, Sem.run_bind, run_underlying ht, Result.andThen_ok]
  rw [← Array.forIn_toList]
  generalize fs.toList = fl
  clear ht
  induction fl generalizing w with
  | nil => simp [ckFields]
  | cons f fl ih =>
    simp only [List.forIn_cons, ckFields, Sem.run_bind, Sem.run_ite]
    split
    · generalize (part f.type xs f.offset).run P w = r1
      cases r1 with
      | ok a w1 =>
        simp only [Result.andThen_ok]
        generalize (Instr.checkKey e d f.type a).run P w1 = r2
        cases r2 with
        | ok b w2 => simp only [Result.andThen_ok, Sem.run_pure]; exact ih w2
        | halt x w2 => rfl
      | halt x w1 => rfl
    · simp only [Sem.run_pure, Result.andThen_ok]
      exact ih w

theorem EqFs.more {n m off : Nat} {f : Field} {fs : List Field} {kf ks ks' : List CK} {agg : Bool} (ef : EqT P f.type m kf agg) (h : EqFs P n (off + kf.length) fs ks) (hk : ks' = kf ++ ks := by rfl) (hm : m ≤ n := by decide) (ho : f.offset = off := by rfl) (hn : f.name ≠ "_" := by decide) : EqFs P n off (f :: fs) ks' := by
  subst hk; exact EqFs.cons ef h hm ho hn

theorem EqT.struct {t n : Nat} {fs : Array Field} {ks : List CK} (u : P.underlying t = some (.struct fs)) (hp : P.stoodInHeld t = false) (ag : Agg P t true) (sz : Sz P t ks.length) (h : EqFs P n 0 fs.toList ks) : EqT P t (n + 1) ks true where
  ne := by omega
  eq d hd w xs ys hx hy := by
    obtain ⟨d, rfl⟩ : ∃ d', d = d' + 1 := ⟨d - 1, by omega⟩
    have hf : P.fieldsOf t = fs := by simp [Program.fieldsOf, u]
    have := run_equalIn_struct (P := P) w d t xs.toArray ys.toArray (by rw [hf]; exact u) hp
    rw [hf] at this
    have e := h.eq d (by omega) w xs ys xs ys (by simp) (by simp) hx hy
    rw [e] at this
    exact this
  ck d hd e w xs hx := by
    obtain ⟨d, rfl⟩ : ∃ d', d = d' + 1 := ⟨d - 1, by omega⟩
    have e1 := h.ck d (by omega) e w xs xs (by simp) hx
    have := run_checkKey_struct (P := P) e d xs.toArray w u
    rw [e1] at this
    exact this
  part w X off xs h hl := by
    have : X.toArray.extract off (off + ks.length) = xs.toArray := by
      rw [List.extract_toArray, List.extract_eq_take_drop, ← h]
      congr 2
      omega
    simp only [Go.part, Sem.run_bind, ag.h, Result.andThen_ok, if_true, sz.h, this]
    rfl

theorem cellsEq_refl : ∀ {ks : List CK} {xs : List Value}, HasK ks xs → cellsEq xs xs = true
  | [], [], _ => rfl
  | k :: ks, x :: xs, h => by
    simp only [cellsEq, cellsEq_refl (ks := ks) h.2, Bool.and_true]
    cases k <;> cases x <;> first | exact h.1.elim | simp [cellEq]
  | [], _ :: _, h => h.elim
  | _ :: _, [], h => h.elim

class EqG (P : Program) (t : TypeId) : Prop where h : P.eqGuardType P.depth t = false

section
variable {R : Rds} {env : Env} {H : Segs} {ty : TypeId} {x y : Operand} {t u n : Nat} {ks : List CK} {xs ys : List Value}
theorem Quiet.eqA [e : EqT P t n ks true] [g : EqG P t] (hx : ev env x = some (.agg xs.toArray)) (hy : ev env y = some (.agg ys.toArray)) (h1 : HasK ks xs) (h2 : HasK ks ys) (hn : Nat.ble n 10000 = true := by rfl) :
    Quiet P R env H (.binOp .eql t x y u) ty (.bool (cellsEq xs ys)) := fun a w d pos af g' ha _ _ =>
  run_eqlOp (op := .move x) (ha.eval hx) (ha.eval hy) (run_eqGuard_agg w .eql t x y _ _ g.h) rfl (e.eq _ (Nat.le_of_ble_eq_true hn) w xs ys h1 h2)
theorem Quiet.neA [e : EqT P t n ks true] [g : EqG P t] (hx : ev env x = some (.agg xs.toArray)) (hy : ev env y = some (.agg ys.toArray)) (h1 : HasK ks xs) (h2 : HasK ks ys) (hn : Nat.ble n 10000 = true := by rfl) :
    Quiet P R env H (.binOp .neq t x y u) ty (.bool !(cellsEq xs ys)) := fun a w d pos af g' ha _ _ =>
  run_neqOp (op := .move x) (ha.eval hx) (ha.eval hy) (run_eqGuard_agg w .neq t x y _ _ g.h) rfl (e.eq _ (Nat.le_of_ble_eq_true hn) w xs ys h1 h2)
end
end
end Go.Proofs.Ytlmdgdehjpahiaa
