/- The engine, part 6: slices that are read, slices that are owned; over any program, no condition. -/
import Derived.Test.YtlmdgdehjpahiaaEngF
import GoSem.ClaimData
set_option linter.unusedVariables false
namespace Go.Proofs.Ytlmdgdehjpahiaa
variable {α β : Type}

/-- From a place on stand these cells. -/
def Row (c : Array Value) (off : Nat) (cs : List Value) : Prop := ∀ k, k < cs.length → c[off + k]? = cs[k]?

theorem flatMap_length {enc : α → List Value} {sz : Nat} : ∀ {xs : List α}, (∀ x ∈ xs, (enc x).length = sz) → (xs.flatMap enc).length = xs.length * sz
  | [], _ => by simp
  | x :: xs, h => by
    rw [List.flatMap_cons, List.length_append, flatMap_length (fun y hy => h y (by simp [hy])), h x (by simp), List.length_cons]
    rw [Nat.succ_mul]; omega
theorem flatMap_get {enc : α → List Value} {sz : Nat} : ∀ {xs : List α} {i : Nat} {x : α}, (∀ x ∈ xs, (enc x).length = sz) → xs[i]? = some x → ∀ j, j < sz → (xs.flatMap enc)[i * sz + j]? = (enc x)[j]?
  | [], i, x, _, h, j, _ => by simp at h
  | y :: xs, 0, x, hl, h, j, hj => by
    simp only [List.getElem?_cons_zero, Option.some.injEq] at h
    subst h
    rw [List.flatMap_cons, List.getElem?_append_left (by rw [hl y (by simp)]; omega)]
    simp
  | y :: xs, i + 1, x, hl, h, j, hj => by
    simp only [List.getElem?_cons_succ] at h
    have h0 := hl y (by simp)
    rw [List.flatMap_cons, List.getElem?_append_right (by rw [h0, Nat.succ_mul]; omega), h0, show (i + 1) * sz + j - sz = i * sz + j by rw [Nat.succ_mul]; omega]
    exact flatMap_get (fun z hz => hl z (by simp [hz])) h j hj
theorem flatMap_set {enc : α → List Value} {sz : Nat} : ∀ {xs : List α} {i : Nat} {x x' : α} {k : Nat} {cs : List Value}, (∀ x ∈ xs, (enc x).length = sz) → xs[i]? = some x → (enc x').length = sz → enc x' = setL (enc x) k cs → k + cs.length ≤ sz →
    (xs.set i x').flatMap enc = setL (xs.flatMap enc) (i * sz + k) cs
  | [], i, x, x', k, cs, _, h, _, _, _ => by simp at h
  | y :: xs, 0, x, x', k, cs, hl, h, hx', he, hk => by
    simp only [List.getElem?_cons_zero, Option.some.injEq] at h
    subst h
    have h0 := hl y (by simp)
    simp only [List.set_cons_zero, List.flatMap_cons, he, setL, Nat.zero_mul, Nat.zero_add]
    rw [List.take_append_of_le_length (by omega), List.drop_append_of_le_length (by omega)]
    simp
  | y :: xs, i + 1, x, x', k, cs, hl, h, hx', he, hk => by
    simp only [List.getElem?_cons_succ] at h
    have h0 := hl y (by simp)
    have ih := flatMap_set (fun z hz => hl z (by simp [hz])) h hx' he hk
    simp only [List.set_cons_succ, List.flatMap_cons, ih, setL]
    rw [List.take_append, List.drop_append, h0, List.take_of_length_le (l := enc y) (by rw [h0, Nat.succ_mul]; omega), List.drop_eq_nil_of_le (show (enc y).length ≤ _ by rw [h0, Nat.succ_mul]; omega)]
    rw [show (i + 1) * sz + k - sz = i * sz + k by rw [Nat.succ_mul]; omega, show (i + 1) * sz + k + cs.length - sz = i * sz + k + cs.length by rw [Nat.succ_mul]; omega]
    simp

/-- A slice that is read. -/
structure RS (R : Rds) (sz : Nat) (enc : α → List Value) (v : Value) (xs : List α) : Prop where
  len : ∀ x ∈ xs, (enc x).length = sz
  one : ∀ x ∈ xs, ∀ u ∈ enc x, oneCell u = true
  h : ∃ p cap, v = .slice p xs.length cap ∧ xs.length ≤ cap ∧ cap ≤ maxLen ∧ (xs = [] ∨ ∃ b off c E fr, p = some ⟨b, off, none⟩ ∧ R b (.cells c E fr) ∧ Row c off (xs.flatMap enc))

/-- A slice that is owned: the segment is its block. -/
structure OS (E : TypeId) (sz : Nat) (enc : α → List Value) (v : Value) (xs : List α) (T : Seg) : Prop where
  len : ∀ x ∈ xs, (enc x).length = sz
  one : ∀ x ∈ xs, ∀ u ∈ enc x, oneCell u = true
  h : (v = .slice none 0 0 ∧ xs = [] ∧ T = []) ∨ ∃ b off c cap, v = .slice (some ⟨b, off, none⟩) xs.length cap ∧ T = [(b, .cells c E (0, 0))] ∧ xs.length ≤ cap ∧ cap ≤ maxLen ∧ off + cap * sz ≤ c.size ∧ Row c off (xs.flatMap enc)

theorem RS.mono {R R' : Rds} {sz : Nat} {enc : α → List Value} {v : Value} {xs : List α} (h : RS R sz enc v xs) (hr : ∀ b o, R b o → R' b o) : RS R' sz enc v xs :=
  ⟨h.len, h.one, by
    obtain ⟨p, cap, h1, h2, h3, h4⟩ := h.h
    refine ⟨p, cap, h1, h2, h3, h4.imp id fun ⟨b, off, c, E, fr, g1, g2, g3⟩ => ⟨b, off, c, E, fr, g1, hr _ _ g2, g3⟩⟩⟩
theorem RS.rx {R : Rds} {H : Segs} {sz : Nat} {enc : α → List Value} {v : Value} {xs : List α} (h : RS R sz enc v xs) : RS (Rx R H) sz enc v xs := h.mono fun _ _ => .inl
theorem OS.rs {R : Rds} {E : TypeId} {sz : Nat} {enc : α → List Value} {v : Value} {xs : List α} {T : Seg} (h : OS E sz enc v xs T) (hr : ∀ p ∈ T, R p.1 p.2) : RS R sz enc v xs :=
  ⟨h.len, h.one, by
    rcases h.h with ⟨rfl, rfl, rfl⟩ | ⟨b, off, c, cap, rfl, rfl, h3, h4, h5, h6⟩
    · exact ⟨none, 0, rfl, Nat.le_refl _, Nat.zero_le _, .inl rfl⟩
    · exact ⟨some ⟨b, off, none⟩, cap, rfl, h3, h4, .inr ⟨b, off, c, E, (0, 0), rfl, hr (b, _) (by simp), h6⟩⟩⟩
class SegAt (H : Segs) (T : Seg) (upd : outParam (Seg → Segs)) : Prop where h : ∃ H1 H2, H = H1 ++ T :: H2 ∧ ∀ T', upd T' = H1 ++ T' :: H2
instance SegAt.there {H : Segs} {T T0 : Seg} {upd : Seg → Segs} [h : SegAt H T upd] : SegAt (T0 :: H) T (fun T' => T0 :: upd T') :=
  ⟨let ⟨H1, H2, h1, h2⟩ := h.h; ⟨T0 :: H1, H2, by rw [h1]; rfl, fun T' => by rw [h2]; rfl⟩⟩
instance SegAt.here {H : Segs} {T : Seg} : SegAt (T :: H) T (fun T' => T' :: H) := ⟨⟨[], H, rfl, fun _ => rfl⟩⟩
theorem SegAt.mem {H : Segs} {T : Seg} {upd : Seg → Segs} (h : SegAt H T upd) : ∀ p ∈ T, p ∈ H.flatten := by
  obtain ⟨H1, H2, h1, _⟩ := h.h
  subst h1
  intro p hp; simp [hp]
theorem OS.rx {R : Rds} {H : Segs} {E : TypeId} {sz : Nat} {enc : α → List Value} {v : Value} {xs : List α} {T : Seg} {upd : Seg → Segs} (h : OS E sz enc v xs T) [s : SegAt H T upd] : RS (Rx R H) sz enc v xs := h.rs fun p hp => .inr (s.mem p hp)
theorem OS.nil {E : TypeId} {sz : Nat} {enc : α → List Value} : OS E sz enc (.slice none 0 0) ([] : List α) [] := ⟨by simp, by simp, .inl ⟨rfl, rfl, rfl⟩⟩

theorem RS.oneCell {R : Rds} {sz : Nat} {enc : α → List Value} {v : Value} {xs : List α} (h : RS R sz enc v xs) : One v := ⟨by obtain ⟨p, cap, h1, _⟩ := h.h; rw [h1]; rfl⟩
theorem OS.oneCell {E : TypeId} {sz : Nat} {enc : α → List Value} {v : Value} {xs : List α} {T : Seg} (h : OS E sz enc v xs T) : One v := ⟨by
  rcases h.h with ⟨h1, _, _⟩ | ⟨b, off, c, cap, h1, _⟩ <;> rw [h1] <;> rfl⟩
theorem RS.le {R : Rds} {sz : Nat} {enc : α → List Value} {v : Value} {xs : List α} (h : RS R sz enc v xs) : xs.length ≤ 9223372036854775807 := by
  obtain ⟨p, cap, _, h2, h3, _⟩ := h.h
  unfold maxLen at h3; omega
theorem OS.le {E : TypeId} {sz : Nat} {enc : α → List Value} {v : Value} {xs : List α} {T : Seg} (h : OS E sz enc v xs T) : xs.length ≤ 9223372036854775807 := by
  rcases h.h with ⟨_, h2, _⟩ | ⟨b, off, c, cap, _, _, h2, h3, _⟩
  · subst h2; simp
  · unfold maxLen at h3; omega

/-- A slice's value alone: how many there are. -/
theorem RS.val {R : Rds} {sz : Nat} {enc : α → List Value} {v : Value} {xs : List α} (h : RS R sz enc v xs) : ∃ p cap, v = .slice p xs.length cap := let ⟨p, cap, h1, _⟩ := h.h; ⟨p, cap, h1⟩

theorem RS.pc {R : Rds} {sz : Nat} {enc : α → List Value} {v : Value} {xs : List α} {i : Nat} {x : α} (h : RS R sz enc v xs) (hx : xs[i]? = some x) : PC R (baseP v (i * sz)) (enc x) := by
  obtain ⟨p, cap, h1, h2, h3, h4⟩ := h.h
  have hne : xs ≠ [] := fun e => by subst e; simp at hx
  obtain ⟨b, off, c, E, fr, rfl, g2, g3⟩ := h4.resolve_left hne
  subst h1
  have hm := List.mem_of_getElem? hx
  have hl := h.len x hm
  refine ⟨b, off + i * sz, c, E, fr, ?_, g2, fun j hj => ?_⟩
  · simp only [baseP, Addr.add]; split
    · rename_i h0; rw [h0]; rfl
    · rfl
  · have h5 := flatMap_get h.len hx j (by omega)
    have h6 : i * sz + j < (xs.flatMap enc).length := by
      rw [flatMap_length h.len]
      have : i < xs.length := (List.getElem?_eq_some_iff.1 hx).1
      have := Nat.mul_le_mul_right sz this
      rw [Nat.succ_mul] at this; omega
    have h7 := g3 _ h6
    rw [Nat.add_assoc, h7, h5, List.getElem?_eq_getElem hj]
theorem OS.pc {E : TypeId} {sz : Nat} {enc : α → List Value} {v : Value} {xs : List α} {T : Seg} {i : Nat} {x : α} (h : OS E sz enc v xs T) (hx : xs[i]? = some x) : PC (sg T) (baseP v (i * sz)) (enc x) :=
  (h.rs (R := sg T) fun p hp => hp).pc hx

section
variable {P : Program} {N : Nat} {R : Rds} {ops : Array Oper} {l : List Oper} {env : Env} {H : Segs} {K : Env → Segs → Prop} {ty : TypeId} {pos : String} {af : Array Edge} {m : Bool}

theorem Quiet.lenV {x : Operand} {t e : TypeId} {p : Option Addr} {n cap : Nat} (hx : ev env x = some (.slice p n cap)) [ut : Und P t (.slice e)] : Quiet P R env H (.call ⟨.builtin .len, #[x], #[t]⟩) ty (.int .i64 n) := fun a w d pos af g ha _ _ => by
  simp [execOp, resolve, ha.eval hx, invoke, builtin, Builtin.len_, run_underlying ut.h, goInt]
theorem Quiet.lenR {R' : Rds} {x : Operand} {t e : TypeId} {sz : Nat} {enc : α → List Value} {v : Value} {xs : List α} (h : RS R' sz enc v xs) (hx : ev env x = some v := by rfl) [ut : Und P t (.slice e)] : Quiet P R env H (.call ⟨.builtin .len, #[x], #[t]⟩) ty (.int .i64 xs.length) := by
  obtain ⟨p, cap, h1⟩ := h.val
  subst h1
  exact Quiet.lenV hx
theorem Quiet.lenO {x : Operand} {t e E : TypeId} {sz : Nat} {enc : α → List Value} {v : Value} {xs : List α} {T : Seg} (h : OS E sz enc v xs T) (hx : ev env x = some v := by rfl) [ut : Und P t (.slice e)] : Quiet P R env H (.call ⟨.builtin .len, #[x], #[t]⟩) ty (.int .i64 xs.length) :=
  Quiet.lenR (h.rs (R := sg T) fun p hp => hp) hx

theorem run_indexAt {t e : TypeId} {sz n cap i : Nat} {a0 : Addr} {k : IntKind} {w : World} [ut : Und P t (.slice e)] [s : Sz P e sz] (hi : i < n) : (Instr.indexAt t (.slice (some a0) n cap) (.int k i)).run P w = .ok (baseP (.slice (some a0) n cap) (i * sz)) w := by
  have h1 : (0 : Int) ≤ i ∧ (i : Int) < n := by omega
  simp [Instr.indexAt, asIntOf, run_underlying ut.h, h1, s.h, baseP, hi]
theorem Quiet.indexR {R' : Rds} {x y : Operand} {t e : TypeId} {sz : Nat} {enc : α → List Value} {v : Value} {xs : List α} {k : IntKind} {j : Int} {z : α} (i : Nat) (h : RS R' sz enc v xs) (hz : xs[i]? = some z) (hx : ev env x = some v) (hy : ev env y = some (.int k j)) (hj : j = (i : Int)) [ut : Und P t (.slice e)] [s : Sz P e sz] :
    Quiet P R env H (.indexAddr t x y) ty (baseP v (i * sz)) := fun a w d pos af g ha _ _ => by
  obtain ⟨p, cap, h1, h2, h3, h4⟩ := h.h
  have hne : xs ≠ [] := fun e => by subst e; simp at hz
  obtain ⟨b, off, c, E, fr, rfl, g2, g3⟩ := h4.resolve_left hne
  subst h1; subst hj
  have hi : i < xs.length := (List.getElem?_eq_some_iff.1 hz).1
  simp [execOp, ha.eval hx, ha.eval hy, run_indexAt (P := P) (e := e) (sz := sz) hi]

theorem TriOps.indexR {d : Nat} {x y : Operand} {t e : TypeId} {sz : Nat} {enc : α → List Value} {v : Value} {xs : List α} {k : IntKind} {j : Int} {z : α} (i : Nat) (h : RS R sz enc v xs) (hz : xs[i]? = some z) [ut : Und P t (.slice e)] [s : Sz P e sz]
    (hn : PC R (baseP v (i * sz)) (enc z) → TriOps m P N R ops l ((d, baseP v (i * sz)) :: env) H K) (hx : ev env x = some v := by rfl) (hy : ev env y = some (.int k j) := by rfl) (hj : j = (i : Int) := by rfl) (hd : Nat.blt d N = true := by rfl) :
    TriOps m P N R ops (⟨some d, .indexAddr t x y, ty, pos, af, none⟩ :: l) env H K :=
  TriOps.q (Quiet.indexR i h hz hx hy hj) (hn (h.pc hz)) hd
theorem TriOps.indexO {d : Nat} {x y : Operand} {t e E : TypeId} {sz : Nat} {enc : α → List Value} {v : Value} {xs : List α} {T : Seg} {k : IntKind} {j : Int} {z : α} (i : Nat) (h : OS E sz enc v xs T) (hz : xs[i]? = some z) [ut : Und P t (.slice e)] [s : Sz P e sz]
    (hn : PS T (baseP v (i * sz)) (enc z) → TriOps m P N R ops l ((d, baseP v (i * sz)) :: env) H K) (hx : ev env x = some v := by rfl) (hy : ev env y = some (.int k j) := by rfl) (hj : j = (i : Int) := by rfl) (hd : Nat.blt d N = true := by rfl) :
    TriOps m P N R ops (⟨some d, .indexAddr t x y, ty, pos, af, none⟩ :: l) env H K :=
  TriOps.q (Quiet.indexR i (h.rs (R := sg T) fun p hp => hp) hz hx hy hj) (hn ⟨h.pc hz⟩) hd

/-- A piece of a slice that is read. -/
theorem run_sliceBound {x : Value} {y n : Nat} {k : IntKind} {code : BoundsCode} {w : World} (hx : x = .int k n) (h : n ≤ y) : (Instr.sliceBound x y code).run P w = .ok n w := by
  subst hx
  have h1 : (0 : Int) ≤ n ∧ (n : Int) ≤ y := by omega
  simp [Instr.sliceBound, asIntOf, h1]
def optN (env : Env) (x : Option Operand) (dflt n : Nat) : Prop := match x with
  | none => n = dflt
  | some o => ∃ k, ev env o = some (.int k n)
theorem run_sliceAt {t e : TypeId} {sz n cap lo hi : Nat} {p : Option Addr} {xl xh : Option Operand} {a : Act} {w : World} (ha : EnvOK a env) [ut : Und P t (.slice e)] [s : Sz P e sz] (h1 : optN env xl 0 lo) (h2 : optN env xh n hi) (h3 : lo ≤ hi) (h4 : hi ≤ cap) :
    (Instr.sliceAt t (.slice p n cap) (xl.map a.eval) (xh.map a.eval) none).run P w = .ok (.slice (if cap = lo then p else p.map (·.add (lo * sz))) (hi - lo) (cap - lo)) w := by
  have b1 : ∀ {x : Operand} {k : IntKind} {y n : Nat} {code : BoundsCode}, ev env x = some (.int k n) → n ≤ y → (Instr.sliceBound (a.eval x) y code).run P w = .ok n w := fun hx hn => run_sliceBound (ha.eval hx) hn
  unfold Instr.sliceAt
  simp only [Sem.run_bind, run_underlying ut.h, Result.andThen_ok]
  unfold Instr.slice
  simp only [Sem.run_bind, run_underlying ut.h, Result.andThen_ok]
  unfold Instr.sliceBounds
  cases xl with
  | none =>
    simp only [optN] at h1
    subst h1
    cases xh with
    | none => simp only [optN] at h2; subst h2; simp [s.h]
    | some o => obtain ⟨k, hk⟩ := h2; simp [s.h, b1 hk h4]
  | some o =>
    obtain ⟨k, hk⟩ := h1
    cases xh with
    | none => simp only [optN] at h2; subst h2; simp [s.h, b1 hk h3]
    | some o' => obtain ⟨k', hk'⟩ := h2; simp [s.h, b1 hk h3, b1 hk' h4]

theorem Row.sub {c : Array Value} {off : Nat} {cs : List Value} (h : Row c off cs) (i n : Nat) : Row c (off + i) ((cs.drop i).take n) := fun k hk => by
  rw [List.length_take, List.length_drop] at hk
  rw [List.getElem?_take_of_lt (by omega), List.getElem?_drop, Nat.add_assoc]
  exact h (i + k) (by omega)
theorem flatMap_drop {enc : α → List Value} {sz : Nat} : ∀ {xs : List α} (i : Nat), (∀ x ∈ xs, (enc x).length = sz) → (xs.drop i).flatMap enc = (xs.flatMap enc).drop (i * sz)
  | [], i, _ => by simp
  | x :: xs, 0, _ => by simp
  | x :: xs, i + 1, h => by
    have h0 := h x (by simp)
    rw [List.drop_succ_cons, flatMap_drop i (fun y hy => h y (by simp [hy])), List.flatMap_cons, List.drop_append, h0, List.drop_eq_nil_of_le (show (enc x).length ≤ _ by rw [h0, Nat.succ_mul]; omega), Nat.succ_mul]
    simp
theorem flatMap_take {enc : α → List Value} {sz : Nat} : ∀ {xs : List α} (i : Nat), (∀ x ∈ xs, (enc x).length = sz) → (xs.take i).flatMap enc = (xs.flatMap enc).take (i * sz)
  | [], i, _ => by simp
  | x :: xs, 0, _ => by simp
  | x :: xs, i + 1, h => by
    have h0 := h x (by simp)
    rw [List.take_succ_cons, List.flatMap_cons, flatMap_take i (fun y hy => h y (by simp [hy])), List.flatMap_cons, List.take_append, h0, List.take_of_length_le (l := enc x) (by rw [h0, Nat.succ_mul]; omega), Nat.succ_mul]
    simp

theorem Row.piece {c : Array Value} {off sz : Nat} {enc : α → List Value} {xs : List α} (h : Row c off (xs.flatMap enc)) (hl : ∀ x ∈ xs, (enc x).length = sz) (lo n : Nat) : Row c (off + lo * sz) (((xs.drop lo).take n).flatMap enc) := by
  rw [flatMap_take n (fun x hx => hl x (List.mem_of_mem_drop hx)), flatMap_drop lo hl]
  exact h.sub _ _

theorem Quiet.sliceR {R' : Rds} {x : Operand} {xl xh : Option Operand} {t e : TypeId} {sz : Nat} {enc : α → List Value} {v : Value} {xs : List α} (lo hi : Nat) (h : RS R' sz enc v xs) [ut : Und P t (.slice e)] [s : Sz P e sz] (h1 : optN env xl 0 lo) (h2 : optN env xh xs.length hi) (h3 : lo ≤ hi) (h4 : hi ≤ xs.length) (hx : ev env x = some v := by rfl) :
    ∃ v', RS R' sz enc v' ((xs.drop lo).take (hi - lo)) ∧ Quiet P R env H (.slice t x xl xh none) ty v' := by
  obtain ⟨p, cap, g1, g2, g3, g4⟩ := h.h
  subst g1
  have hn : ((xs.drop lo).take (hi - lo)).length = hi - lo := by simp; omega
  refine ⟨.slice (if cap = lo then p else p.map (·.add (lo * sz))) (hi - lo) (cap - lo), ⟨fun x hx => h.len x (List.mem_of_mem_drop (List.mem_of_mem_take hx)), fun x hx => h.one x (List.mem_of_mem_drop (List.mem_of_mem_take hx)), _, _, by rw [hn], by rw [hn]; omega, by omega, ?_⟩, ?_⟩
  · rcases g4 with rfl | ⟨b, off, c, E, fr, rfl, r1, r2⟩
    · exact .inl (by simp)
    · by_cases he : cap = lo
      · left
        have : hi - lo = 0 := by omega
        rw [this]; simp
      · right
        refine ⟨b, off + lo * sz, c, E, fr, ?_, r1, r2.piece h.len lo (hi - lo)⟩
        rw [if_neg he]
        simp only [Option.map_some, Addr.add]
        split
        · rename_i h0; rw [h0]; rfl
        · rfl
  · intro a w d pos af g ha _ _
    have := run_sliceAt (P := P) (w := w) (p := p) (n := xs.length) (cap := cap) ha h1 h2 h3 (by omega) (t := t) (e := e) (sz := sz)
    simp only [execOp, ha.eval hx, Option.map_none]
    rw [Sem.run_bind, this]
    rfl

/-- A piece of a slice that is owned, and that is not needed whole any more. -/
theorem Quiet.sliceO {x : Operand} {xl xh : Option Operand} {t e E : TypeId} {sz : Nat} {enc : α → List Value} {v : Value} {xs : List α} {T : Seg} (lo hi : Nat) (h : OS E sz enc v xs T) [ut : Und P t (.slice e)] [s : Sz P e sz] (h1 : optN env xl 0 lo) (h2 : optN env xh xs.length hi) (h3 : lo ≤ hi) (h4 : hi ≤ xs.length) (hx : ev env x = some v := by rfl) :
    ∃ v', OS E sz enc v' ((xs.drop lo).take (hi - lo)) T ∧ Quiet P R env H (.slice t x xl xh none) ty v' := by
  have hl := fun x hx => h.len x (List.mem_of_mem_drop (List.mem_of_mem_take (i := hi - lo) (l := xs.drop lo) hx))
  have ho := fun x hx => h.one x (List.mem_of_mem_drop (List.mem_of_mem_take (i := hi - lo) (l := xs.drop lo) hx))
  have hn : ((xs.drop lo).take (hi - lo)).length = hi - lo := by simp; omega
  rcases h.h with ⟨rfl, rfl, rfl⟩ | ⟨b, off, c, cap, rfl, rfl, g3, g4, g5, g6⟩
  · have e1 : lo = 0 := by simp at h4; omega
    have e2 : hi = 0 := by simpa using h4
    subst e1; subst e2
    refine ⟨.slice none 0 0, ⟨hl, ho, .inl ⟨rfl, by simp, rfl⟩⟩, fun a w d pos af g ha _ _ => ?_⟩
    have := run_sliceAt (P := P) (w := w) (p := none) (n := 0) (cap := 0) ha h1 h2 h3 (by omega) (t := t) (e := e) (sz := sz)
    simp only [execOp, ha.eval hx, Option.map_none]
    rw [Sem.run_bind, this]
    rfl
  · refine ⟨.slice (if cap = lo then some ⟨b, off, none⟩ else (some (⟨b, off, none⟩ : Addr)).map (·.add (lo * sz))) (hi - lo) (cap - lo), ⟨hl, ho, .inr ?_⟩, fun a w d pos af g ha _ _ => ?_⟩
    · by_cases he : cap = lo
      · have e0 : hi - lo = 0 := by omega
        refine ⟨b, off, c, cap - lo, ?_, rfl, by rw [hn]; omega, by omega, ?_, ?_⟩
        · rw [hn, if_pos he]
        · rw [he, Nat.sub_self]; simp; omega
        · rw [e0]; intro k hk; simp at hk
      · refine ⟨b, off + lo * sz, c, cap - lo, ?_, rfl, by rw [hn]; omega, by omega, ?_, g6.piece h.len lo (hi - lo)⟩
        · rw [hn, if_neg he]
          simp only [Option.map_some, Addr.add]
          split
          · rename_i h0; rw [h0]; rfl
          · rfl
        · have : (cap - lo) * sz = cap * sz - lo * sz := Nat.sub_mul ..
          have h6 : lo * sz ≤ cap * sz := Nat.mul_le_mul_right _ (by omega)
          omega
    · have := run_sliceAt (P := P) (w := w) (p := some ⟨b, off, none⟩) (n := xs.length) (cap := cap) ha h1 h2 h3 (by omega) (t := t) (e := e) (sz := sz)
      simp only [execOp, ha.eval hx, Option.map_none]
      rw [Sem.run_bind, this]
      rfl
end
end Go.Proofs.Ytlmdgdehjpahiaa
