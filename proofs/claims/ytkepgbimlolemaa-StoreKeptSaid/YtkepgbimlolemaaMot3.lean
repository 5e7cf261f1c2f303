/- The engine, in one of its parts: rules by which functions are walked, over any program. No condition. -/
import Derived.Test.YtkepgbimlolemaaMot2

set_option linter.unusedVariables false
namespace Go.Proofs.Ytkepgbimlolemaa

theorem PC.of {R : Rds} {b : Nat} {vs : List Value} {E : TypeId} {fr : Nat × Nat} (h : R b (.cells vs.toArray E fr)) : PC R (.pointer (some ⟨b, 0, none⟩)) vs :=
  (RC.here (R := R) (H := []) (b := b) (vs := vs) (E := E) (fr := fr)).h.mono fun b' o h' => by
    rcases h' with h' | h'
    · exact h'
    · simp at h'; obtain ⟨rfl, rfl⟩ := h'; exact h
instance PC.rx {R : Rds} {H : Segs} {p : Value} {vs : List Value} [h : PC R p vs] : PC (Rx R H) p vs := h.mono fun _ _ => .inl
instance PC.rc {R : Rds} {H : Segs} {p : Value} {vs : List Value} [h : RC R H p vs] : PC (Rx R H) p vs := h.h

section
variable {P : Program} {N : Nat} {R R' : Rds} {ops : Array Oper} {l : List Oper} {env : Env} {H : Segs} {K : Env → Segs → Prop} {T : Seg} {upd : Seg → Segs}

theorem Spec.at {f : FuncId} {args : List Value} {H1 H2 : Segs} {T : Seg} {Post : Value → Seg → Prop} (h : Spec P f args R' [T] fun v H' => ∃ T', H' = [T'] ∧ Post v T') (hr : ∀ b o, R' b o → R b o) : Spec P f args R (H1 ++ T :: H2) fun v H' => ∃ T', H' = H1 ++ T' :: H2 ∧ Post v T' := fun w hs hro => by
  have hp : (H1 ++ T :: H2).flatten.Perm ([T] ++ (H1 ++ H2)).flatten := by
    simp only [List.flatten_append, List.flatten_cons, List.flatten_nil, List.append_nil]
    rw [← List.append_assoc, ← List.append_assoc]
    exact List.perm_append_comm.append_right _
  have hs1 : Sat w ([T] ++ (H1 ++ H2)) := hs.perm hp
  have hT : take [0] ([T] ++ (H1 ++ H2)) = [T] := rfl
  have hR : rest [0] ([T] ++ (H1 ++ H2)) = H1 ++ H2 := rfl
  have ro1 : RO w R ([T] ++ (H1 ++ H2)) := fun b o hb => ⟨(hro b o hb).1, fun p hm => (hro b o hb).2 p (hp.mem_iff.2 hm)⟩
  obtain ⟨s1, s2, s3⟩ := sat_split (is := [0]) hs1
  have ro2 := RO.split (is := [0]) hs1 ro1
  rw [hT] at s1 ro2 s3; rw [hR] at ro2 s2 s3
  refine (h w s1 fun b o hb => ro2 b o (.inl (hr b o hb))).mono fun e w' ⟨v, H', he, ⟨T', hT', hq⟩, hs', hf⟩ => ?_
  subst hT'
  obtain ⟨j1, j2⟩ := sat_join (is := [0]) (H' := [T']) hs1 hs' hf
  rw [hR] at j1 j2
  have hp' : ([T'] ++ (H1 ++ H2)).flatten.Perm (H1 ++ T' :: H2).flatten := by
    simp only [List.flatten_append, List.flatten_cons, List.flatten_nil, List.append_nil]
    rw [← List.append_assoc, ← List.append_assoc]
    exact List.perm_append_comm.append_right _
  refine ⟨v, _, he, ⟨T', rfl, hq⟩, j1.perm hp', ⟨j2.le, fun b hb hn => j2.keep b hb fun p hm => hn p (hp.mem_iff.2 hm), fun p hm => ?_, j2.os, j2.output, j2.tape⟩⟩
  rcases j2.dom p (hp'.mem_iff.2 hm) with ⟨q, hq, he⟩ | hge
  · exact .inl ⟨q, hp.mem_iff.2 hq, he⟩
  · exact .inr hge

/-- A call that only reads. -/
theorem TriOps.callR {d : Nat} {ty : TypeId} {pos : String} {af : Array Edge} {f : FuncId} [e : Ent P f] {xs : List Operand} {ats : Array TypeId} {vs : List Value} {Post : Value → Prop}
    (hs : Spec P f vs (Rx R H) [] fun v H' => Post v ∧ H' = []) (hn : ∀ v, Post v → TriOps false P N R ops l ((d, v) :: env) H K) (hxs : evs env xs = some vs := by rfl) (hd : Nat.blt d N = true := by rfl) :
    TriOps false P N R ops (⟨some d, .call ⟨.value (.func f), xs.toArray, ats⟩, ty, pos, af, none⟩ :: l) env H K :=
  TriOps.call [] hs (fun v H' ⟨h1, h2⟩ => by subst h2; exact hn v h1) hxs hd
theorem TriOps.callR0 {ty : TypeId} {pos : String} {af : Array Edge} {f : FuncId} [e : Ent P f] {xs : List Operand} {ats : Array TypeId} {vs : List Value} {Post : Value → Prop}
    (hs : Spec P f vs (Rx R H) [] fun v H' => Post v ∧ H' = []) (hn : ∀ v, Post v → TriOps false P N R ops l env H K) (hxs : evs env xs = some vs := by rfl) :
    TriOps false P N R ops (⟨none, .call ⟨.value (.func f), xs.toArray, ats⟩, ty, pos, af, none⟩ :: l) env H K :=
  TriOps.call0 [] hs (fun v H' ⟨h1, h2⟩ => by subst h2; exact hn v h1) hxs
/-- A call that makes a segment anew. -/
theorem TriOps.callN {d : Nat} {ty : TypeId} {pos : String} {af : Array Edge} {f : FuncId} [e : Ent P f] {xs : List Operand} {ats : Array TypeId} {vs : List Value} {Post : Value → Seg → Prop}
    (hs : Spec P f vs (Rx R H) [] fun v H' => ∃ T, H' = [T] ∧ Post v T) (hn : ∀ v T, Post v T → TriOps false P N R ops l ((d, v) :: env) (T :: H) K) (hxs : evs env xs = some vs := by rfl) (hd : Nat.blt d N = true := by rfl) :
    TriOps false P N R ops (⟨some d, .call ⟨.value (.func f), xs.toArray, ats⟩, ty, pos, af, none⟩ :: l) env H K :=
  TriOps.call [] hs (fun v H' ⟨T, h1, h2⟩ => by subst h1; exact hn v T h2) hxs hd
theorem all_rest (is : List Nat) (H : Segs) (hl : take is H = H) : rest is H = rest is H := rfl
theorem take_all : ∀ (H : Segs), take (H.map fun _ => 0) H = H
  | [] => rfl
  | T :: r => by simp only [List.map_cons, take, dropAt, List.getD_cons_zero, take_all r]
theorem rest_all : ∀ (H : Segs), rest (H.map fun _ => 0) H = []
  | [] => rfl
  | T :: r => by simp only [List.map_cons, rest, dropAt, rest_all r]
/-- A call that changes one segment. -/
theorem TriOps.callM_gen {dst : Option Nat} {op : Op} {ty : TypeId} {pos : String} {af : Array Edge} {f : FuncId} {vs : List Value} {Post : Value → Seg → Prop} [sa : SegAt H T upd]
    (hx : ∀ a w, EnvOK a env → (execOp a.eval ⟨dst, op, ty, pos, af, none⟩).run P w = .ok (.enter f vs.toArray) w)
    (hs : Spec P f vs R' [T] fun v H' => ∃ T', H' = [T'] ∧ Post v T') (hr : ∀ b o, R' b o → R b o)
    (hn : ∀ v T', Post v T' → match dst with
      | some d => Nat.blt d N = true ∧ TriOps false P N R ops l ((d, v) :: env) (upd T') K
      | none => TriOps false P N R ops l env (upd T') K) :
    TriOps false P N R ops (⟨dst, op, ty, pos, af, none⟩ :: l) env H K := by
  obtain ⟨H1, H2, h1, h2⟩ := sa.h
  refine TriOps.call_gen (H.map fun _ => 0) (Post := fun v H' => ∃ T', H' = H1 ++ T' :: H2 ∧ Post v T') hx ?_ ?_
  · rw [take_all, rest_all]
    have := Spec.at (H1 := H1) (H2 := H2) hs hr
    rw [← h1] at this
    exact this.weaken fun b o hb => .inl hb
  · intro v H' ⟨T', e1, e2⟩
    rw [rest_all, List.append_nil, e1, ← h2]
    exact hn v T' e2
theorem TriOps.callM {d : Nat} {ty : TypeId} {pos : String} {af : Array Edge} {f : FuncId} [e : Ent P f] {xs : List Operand} {ats : Array TypeId} {vs : List Value} {Post : Value → Seg → Prop}
    (hs : Spec P f vs R [T] fun v H' => ∃ T', H' = [T'] ∧ Post v T') (hn : ∀ v T', Post v T' → TriOps false P N R ops l ((d, v) :: env) (upd T') K) [sa : SegAt H T upd] (hxs : evs env xs = some vs := by rfl) (hd : Nat.blt d N = true := by rfl) :
    TriOps false P N R ops (⟨some d, .call ⟨.value (.func f), xs.toArray, ats⟩, ty, pos, af, none⟩ :: l) env H K :=
  TriOps.callM_gen (fun a w ha => run_call hxs a w ha) hs (fun _ _ h => h) (fun v T' hp => ⟨hd, hn v T' hp⟩)
theorem TriOps.callM0 {ty : TypeId} {pos : String} {af : Array Edge} {f : FuncId} [e : Ent P f] {xs : List Operand} {ats : Array TypeId} {vs : List Value} {Post : Value → Seg → Prop}
    (hs : Spec P f vs R [T] fun v H' => ∃ T', H' = [T'] ∧ Post v T') (hn : ∀ v T', Post v T' → TriOps false P N R ops l env (upd T') K) [sa : SegAt H T upd] (hxs : evs env xs = some vs := by rfl) :
    TriOps false P N R ops (⟨none, .call ⟨.value (.func f), xs.toArray, ats⟩, ty, pos, af, none⟩ :: l) env H K :=
  TriOps.callM_gen (fun a w ha => run_call hxs a w ha) hs (fun _ _ h => h) (fun v T' hp => hn v T' hp)

theorem fillL_A {cs zs : List Value} {k : Nat} (h : zs.length = k) (hk : cs.length = k) : fillL ((List.range 1).map fun i => (i * k, k)) zs [(0, .agg cs.toArray)] = some cs := by
  subst hk
  have e : Nat.ble cs.length cs.length = true := Nat.ble_eq_true_of_le (Nat.le_refl _)
  have e2 : zs.drop cs.length = [] := List.drop_eq_nil_of_le (by omega)
  simp [fillL, setL_eq, h, List.range_succ, e, e2]
theorem fillL_1 {v : Value} {zs : List Value} (hv : oneCell v = true) (h : zs.length = 1) : fillL ((List.range 1).map fun i => (i * 1, 1)) zs [(0, v)] = some [v] := by
  have e2 : zs.drop 1 = [] := List.drop_eq_nil_of_le (by omega)
  have e3 : zs.tail = [] := by rw [← List.drop_one]; exact e2
  cases v <;> simp_all [fillL, setL_eq, List.range_succ, oneCell]
/-- A slice of one element. -/
theorem TriOps.buildSlice1A {d : Nat} {T E : TypeId} {k : Nat} {z : Value} {cs : List Value} {x : Operand} {ty : TypeId} {pos : String} {af : Array Edge} [ut : Und P T (.slice E)] [sz : Sz P E k] [zr : Zr P E z]
    (hn : ∀ b, TriOps false P N R ops l ((d, .slice (some ⟨b, 0, none⟩) 1 1) :: env) ([(b, .cells cs.toArray E (0, 0))] :: H) K) (hx : ev env x = some (.agg cs.toArray) := by rfl) (hl : cs.length = k := by rfl) (hs : Nat.ble (1 * k) (2 ^ 24) = true := by rfl) (hk : Nat.beq (1 * k) 0 = false := by rfl) (hd : Nat.blt d N = true := by rfl) :
    TriOps false P N R ops (⟨some d, .buildSlice T 1 [(0, x)].toArray, ty, pos, af, none⟩ :: l) env H K :=
  TriOps.buildSlice (z := z) (zs := ((Array.range (1 * k)).map (z.cells[· % z.cells.size]!)).toList) (parts := [(0, .agg cs.toArray)]) hs hk rfl (by simp [evp, hx]) (fillL_A (by simp) hl) hn hd
theorem TriOps.buildSlice11 {d : Nat} {T E : TypeId} {z v : Value} {x : Operand} {ty : TypeId} {pos : String} {af : Array Edge} [ut : Und P T (.slice E)] [sz : Sz P E 1] [zr : Zr P E z] [o : One v]
    (hn : ∀ b, TriOps false P N R ops l ((d, .slice (some ⟨b, 0, none⟩) 1 1) :: env) ([(b, .cells [v].toArray E (0, 0))] :: H) K) (hx : ev env x = some v := by rfl) (hd : Nat.blt d N = true := by rfl) :
    TriOps false P N R ops (⟨some d, .buildSlice T 1 [(0, x)].toArray, ty, pos, af, none⟩ :: l) env H K :=
  TriOps.buildSlice (z := z) (zs := ((Array.range (1 * 1)).map (z.cells[· % z.cells.size]!)).toList) (parts := [(0, v)]) rfl rfl rfl (by simp [evp, hx]) (fillL_1 o.h (by simp)) hn hd

theorem TriOps.sliceO {m : Bool} {d : Nat} {x : Operand} {xl xh : Option Operand} {t e E : TypeId} {sz : Nat} {α : Type} {enc : α → List Value} {v : Value} {xs : List α} {ty : TypeId} {pos : String} {af : Array Edge} (lo hi : Nat) (h : OS E sz enc v xs T) [ut : Und P t (.slice e)] [s : Sz P e sz] (h1 : optN env xl 0 lo) (h2 : optN env xh xs.length hi) (h3 : lo ≤ hi) (h4 : hi ≤ xs.length)
    (hn : ∀ v', OS E sz enc v' ((xs.drop lo).take (hi - lo)) T → TriOps m P N R ops l ((d, v') :: env) H K) (hx : ev env x = some v := by rfl) (hd : Nat.blt d N = true := by rfl) :
    TriOps m P N R ops (⟨some d, .slice t x xl xh none, ty, pos, af, none⟩ :: l) env H K := by
  obtain ⟨v', g1, g2⟩ := Quiet.sliceO (P := P) (R := R) (H := H) (ty := ty) (t := t) lo hi h h1 h2 h3 h4 hx
  exact TriOps.q g2 (hn v' g1) hd
theorem RA.sliceO {Ho : Segs} {Ms done : List Nat} {d : Nat} {x : Operand} {xl xh : Option Operand} {t e E : TypeId} {sz : Nat} {α : Type} {enc : α → List Value} {v : Value} {xs : List α} {ty : TypeId} {pos : String} {af : Array Edge} (i : Nat) (hi' : ops[i]? = some ⟨some d, .slice t x xl xh none, ty, pos, af, none⟩) (lo hi : Nat) (h : OS E sz enc v xs T) [ut : Und P t (.slice e)] [s : Sz P e sz] (h1 : optN env xl 0 lo) (h2 : optN env xh xs.length hi) (h3 : lo ≤ hi) (h4 : hi ≤ xs.length)
    (hx : ev env x = some v) (hc : tk false ops Ms done i = true) (hn : ∀ v', OS E sz enc v' ((xs.drop lo).take (hi - lo)) T → RA P N R ops Ho Ms (i :: done) ((d, v') :: env) H K) (hd : Nat.blt d N = true := by rfl) :
    RA P N R ops Ho Ms done env H K := by
  obtain ⟨v', g1, g2⟩ := Quiet.sliceO (P := P) (R := R) (H := []) (ty := ty) (t := t) lo hi h h1 h2 h3 h4 hx
  exact RA.take i hi' g2 hc (hn v' g1) hd
theorem RA.indexO {Ho : Segs} {Ms done : List Nat} {d : Nat} {x y : Operand} {t e E : TypeId} {sz : Nat} {α : Type} {enc : α → List Value} {v : Value} {xs : List α} {ty : TypeId} {pos : String} {af : Array Edge} {k : IntKind} {j : Int} {z : α} (i : Nat) (hi' : ops[i]? = some ⟨some d, .indexAddr t x y, ty, pos, af, none⟩) (q : Nat) (h : OS E sz enc v xs T) (hz : xs[q]? = some z) [ut : Und P t (.slice e)] [s : Sz P e sz]
    (hx : ev env x = some v) (hy : ev env y = some (.int k j)) (hj : j = (q : Int)) (hc : tk false ops Ms done i = true) (hn : PS T (baseP v (q * sz)) (enc z) → RA P N R ops Ho Ms (i :: done) ((d, baseP v (q * sz)) :: env) H K) (hd : Nat.blt d N = true := by rfl) :
    RA P N R ops Ho Ms done env H K :=
  RA.take i hi' (Quiet.indexR q (h.rs (R := sg T) fun p hp => hp) hz hx hy hj) hc (hn ⟨h.pc hz⟩) hd

/-- Without a look into the heap. -/
theorem Quiet.nilCheckA {ty : TypeId} {x : Operand} {p : Value} {a0 : Addr} (hx : ev env x = some p) (hp : p = .pointer (some a0) := by rfl) : Quiet P R env H (.nilCheck x) ty p := fun a w d pos af g ha _ _ => by
  subst hp
  simp [execOp, ha.eval hx]
theorem Quiet.fieldAddrA {ty : TypeId} {x : Operand} {s : TypeId} {f off : Nat} {p : Value} {a0 : Addr} (hx : ev env x = some p) [fl : Fld P s f off] (hp : p = .pointer (some a0) := by rfl) : Quiet P R env H (.fieldAddr s x f) ty (addP p off) := fun a w d pos af g ha _ _ => by
  subst hp
  have := fl.h a0 w
  simp [execOp, ha.eval hx, this, addP]
theorem flat3 (A B C : Seg) : [A, B, C].flatten = A ++ (B ++ C) := by simp
theorem RS.lit {b : Nat} {cs : List Value} {E sz : Nat} {fr : Nat × Nat} {α : Type} {enc : α → List Value} {x : α} (hb : Rx R H b (.cells cs.toArray E fr)) (he : enc x = cs) (hl : cs.length = sz) (ho : ∀ c ∈ cs, Go.Proofs.Ytkepgbimlolemaa.oneCell c = true) : RS (Rx R H) sz enc (.slice (some ⟨b, 0, none⟩) 1 1) [x] :=
  ⟨by simp [he, hl], by simpa [he] using ho, some ⟨b, 0, none⟩, 1, rfl, by simp, by simp [maxLen], .inr ⟨b, 0, cs.toArray, E, fr, rfl, hb, fun k hk => by
    simp only [List.flatMap_cons, List.flatMap_nil, List.append_nil, he] at hk ⊢
    simp [hk]⟩⟩
end
end Go.Proofs.Ytkepgbimlolemaa


set_option linter.unusedVariables false
namespace Go.Proofs.Ytkepgbimlolemaa
section
variable {P : Program} {N : Nat} {R R' : Rds} {ops : Array Oper} {l : List Oper} {env : Env} {H : Segs} {K : Env → Segs → Prop} {T : Seg} {upd : Seg → Segs} {ty : TypeId} {pos : String} {af : Array Edge} {α : Type}

def pieceV (sz lo hi : Nat) (p : Option Addr) (cap : Nat) : Value := .slice (if cap = lo then p else p.map (·.add (lo * sz))) (hi - lo) (cap - lo)
theorem Quiet.sliceE {x : Operand} {xl xh : Option Operand} {t e : TypeId} {sz n cap : Nat} {p : Option Addr} (lo hi : Nat) [ut : Und P t (.slice e)] [s : Sz P e sz] (h1 : optN env xl 0 lo) (h2 : optN env xh n hi) (h3 : lo ≤ hi) (h4 : hi ≤ cap) (hx : ev env x = some (.slice p n cap) := by rfl) :
    Quiet P R env H (.slice t x xl xh none) ty (pieceV sz lo hi p cap) := fun a w d pos af g ha _ _ => by
  have := run_sliceAt (P := P) (w := w) (p := p) (n := n) (cap := cap) ha h1 h2 h3 h4 (t := t) (e := e) (sz := sz)
  simp only [execOp, ha.eval hx, Option.map_none]
  rw [Sem.run_bind, this]
  rfl
theorem OS.shape {E : TypeId} {sz : Nat} {enc : α → List Value} {v : Value} {xs : List α} (h : OS E sz enc v xs T) : ∃ p cap, v = .slice p xs.length cap ∧ xs.length ≤ cap := by
  rcases h.h with ⟨h1, h2, _⟩ | ⟨b, off, c, cap, h1, _, h3, _⟩
  · exact ⟨none, 0, by rw [h1, h2]; rfl, by simp [h2]⟩
  · exact ⟨_, cap, h1, h3⟩
theorem OS.head {E : TypeId} {sz n cap : Nat} {p : Option Addr} {enc : α → List Value} {xs : List α} (h : OS E sz enc (.slice p n cap) xs T) (lo : Nat) (hlo : lo ≤ xs.length) : OS E sz enc (pieceV sz 0 lo p cap) (xs.take lo) T := by
  have hn : (xs.take lo).length = lo := by simp; omega
  refine ⟨fun x hx => h.len x (List.mem_of_mem_take hx), fun x hx => h.one x (List.mem_of_mem_take hx), ?_⟩
  rcases h.h with ⟨h1, h2, h3⟩ | ⟨b, off, c, cap', h1, h2, h3, h4, h5, h6⟩
  · cases h1
    subst h2
    obtain rfl : lo = 0 := by simpa using hlo
    exact .inl ⟨by simp [pieceV], by simp, h3⟩
  · cases h1
    refine .inr ⟨b, off, c, cap, ?_, h2, by omega, h4, h5, by simpa using h6.piece h.len 0 lo⟩
    rw [hn]
    by_cases hc : cap = 0
    · simp [pieceV, hc]
    · simp [pieceV, hc, Addr.add]
theorem zeroCells_get (z : List Value) (n : Nat) (h : ∀ u ∈ z, oneCell u = true) : ∀ u ∈ (Builtin.zeroCells z.toArray n).toList, oneCell u = true := by
  intro u hu
  simp only [Builtin.zeroCells, Array.toList_map, List.mem_map] at hu
  obtain ⟨i, hi, rfl⟩ := hu
  have hi' : i < n * z.length := by simpa using hi
  have hz : 0 < z.length := by
    rcases Nat.eq_zero_or_pos z.length with h0 | h0
    · rw [h0] at hi'; omega
    · exact h0
  have : i % z.length < z.length := Nat.mod_lt _ hz
  simp only [List.size_toArray]
  rw [getElem!_pos z.toArray (i % z.length) (by simpa using this)]
  exact h _ (by simp)
theorem Row.setL {c : Array Value} {off k : Nat} {cs vs : List Value} (h : Row c off cs) (hk : off + cs.length ≤ k) (hl : k + vs.length ≤ c.size) : Row (Go.Proofs.Ytkepgbimlolemaa.setL c.toList k vs).toArray off cs := fun j hj => by
  have h1 := h j hj
  have h2 := setL_get (vs := c.toList) (cs := vs) (off := k) (by simpa using hl) (off + j)
  simp only [List.getElem?_toArray]
  rw [h2, if_pos (by omega)]
  simpa using h1
/-- The end of a slice is cleared. -/
theorem TriOps.clearTail {x : Operand} {t E sz n cap : Nat} {p : Option Addr} {enc : α → List Value} {xs : List α} {zs : List Value} {z : Value} (lo : Nat) (h : OS E sz enc (.slice p n cap) xs T) [sa : SegAt H T upd] [ut : Und P t (.slice E)] [zr : Zr P E z]
    (hlo : lo ≤ xs.length) (hx : ev env x = some (pieceV sz lo n p cap)) (hn : ∀ T', OS E sz enc (pieceV sz 0 lo p cap) (xs.take lo) T' → TriOps false P N R ops l env (upd T') K)
    (hz : z.cells = zs.toArray := by rfl) (hzl : zs.length = sz := by rfl) (ho : ∀ u ∈ zs, Go.Proofs.Ytkepgbimlolemaa.oneCell u = true := by simp [Go.Proofs.Ytkepgbimlolemaa.oneCell]) :
    TriOps false P N R ops (⟨none, .call ⟨.builtin .clear, #[x], #[t]⟩, ty, pos, af, none⟩ :: l) env H K :=
  TriOps.eff0 fun a w ha s ro => by
    obtain ⟨H1, H2, e1, e2⟩ := sa.h
    have hn' := h.shape
    obtain ⟨p0, cap0, e0, hcap⟩ := hn'
    cases e0
    by_cases hc : xs.length - lo = 0
    · refine ⟨w, H, .inr ⟨.tuple #[], ?_⟩, Frame.refl w H, s, ?_⟩
      · have hcl : ∀ (p0 : Option Addr) (c0 : Nat), (Builtin.clear_ #[t] ty #[.slice p0 0 c0]).run P w = .ok (.tuple #[]) w := fun p0 c0 => by cases p0 <;> simp [Builtin.clear_, run_underlying ut.h]
        simp only [pieceV, hc] at hx
        simp [execOp, resolve, ha.eval hx, invoke, builtin, hcl]
      · have := hn T (h.head lo hlo)
        rwa [e2, ← e1] at this
    · rcases h.h with ⟨h1, h2, h3⟩ | ⟨b, off, c, cap', h1, h2, h3, h4, h5, h6⟩
      · subst h2; simp at hc
      · cases h1
        subst h2; subst e1
        have hne : ¬ cap = lo := by omega
        have hb : w.heap[b]? = some (.cells c E (0, 0)) := s.2 (b, _) (by simp)
        have hp : (if cap = lo then some (⟨b, off, none⟩ : Addr) else (some (⟨b, off, none⟩ : Addr)).map (·.add (lo * sz))) = some ⟨b, off + lo * sz, none⟩ := by
          rw [if_neg hne, Option.map_some, add_mk]
        have hsz : (Builtin.zeroCells z.cells (xs.length - lo)).toList.length = (xs.length - lo) * sz := by rw [Array.length_toList, zeroCells_size, hz]; simp [hzl]
        have hbound : off + lo * sz + (xs.length - lo) * sz ≤ c.size := by
          have h7 : lo * sz + (xs.length - lo) * sz = xs.length * sz := by rw [← Nat.add_mul]; congr 1; omega
          have h8 : xs.length * sz ≤ cap * sz := Nat.mul_le_mul_right _ h3
          omega
        have hst := run_storeCells (P := P) (b := b) (off := off + lo * sz) (E := E) (Builtin.zeroCells z.cells (xs.length - lo)).toList 0 c.toList w (by simpa using hb) (by rw [hz]; exact zeroCells_get zs _ ho) (by rw [hsz]; simp; omega)
        refine ⟨_, upd [(b, .cells (Go.Proofs.Ytkepgbimlolemaa.setL c.toList (off + lo * sz) (Builtin.zeroCells z.cells (xs.length - lo)).toList).toArray E (0, 0))], .inr ⟨.tuple #[], ?_⟩, by rw [e2]; exact (setO_seg (o' := _) s).1, by rw [e2]; exact (setO_seg (o' := _) s).2, hn _ ?_⟩
        · obtain ⟨m, hm⟩ : ∃ m, xs.length - lo = m + 1 := ⟨xs.length - lo - 1, by omega⟩
          simp only [Nat.add_zero] at hst
          simp only [pieceV, hp] at hx
          rw [hm] at hst hx ⊢
          simp [execOp, resolve, ha.eval hx, invoke, builtin, Builtin.clear_, run_underlying ut.h, zr.h, hst]
        · refine ⟨fun x hx => h.len x (List.mem_of_mem_take hx), fun x hx => h.one x (List.mem_of_mem_take hx), .inr ⟨b, off, _, cap, ?_, rfl, by simp; omega, h4, ?_, ?_⟩⟩
          · have : (xs.take lo).length = lo := by simp; omega
            rw [this]
            by_cases hc0 : cap = 0
            · simp [pieceV, hc0]
            · simp [pieceV, hc0, Addr.add]
          · have := setL_length (vs := c.toList) (cs := (Builtin.zeroCells z.cells (xs.length - lo)).toList) (off := off + lo * sz) (by rw [hsz]; simpa using hbound)
            simp only [List.size_toArray, this]
            simpa using h5
          · have h9 : Row c off ((xs.take lo).flatMap enc) := by simpa using h6.piece h.len 0 lo
            refine h9.setL ?_ (by rw [hsz]; exact hbound)
            rw [flatMap_length (sz := sz) (fun x hx => h.len x (List.mem_of_mem_take hx))]
            simp; exact Nat.mul_le_mul_right _ (Nat.min_le_left _ _)
/-- A call of a function value that changes one segment. -/
theorem TriOps.callMV {d t : Nat} {f : FuncId} {first captured : List Value} [e : Ent P f] {xs : List Operand} {ats : Array TypeId} {vs : List Value} {Post : Value → Seg → Prop}
    (hs : Spec P f (first ++ vs ++ captured) R [T] fun v H' => ∃ T', H' = [T'] ∧ Post v T') (hn : ∀ v T', Post v T' → TriOps false P N R ops l ((d, v) :: env) (upd T') K) [sa : SegAt H T upd]
    (ht : Env.get? env t = some (.func (.func f) first.toArray captured.toArray) := by rfl) (hxs : evs env xs = some vs := by rfl) (hd : Nat.blt d N = true := by rfl) :
    TriOps false P N R ops (⟨some d, .call ⟨.value (.tmp t), xs.toArray, ats⟩, ty, pos, af, none⟩ :: l) env H K :=
  TriOps.callM_gen (fun a w ha => by
    have h1 := ha.evalsA hxs
    have h2 : a.eval (.tmp t) = _ := ha.eval ht
    simp only [execOp, resolve, h1, h2, Deferred.ofValue]
    have := e.h (first ++ vs ++ captured).toArray w
    rw [← List.append_toArray, ← List.append_toArray] at this ⊢
    exact this) hs (fun _ _ h => h) (fun v T' hp => ⟨hd, hn v T' hp⟩)
/-- What a function value does to each of some elements, and to a state. -/
def FnOK (P : Program) (f : FuncId) (caps : List Value) (R : Rds) (enc : α → List Value) {σ : Type} (I : σ → Seg → Prop) (p : α → Bool) (step : σ → α → σ) (xs : List α) : Prop :=
  ∀ x ∈ xs, ∀ s T, I s T → Spec P f ([.agg (enc x).toArray] ++ caps) R [T] fun v H' => ∃ T', H' = [T'] ∧ v = .bool (p x) ∧ I (step s x) T'
theorem FnOK.mono {f : FuncId} {caps : List Value} {R R' : Rds} {enc : α → List Value} {σ : Type} {I : σ → Seg → Prop} {p : α → Bool} {step : σ → α → σ} {xs : List α} (h : FnOK P f caps R enc I p step xs) (hr : ∀ b o, R b o → R' b o) : FnOK P f caps R' enc I p step xs :=
  fun x hx s T hI => (h x hx s T hI).weaken hr
theorem fold_next {σ : Type} {step : σ → α → σ} {s : σ} {xs : List α} {i : Nat} {x : α} (h : xs[i]? = some x) : (xs.take (i + 1)).foldl step s = step ((xs.take i).foldl step s) x := by
  rw [List.take_add_one, h]; simp
theorem run_equalIn_slnil (n : Nat) {t e : TypeId} {w : World} {p : Option Addr} {a c a' c' : Nat} (ut : P.underlying t = some (.slice e)) : (Op.equalIn (n + 1) t (.slice p a c) (.slice none a' c')).run P w = .ok p.isNone w := by
  cases p <;> simp [Op.equalIn, run_underlying ut]
theorem Quiet.eqNilS {x y : Operand} {t u e n c : Nat} {p : Option Addr} {n' c' : Nat} (hx : ev env x = some (.slice p n c)) (hy : ev env y = some (.slice none n' c')) [ut : Und P t (.slice e)] : Quiet P R env H (.binOp .eql t x y u) ty (.bool p.isNone) := fun a w d pos af g ha _ _ =>
  run_eqlOp (op := .move x) (ha.eval hx) (ha.eval hy) (eqGuard_other rfl) rfl (run_equalIn_slnil _ ut.h)
theorem Quiet.neNilS {x y : Operand} {t u e n c : Nat} {p : Option Addr} {n' c' : Nat} (hx : ev env x = some (.slice p n c)) (hy : ev env y = some (.slice none n' c')) [ut : Und P t (.slice e)] : Quiet P R env H (.binOp .neq t x y u) ty (.bool !p.isNone) := fun a w d pos af g ha _ _ =>
  run_neqOp (op := .move x) (ha.eval hx) (ha.eval hy) (eqGuard_other rfl) rfl (run_equalIn_slnil _ ut.h)
theorem TriOps.buildSlice0 {d : Nat} {T E k : Nat} [ut : Und P T (.slice E)] [sz : Sz P E k] (hn : ∀ b, TriOps false P N R ops l ((d, .slice (some ⟨b, 0, none⟩) 0 0) :: env) ([(b, .cells [].toArray E (0, 0))] :: H) K) (hd : Nat.blt d N = true := by rfl) :
    TriOps false P N R ops (⟨some d, .buildSlice T 0 [].toArray, ty, pos, af, none⟩ :: l) env H K :=
  TriOps.fresh (v := fun b => .slice (some ⟨b, 0, none⟩) 0 0) hd (fun a w ha s ro => ⟨w.drawn, by
    have h6 : (execOp a.eval ⟨some d, .buildSlice T 0 [].toArray, ty, pos, af, none⟩) = (do pure (.value (← Instr.buildSlice T 0 #[]))) := by
      show (do pure (Next.value (← Instr.buildSlice T 0 ((#[] : Array (Nat × Operand)).map fun x : Nat × Operand => (x.1, a.eval x.2))))) = _
      rw [Array.map_empty]
    rw [h6]
    have h7 : ((Array.range 0).map fun x => (default : Value)) = #[] := by apply Array.eq_empty_of_size_eq_zero; simp
    simp [Instr.buildSlice, run_underlying ut.h, sz.h, Instr.fill, newRow_run, h7]⟩) hn
theorem OS.empty {E sz b : Nat} {enc : α → List Value} : OS E sz enc (.slice (some ⟨b, 0, none⟩) 0 0) ([] : List α) [(b, .cells [].toArray E (0, 0))] :=
  ⟨by simp, by simp, .inr ⟨b, 0, _, 0, rfl, rfl, by simp, by simp, by simp, fun k hk => by simp at hk⟩⟩
theorem RS.none_nil {sz n c : Nat} {enc : α → List Value} {xs : List α} (h : RS R sz enc (.slice none n c) xs) : xs = [] := by
  obtain ⟨p, cap, h1, _, _, h4⟩ := h.h
  cases h1
  rcases h4 with h4 | ⟨b, off, c, E, fr, h5, _⟩
  · exact h4
  · cases h5
end
end Go.Proofs.Ytkepgbimlolemaa


set_option linter.unusedVariables false
namespace Go.Proofs.Ytkepgbimlolemaa
section
variable {P : Program} {N : Nat} {R R' : Rds} {ops : Array Oper} {l : List Oper} {env : Env} {H : Segs} {K : Env → Segs → Prop} {T : Seg} {upd : Seg → Segs} {ty : TypeId} {pos : String} {af : Array Edge}

/-- A call, where what is entered may hang on what the memory holds. -/
theorem TriOps.call_genS {dst : Option Nat} {op : Op} (is : List Nat) {f : FuncId} {vs : List Value} {Post : Value → Segs → Prop}
    (hx : ∀ a w, EnvOK a env → Sat w H → RO w R H → (execOp a.eval ⟨dst, op, ty, pos, af, none⟩).run P w = .ok (.enter f vs.toArray) w)
    (hs : Spec P f vs (Rx R (rest is H)) (take is H) Post)
    (hn : ∀ v H', Post v H' → match dst with
      | some d => Nat.blt d N = true ∧ TriOps false P N R ops l ((d, v) :: env) (H' ++ rest is H) K
      | none => TriOps false P N R ops l env (H' ++ rest is H) K) :
    TriOps false P N R ops (⟨dst, op, ty, pos, af, none⟩ :: l) env H K := fun Q' w0 H0 hQ a w s => by
  simp only [wpList, Region.wanted, if_true]
  refine .inl ?_
  rw [Oper.wp, hx a w s.env s.sat s.ro]
  obtain ⟨s1, s2, s3⟩ := sat_split (is := is) s.sat
  refine (hs w s1 (RO.split s.sat s.ro)).mono fun e w' ⟨v, H', he, hp, hs', hf⟩ => ?_
  subst he
  obtain ⟨j1, j2⟩ := sat_join s.sat hs' hf
  have hn' := hn v H' hp
  cases dst with
  | some d => exact hn'.2 Q' w0 H0 hQ _ w' ((s.step j2 j1).put v hn'.1)
  | none => exact hn' Q' w0 H0 hQ _ w' (s.step j2 j1)
/-- Which function a method of a type is, and with which receiver. -/
class Mth (P : Program) (t : TypeId) (name : String) (f : outParam FuncId) : Prop where
  h : ∀ (v : Value) w, (Go.method (P.types.size + Made.depth) t v name).run P w = .ok (f, v) w
theorem run_invoke {t : TypeId} {name : String} {f : FuncId} [m : Mth P t name f] [e : Ent P f] {x : Operand} {v : Value} {xs : List Operand} {ats : Array TypeId} {vs : List Value} {dst : Option Nat} {g : Option (Nat × Bool)} (hx : ev env x = some (.iface t v)) (hxs : evs env xs = some vs) (a : Act) (w : World) (ha : EnvOK a env) :
    (execOp a.eval ⟨dst, .call ⟨.invoke x name, xs.toArray, ats⟩, ty, pos, af, g⟩).run P w = .ok (.enter f (v :: vs).toArray) w := by
  have h1 := ha.evalsA hxs
  have h2 := ha.eval hx
  have h3 := e.h (v :: vs).toArray w
  have h4 : #[v] ++ vs.toArray = (v :: vs).toArray := by simp
  have h5 : callMethod (.iface t v) name vs.toArray = (do let (f, r) ← Go.method ((← program).types.size + Made.depth) t v name; callFunc f (#[r] ++ vs.toArray)) := rfl
  have h6 : (callMethod (.iface t v) name vs.toArray).run P w = .ok (.enter f (v :: vs).toArray) w := by
    rw [h5]
    simp [m.h, h3]
  have h7 : (invoke (.fn (.method name) #[]) (#[.iface t v] ++ vs.toArray)).run P w = .ok (.enter f (v :: vs).toArray) w := by
    have : invoke (.fn (.method name) #[]) (#[.iface t v] ++ vs.toArray) = callMethod (.iface t v) name vs.toArray := by simp [invoke]
    rw [this]; exact h6
  simp only [execOp, resolve, h1, h2]
  exact h7
/-- Which function a method of a value is, with which receiver, as the memory stands. -/
def MthAt (P : Program) (D : Rds) (t : TypeId) (v : Value) (name : String) (f : FuncId) (r : Value) : Prop :=
  ∀ w, (∀ b o, D b o → w.heap[b]? = some o) → (Go.method (P.types.size + Made.depth) t v name).run P w = .ok (f, r) w
theorem MthAt.of {D : Rds} {t : TypeId} {v : Value} {name : String} {f : FuncId} [m : Mth P t name f] : MthAt P D t v name f v := fun w _ => m.h v w
theorem MthAt.mono {D D' : Rds} {t : TypeId} {v : Value} {name : String} {f : FuncId} {r : Value} (h : MthAt P D t v name f r) (hd : ∀ b o, D b o → D' b o) : MthAt P D' t v name f r := fun w hw => h w fun b o hb => hw b o (hd b o hb)
theorem run_invokeAt {D : Rds} {t : TypeId} {name : String} {f : FuncId} {v r : Value} (m : MthAt P D t v name f r) (e : Ent P f) {x : Operand} {xs : List Operand} {ats : Array TypeId} {vs : List Value} {dst : Option Nat} {g : Option (Nat × Bool)} (hx : ev env x = some (.iface t v)) (hxs : evs env xs = some vs) (a : Act) (w : World) (ha : EnvOK a env)
    (hw : ∀ b o, D b o → w.heap[b]? = some o) : (execOp a.eval ⟨dst, .call ⟨.invoke x name, xs.toArray, ats⟩, ty, pos, af, g⟩).run P w = .ok (.enter f (r :: vs).toArray) w := by
  have h1 := ha.evalsA hxs
  have h2 := ha.eval hx
  have h3 := e.h (r :: vs).toArray w
  have h4 : #[r] ++ vs.toArray = (r :: vs).toArray := by simp
  have h5 : callMethod (.iface t v) name vs.toArray = (do let (f, r) ← Go.method ((← program).types.size + Made.depth) t v name; callFunc f (#[r] ++ vs.toArray)) := rfl
  have h6 : (callMethod (.iface t v) name vs.toArray).run P w = .ok (.enter f (r :: vs).toArray) w := by
    rw [h5]
    simp [m w hw, h3]
  have h7 : (invoke (.fn (.method name) #[]) (#[.iface t v] ++ vs.toArray)).run P w = .ok (.enter f (r :: vs).toArray) w := by
    have : invoke (.fn (.method name) #[]) (#[.iface t v] ++ vs.toArray) = callMethod (.iface t v) name vs.toArray := by simp [invoke]
    rw [this]; exact h6
  simp only [execOp, resolve, h1, h2]
  exact h7
/-- What a method of an interface value does to one segment. -/
def ISpec (P : Program) (t : TypeId) (v : Value) (name : String) (vs : List Value) (R : Rds) (T : Seg) (Post : Value → Seg → Prop) : Prop :=
  ∃ f r, MthAt P (Rx R [T]) t v name f r ∧ Ent P f ∧ Spec P f (r :: vs) R [T] fun u H' => ∃ T', H' = [T'] ∧ Post u T'
theorem ISpec.weaken {t : TypeId} {v : Value} {name : String} {vs : List Value} {Post : Value → Seg → Prop} (h : ISpec P t v name vs R' T Post) (hr : ∀ b o, R' b o → R b o) : ISpec P t v name vs R T Post := by
  obtain ⟨f, r, h1, h2, h3⟩ := h
  exact ⟨f, r, h1.mono fun b o hb => hb.imp (hr b o) id, h2, h3.weaken hr⟩
theorem ISpec.mono {t : TypeId} {v : Value} {name : String} {vs : List Value} {Post Post' : Value → Seg → Prop} (h : ISpec P t v name vs R T Post) (hp : ∀ u T', Post u T' → Post' u T') : ISpec P t v name vs R T Post' := by
  obtain ⟨f, r, h1, h2, h3⟩ := h
  exact ⟨f, r, h1, h2, h3.mono fun u H' ⟨T', e, hq⟩ => ⟨T', e, hp _ _ hq⟩⟩
theorem TriOps.callI_gen {dst : Option Nat} {x : Operand} {t : TypeId} {v : Value} {name : String} {xs : List Operand} {ats : Array TypeId} {vs : List Value} {Post : Value → Seg → Prop} [sa : SegAt H T upd]
    (hs : ISpec P t v name vs R T Post) (hx : ev env x = some (.iface t v)) (hxs : evs env xs = some vs)
    (hn : ∀ u T', Post u T' → match dst with
      | some d => Nat.blt d N = true ∧ TriOps false P N R ops l ((d, u) :: env) (upd T') K
      | none => TriOps false P N R ops l env (upd T') K) :
    TriOps false P N R ops (⟨dst, .call ⟨.invoke x name, xs.toArray, ats⟩, ty, pos, af, none⟩ :: l) env H K := by
  obtain ⟨f, r, h1, h2, h3⟩ := hs
  obtain ⟨H1, H2, rfl, hu⟩ := sa.h
  refine TriOps.call_genS (H := H1 ++ T :: H2) ((H1 ++ T :: H2).map fun _ => 0) (f := f) (vs := r :: vs) (Post := fun u H' => ∃ T', H' = H1 ++ T' :: H2 ∧ Post u T') (fun a w ha hs hr => run_invokeAt h1 h2 hx hxs a w ha fun b o hb => ?_) ?_ (fun u H' hp => ?_)
  · rcases hb with hb | hb
    · exact (hr b o hb).1
    · exact hs.2 (b, o) (by simp at hb ⊢; exact .inr (.inl hb))
  · rw [take_all]
    exact h3.at fun b o hb => .inl hb
  · obtain ⟨T', rfl, hq⟩ := hp
    have := hn u T' hq
    rw [hu T'] at this
    rw [rest_all, List.append_nil]
    cases dst <;> exact this
theorem TriOps.callI {d : Nat} {x : Operand} {t : TypeId} {v : Value} {name : String} {xs : List Operand} {ats : Array TypeId} {vs : List Value} {Post : Value → Seg → Prop}
    (hs : ISpec P t v name vs R T Post) (hn : ∀ u T', Post u T' → TriOps false P N R ops l ((d, u) :: env) (upd T') K) [sa : SegAt H T upd] (hx : ev env x = some (.iface t v) := by rfl) (hxs : evs env xs = some vs := by rfl) (hd : Nat.blt d N = true := by rfl) :
    TriOps false P N R ops (⟨some d, .call ⟨.invoke x name, xs.toArray, ats⟩, ty, pos, af, none⟩ :: l) env H K :=
  TriOps.callI_gen hs hx hxs fun u T' hq => ⟨hd, hn u T' hq⟩
theorem TriOps.callI0 {x : Operand} {t : TypeId} {v : Value} {name : String} {xs : List Operand} {ats : Array TypeId} {vs : List Value} {Post : Value → Seg → Prop}
    (hs : ISpec P t v name vs R T Post) (hn : ∀ u T', Post u T' → TriOps false P N R ops l env (upd T') K) [sa : SegAt H T upd] (hx : ev env x = some (.iface t v) := by rfl) (hxs : evs env xs = some vs := by rfl) :
    TriOps false P N R ops (⟨none, .call ⟨.invoke x name, xs.toArray, ats⟩, ty, pos, af, none⟩ :: l) env H K :=
  TriOps.callI_gen hs hx hxs fun u T' hq => hn u T' hq
theorem Quiet.i64 {op : Op} {z : Int} (c : Int) (h : Quiet P R env H op ty (.int .i64 (IntKind.i64.wrap z))) (e : z = c ∧ -9223372036854775808 ≤ c ∧ c ≤ 9223372036854775807) : Quiet P R env H op ty (.int .i64 c) := by
  obtain ⟨rfl, h1, h2⟩ := e
  rw [IntWalk.i64_in _ (by omega)] at h
  exact h
theorem tdiv2 {j : Nat} : ((j : Int) - 1).tdiv 2 = (((j - 1) / 2 : Nat) : Int) := by
  rcases Nat.eq_zero_or_pos j with h | h
  · subst h; decide
  · rw [Int.tdiv_eq_ediv_of_nonneg (by omega)]; omega
theorem MthAt.ptr {D : Rds} {t e : TypeId} {v : Value} {name : String} {f : FuncId} {info : TypeInfo} (ht : ∀ w, (typeInfo t).run P w = .ok info w) (hm : (info.methods.find? (·.name == name)).map (fun m => (m.path.isEmpty, m.func)) = some (true, some (f, true)))
    (hu : Und P t (.pointer e)) (hs : Nat.beq P.types.size 0 = false) : MthAt P D t v name f v := fun w _ => by
  obtain ⟨n, hn⟩ : ∃ n, P.types.size + Made.depth = n + 1 := ⟨P.types.size + Made.depth - 1, by have : P.types.size ≠ 0 := fun e => (by rw [e] at hs; cases hs); omega⟩
  rw [hn]
  obtain ⟨m, hm1, hm2⟩ := Option.map_eq_some_iff.1 hm
  simp only [Prod.mk.injEq] at hm2
  have hp : m.path = #[] := by simpa using hm2.1
  unfold Go.method
  simp [ht, hm1, hp, hm2.2, follow, receiverAt, run_underlying hu.h, Place.get]
theorem run_wrapNil {tys : Array TypeId} {t : TypeId} {a : Addr} {s m : ByteArray} {w : World} : (Builtin.ssaWrapNilChk_ tys t #[.pointer (some a), .string s, .string m]).run P w = .ok (.pointer (some a)) w := rfl
theorem MthAt.val {D : Rds} {t e : TypeId} {v u : Value} {us : List Value} {name : String} {f : FuncId} {info : TypeInfo} (ht : ∀ w, (typeInfo t).run P w = .ok info w) (hm : (info.methods.find? (·.name == name)).map (fun m => (m.path.isEmpty, m.func)) = some (true, some (f, false)))
    (hu : Und P t (.pointer e)) (hs : Nat.beq P.types.size 0 = false) (ag : Agg P e false) (hc : PC D v (u :: us)) : MthAt P D t v name f u := fun w hw => by
  obtain ⟨n, hn⟩ : ∃ n, P.types.size + Made.depth = n + 1 := ⟨P.types.size + Made.depth - 1, by have : P.types.size ≠ 0 := fun e => (by rw [e] at hs; cases hs); omega⟩
  rw [hn]
  obtain ⟨m, hm1, hm2⟩ := Option.map_eq_some_iff.1 hm
  simp only [Prod.mk.injEq] at hm2
  have hp : m.path = #[] := by simpa using hm2.1
  obtain ⟨b, off, c, E, fr, rfl, hb, hcs⟩ := hc.h
  have h0 := hcs 0 (by simp)
  have h1 : w.cell? ⟨b, off, none⟩ = some u := by
    simp [World.cell?, hw _ _ hb]
    simpa using h0
  unfold Go.method
  simp only [Sem.run_bind, ht, Result.andThen_ok, hm1, hp, hm2.2, follow, receiverAt, Sem.run_pure, Array.isEmpty_empty, if_true]
  simp only [run_underlying hu.h, Result.andThen_ok, Place.get, Sem.run_bind, Sem.run_pure, strVal, run_wrapNil, asAddr, loadVar, ag.h, run_load1 h1, Bool.false_eq_true, if_false]
end
end Go.Proofs.Ytkepgbimlolemaa


set_option linter.unusedVariables false
namespace Go.Proofs.Ytkepgbimlolemaa
variable {α : Type}
/-- Two places change hands. -/
def swp (L : List α) (i k : Nat) : List α := match L[i]?, L[k]? with
  | some x, some y => (L.set i y).set k x
  | _, _ => L
theorem swp_eq {L : List α} {i k : Nat} {x y : α} (h1 : L[i]? = some x) (h2 : L[k]? = some y) : swp L i k = (L.set i y).set k x := by simp [swp, h1, h2]
theorem swp_length {L : List α} {i k : Nat} : (swp L i k).length = L.length := by
  unfold swp; split <;> simp
theorem swp_get {L : List α} {i k : Nat} (hi : i < L.length) (hk : k < L.length) (j : Nat) : (swp L i k)[j]? = if j = k then L[i]? else if j = i then L[k]? else L[j]? := by
  rw [swp_eq (List.getElem?_eq_getElem hi) (List.getElem?_eq_getElem hk), List.getElem?_set, List.getElem?_set]
  by_cases h1 : k = j
  · subst h1; simp [hk, List.getElem?_eq_getElem hi]
  · by_cases h2 : i = j
    · subst h2
      simp [h1, Ne.symm h1, hi, List.getElem?_eq_getElem hk]
    · simp [h1, h2, Ne.symm h1, Ne.symm h2]
theorem swp_perm {L : List α} {i k : Nat} : (swp L i k).Perm L := by
  unfold swp
  split
  · rename_i x y h1 h2
    obtain ⟨hi, rfl⟩ := List.getElem?_eq_some_iff.1 h1
    obtain ⟨hk, rfl⟩ := List.getElem?_eq_some_iff.1 h2
    exact List.set_set_perm hi hk
  · exact .refl _
theorem swp_same {L : List α} {i : Nat} : swp L i i = L := by
  unfold swp
  split
  · rename_i x y h1 h2
    rw [h1] at h2; cases h2
    obtain ⟨hi, rfl⟩ := List.getElem?_eq_some_iff.1 h1
    simp
  · rfl

/-- A strict order in which being alike goes over. -/
structure SO (lt : α → α → Bool) : Prop where
  irr : ∀ x, lt x x = false
  tr : ∀ x y z, lt x y = true → lt y z = true → lt x z = true
  ntr : ∀ x y z, lt x y = false → lt y z = false → lt x z = false
theorem SO.asym {lt : α → α → Bool} (h : SO lt) {x y : α} (hx : lt x y = true) : lt y x = false := by
  cases hy : lt y x with
  | false => rfl
  | true => have := h.tr _ _ _ hx hy; rw [h.irr] at this; cases this

def par (k : Nat) : Nat := (k - 1) / 2
def HEdge (lt : α → α → Bool) (L : List α) (a k : Nat) : Prop := ∀ x y, L[a]? = some x → L[k]? = some y → lt y x = false
def Heap (lt : α → α → Bool) (L : List α) (n : Nat) : Prop := ∀ k, 0 < k → k < n → HEdge lt L (par k) k
structure Up (lt : α → α → Bool) (L : List α) (n j : Nat) : Prop where
  e : ∀ k, 0 < k → k < n → k ≠ j → HEdge lt L (par k) k
  b : ∀ k, 0 < k → k < n → par k = j → 0 < j → HEdge lt L (par j) k
structure Hole (lt : α → α → Bool) (L : List α) (n i : Nat) : Prop where
  e : ∀ k, 0 < k → k < n → k ≠ i → par k ≠ i → HEdge lt L (par k) k
  b : ∀ k, 0 < k → k < n → par k = i → 0 < i → HEdge lt L (par i) k
theorem par_lt {k : Nat} (h : 0 < k) : par k < k := by unfold par; omega
section
variable {lt : α → α → Bool} {L : List α} {n i j : Nat}
theorem Up.stop0 (h : Up lt L n 0) : Heap lt L n := fun k h0 hk => h.e k h0 hk (by omega)
theorem Up.stop (h : Up lt L n j) (he : HEdge lt L (par j) j) : Heap lt L n := fun k h0 hk => by
  by_cases hkj : k = j
  · subst hkj; exact he
  · exact h.e k h0 hk hkj
theorem HEdge.of_get {L' : List α} {a k a' k' : Nat} (h : HEdge lt L a k) (h1 : L'[a']? = L[a]?) (h2 : L'[k']? = L[k]?) : HEdge lt L' a' k' := fun x y hx hy => h x y (h1 ▸ hx) (h2 ▸ hy)
theorem Up.step (so : SO lt) (h : Up lt L n j) (h0 : 0 < j) (hj : j < n) (hn : n ≤ L.length) {x y : α} (hx : L[j]? = some x) (hy : L[par j]? = some y) (hlt : lt x y = true) : Up lt (swp L (par j) j) n (par j) := by
  have hp := par_lt h0
  have g := fun k => swp_get (L := L) (i := par j) (k := j) (by omega) (by omega) k
  refine ⟨fun k hk0 hk hkp => ?_, fun k hk0 hk hkp hp0 => ?_⟩
  · by_cases hkj : k = j
    · subst hkj
      intro u v hu hv
      rw [g, if_neg (by omega), if_pos rfl, hx] at hu
      rw [g, if_pos rfl, hy] at hv
      cases hu; cases hv
      exact so.asym hlt
    · by_cases h1 : par k = par j
      · intro u v hu hv
        rw [h1, g, if_neg (by omega), if_pos rfl, hx] at hu
        rw [g, if_neg hkj, if_neg hkp] at hv
        cases hu
        have e1 := h.e k hk0 hk hkj y v (by rw [h1]; exact hy) hv
        cases hc : lt v x with
        | false => rfl
        | true => rw [so.tr _ _ _ hc hlt] at e1; cases e1
      · by_cases h2 : par k = j
        · refine (h.b k hk0 hk h2 h0).of_get ?_ ?_
          · rw [h2, g, if_pos rfl]
          · rw [g, if_neg hkj, if_neg hkp]
        · refine (h.e k hk0 hk hkj).of_get ?_ ?_
          · rw [g, if_neg h2, if_neg h1]
          · rw [g, if_neg hkj, if_neg hkp]
  · have hpp := par_lt hp0
    have e0 := h.e (par j) hp0 (by omega) (by omega)
    by_cases hkj : k = j
    · subst hkj
      refine e0.of_get ?_ ?_
      · rw [g, if_neg (by omega), if_neg (by omega)]
      · rw [g, if_pos rfl]
    · have hkpj : k ≠ par j := by have := par_lt hk0; omega
      intro u v hu hv
      rw [g, if_neg (by omega), if_neg (by omega)] at hu
      rw [g, if_neg hkj, if_neg hkpj] at hv
      exact so.ntr _ _ _ (h.e k hk0 hk hkj y v (by rw [hkp]; exact hy) hv) (e0 u y hu hy)
theorem Hole.step (so : SO lt) (h : Hole lt L n i) (h0 : 0 < j) (hj : j < n) (hn : n ≤ L.length) (hp : par j = i) {x y : α} (hx : L[j]? = some x) (hy : L[i]? = some y) (hlt : lt x y = true)
    (hmin : ∀ c z, 0 < c → c < n → par c = i → L[c]? = some z → lt z x = false) : Hole lt (swp L i j) n j ∧ HEdge lt (swp L i j) (par j) j := by
  have hij : i < j := hp ▸ par_lt h0
  have g := fun k => swp_get (L := L) (i := i) (k := j) (by omega) (by omega) k
  refine ⟨⟨fun k hk0 hk hkj hkp => ?_, fun k hk0 hk hkp _ => ?_⟩, ?_⟩
  · by_cases hki : k = i
    · subst hki
      have hpk := par_lt hk0
      refine (h.b j h0 hj hp hk0).of_get ?_ ?_
      · rw [g, if_neg (by omega), if_neg (by omega)]
      · rw [g, if_neg hkj, if_pos rfl]
    · by_cases h1 : par k = i
      · intro u v hu hv
        rw [h1, g, if_neg (by omega), if_pos rfl, hx] at hu
        rw [g, if_neg hkj, if_neg hki] at hv
        cases hu
        exact hmin k v hk0 hk h1 hv
      · refine (h.e k hk0 hk hki h1).of_get ?_ ?_
        · rw [g, if_neg hkp, if_neg h1]
        · rw [g, if_neg hkj, if_neg hki]
  · have hkj : k ≠ j := by have := par_lt hk0; omega
    have hki : k ≠ i := by have := par_lt hk0; omega
    refine (h.e k hk0 hk hki (by omega)).of_get ?_ ?_
    · rw [hp, hkp, g, if_neg (by omega), if_pos rfl]
    · rw [g, if_neg hkj, if_neg hki]
  · intro u v hu hv
    rw [hp, g, if_neg (by omega), if_pos rfl, hx] at hu
    rw [g, if_pos rfl, hy] at hv
    cases hu; cases hv
    exact so.asym hlt
theorem Hole.stop (h : Hole lt L n i) (hc : ∀ c, 0 < c → c < n → par c = i → HEdge lt L i c) : Up lt L n i :=
  ⟨fun k hk0 hk hki => by
    by_cases h1 : par k = i
    · rw [h1]; exact hc k hk0 hk h1
    · exact h.e k hk0 hk hki h1, h.b⟩
theorem Heap.hole (so : SO lt) (h : Heap lt L n) (hn : n ≤ L.length) {L' : List α} (hs : ∀ k, k < n → k ≠ i → L'[k]? = L[k]?) : Hole lt L' n i := by
  refine ⟨fun k hk0 hk hki hkp => ?_, fun k hk0 hk hkp hi0 => ?_⟩
  · have := par_lt hk0
    exact (h k hk0 hk).of_get (hs _ (by omega) hkp) (hs _ hk hki)
  · have h1 := par_lt hk0
    have h2 := par_lt hi0
    intro u v hu hv
    rw [hs _ (by omega) (by omega)] at hu
    rw [hs _ hk (by omega)] at hv
    have hi : L[i]? = some (L[i]'(by omega)) := List.getElem?_eq_getElem _
    exact so.ntr _ _ _ (h k hk0 hk _ v (by rw [hkp]; exact hi) hv) (h i hi0 (by omega) u _ hu hi)
theorem Heap.push (h : Heap lt L L.length) (x : α) : Up lt (L ++ [x]) (L.length + 1) L.length := by
  refine ⟨fun k hk0 hk hkn => ?_, fun k hk0 hk hkp _ => ?_⟩
  · have h1 := par_lt hk0
    refine (h k hk0 (by omega)).of_get ?_ ?_ <;> rw [List.getElem?_append_left (by omega)]
  · have h1 := par_lt hk0
    omega
theorem Heap.mono {m : Nat} (h : Heap lt L n) (hm : m ≤ n) : Heap lt L m := fun k h0 hk => h k h0 (by omega)
theorem Heap.of_get {L' : List α} (h : Heap lt L n) (hs : ∀ k, k < n → L'[k]? = L[k]?) : Heap lt L' n := fun k h0 hk => by
  have := par_lt h0
  exact (h k h0 hk).of_get (hs _ (by omega)) (hs _ hk)
/-- The first is least. -/
theorem Heap.least (so : SO lt) (h : Heap lt L L.length) {x : α} (hx : L[0]? = some x) : ∀ (k : Nat) (y : α), L[k]? = some y → lt y x = false := by
  intro k
  induction k using Nat.strongRecOn with
  | _ k ih =>
    intro y hy
    by_cases h0 : k = 0
    · subst h0; rw [hx] at hy; cases hy; exact so.irr _
    · have hp := par_lt (k := k) (by omega)
      have hk := (List.getElem?_eq_some_iff.1 hy).1
      have h1 : L[par k]? = some (L[par k]'(by omega)) := List.getElem?_eq_getElem _
      exact so.ntr _ _ _ (h k (by omega) hk _ y h1 hy) (ih (par k) hp _ h1)
end
end Go.Proofs.Ytkepgbimlolemaa


set_option linter.unusedVariables false
namespace Go.Proofs.Ytkepgbimlolemaa
theorem HLe.trans {A B C : Segs} (h : HLe A B) (h' : HLe B C) : HLe A C := by
  obtain ⟨G, h⟩ := h
  obtain ⟨G', h'⟩ := h'
  refine ⟨G' ++ G, h.trans ?_⟩
  rw [← List.append_assoc]
  exact h'.append_right G
/-- One block of a segment anew. -/
def upB (T : Seg) (b : Nat) (o : Obj) : Seg := T.map fun p => if p.1 = b then (b, o) else p
theorem upB_get {T : Seg} {b : Nat} {o : Obj} (j : Nat) : (upB T b o)[j]? = T[j]?.map fun p => if p.1 = b then (b, o) else p := by simp [upB]
theorem upB_perm {T T' : Seg} {b : Nat} {o : Obj} (h : T.Perm T') : (upB T b o).Perm (upB T' b o) := h.map _
theorem upB_ids {T : Seg} {b : Nat} {o : Obj} : (upB T b o).map (·.1) = T.map (·.1) := by
  simp only [upB, List.map_map]
  refine List.map_congr_left fun p _ => ?_
  simp only [Function.comp]
  split
  · rename_i h; exact h.symm
  · rfl
theorem upB_old {T : Seg} {b : Nat} {o : Obj} (h : ∀ p ∈ T, p.1 ≠ b) : upB T b o = T := by
  unfold upB
  conv => rhs; rw [← List.map_id T]
  exact List.map_congr_left fun p hp => by simp [h p hp]
theorem upB_mid {T1 T2 : Seg} {b : Nat} {o o' : Obj} (hn : ((T1 ++ (b, o) :: T2).map (·.1)).Nodup) : upB (T1 ++ (b, o) :: T2) b o' = T1 ++ (b, o') :: T2 := by
  simp only [List.map_append, List.map_cons, List.nodup_append, List.nodup_cons] at hn
  obtain ⟨_, ⟨h2, _⟩, h3⟩ := hn
  have e1 : upB T1 b o' = T1 := upB_old fun p hp he => h3 p.1 (List.mem_map_of_mem hp) b (by simp) he
  have e2 : upB T2 b o' = T2 := upB_old fun p hp he => h2 (he ▸ List.mem_map_of_mem hp)
  have : upB (T1 ++ (b, o) :: T2) b o' = upB T1 b o' ++ (b, o') :: upB T2 b o' := by simp [upB]
  rw [this, e1, e2]
theorem upB_comm {T : Seg} {b b' : Nat} {o o' : Obj} (h : b ≠ b' ∨ o = o') : upB (upB T b o) b' o' = upB (upB T b' o') b o := by
  simp only [upB, List.map_map]
  refine List.map_congr_left fun p _ => ?_
  simp only [Function.comp]
  by_cases h1 : p.1 = b
  · by_cases h2 : p.1 = b'
    · rcases h with h | h
      · exact absurd (h1.symm.trans h2) h
      · subst h; subst h1; subst h2; simp
    · have : b ≠ b' := fun e => h2 (h1.trans e)
      simp [h1, this]
  · by_cases h2 : p.1 = b'
    · have : b' ≠ b := fun e => h1 (h2.trans e)
      simp [h2, this]
    · simp [h1, h2]
theorem RS.litB {α : Type} {R : Rds} {b n E sz : Nat} {cs : List Value} {fr : Nat × Nat} {enc : α → List Value} {xs : List α} (hb : R b (.cells cs.toArray E fr)) (he : xs.flatMap enc = cs) (hl : ∀ x ∈ xs, (enc x).length = sz) (ho : ∀ x ∈ xs, ∀ u ∈ enc x, Go.Proofs.Ytkepgbimlolemaa.oneCell u = true) (hn : xs.length = n := by rfl) (hm : Nat.ble n 9223372036854775807 = true := by rfl) :
    RS R sz enc (.slice (some ⟨b, 0, none⟩) n n) xs :=
  ⟨hl, ho, _, n, by rw [hn], by omega, by have := Nat.le_of_ble_eq_true hm; unfold maxLen; omega, .inr ⟨b, 0, _, E, fr, rfl, hb, fun k hk => by subst he; simp⟩⟩
theorem RS.lits {α : Type} {R : Rds} {H : Segs} {b n E sz : Nat} {cs : List Value} {fr : Nat × Nat} {enc : α → List Value} {xs : List α} (he : xs.flatMap enc = cs) (hl : ∀ x ∈ xs, (enc x).length = sz) (ho : ∀ x ∈ xs, ∀ u ∈ enc x, Go.Proofs.Ytkepgbimlolemaa.oneCell u = true) (hn : xs.length = n := by rfl) (hm : Nat.ble n 9223372036854775807 = true := by rfl) :
    RS (Rx R ([(b, .cells cs.toArray E fr)] :: H)) sz enc (.slice (some ⟨b, 0, none⟩) n n) xs := RS.litB (E := E) (fr := fr) (.inr (by simp)) he hl ho hn hm
theorem upB_mem {T : Seg} {b b' : Nat} {o o' : Obj} (h : (b', o') ∈ T) (hn : b' ≠ b) : (b', o') ∈ upB T b o := List.mem_map.2 ⟨_, h, by simp [hn]⟩
theorem upB_self {T : Seg} {b : Nat} {o o' : Obj} (h : (b, o') ∈ T) : (b, o) ∈ upB T b o := List.mem_map.2 ⟨_, h, by simp⟩
def idx {α : Type} : Nat → List α → List (Nat × α)
  | _, [] => []
  | i, x :: l => (i, x) :: idx (i + 1) l
theorem fillL_one {places : List (Nat × Nat)} {zs : List Value} {i off : Nat} {v : Value} {r : List (Nat × Value)} (hp : places[i]? = some (off, 1)) (hv : oneCell v = true) (hl : off + 1 ≤ zs.length) : fillL places zs ((i, v) :: r) = fillL places (setL zs off [v]) r := by
  have h2 : Nat.ble (off + 1) zs.length = true := Nat.ble_eq_true_of_le hl
  simp only [fillL, hp]
  cases v <;> first | (cases hv; done) | simp [h2]
theorem fillL_agg {places : List (Nat × Nat)} {zs cs : List Value} {i off : Nat} {r : List (Nat × Value)} (hp : places[i]? = some (off, cs.length)) (hl : off + cs.length ≤ zs.length) : fillL places zs ((i, .agg cs.toArray) :: r) = fillL places (setL zs off cs) r := by
  have h2 : Nat.ble (off + cs.length) zs.length = true := Nat.ble_eq_true_of_le hl
  simp [fillL, hp, h2]
theorem fillL_seq1' {n : Nat} : ∀ (vs zs : List Value) (i : Nat), i + vs.length = n → zs.length = n → (∀ v ∈ vs, oneCell v = true) → fillL ((List.range n).map fun i => (i * 1, 1)) zs (idx i vs) = some (zs.take i ++ vs)
  | [], zs, i, h, hz, _ => by
    simp only [idx, fillL, List.append_nil]
    rw [List.take_of_length_le (by simp at h; omega)]
  | v :: vs, zs, i, h, hz, ho => by
    simp only [List.length_cons] at h
    have hp : ((List.range n).map fun i => (i * 1, 1))[i]? = some (i * 1, 1) := by
      rw [List.getElem?_map, List.getElem?_range (by omega)]; rfl
    simp only [idx]
    rw [fillL_one hp (ho v (by simp)) (by omega), fillL_seq1' vs _ (i + 1) (by omega) (by rw [setL_length (by simp; omega)]; exact hz) fun u hu => ho u (by simp [hu])]
    simp only [setL_eq, Nat.mul_one, List.append_assoc]
    rw [List.take_append, List.take_of_length_le (by simp; omega)]
    have e1 : i + 1 - (zs.take i).length = 1 := by rw [List.length_take]; omega
    rw [e1]; simp
theorem fillL_seq1 {n : Nat} {vs zs : List Value} (hn : vs.length = n) (hz : zs.length = n) (ho : ∀ v ∈ vs, oneCell v = true) : fillL ((List.range n).map fun i => (i * 1, 1)) zs (idx 0 vs) = some vs := by
  rw [fillL_seq1' vs zs 0 (by omega) hz ho]; simp
theorem fillL_seqA' {n k : Nat} : ∀ (css : List (List Value)) (zs : List Value) (i : Nat), i + css.length = n → zs.length = n * k → (∀ cs ∈ css, cs.length = k) → fillL ((List.range n).map fun i => (i * k, k)) zs (idx i (css.map fun cs => .agg cs.toArray)) = some (zs.take (i * k) ++ css.flatten)
  | [], zs, i, h, hz, _ => by
    simp only [List.length_nil, Nat.add_zero] at h
    simp only [List.map_nil, idx, fillL, List.flatten_nil, List.append_nil]
    rw [List.take_of_length_le (by rw [hz, h]; omega)]
  | cs :: css, zs, i, h, hz, ho => by
    simp only [List.length_cons] at h
    have hk := ho cs (by simp)
    have hlt : i < n := by omega
    have hm : (i + 1) * k ≤ n * k := Nat.mul_le_mul_right k hlt
    rw [Nat.succ_mul] at hm
    have hp : ((List.range n).map fun i => (i * k, k))[i]? = some (i * k, cs.length) := by
      rw [List.getElem?_map, List.getElem?_range hlt, hk]; rfl
    simp only [List.map_cons, idx]
    rw [fillL_agg hp (by omega), fillL_seqA' css _ (i + 1) (by omega) (by rw [setL_length (by omega)]; exact hz) fun u hu => ho u (by simp [hu])]
    simp only [setL_eq, List.append_assoc, List.flatten_cons]
    rw [List.take_append, List.take_of_length_le (by rw [List.length_take, Nat.succ_mul]; omega)]
    have e1 : (i + 1) * k - (zs.take (i * k)).length = cs.length := by rw [List.length_take, Nat.succ_mul]; omega
    rw [e1]; simp
theorem fillL_seqA {n k : Nat} {css : List (List Value)} {zs : List Value} (hn : css.length = n) (hz : zs.length = n * k) (ho : ∀ cs ∈ css, cs.length = k) : fillL ((List.range n).map fun i => (i * k, k)) zs (idx 0 (css.map fun cs => .agg cs.toArray)) = some css.flatten := by
  rw [fillL_seqA' css zs 0 (by omega) hz ho]; simp
section
variable {P : Program} {N : Nat} {R R' : Rds} {ops : Array Oper} {l : List Oper} {env : Env} {H : Segs} {K : Env → Segs → Prop} {Q : Exit → Env → Segs → Prop} {T : Seg} {upd : Seg → Segs} {ty : TypeId} {pos : String} {af : Array Edge} {m : Bool}
/-- All owned blocks are different. -/
theorem TriOps.nodup (h : (H.flatten.map (·.1)).Nodup → TriOps m P N R ops l env H K) : TriOps m P N R ops l env H K := fun Q' w0 H0 hQ a w s => h s.sat.1 Q' w0 H0 hQ a w s
theorem Tri.nodup {c : Code} (h : (H.flatten.map (·.1)).Nodup → Tri P N R c env H Q) : Tri P N R c env H Q := fun Q' w0 H0 hQ a w s => h s.sat.1 Q' w0 H0 hQ a w s
theorem Spec.nodup {f : FuncId} {args : List Value} {Post : Value → Segs → Prop} (h : (H.flatten.map (·.1)).Nodup → Spec P f args R H Post) : Spec P f args R H Post := fun w hs hr => h hs.1 w hs hr
theorem RA.nodup {Ho : Segs} {Ms done : List Nat} (h : (H.flatten.map (·.1)).Nodup → RA P N R ops Ho Ms done env H K) : RA P N R ops Ho Ms done env H K := fun Q' w0 H0 hQ hc a w s hh => h s.sat.1 Q' w0 H0 hQ hc a w s hh
theorem take_nil (H : Segs) : take [] H = [] := rfl
theorem rest_nil (H : Segs) : rest [] H = H := rfl
/-- What only reads leaves what is owned. -/
theorem Spec.keep {f : FuncId} {args : List Value} {Post : Value → Prop} (h : Spec P f args (Rx R H) [] fun v H' => Post v ∧ H' = []) : Spec P f args R H fun v H' => Post v ∧ H' = H := fun w hs hr => by
  obtain ⟨s1, s2, s3⟩ := sat_split (is := []) hs
  refine (h w s1 (RO.split (is := []) hs hr)).mono fun e w' ⟨v, H', he, ⟨hp, hH⟩, hs', hf⟩ => ?_
  subst hH
  obtain ⟨j1, j2⟩ := sat_join (is := []) hs hs' hf
  exact ⟨v, H, he, ⟨hp, rfl⟩, j1, j2⟩
theorem ISpec.keep {t : TypeId} {v r : Value} {name : String} {vs : List Value} {f : FuncId} {Post : Value → Prop} (hm : MthAt P (Rx R [T]) t v name f r) [e : Ent P f] (h : Spec P f (r :: vs) (Rx R [T]) [] fun v H' => Post v ∧ H' = []) : ISpec P t v name vs R T fun u T' => Post u ∧ T' = T :=
  ⟨f, r, hm, e, h.keep.mono fun u H' ⟨h1, h2⟩ => ⟨T, h2, h1, rfl⟩⟩
theorem PS.of {b : Nat} {vs : List Value} {E : TypeId} {fr : Nat × Nat} (h : (b, .cells vs.toArray E fr) ∈ T) : PS T (.pointer (some ⟨b, 0, none⟩)) vs := ⟨PC.of h⟩
/-- A store into a block of a segment. -/
theorem TriOps.storeB {t : TypeId} {x y : Operand} {v : Value} {vs : List Value} {b off E : Nat} (hm : (b, .cells vs.toArray E (0, 0)) ∈ T) [sa : SegAt H T upd] [sz : Sz P t 1] (hn : TriOps false P N R ops l env (upd (upB T b (.cells (setL vs off [v]).toArray E (0, 0)))) K)
    (hl : off + 1 ≤ vs.length := by first | decide | exact Nat.le_of_ble_eq_true rfl) (hx : ev env x = some (.pointer (some ⟨b, off, none⟩)) := by rfl) (hy : ev env y = some v := by rfl) (ho : oneCell v = true := by rfl) :
    TriOps false P N R ops (⟨none, .store t x y, ty, pos, af, none⟩ :: l) env H K := by
  refine TriOps.nodup fun hnd => ?_
  obtain ⟨T1, T2, hT⟩ := List.append_of_mem hm
  obtain ⟨H1, H2, rfl, hu⟩ := sa.h
  have hndT : (T.map (·.1)).Nodup := by
    simp only [List.flatten_append, List.flatten_cons, List.map_append, List.nodup_append] at hnd
    exact hnd.2.1.1
  subst hT
  rw [upB_mid hndT] at hn
  have wr : Wr (H1 ++ (T1 ++ (b, .cells vs.toArray E (0, 0)) :: T2) :: H2) (.pointer (some ⟨b, off, none⟩)) vs off (fun vs' => upd (T1 ++ (b, .cells vs'.toArray E (0, 0)) :: T2)) := ⟨b, E, H1, H2, T1, T2, rfl, rfl, fun vs' => hu _⟩
  exact TriOps.store_gen hx hy (cells_one ho) rfl (wr := wr) (by simpa using ho) hl hn
/-- A slice written out, of elements of one cell. -/
theorem TriOps.buildSliceN1 {d : Nat} {T E n : Nat} {z : Value} {xs : List (Nat × Operand)} (vs : List Value) [ut : Und P T (.slice E)] [sz : Sz P E 1] [zr : Zr P E z]
    (hn : ∀ b, TriOps false P N R ops l ((d, .slice (some ⟨b, 0, none⟩) n n) :: env) ([(b, .cells vs.toArray E (0, 0))] :: H) K)
    (hx : evp env xs = some (idx 0 vs) := by rfl) (hl : vs.length = n := by rfl) (ho : ∀ v ∈ vs, Go.Proofs.Ytkepgbimlolemaa.oneCell v = true := by simp [Go.Proofs.Ytkepgbimlolemaa.oneCell]) (hs : Nat.ble (n * 1) (2 ^ 24) = true := by rfl) (hk : Nat.beq (n * 1) 0 = false := by rfl) (hp : (idx 0 vs).all (fun p => Nat.blt p.1 n) = true := by rfl) (hd : Nat.blt d N = true := by rfl) :
    TriOps false P N R ops (⟨some d, .buildSlice T n xs.toArray, ty, pos, af, none⟩ :: l) env H K :=
  TriOps.buildSlice (z := z) (zs := ((Array.range (n * 1)).map (z.cells[· % z.cells.size]!)).toList) (parts := idx 0 vs) hs hk rfl hx (fillL_seq1 hl (by simp) ho) hn hd hp
/-- A slice written out, of elements of several cells. -/
theorem TriOps.buildSliceNA {d : Nat} {T E n k : Nat} {z : Value} {xs : List (Nat × Operand)} (css : List (List Value)) [ut : Und P T (.slice E)] [sz : Sz P E k] [zr : Zr P E z]
    (hn : ∀ b, TriOps false P N R ops l ((d, .slice (some ⟨b, 0, none⟩) n n) :: env) ([(b, .cells css.flatten.toArray E (0, 0))] :: H) K)
    (hx : evp env xs = some (idx 0 (css.map fun cs => .agg cs.toArray)) := by rfl) (hl : css.length = n := by rfl) (ho : ∀ cs ∈ css, cs.length = k := by simp) (hs : Nat.ble (n * k) (2 ^ 24) = true := by rfl) (hk : Nat.beq (n * k) 0 = false := by rfl) (hp : (idx 0 (css.map fun cs => Value.agg cs.toArray)).all (fun p => Nat.blt p.1 n) = true := by rfl) (hd : Nat.blt d N = true := by rfl) :
    TriOps false P N R ops (⟨some d, .buildSlice T n xs.toArray, ty, pos, af, none⟩ :: l) env H K :=
  TriOps.buildSlice (z := z) (zs := ((Array.range (n * k)).map (z.cells[· % z.cells.size]!)).toList) (parts := idx 0 (css.map fun cs => .agg cs.toArray)) hs hk rfl hx (fillL_seqA hl (by simp) ho) hn hd hp
/-- What is read of what is owned. -/
theorem Spec.lend {f : FuncId} {args : List Value} {Post : Value → Segs → Prop} (is : List Nat) (h : Spec P f args (Rx R (rest is H)) (take is H) Post) : Spec P f args R H fun v H' => ∃ H1, H' = H1 ++ rest is H ∧ Post v H1 := fun w hs hr => by
  obtain ⟨s1, s2, s3⟩ := sat_split (is := is) hs
  refine (h w s1 (RO.split hs hr)).mono fun e w' ⟨v, H', he, hp, hs', hf⟩ => ?_
  obtain ⟨j1, j2⟩ := sat_join hs hs' hf
  exact ⟨v, _, he, ⟨H', rfl, hp⟩, j1, j2⟩
theorem Quiet.assertC {x : Operand} {xt t : TypeId} {v : Value} {d0 : TypeDesc} [ut : Und P t d0] (hd : (match d0 with | .interface _ => false | _ => true) = true := by rfl) (hx : ev env x = some (.iface t v) := by rfl) : Quiet P R env H (.typeAssert x xt t false) ty v := fun a w d pos af g ha _ _ => by
  cases d0 <;> first | (cases hd; done) | simp [execOp, ha.eval hx, Instr.typeAssert, run_underlying ut.h]
/-- All that is owned behind it, as one segment. -/
theorem Spec.flat {f : FuncId} {args : List Value} {Post : Value → Segs → Prop} (h : Spec P f args R H fun v H' => ∃ H1 T', H' = H1 ∧ H1.flatten.Perm T' ∧ Post v [T']) : Spec P f args R H Post := fun w hs hr =>
  (h w hs hr).mono fun e w' ⟨v, H', he, ⟨H1, T', e1, hp, hq⟩, hs', hf⟩ => by
    subst e1
    have hh : HLe H' [T'] := ⟨[], by simpa using hp⟩
    exact ⟨v, [T'], he, hq, hh.sat hs', hf.trans (hh.frame w')⟩
theorem TriOps.sub {H' : Segs} (hh : HLe H H') (h : TriOps m P N R ops l env H' K) : TriOps m P N R ops l env H K := fun Q' w0 H0 hQ a w s => h Q' w0 H0 hQ a w (s.le (EnvLe.refl env) hh)
/-- Some segments as one, ahead of the others. -/
theorem HLe.merge (is : List Nat) (H : Segs) : HLe H ((take is H).flatten :: rest is H) := ⟨[], by simpa using take_perm is H⟩
theorem TriOps.merge (is : List Nat) (h : TriOps m P N R ops l env ((take is H).flatten :: rest is H) K) : TriOps m P N R ops l env H K := h.sub (HLe.merge is H)
theorem HLe.ofPerm {H H' : Segs} (h : H.flatten.Perm H'.flatten) : HLe H H' := ⟨[], by simpa using h⟩
theorem Spec.permIn {H' : Segs} {f : FuncId} {args : List Value} {Post : Value → Segs → Prop} (hp : H.flatten.Perm H'.flatten) (s : Spec P f args R H' Post) : Spec P f args R H Post := fun w hs hr => by
  have hh : HLe H H' := HLe.ofPerm hp
  refine (s w (hh.sat hs) (hr.frame (hh.frame w))).mono fun e w' ⟨v, H1, he, hq, hs', hf⟩ => ⟨v, H1, he, hq, hs', (hh.frame w).trans hf⟩
theorem run_sliceAtS {t : TypeId} {s : ByteArray} {lo hi : Nat} {xl xh : Option Operand} {a : Act} {w : World} (ha : EnvOK a env) [ut : Und P t .string] (h1 : optN env xl 0 lo) (h2 : optN env xh s.size hi) (h3 : lo ≤ hi) (h4 : hi ≤ s.size) :
    (Instr.sliceAt t (.string s) (xl.map a.eval) (xh.map a.eval) none).run P w = .ok (.string (s.extract lo hi)) w := by
  have b1 : ∀ {x : Operand} {k : IntKind} {y n : Nat} {code : BoundsCode}, ev env x = some (.int k n) → n ≤ y → (Instr.sliceBound (a.eval x) y code).run P w = .ok n w := fun hx hn => run_sliceBound (ha.eval hx) hn
  unfold Instr.sliceAt
  simp only [Sem.run_bind, run_underlying ut.h, Result.andThen_ok]
  unfold Instr.slice
  simp only [Sem.run_bind, run_underlying ut.h, Result.andThen_ok]
  unfold Instr.sliceBounds
  cases xl with
  | none =>
    simp only [optN] at h1
    subst h1
    cases xh with
    | none => simp only [optN] at h2; subst h2; simp
    | some o => obtain ⟨k, hk⟩ := h2; simp [b1 hk h4]
  | some q =>
    obtain ⟨k1, hk1⟩ := h1
    cases xh with
    | none => simp only [optN] at h2; subst h2; simp [b1 hk1 h3]
    | some o => obtain ⟨k, hk⟩ := h2; simp [b1 hk h4, b1 hk1 h3]
theorem Quiet.sliceStr {x : Operand} {xl xh : Option Operand} {t : TypeId} {s : ByteArray} (lo hi : Nat) [ut : Und P t .string] (h1 : optN env xl 0 lo) (h2 : optN env xh s.size hi) (h3 : lo ≤ hi) (h4 : hi ≤ s.size) (hx : ev env x = some (.string s) := by rfl) :
    Quiet P R env H (.slice t x xl xh none) ty (.string (s.extract lo hi)) := fun a w d pos af g ha _ _ => by
  have := run_sliceAtS (P := P) (w := w) (s := s) ha h1 h2 h3 h4 (t := t)
  simp only [execOp, ha.eval hx, Option.map_none]
  rw [Sem.run_bind, this]
  rfl
/-- A call of a function value that only reads. -/
theorem TriOps.callRV {d t : Nat} {f : FuncId} {first captured : List Value} [e : Ent P f] {xs : List Operand} {ats : Array TypeId} {vs : List Value} {Post : Value → Prop}
    (hs : Spec P f (first ++ vs ++ captured) (Rx R H) [] fun v H' => Post v ∧ H' = []) (hn : ∀ v, Post v → TriOps false P N R ops l ((d, v) :: env) H K)
    (ht : Env.get? env t = some (.func (.func f) first.toArray captured.toArray) := by rfl) (hxs : evs env xs = some vs := by rfl) (hd : Nat.blt d N = true := by rfl) :
    TriOps false P N R ops (⟨some d, .call ⟨.value (.tmp t), xs.toArray, ats⟩, ty, pos, af, none⟩ :: l) env H K :=
  TriOps.callV [] (first := first) (captured := captured) ht hs (fun v H' hp => by obtain ⟨h1, rfl⟩ := hp; exact hn v h1) hxs hd
theorem yielded_undef {a : Act} {j t : Nat} (he : EnvOK a env) (hj : gdst ops j = some t) (hv : Env.get? env t = some undef) : yielded ops a.tmps j = none := by
  unfold gdst at hj
  have := he t _ hv
  simp [yielded, hj, this, undef]
/-- An operation whose guard was not worked out is not done. -/
theorem TriOps.gfU {j t d : Nat} {want : Bool} {op : Op} (hv : Env.get? env t = some undef) (hn : TriOps m P N R ops l ((d, undef) :: env) H K) (hj : gdst ops j = some t := by rfl) (hd : Nat.blt d N = true := by rfl) :
    TriOps m P N R ops (⟨some d, op, ty, pos, af, some (j, want)⟩ :: l) env H K := fun Q' w0 H0 hQ a w s => by
  have hw : ¬ Region.wanted ⟨some d, op, ty, pos, af, some (j, want)⟩ (yielded ops a.tmps) = true := by
    simp [Region.wanted, yielded_undef s.env hj hv]
  have h := hn Q' w0 H0 hQ _ w (s.put undef hd)
  cases m
  · simp only [wpList]
    rw [if_neg hw]
    exact h
  · simp only [wpStill]
    rw [if_neg hw]
    exact h
theorem TriOps.gfU0 {j t : Nat} {want : Bool} {op : Op} (hv : Env.get? env t = some undef) (hn : TriOps m P N R ops l env H K) (hj : gdst ops j = some t := by rfl) :
    TriOps m P N R ops (⟨none, op, ty, pos, af, some (j, want)⟩ :: l) env H K := fun Q' w0 H0 hQ a w s => by
  have hw : ¬ Region.wanted ⟨none, op, ty, pos, af, some (j, want)⟩ (yielded ops a.tmps) = true := by
    simp [Region.wanted, yielded_undef s.env hj hv]
  have h := hn Q' w0 H0 hQ _ w s
  cases m
  · simp only [wpList]
    rw [if_neg hw]
    exact h
  · simp only [wpStill]
    rw [if_neg hw]
    exact h
theorem TriOps.sliceR {d : Nat} {x : Operand} {xl xh : Option Operand} {t e : TypeId} {sz : Nat} {α : Type} {enc : α → List Value} {v : Value} {xs : List α} (lo hi : Nat) (h : RS R' sz enc v xs) [ut : Und P t (.slice e)] [s : Sz P e sz] (h1 : optN env xl 0 lo) (h2 : optN env xh xs.length hi) (h3 : lo ≤ hi) (h4 : hi ≤ xs.length)
    (hn : ∀ v', RS R' sz enc v' ((xs.drop lo).take (hi - lo)) → TriOps m P N R ops l ((d, v') :: env) H K) (hx : ev env x = some v := by rfl) (hd : Nat.blt d N = true := by rfl) :
    TriOps m P N R ops (⟨some d, .slice t x xl xh none, ty, pos, af, none⟩ :: l) env H K := by
  obtain ⟨v', g1, g2⟩ := Quiet.sliceR (P := P) (R := R) (H := H) (ty := ty) (t := t) lo hi h h1 h2 h3 h4 hx
  exact TriOps.q g2 (hn v' g1) hd
theorem Quiet.le {env' : Env} {op : Op} {v : Value} {H' : Segs} (h : Quiet P R env' [] op ty v) (he : EnvLe env env') : Quiet P R env H op ty v := fun a w d pos af g ha s r =>
  h a w d pos af g (ha.le he) ⟨by simp, by simp⟩ fun b o hb => ⟨(r b o hb).1, by simp⟩
end
end Go.Proofs.Ytkepgbimlolemaa


set_option linter.unusedVariables false
namespace Go.Proofs.Ytkepgbimlolemaa
section
variable {P : Program} {N : Nat} {R R' : Rds} {ops : Array Oper} {l : List Oper} {env : Env} {H : Segs} {K : Env → Segs → Prop} {Q : Exit → Env → Segs → Prop} {T : Seg} {upd : Seg → Segs} {ty : TypeId} {pos : String} {af : Array Edge} {m : Bool}
theorem Quiet.cast {op : Op} {v v' : Value} (h : Quiet P R env H op ty v) (e : v = v') : Quiet P R env H op ty v' := e ▸ h
/-- What an operation reads of what is owned, told of one segment. -/
theorem RS.seg {α : Type} {sz : Nat} {enc : α → List Value} {v : Value} {xs : List α} (h : RS (sg T) sz enc v xs) [sa : SegAt H T upd] : RS (Rx R H) sz enc v xs := h.mono fun b o hb => .inr (sa.mem (b, o) hb)
theorem RS.left {α : Type} {T1 T2 : Seg} {sz : Nat} {enc : α → List Value} {v : Value} {xs : List α} (h : RS (sg T1) sz enc v xs) : RS (sg (T1 ++ T2)) sz enc v xs := h.mono fun b o hb => List.mem_append_left _ hb
theorem RS.right {α : Type} {T1 T2 : Seg} {sz : Nat} {enc : α → List Value} {v : Value} {xs : List α} (h : RS (sg T2) sz enc v xs) : RS (sg (T1 ++ T2)) sz enc v xs := h.mono fun b o hb => List.mem_append_right _ hb
theorem OS.sg {α : Type} {E sz : Nat} {enc : α → List Value} {v : Value} {xs : List α} (h : OS E sz enc v xs T) : RS (Go.Proofs.Ytkepgbimlolemaa.sg T) sz enc v xs := h.rs fun _ hp => hp
theorem RA.takeU {Ho : Segs} {Ms done : List Nat} {d j t : Nat} {want : Bool} {op : Op} (i : Nat) (hi : ops[i]? = some ⟨some d, op, ty, pos, af, some (j, want)⟩) (hv : Env.get? env t = some undef)
    (hc : tk false ops Ms done i = true) (hn : RA P N R ops Ho Ms (i :: done) ((d, undef) :: env) H K) (hj : gdst ops j = some t := by rfl) (hd : Nat.blt d N = true := by rfl) : RA P N R ops Ho Ms done env H K :=
  RA.take_gen false i hi (fun a ha => .inr ⟨by simp [Region.wanted, yielded_undef ha hj hv], rfl⟩) hc fun a w w0 H0 s => ⟨_, s.put _ hd, hn⟩
theorem RA.takeGh {Ho : Segs} {Ms done : List Nat} {d j t : Nat} {want b : Bool} {op : Op} {v : Value} (i : Nat) (hi : ops[i]? = some ⟨some d, op, ty, pos, af, some (j, want)⟩) (hv : Env.get? env t = some (.bool b)) (hb : b = want) (hq : Quiet P R env [] op ty v)
    (hc : tk false ops Ms done i = true) (hn : RA P N R ops Ho Ms (i :: done) ((d, v) :: env) H K) (hj : gdst ops j = some t := by rfl) (hd : Nat.blt d N = true := by rfl) : RA P N R ops Ho Ms done env H K :=
  RA.takeG i hi (hb ▸ hv) hq hc hn hj hd
theorem RA.takeGhO {Ho : Segs} {Ms done : List Nat} {d j t : Nat} {want b : Bool} {op : Op} {v : Value} (i : Nat) (hi : ops[i]? = some ⟨some d, op, ty, pos, af, some (j, want)⟩) (hv : Env.get? env t = some (.bool b)) (hb : b = want) (hq : Quiet P R env Ho op ty v)
    (hc : tk true ops Ms done i = true) (hn : RA P N R ops Ho Ms (i :: done) ((d, v) :: env) H K) (hj : gdst ops j = some t := by rfl) (hd : Nat.blt d N = true := by rfl) : RA P N R ops Ho Ms done env H K :=
  RA.takeGO i hi (hb ▸ hv) hq hc hn hj hd
end
end Go.Proofs.Ytkepgbimlolemaa
