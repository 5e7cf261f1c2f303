/- The engine, part 12: calls that only read, and calls that change one segment; over any program, no condition. -/
import Derived.Test.YtlmdgdehjpahiaaEngR
set_option linter.unusedVariables false
namespace Go.Proofs.Ytlmdgdehjpahiaa

theorem PC.of {R : Rds} {b : Nat} {vs : List Value} {E : TypeId} {fr : Nat × Nat} (h : R b (.cells vs.toArray E fr)) : PC R (.pointer (some ⟨b, 0, none⟩)) vs :=
  (RC.here (R := R) (H := []) (b := b) (vs := vs) (E := E) (fr := fr)).h.mono fun b' o h' => by
    rcases h' with h' | h'
    · exact h'
    · simp at h'; obtain ⟨rfl, rfl⟩ := h'; exact h
instance PC.rx {R : Rds} {H : Segs} {p : Value} {vs : List Value} [h : PC R p vs] : PC (Rx R H) p vs := h.mono fun _ _ => .inl
instance PC.rc {R : Rds} {H : Segs} {p : Value} {vs : List Value} [h : RC R H p vs] : PC (Rx R H) p vs := h.h

section
variable {P : Program} {N : Nat} {R R' : Rds} {ops : Array Oper} {l : List Oper} {env : Env} {H : Segs} {K : Env → Segs → Prop} {T : Seg} {upd : Seg → Segs}

theorem Spec.at {f : FuncId} {args : List Value} {H1 H2 : Segs} {T : Seg} {Post : Value → Seg → Prop} (h : Spec P f args R' [T] fun v H' => ∃ T', H' = [T'] ∧ Post v T') (hr : ∀ b o, R' b o → R b o) : Spec P f args R (H1 ++ T :: H2) fun v H' => ∃ T', H' = H1 ++ T' :: H2 ∧ Post v T' := fun w hs hro => by
  have hp : (H1 ++ T :: H2).flatten.Perm ([T] ++ (H1 ++ H2)).flatten := by
    simp only [List.flatten_append, List.flatten_cons, List.flatten_nil, List.append_nil]
    rw [← List.append_assoc, ← List.append_assoc]
    exact List.perm_append_comm.append_right _
  have hs1 : Sat w ([T] ++ (H1 ++ H2)) := hs.perm hp
  have hT : take [0] ([T] ++ (H1 ++ H2)) = [T] := rfl
  have hR : rest [0] ([T] ++ (H1 ++ H2)) = H1 ++ H2 := rfl
  have ro1 : RO w R ([T] ++ (H1 ++ H2)) := fun b o hb => ⟨(hro b o hb).1, fun p hm => (hro b o hb).2 p (hp.mem_iff.2 hm)⟩
  obtain ⟨s1, s2, s3⟩ := sat_split (is := [0]) hs1
  have ro2 := RO.split (is := [0]) hs1 ro1
  rw [hT] at s1 ro2 s3; rw [hR] at ro2 s2 s3
  refine (h w s1 fun b o hb => ro2 b o (.inl (hr b o hb))).mono fun e w' ⟨v, H', he, ⟨T', hT', hq⟩, hs', hf⟩ => ?_
  subst hT'
  obtain ⟨j1, j2⟩ := sat_join (is := [0]) (H' := [T']) hs1 hs' hf
  rw [hR] at j1 j2
  have hp' : ([T'] ++ (H1 ++ H2)).flatten.Perm (H1 ++ T' :: H2).flatten := by
    simp only [List.flatten_append, List.flatten_cons, List.flatten_nil, List.append_nil]
    rw [← List.append_assoc, ← List.append_assoc]
    exact List.perm_append_comm.append_right _
  refine ⟨v, _, he, ⟨T', rfl, hq⟩, j1.perm hp', ⟨j2.le, fun b hb hn => j2.keep b hb fun p hm => hn p (hp.mem_iff.2 hm), fun p hm => ?_, j2.os, j2.output, j2.tape⟩⟩
  rcases j2.dom p (hp'.mem_iff.2 hm) with ⟨q, hq, he⟩ | hge
  · exact .inl ⟨q, hp.mem_iff.2 hq, he⟩
  · exact .inr hge

/-- A call that only reads. -/
theorem TriOps.callR {d : Nat} {ty : TypeId} {pos : String} {af : Array Edge} {f : FuncId} [e : Ent P f] {xs : List Operand} {ats : Array TypeId} {vs : List Value} {Post : Value → Prop}
    (hs : Spec P f vs (Rx R H) [] fun v H' => Post v ∧ H' = []) (hn : ∀ v, Post v → TriOps false P N R ops l ((d, v) :: env) H K) (hxs : evs env xs = some vs := by rfl) (hd : Nat.blt d N = true := by rfl) :
    TriOps false P N R ops (⟨some d, .call ⟨.value (.func f), xs.toArray, ats⟩, ty, pos, af, none⟩ :: l) env H K :=
  TriOps.call [] hs (fun v H' ⟨h1, h2⟩ => by subst h2; exact hn v h1) hxs hd
theorem TriOps.callR0 {ty : TypeId} {pos : String} {af : Array Edge} {f : FuncId} [e : Ent P f] {xs : List Operand} {ats : Array TypeId} {vs : List Value} {Post : Value → Prop}
    (hs : Spec P f vs (Rx R H) [] fun v H' => Post v ∧ H' = []) (hn : ∀ v, Post v → TriOps false P N R ops l env H K) (hxs : evs env xs = some vs := by rfl) :
    TriOps false P N R ops (⟨none, .call ⟨.value (.func f), xs.toArray, ats⟩, ty, pos, af, none⟩ :: l) env H K :=
  TriOps.call0 [] hs (fun v H' ⟨h1, h2⟩ => by subst h2; exact hn v h1) hxs
/-- A call that makes a segment anew. -/
theorem TriOps.callN {d : Nat} {ty : TypeId} {pos : String} {af : Array Edge} {f : FuncId} [e : Ent P f] {xs : List Operand} {ats : Array TypeId} {vs : List Value} {Post : Value → Seg → Prop}
    (hs : Spec P f vs (Rx R H) [] fun v H' => ∃ T, H' = [T] ∧ Post v T) (hn : ∀ v T, Post v T → TriOps false P N R ops l ((d, v) :: env) (T :: H) K) (hxs : evs env xs = some vs := by rfl) (hd : Nat.blt d N = true := by rfl) :
    TriOps false P N R ops (⟨some d, .call ⟨.value (.func f), xs.toArray, ats⟩, ty, pos, af, none⟩ :: l) env H K :=
  TriOps.call [] hs (fun v H' ⟨T, h1, h2⟩ => by subst h1; exact hn v T h2) hxs hd
theorem all_rest (is : List Nat) (H : Segs) (hl : take is H = H) : rest is H = rest is H := rfl
theorem take_all : ∀ (H : Segs), take (H.map fun _ => 0) H = H
  | [] => rfl
  | T :: r => by simp only [List.map_cons, take, dropAt, List.getD_cons_zero, take_all r]
theorem rest_all : ∀ (H : Segs), rest (H.map fun _ => 0) H = []
  | [] => rfl
  | T :: r => by simp only [List.map_cons, rest, dropAt, rest_all r]
/-- A call that changes one segment. -/
theorem TriOps.callM_gen {dst : Option Nat} {op : Op} {ty : TypeId} {pos : String} {af : Array Edge} {f : FuncId} {vs : List Value} {Post : Value → Seg → Prop} [sa : SegAt H T upd]
    (hx : ∀ a w, EnvOK a env → (execOp a.eval ⟨dst, op, ty, pos, af, none⟩).run P w = .ok (.enter f vs.toArray) w)
    (hs : Spec P f vs R' [T] fun v H' => ∃ T', H' = [T'] ∧ Post v T') (hr : ∀ b o, R' b o → R b o)
    (hn : ∀ v T', Post v T' → match dst with
      | some d => Nat.blt d N = true ∧ TriOps false P N R ops l ((d, v) :: env) (upd T') K
      | none => TriOps false P N R ops l env (upd T') K) :
    TriOps false P N R ops (⟨dst, op, ty, pos, af, none⟩ :: l) env H K := by
  obtain ⟨H1, H2, h1, h2⟩ := sa.h
  refine TriOps.call_gen (H.map fun _ => 0) (Post := fun v H' => ∃ T', H' = H1 ++ T' :: H2 ∧ Post v T') hx ?_ ?_
  · rw [take_all, rest_all]
    have := Spec.at (H1 := H1) (H2 := H2) hs hr
    rw [← h1] at this
    exact this.weaken fun b o hb => .inl hb
  · intro v H' ⟨T', e1, e2⟩
    rw [rest_all, List.append_nil, e1, ← h2]
    exact hn v T' e2
theorem TriOps.callM {d : Nat} {ty : TypeId} {pos : String} {af : Array Edge} {f : FuncId} [e : Ent P f] {xs : List Operand} {ats : Array TypeId} {vs : List Value} {Post : Value → Seg → Prop}
    (hs : Spec P f vs R [T] fun v H' => ∃ T', H' = [T'] ∧ Post v T') (hn : ∀ v T', Post v T' → TriOps false P N R ops l ((d, v) :: env) (upd T') K) [sa : SegAt H T upd] (hxs : evs env xs = some vs := by rfl) (hd : Nat.blt d N = true := by rfl) :
    TriOps false P N R ops (⟨some d, .call ⟨.value (.func f), xs.toArray, ats⟩, ty, pos, af, none⟩ :: l) env H K :=
  TriOps.callM_gen (fun a w ha => run_call hxs a w ha) hs (fun _ _ h => h) (fun v T' hp => ⟨hd, hn v T' hp⟩)
theorem TriOps.callM0 {ty : TypeId} {pos : String} {af : Array Edge} {f : FuncId} [e : Ent P f] {xs : List Operand} {ats : Array TypeId} {vs : List Value} {Post : Value → Seg → Prop}
    (hs : Spec P f vs R [T] fun v H' => ∃ T', H' = [T'] ∧ Post v T') (hn : ∀ v T', Post v T' → TriOps false P N R ops l env (upd T') K) [sa : SegAt H T upd] (hxs : evs env xs = some vs := by rfl) :
    TriOps false P N R ops (⟨none, .call ⟨.value (.func f), xs.toArray, ats⟩, ty, pos, af, none⟩ :: l) env H K :=
  TriOps.callM_gen (fun a w ha => run_call hxs a w ha) hs (fun _ _ h => h) (fun v T' hp => hn v T' hp)

theorem fillL_A {cs zs : List Value} {k : Nat} (h : zs.length = k) (hk : cs.length = k) : fillL ((List.range 1).map fun i => (i * k, k)) zs [(0, .agg cs.toArray)] = some cs := by
  subst hk
  have e : Nat.ble cs.length cs.length = true := Nat.ble_eq_true_of_le (Nat.le_refl _)
  have e2 : zs.drop cs.length = [] := List.drop_eq_nil_of_le (by omega)
  simp [fillL, setL, h, List.range_succ, e, e2]
theorem fillL_1 {v : Value} {zs : List Value} (hv : oneCell v = true) (h : zs.length = 1) : fillL ((List.range 1).map fun i => (i * 1, 1)) zs [(0, v)] = some [v] := by
  have e2 : zs.drop 1 = [] := List.drop_eq_nil_of_le (by omega)
  have e3 : zs.tail = [] := by rw [← List.drop_one]; exact e2
  cases v <;> simp_all [fillL, setL, List.range_succ, oneCell]
/-- A slice of one element. -/
theorem TriOps.buildSlice1A {d : Nat} {T E : TypeId} {k : Nat} {z : Value} {cs : List Value} {x : Operand} {ty : TypeId} {pos : String} {af : Array Edge} [ut : Und P T (.slice E)] [sz : Sz P E k] [zr : Zr P E z]
    (hn : ∀ b, TriOps false P N R ops l ((d, .slice (some ⟨b, 0, none⟩) 1 1) :: env) ([(b, .cells cs.toArray E (0, 0))] :: H) K) (hx : ev env x = some (.agg cs.toArray) := by rfl) (hl : cs.length = k := by rfl) (hs : Nat.ble (1 * k) (2 ^ 24) = true := by rfl) (hk : Nat.beq (1 * k) 0 = false := by rfl) (hd : Nat.blt d N = true := by rfl) :
    TriOps false P N R ops (⟨some d, .buildSlice T 1 [(0, x)].toArray, ty, pos, af, none⟩ :: l) env H K :=
  TriOps.buildSlice (z := z) (zs := ((Array.range (1 * k)).map (z.cells[· % z.cells.size]!)).toList) (parts := [(0, .agg cs.toArray)]) hs hk rfl (by simp [evp, hx]) (fillL_A (by simp) hl) hn hd
theorem TriOps.buildSlice11 {d : Nat} {T E : TypeId} {z v : Value} {x : Operand} {ty : TypeId} {pos : String} {af : Array Edge} [ut : Und P T (.slice E)] [sz : Sz P E 1] [zr : Zr P E z] [o : One v]
    (hn : ∀ b, TriOps false P N R ops l ((d, .slice (some ⟨b, 0, none⟩) 1 1) :: env) ([(b, .cells [v].toArray E (0, 0))] :: H) K) (hx : ev env x = some v := by rfl) (hd : Nat.blt d N = true := by rfl) :
    TriOps false P N R ops (⟨some d, .buildSlice T 1 [(0, x)].toArray, ty, pos, af, none⟩ :: l) env H K :=
  TriOps.buildSlice (z := z) (zs := ((Array.range (1 * 1)).map (z.cells[· % z.cells.size]!)).toList) (parts := [(0, v)]) rfl rfl rfl (by simp [evp, hx]) (fillL_1 o.h (by simp)) hn hd

theorem TriOps.sliceO {m : Bool} {d : Nat} {x : Operand} {xl xh : Option Operand} {t e E : TypeId} {sz : Nat} {α : Type} {enc : α → List Value} {v : Value} {xs : List α} {ty : TypeId} {pos : String} {af : Array Edge} (lo hi : Nat) (h : OS E sz enc v xs T) [ut : Und P t (.slice e)] [s : Sz P e sz] (h1 : optN env xl 0 lo) (h2 : optN env xh xs.length hi) (h3 : lo ≤ hi) (h4 : hi ≤ xs.length)
    (hn : ∀ v', OS E sz enc v' ((xs.drop lo).take (hi - lo)) T → TriOps m P N R ops l ((d, v') :: env) H K) (hx : ev env x = some v := by rfl) (hd : Nat.blt d N = true := by rfl) :
    TriOps m P N R ops (⟨some d, .slice t x xl xh none, ty, pos, af, none⟩ :: l) env H K := by
  obtain ⟨v', g1, g2⟩ := Quiet.sliceO (P := P) (R := R) (H := H) (ty := ty) (t := t) lo hi h h1 h2 h3 h4 hx
  exact TriOps.q g2 (hn v' g1) hd
theorem RA.sliceO {Ho : Segs} {Ms done : List Nat} {d : Nat} {x : Operand} {xl xh : Option Operand} {t e E : TypeId} {sz : Nat} {α : Type} {enc : α → List Value} {v : Value} {xs : List α} {ty : TypeId} {pos : String} {af : Array Edge} (i : Nat) (hi' : ops[i]? = some ⟨some d, .slice t x xl xh none, ty, pos, af, none⟩) (lo hi : Nat) (h : OS E sz enc v xs T) [ut : Und P t (.slice e)] [s : Sz P e sz] (h1 : optN env xl 0 lo) (h2 : optN env xh xs.length hi) (h3 : lo ≤ hi) (h4 : hi ≤ xs.length)
    (hx : ev env x = some v) (hc : tk false ops Ms done i = true) (hn : ∀ v', OS E sz enc v' ((xs.drop lo).take (hi - lo)) T → RA P N R ops Ho Ms (i :: done) ((d, v') :: env) H K) (hd : Nat.blt d N = true := by rfl) :
    RA P N R ops Ho Ms done env H K := by
  obtain ⟨v', g1, g2⟩ := Quiet.sliceO (P := P) (R := R) (H := []) (ty := ty) (t := t) lo hi h h1 h2 h3 h4 hx
  exact RA.take i hi' g2 hc (hn v' g1) hd
theorem RA.indexO {Ho : Segs} {Ms done : List Nat} {d : Nat} {x y : Operand} {t e E : TypeId} {sz : Nat} {α : Type} {enc : α → List Value} {v : Value} {xs : List α} {ty : TypeId} {pos : String} {af : Array Edge} {k : IntKind} {j : Int} {z : α} (i : Nat) (hi' : ops[i]? = some ⟨some d, .indexAddr t x y, ty, pos, af, none⟩) (q : Nat) (h : OS E sz enc v xs T) (hz : xs[q]? = some z) [ut : Und P t (.slice e)] [s : Sz P e sz]
    (hx : ev env x = some v) (hy : ev env y = some (.int k j)) (hj : j = (q : Int)) (hc : tk false ops Ms done i = true) (hn : PS T (baseP v (q * sz)) (enc z) → RA P N R ops Ho Ms (i :: done) ((d, baseP v (q * sz)) :: env) H K) (hd : Nat.blt d N = true := by rfl) :
    RA P N R ops Ho Ms done env H K :=
  RA.take i hi' (Quiet.indexR q (h.rs (R := sg T) fun p hp => hp) hz hx hy hj) hc (hn ⟨h.pc hz⟩) hd

/-- Without a look into the heap. -/
theorem Quiet.nilCheckA {ty : TypeId} {x : Operand} {p : Value} {a0 : Addr} (hx : ev env x = some p) (hp : p = .pointer (some a0) := by rfl) : Quiet P R env H (.nilCheck x) ty p := fun a w d pos af g ha _ _ => by
  subst hp
  simp [execOp, ha.eval hx]
theorem Quiet.fieldAddrA {ty : TypeId} {x : Operand} {s : TypeId} {f off : Nat} {p : Value} {a0 : Addr} (hx : ev env x = some p) [fl : Fld P s f off] (hp : p = .pointer (some a0) := by rfl) : Quiet P R env H (.fieldAddr s x f) ty (addP p off) := fun a w d pos af g ha _ _ => by
  subst hp
  have := fl.h a0 w
  simp [execOp, ha.eval hx, this, addP]
theorem flat3 (A B C : Seg) : [A, B, C].flatten = A ++ (B ++ C) := by simp
theorem RS.lit {b : Nat} {cs : List Value} {E sz : Nat} {fr : Nat × Nat} {α : Type} {enc : α → List Value} {x : α} (hb : Rx R H b (.cells cs.toArray E fr)) (he : enc x = cs) (hl : cs.length = sz) (ho : ∀ c ∈ cs, Go.Proofs.Ytlmdgdehjpahiaa.oneCell c = true) : RS (Rx R H) sz enc (.slice (some ⟨b, 0, none⟩) 1 1) [x] :=
  ⟨by simp [he, hl], by simpa [he] using ho, some ⟨b, 0, none⟩, 1, rfl, by simp, by simp [maxLen], .inr ⟨b, 0, cs.toArray, E, fr, rfl, hb, fun k hk => by
    simp only [List.flatMap_cons, List.flatMap_nil, List.append_nil, he] at hk ⊢
    simp [hk]⟩⟩
end
end Go.Proofs.Ytlmdgdehjpahiaa
