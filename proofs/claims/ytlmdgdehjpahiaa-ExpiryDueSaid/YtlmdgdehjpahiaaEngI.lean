/- The engine, part 15: a call of a method of an interface value; over any program, no condition. -/
import Derived.Test.YtlmdgdehjpahiaaEngD
set_option linter.unusedVariables false
namespace Go.Proofs.Ytlmdgdehjpahiaa
section
variable {P : Program} {N : Nat} {R R' : Rds} {ops : Array Oper} {l : List Oper} {env : Env} {H : Segs} {K : Env → Segs → Prop} {T : Seg} {upd : Seg → Segs} {ty : TypeId} {pos : String} {af : Array Edge}

/-- A call, where what is entered may hang on what the memory holds. -/
theorem TriOps.call_genS {dst : Option Nat} {op : Op} (is : List Nat) {f : FuncId} {vs : List Value} {Post : Value → Segs → Prop}
    (hx : ∀ a w, EnvOK a env → Sat w H → RO w R H → (execOp a.eval ⟨dst, op, ty, pos, af, none⟩).run P w = .ok (.enter f vs.toArray) w)
    (hs : Spec P f vs (Rx R (rest is H)) (take is H) Post)
    (hn : ∀ v H', Post v H' → match dst with
      | some d => Nat.blt d N = true ∧ TriOps false P N R ops l ((d, v) :: env) (H' ++ rest is H) K
      | none => TriOps false P N R ops l env (H' ++ rest is H) K) :
    TriOps false P N R ops (⟨dst, op, ty, pos, af, none⟩ :: l) env H K := fun Q' w0 H0 hQ a w s => by
  simp only [wpList, Region.wanted, if_true]
  refine .inl ?_
  rw [Oper.wp, hx a w s.env s.sat s.ro]
  obtain ⟨s1, s2, s3⟩ := sat_split (is := is) s.sat
  refine (hs w s1 (RO.split s.sat s.ro)).mono fun e w' ⟨v, H', he, hp, hs', hf⟩ => ?_
  subst he
  obtain ⟨j1, j2⟩ := sat_join s.sat hs' hf
  have hn' := hn v H' hp
  cases dst with
  | some d => exact hn'.2 Q' w0 H0 hQ _ w' ((s.step j2 j1).put v hn'.1)
  | none => exact hn' Q' w0 H0 hQ _ w' (s.step j2 j1)
/-- Which function a method of a type is, and with which receiver. -/
class Mth (P : Program) (t : TypeId) (name : String) (f : outParam FuncId) : Prop where
  h : ∀ (v : Value) w, (Go.method (P.types.size + Made.depth) t v name).run P w = .ok (f, v) w
theorem run_invoke {t : TypeId} {name : String} {f : FuncId} [m : Mth P t name f] [e : Ent P f] {x : Operand} {v : Value} {xs : List Operand} {ats : Array TypeId} {vs : List Value} {dst : Option Nat} {g : Option (Nat × Bool)} (hx : ev env x = some (.iface t v)) (hxs : evs env xs = some vs) (a : Act) (w : World) (ha : EnvOK a env) :
    (execOp a.eval ⟨dst, .call ⟨.invoke x name, xs.toArray, ats⟩, ty, pos, af, g⟩).run P w = .ok (.enter f (v :: vs).toArray) w := by
  have h1 := ha.evalsA hxs
  have h2 := ha.eval hx
  have h3 := e.h (v :: vs).toArray w
  have h4 : #[v] ++ vs.toArray = (v :: vs).toArray := by simp
  have h5 : callMethod (.iface t v) name vs.toArray = (do let (f, r) ← Go.method ((← program).types.size + Made.depth) t v name; callFunc f (#[r] ++ vs.toArray)) := rfl
  have h6 : (callMethod (.iface t v) name vs.toArray).run P w = .ok (.enter f (v :: vs).toArray) w := by
    rw [h5]
    simp [m.h, h3]
  have h7 : (invoke (.fn (.method name) #[]) (#[.iface t v] ++ vs.toArray)).run P w = .ok (.enter f (v :: vs).toArray) w := by
    have : invoke (.fn (.method name) #[]) (#[.iface t v] ++ vs.toArray) = callMethod (.iface t v) name vs.toArray := by simp [invoke]
    rw [this]; exact h6
  simp only [execOp, resolve, h1, h2]
  exact h7
/-- Which function a method of a value is, with which receiver, as the memory stands. -/
def MthAt (P : Program) (D : Rds) (t : TypeId) (v : Value) (name : String) (f : FuncId) (r : Value) : Prop :=
  ∀ w, (∀ b o, D b o → w.heap[b]? = some o) → (Go.method (P.types.size + Made.depth) t v name).run P w = .ok (f, r) w
theorem MthAt.of {D : Rds} {t : TypeId} {v : Value} {name : String} {f : FuncId} [m : Mth P t name f] : MthAt P D t v name f v := fun w _ => m.h v w
theorem MthAt.mono {D D' : Rds} {t : TypeId} {v : Value} {name : String} {f : FuncId} {r : Value} (h : MthAt P D t v name f r) (hd : ∀ b o, D b o → D' b o) : MthAt P D' t v name f r := fun w hw => h w fun b o hb => hw b o (hd b o hb)
theorem run_invokeAt {D : Rds} {t : TypeId} {name : String} {f : FuncId} {v r : Value} (m : MthAt P D t v name f r) (e : Ent P f) {x : Operand} {xs : List Operand} {ats : Array TypeId} {vs : List Value} {dst : Option Nat} {g : Option (Nat × Bool)} (hx : ev env x = some (.iface t v)) (hxs : evs env xs = some vs) (a : Act) (w : World) (ha : EnvOK a env)
    (hw : ∀ b o, D b o → w.heap[b]? = some o) : (execOp a.eval ⟨dst, .call ⟨.invoke x name, xs.toArray, ats⟩, ty, pos, af, g⟩).run P w = .ok (.enter f (r :: vs).toArray) w := by
  have h1 := ha.evalsA hxs
  have h2 := ha.eval hx
  have h3 := e.h (r :: vs).toArray w
  have h4 : #[r] ++ vs.toArray = (r :: vs).toArray := by simp
  have h5 : callMethod (.iface t v) name vs.toArray = (do let (f, r) ← Go.method ((← program).types.size + Made.depth) t v name; callFunc f (#[r] ++ vs.toArray)) := rfl
  have h6 : (callMethod (.iface t v) name vs.toArray).run P w = .ok (.enter f (r :: vs).toArray) w := by
    rw [h5]
    simp [m w hw, h3]
  have h7 : (invoke (.fn (.method name) #[]) (#[.iface t v] ++ vs.toArray)).run P w = .ok (.enter f (r :: vs).toArray) w := by
    have : invoke (.fn (.method name) #[]) (#[.iface t v] ++ vs.toArray) = callMethod (.iface t v) name vs.toArray := by simp [invoke]
    rw [this]; exact h6
  simp only [execOp, resolve, h1, h2]
  exact h7
/-- What a method of an interface value does to one segment. -/
def ISpec (P : Program) (t : TypeId) (v : Value) (name : String) (vs : List Value) (R : Rds) (T : Seg) (Post : Value → Seg → Prop) : Prop :=
  ∃ f r, MthAt P (Rx R [T]) t v name f r ∧ Ent P f ∧ Spec P f (r :: vs) R [T] fun u H' => ∃ T', H' = [T'] ∧ Post u T'
theorem ISpec.weaken {t : TypeId} {v : Value} {name : String} {vs : List Value} {Post : Value → Seg → Prop} (h : ISpec P t v name vs R' T Post) (hr : ∀ b o, R' b o → R b o) : ISpec P t v name vs R T Post := by
  obtain ⟨f, r, h1, h2, h3⟩ := h
  exact ⟨f, r, h1.mono fun b o hb => hb.imp (hr b o) id, h2, h3.weaken hr⟩
theorem ISpec.mono {t : TypeId} {v : Value} {name : String} {vs : List Value} {Post Post' : Value → Seg → Prop} (h : ISpec P t v name vs R T Post) (hp : ∀ u T', Post u T' → Post' u T') : ISpec P t v name vs R T Post' := by
  obtain ⟨f, r, h1, h2, h3⟩ := h
  exact ⟨f, r, h1, h2, h3.mono fun u H' ⟨T', e, hq⟩ => ⟨T', e, hp _ _ hq⟩⟩
theorem TriOps.callI_gen {dst : Option Nat} {x : Operand} {t : TypeId} {v : Value} {name : String} {xs : List Operand} {ats : Array TypeId} {vs : List Value} {Post : Value → Seg → Prop} [sa : SegAt H T upd]
    (hs : ISpec P t v name vs R T Post) (hx : ev env x = some (.iface t v)) (hxs : evs env xs = some vs)
    (hn : ∀ u T', Post u T' → match dst with
      | some d => Nat.blt d N = true ∧ TriOps false P N R ops l ((d, u) :: env) (upd T') K
      | none => TriOps false P N R ops l env (upd T') K) :
    TriOps false P N R ops (⟨dst, .call ⟨.invoke x name, xs.toArray, ats⟩, ty, pos, af, none⟩ :: l) env H K := by
  obtain ⟨f, r, h1, h2, h3⟩ := hs
  obtain ⟨H1, H2, rfl, hu⟩ := sa.h
  refine TriOps.call_genS (H := H1 ++ T :: H2) ((H1 ++ T :: H2).map fun _ => 0) (f := f) (vs := r :: vs) (Post := fun u H' => ∃ T', H' = H1 ++ T' :: H2 ∧ Post u T') (fun a w ha hs hr => run_invokeAt h1 h2 hx hxs a w ha fun b o hb => ?_) ?_ (fun u H' hp => ?_)
  · rcases hb with hb | hb
    · exact (hr b o hb).1
    · exact hs.2 (b, o) (by simp at hb ⊢; exact .inr (.inl hb))
  · rw [take_all]
    exact h3.at fun b o hb => .inl hb
  · obtain ⟨T', rfl, hq⟩ := hp
    have := hn u T' hq
    rw [hu T'] at this
    rw [rest_all, List.append_nil]
    cases dst <;> exact this
theorem TriOps.callI {d : Nat} {x : Operand} {t : TypeId} {v : Value} {name : String} {xs : List Operand} {ats : Array TypeId} {vs : List Value} {Post : Value → Seg → Prop}
    (hs : ISpec P t v name vs R T Post) (hn : ∀ u T', Post u T' → TriOps false P N R ops l ((d, u) :: env) (upd T') K) [sa : SegAt H T upd] (hx : ev env x = some (.iface t v) := by rfl) (hxs : evs env xs = some vs := by rfl) (hd : Nat.blt d N = true := by rfl) :
    TriOps false P N R ops (⟨some d, .call ⟨.invoke x name, xs.toArray, ats⟩, ty, pos, af, none⟩ :: l) env H K :=
  TriOps.callI_gen hs hx hxs fun u T' hq => ⟨hd, hn u T' hq⟩
theorem TriOps.callI0 {x : Operand} {t : TypeId} {v : Value} {name : String} {xs : List Operand} {ats : Array TypeId} {vs : List Value} {Post : Value → Seg → Prop}
    (hs : ISpec P t v name vs R T Post) (hn : ∀ u T', Post u T' → TriOps false P N R ops l env (upd T') K) [sa : SegAt H T upd] (hx : ev env x = some (.iface t v) := by rfl) (hxs : evs env xs = some vs := by rfl) :
    TriOps false P N R ops (⟨none, .call ⟨.invoke x name, xs.toArray, ats⟩, ty, pos, af, none⟩ :: l) env H K :=
  TriOps.callI_gen hs hx hxs fun u T' hq => hn u T' hq
theorem Quiet.i64 {op : Op} {z : Int} (c : Int) (h : Quiet P R env H op ty (.int .i64 (IntKind.i64.wrap z))) (e : z = c ∧ -9223372036854775808 ≤ c ∧ c ≤ 9223372036854775807) : Quiet P R env H op ty (.int .i64 c) := by
  obtain ⟨rfl, h1, h2⟩ := e
  rw [IntWalk.i64_in _ (by omega)] at h
  exact h
theorem tdiv2 {j : Nat} : ((j : Int) - 1).tdiv 2 = (((j - 1) / 2 : Nat) : Int) := by
  rcases Nat.eq_zero_or_pos j with h | h
  · subst h; decide
  · rw [Int.tdiv_eq_ediv_of_nonneg (by omega)]; omega
theorem MthAt.ptr {D : Rds} {t e : TypeId} {v : Value} {name : String} {f : FuncId} {info : TypeInfo} (ht : ∀ w, (typeInfo t).run P w = .ok info w) (hm : (info.methods.find? (·.name == name)).map (fun m => (m.path.isEmpty, m.func)) = some (true, some (f, true)))
    (hu : Und P t (.pointer e)) (hs : Nat.beq P.types.size 0 = false) : MthAt P D t v name f v := fun w _ => by
  obtain ⟨n, hn⟩ : ∃ n, P.types.size + Made.depth = n + 1 := ⟨P.types.size + Made.depth - 1, by have : P.types.size ≠ 0 := fun e => (by rw [e] at hs; cases hs); omega⟩
  rw [hn]
  obtain ⟨m, hm1, hm2⟩ := Option.map_eq_some_iff.1 hm
  simp only [Prod.mk.injEq] at hm2
  have hp : m.path = #[] := by simpa using hm2.1
  unfold Go.method
  simp [ht, hm1, hp, hm2.2, follow, receiverAt, run_underlying hu.h, Place.get]
theorem run_wrapNil {tys : Array TypeId} {t : TypeId} {a : Addr} {s m : ByteArray} {w : World} : (Builtin.ssaWrapNilChk_ tys t #[.pointer (some a), .string s, .string m]).run P w = .ok (.pointer (some a)) w := rfl
theorem MthAt.val {D : Rds} {t e : TypeId} {v u : Value} {us : List Value} {name : String} {f : FuncId} {info : TypeInfo} (ht : ∀ w, (typeInfo t).run P w = .ok info w) (hm : (info.methods.find? (·.name == name)).map (fun m => (m.path.isEmpty, m.func)) = some (true, some (f, false)))
    (hu : Und P t (.pointer e)) (hs : Nat.beq P.types.size 0 = false) (ag : Agg P e false) (hc : PC D v (u :: us)) : MthAt P D t v name f u := fun w hw => by
  obtain ⟨n, hn⟩ : ∃ n, P.types.size + Made.depth = n + 1 := ⟨P.types.size + Made.depth - 1, by have : P.types.size ≠ 0 := fun e => (by rw [e] at hs; cases hs); omega⟩
  rw [hn]
  obtain ⟨m, hm1, hm2⟩ := Option.map_eq_some_iff.1 hm
  simp only [Prod.mk.injEq] at hm2
  have hp : m.path = #[] := by simpa using hm2.1
  obtain ⟨b, off, c, E, fr, rfl, hb, hcs⟩ := hc.h
  have h0 := hcs 0 (by simp)
  have h1 : w.cell? ⟨b, off, none⟩ = some u := by
    simp [World.cell?, hw _ _ hb]
    simpa using h0
  unfold Go.method
  simp only [Sem.run_bind, ht, Result.andThen_ok, hm1, hp, hm2.2, follow, receiverAt, Sem.run_pure, Array.isEmpty_empty, if_true]
  simp only [run_underlying hu.h, Result.andThen_ok, Place.get, Sem.run_bind, Sem.run_pure, strVal, run_wrapNil, asAddr, loadVar, ag.h, run_load1 h1, Bool.false_eq_true, if_false]
end
end Go.Proofs.Ytlmdgdehjpahiaa
