/- What the law 'ReachB' uses. No condition. -/
import Derived.Lib.Overlaps
import Derived.Test.YtenilfmlfldogaaGreatKReachBB
set_option linter.unusedVariables false
namespace Go.Proofs.YtenilfmlfldogaaGreat
section
end
section
theorem drop_at {α : Type} {l : List α} {i : Nat} {x : α} (h : l[i]? = some x) : l.drop i = x :: l.drop (i + 1) := by
 obtain ⟨h1, h2⟩ := List.getElem?_eq_some_iff.1 h
 rw [<- h2]; exact List.drop_eq_getElem_cons h1
section
variable {P : Program} {N : Nat} {R : Rds} {ops : Array Oper} {l : List Oper} {env : Env} {H : Segs} {K : Env -> Segs -> Prop} {T : Seg} {upd : Seg -> Segs} {ty : TypeId} {pos : String} {af : Array Edge} {α : Type}
theorem RS.blk {R : Rds} {b E lo n cap : Nat} {vs : List Value} {fr : Nat × Nat} (hb : R b (.cells vs.toArray E fr)) (ho : ∀ u ∈ vs, Go.Proofs.YtenilfmlfldogaaGreat.oneCell u = true) (hl : lo + n <= vs.length) (hc : n <= cap) (hm : cap <= maxLen) : RS R 1 (λ v : Value => [v]) (.slice (some ⟨b, lo, none⟩) n cap) ((vs.drop lo).take n) := by
 have hn : ((vs.drop lo).take n).length = n := by rw [List.length_take, List.length_drop]; omega
 have hfm : ∀ l : List Value, l.flatMap (λ v => [v]) = l := λ l => by induction l with | nil => rfl | cons a l ih => simp [ih]
 refine ⟨λ _ _ => rfl, λ v hv u hu => ?_, _, cap, by rw [hn], by omega, hm, .inr ⟨b, lo, _, E, fr, rfl, hb, ?_⟩⟩
 ·simp only [List.mem_singleton] at hu
  subst hu
  exact ho _ (List.mem_of_mem_drop (List.mem_of_mem_take hv))
 ·rw [hfm]
  intro k hk
  rw [List.getElem?_take_of_lt (by omega), List.getElem?_drop, List.getElem?_toArray]
theorem TriOps.makeSlice {d : Nat} {t e : TypeId} {x y : Operand} {k bytes : Nat} {zv : Value} {enc : α -> List Value} (n : Nat) (z : α) [ut : Und P t (.slice e)] [s : Sz P e k] [by_ : By P e bytes] [zr : Zr P e zv] (hz : zv.cells = (enc z).toArray) (hlz : (enc z).length = k) (hk : 0 < k) (ho : ∀ u ∈ enc z, Go.Proofs.YtenilfmlfldogaaGreat.oneCell u = true)
  (hx : ev env x = some (iN n)) (hy : ev env y = some (iN n)) (hm : bytes * n <= 2 ^ 48) (hm2 : n <= 9223372036854775807)
  (hn : ∀ b T, OS e k enc (.slice (some ⟨b, 0, none⟩) n n) (List.replicate n z) T -> TriOps false P N R ops l ((d, .slice (some ⟨b, 0, none⟩) n n) :: env) (T :: H) K) (hd : Nat.blt d N = true := by rfl) :
  TriOps false P N R ops (⟨some d, .makeSlice t x y, ty, pos, af, none⟩ :: l) env H K :=
 TriOps.eff hd λ a w ha sat ro => by
  obtain ⟨i, hi, hib⟩ := by_.h w
  have hw : IntKind.i64.wrap (n : Int) = n := IntWalk.i64_in _ (by omega)
  have har : ∀ m, (askRoom m).run P w = .ok () w := λ m => by unfold askRoom; split <;> rfl
  have hzc : (zv.cells).size = k := by rw [hz]; simpa using hlz
  have hb2 : ¬ ((i.bytes : Int) * (n : Int) > 2 ^ 48) := by
   rw [hib]
   have : ((bytes * n : Nat) : Int) <= ((2 ^ 48 : Nat) : Int) := Int.ofNat_le.2 hm
   rw [Int.natCast_mul] at this
   omega
  have hrow : ∃ c : Array Value, ((Array.range (n * k)).map (λ j => (if n * k = 0 then #[] else zv.cells)[j % (if n * k = 0 then #[] else zv.cells).size]!)) = c /\ c.size = n * k /\ Row c 0 ((List.replicate n z).flatMap enc) := by
   refine ⟨_, rfl, by simp, ?_⟩
   intro j hj
   have hfl : ∀ m : Nat, ((List.replicate m z).flatMap enc).length = m * k := λ m => by
    rw [flatMap_length (sz := k) (λ x hx => by rw [List.eq_of_mem_replicate hx]; exact hlz), List.length_replicate]
   rw [hfl] at hj
   have hne : ¬ n * k = 0 := by omega
   have hget : ∀ m j : Nat, j < m * k -> ((List.replicate m z).flatMap enc)[j]? = (enc z)[j % k]? := by
    intro m
    induction m with
    | zero => intro j hj; omega
    | succ m ih =>
     intro j hj
     rw [List.replicate_succ, List.flatMap_cons]
     by_cases h : j < k
     ·rw [List.getElem?_append_left (by omega), Nat.mod_eq_of_lt h]
     ·rw [List.getElem?_append_right (by omega), hlz, ih (j - k) (by rw [Nat.add_mul, Nat.one_mul] at hj; omega), Nat.mod_eq_sub_mod (a := j) (b := k) (by omega)]
   rw [hget n j hj, Nat.zero_add]
   simp only [if_neg hne]
   have hjk : j % k < k := Nat.mod_lt _ hk
   rw [Array.getElem?_map, Array.getElem?_range, if_pos hj, Option.map_some, hzc]
   have h1 : zv.cells[j % k]! = (enc z)[j % k]'(by omega) := by
    rw [hz]
    simp [getElem!_pos, hlz, hjk]
   rw [h1, gge (by omega)]
  obtain ⟨c, hc, hcs, hcr⟩ := hrow
  have hrun : (Instr.makeSlice t (iN n) (iN n)).run P w = .ok (.slice (some ⟨w.heap.size, 0, none⟩) n n) (w.alloc (.cells c e)) := by
   simp only [Instr.makeSlice, Sem.run_bind, run_underlying ut.h, Result.andThen_ok, asInt, asIntOf, Sem.run_pure, hi, hw]
   have c1 : decide ((i.bytes : Int) * (n : Int) > 2 ^ 48) = false := decide_eq_false hb2
   have c2 : decide ((n : Int) > (n : Int)) = false := decide_eq_false (by omega)
   have c3 : decide ((n : Int) < 0) = false := decide_eq_false (by omega)
   simp only [c1, c2, c3, Bool.or_false, Bool.false_eq_true, if_false, Int.toNat_natCast]
   simp only [Sem.run_bind, har, s.h, Result.andThen_ok]
   by_cases h0 : n * k = 0
   ·simp only [if_pos h0] at hc ⊢
    simp only [Sem.run_bind, Sem.run_pure, Result.andThen_ok, hc, newRow_run]
   ·simp only [if_neg h0] at hc ⊢
    simp only [Sem.run_bind, Sem.run_pure, Result.andThen_ok, zr.h, hc, newRow_run]
  refine ⟨.slice (some ⟨w.heap.size, 0, none⟩) n n, w.alloc (.cells c e), [(w.heap.size, .cells c e (0, 0))] :: H, ?_, Frame.alloc w H _, Sat.alloc sat _, hn _ _ ?_⟩
  ·simp [execOp, ha.eval hx, ha.eval hy, hrun]
  ·refine ⟨λ x hx => by rw [List.eq_of_mem_replicate hx]; exact hlz, λ x hx => by rw [List.eq_of_mem_replicate hx]; exact ho, .inr ⟨w.heap.size, 0, c, n, by rw [List.length_replicate], rfl, by rw [List.length_replicate]; exact Nat.le_refl _, by unfold maxLen; omega, by rw [hcs]; omega, hcr⟩⟩
end
end
end Go.Proofs.YtenilfmlfldogaaGreat
