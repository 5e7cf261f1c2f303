/- The engine, part 7: append, and stores into elements; over any program, no condition. -/
import Derived.Test.YtlmdgdehjpahiaaEngS
set_option linter.unusedVariables false
namespace Go.Proofs.Ytlmdgdehjpahiaa
variable {α β : Type}

theorem setL_get {vs cs : List Value} {off : Nat} (h : off + cs.length ≤ vs.length) (i : Nat) : (setL vs off cs)[i]? = if i < off then vs[i]? else if i < off + cs.length then cs[i - off]? else vs[i]? := by
  have e : min off vs.length = off := by omega
  simp only [setL, List.append_assoc, List.getElem?_append, List.length_take, e, List.getElem?_drop]
  by_cases h1 : i < off
  · simp [h1]
  · by_cases h2 : i < off + cs.length
    · simp [h1, h2, show i - off < cs.length by omega]
    · simp [h1, h2, show ¬ i - off < cs.length by omega, show off + cs.length + (i - off - cs.length) = i by omega]
theorem add_mk (b off n : Nat) : (⟨b, off, none⟩ : Addr).add n = ⟨b, off + n, none⟩ := by
  simp only [Addr.add]; split
  · rename_i h0; subst h0; rfl
  · rfl

theorem growBy_le (newLen : Nat) : ∀ (r c : Nat), 256 ≤ c → Builtin.growBy newLen r c ≤ max c (2 * newLen)
  | 0, c, _ => by simp [Builtin.growBy]; omega
  | r + 1, c, h => by
    simp only [Builtin.growBy]
    split
    · omega
    · have := growBy_le newLen r (c + (c + 768) / 4) (by omega)
      omega
theorem nextslicecap_le {need old : Nat} (h : old < need) : Builtin.nextslicecap need old ≤ 2 * need := by
  unfold Builtin.nextslicecap
  split
  · omega
  · split
    · omega
    · have := growBy_le need 4 old (by omega)
      omega

theorem zeroCells_size (z : Array Value) (n : Nat) : (Builtin.zeroCells z n).size = n * z.size := by simp [Builtin.zeroCells]

theorem run_firstCells {P : Program} {R : Rds} {sz : Nat} {enc : α → List Value} {v : Value} {xs : List α} {w : World} (h : RS R sz enc v xs) (hw : ∀ b o, R b o → w.heap[b]? = some o) : (Builtin.firstCells sz xs.length v).run P w = .ok (xs.flatMap enc).toArray w := by
  obtain ⟨p, cap, rfl, h2, h3, h4⟩ := h.h
  rcases h4 with rfl | ⟨b, off, c, E, fr, rfl, g2, g3⟩
  · cases p with
    | none => rfl
    | some a => simp [Builtin.firstCells, loadCells, loadCellsFrom]
  · have hb := hw _ _ g2
    have hl := flatMap_length h.len
    have := run_loadCellsFrom (P := P) (w := w) (b := b) (off := off) (xs.flatMap enc) 0 #[] (fun j hj => by
      have := g3 j hj
      simp [World.cell?, hb, this])
    simp only [Builtin.firstCells, loadCells]
    rw [← hl, this]
    simp

theorem run_lenOf {P : Program} {R : Rds} {sz : Nat} {enc : α → List Value} {v : Value} {xs : List α} {w : World} (h : RS R sz enc v xs) : (Builtin.lenOf v).run P w = .ok xs.length w := by
  obtain ⟨p, cap, rfl, _⟩ := h.h
  rfl

theorem perm_front {p : Blk} {A T B : Seg} : (p :: (A ++ (T ++ B))).Perm (A ++ (p :: B) ++ T) := by
  have h1 : (A ++ (T ++ B)).Perm (A ++ B ++ T) := by
    rw [List.append_assoc]
    exact List.perm_append_comm.append_left A
  have h2 : (p :: (A ++ B ++ T)).Perm (A ++ (p :: B) ++ T) := by
    have : (p :: (A ++ B)).Perm (A ++ p :: B) := List.perm_middle.symm
    exact this.append_right T
  exact (h1.cons p).trans h2

theorem HLe.front {H1 H2 : Segs} {T : Seg} {p : Blk} : HLe ([p] :: (H1 ++ T :: H2)) (H1 ++ [p] :: H2) := ⟨T, by
  simp only [List.flatten_cons, List.flatten_append, List.cons_append, List.nil_append]
  exact perm_front⟩

/-- What an append to a slice of one's own comes to. -/
theorem run_append {P : Program} {R : Rds} {H1 H2 : Segs} {T : Seg} {E sz bytes : Nat} {enc : α → List Value} {v u : Value} {xs ys : List α} {w : World} {ta tb tb' t : TypeId} {z : Value}
    (hv : OS E sz enc v xs T) (hu : RS (Rx R (H1 ++ T :: H2)) sz enc u ys) (ua : Und P ta (.slice E)) (ub : Und P tb (.slice tb')) (s : Sz P E sz) (by_ : By P E bytes) (zr : Zr P E z) (hz : z.cells.size = sz) (hb0 : 0 < bytes) (hb : (xs.length + ys.length) * bytes ≤ 2 ^ 47)
    (sat : Sat w (H1 ++ T :: H2)) (ro : RO w R (H1 ++ T :: H2)) :
    ∃ v' w' T', (Builtin.append_ #[ta, tb] t #[v, u]).run P w = .ok v' w' ∧ OS E sz enc v' (xs ++ ys) T' ∧ Frame w (H1 ++ T :: H2) w' (H1 ++ T' :: H2) ∧ Sat w' (H1 ++ T' :: H2) := by
  have hw : ∀ b o, Rx R (H1 ++ T :: H2) b o → w.heap[b]? = some o := fun b o h => by
    rcases h with h | h
    · exact (ro b o h).1
    · exact sat.2 _ h
  have hfu := run_firstCells (P := P) hu hw
  have hlu := run_lenOf (P := P) (w := w) hu
  have hlen : ∀ x ∈ xs ++ ys, (enc x).length = sz := fun x hx => (List.mem_append.1 hx).elim (hv.len x) (hu.len x)
  have hone : ∀ x ∈ xs ++ ys, ∀ c ∈ enc x, Go.Proofs.Ytlmdgdehjpahiaa.oneCell c = true := fun x hx => (List.mem_append.1 hx).elim (hv.one x) (hu.one x)
  have hneed : xs.length + ys.length ≤ 2 ^ 47 := Nat.le_trans (Nat.le_mul_of_pos_right _ hb0) hb
  have hone' : ∀ c ∈ ys.flatMap enc, Go.Proofs.Ytlmdgdehjpahiaa.oneCell c = true := fun c hc => by
    obtain ⟨y, hy, hcy⟩ := List.mem_flatMap.1 hc
    exact hu.one y hy c hcy
  -- the two ways
  have grow : ∀ (p : Option Addr) (cap : Nat), v = .slice p xs.length cap → ¬ xs.length + ys.length ≤ cap → (Builtin.firstCells sz xs.length v).run P { w with drawn := w.drawn + 1 } = .ok (xs.flatMap enc).toArray { w with drawn := w.drawn + 1 } →
      ∃ v' w' T', (Builtin.append_ #[ta, tb] t #[v, u]).run P w = .ok v' w' ∧ OS E sz enc v' (xs ++ ys) T' ∧ Frame w (H1 ++ T :: H2) w' (H1 ++ T' :: H2) ∧ Sat w' (H1 ++ T' :: H2) := by
    intro p cap hvp hcap hfv
    obtain ⟨i, hi, hib⟩ := by_.h w
    have hcut : ∃ q, xs.length + ys.length ≤ q ∧ q ≤ maxLen ∧ q = Question.cut (.appendCap (xs.length + ys.length) cap E) (w.tape w.drawn (.appendCap (xs.length + ys.length) cap E)) := by
      refine ⟨_, ?_, ?_, rfl⟩
      · simp only [Question.cut]; omega
      · simp only [Question.cut]
        have : w.tape w.drawn (.appendCap (xs.length + ys.length) cap E) % (2 ^ 63 - (xs.length + ys.length)) < 2 ^ 63 - (xs.length + ys.length) := Nat.mod_lt _ (by omega)
        unfold maxLen; omega
    obtain ⟨q, hq1, hq2, hq3⟩ := hcut
    have hfu' : (Builtin.firstCells sz ys.length u).run P { w with drawn := w.drawn + 1 } = .ok (ys.flatMap enc).toArray { w with drawn := w.drawn + 1 } := run_firstCells (P := P) hu (fun b o h => hw b o h)
    have hn1 : ¬ ((xs.length + ys.length : Nat) : Int) > IntKind.i64.max := by
      have : IntKind.i64.max = 9223372036854775807 := by decide
      omega
    have hn2 : ¬ Builtin.nextslicecap (xs.length + ys.length) cap * bytes > 2 ^ 48 := by
      have h1 := nextslicecap_le (need := xs.length + ys.length) (old := cap) (by omega)
      have h2 := Nat.mul_le_mul_right bytes h1
      rw [Nat.mul_assoc] at h2
      omega
    have hrun : (Builtin.append_ #[ta, tb] t #[v, u]).run P w = .ok (.slice (some ⟨w.heap.size, 0, none⟩) (xs.length + ys.length) q)
        (World.alloc { w with drawn := w.drawn + 1 } (.cells ((xs.flatMap enc).toArray ++ (ys.flatMap enc).toArray ++ Builtin.zeroCells z.cells (q - (xs.length + ys.length))) E)) := by
      subst hvp
      simp only [Builtin.append_]
      simp only [List.getElem?_toArray, List.getElem?_cons_zero, List.getElem?_cons_succ, Sem.run_bind, run_underlying ua.h, run_underlying ub.h, Result.andThen_ok, s.h, Sem.run_pure]
      have hm : ((TypeDesc.slice tb') matches .int _) = false := rfl
      simp only [Bool.false_eq_true, if_false, hlu, Result.andThen_ok, if_neg hcap, false_or, hn1, false_and, hi, hib, if_neg hn2, Sem.run_bind]
      have hch : (choose (.appendCap (xs.length + ys.length) cap E)).run P w = .ok (Question.cut (.appendCap (xs.length + ys.length) cap E) (w.tape w.drawn (.appendCap (xs.length + ys.length) cap E))) { w with drawn := w.drawn + 1 } := by
        simp [choose, Sem.run, Question.forced]
      rw [hch, ← hq3]
      obtain ⟨i', hi', hib'⟩ := by_.h { w with drawn := w.drawn + 1 }
      have har : ∀ n, (askRoom n).run P { w with drawn := w.drawn + 1 } = .ok () { w with drawn := w.drawn + 1 } := fun n => by
        unfold askRoom; split <;> rfl
      simp only [Result.andThen_ok, hi', har, hfv, Bool.not_false, if_true, hfu', zr.h, newRow_run]
      rfl
    have hz' : (Builtin.zeroCells z.cells (q - (xs.length + ys.length))).size = (q - (xs.length + ys.length)) * sz := by rw [zeroCells_size, hz]
    generalize hC : (xs.flatMap enc).toArray ++ (ys.flatMap enc).toArray ++ Builtin.zeroCells z.cells (q - (xs.length + ys.length)) = C at hrun
    have hsize : 0 + q * sz ≤ C.size := by
      have h1 := flatMap_length hv.len
      have h2 := flatMap_length hu.len
      rw [← hC]
      simp only [Array.size_append, List.size_toArray, h1, h2, hz']
      rw [← Nat.add_mul, ← Nat.add_mul, Nat.zero_add]
      exact Nat.mul_le_mul_right _ (by omega)
    have hrow : Row C 0 ((xs ++ ys).flatMap enc) := by
      intro k hk
      rw [← hC]
      rw [List.flatMap_append] at hk ⊢
      have hsz : k < ((xs.flatMap enc).toArray ++ (ys.flatMap enc).toArray).size := by
        rw [List.length_append] at hk
        simpa only [Array.size_append, List.size_toArray] using hk
      rw [Nat.zero_add, Array.getElem?_append_left hsz, List.append_toArray (xs.flatMap enc) (ys.flatMap enc), List.getElem?_toArray]
    clear hC hz' hfu hlu hfu' hq3
    have hos : OS E sz enc (.slice (some ⟨w.heap.size, 0, none⟩) (xs.length + ys.length) q) (xs ++ ys) [(w.heap.size, .cells C E (0, 0))] :=
      ⟨hlen, hone, .inr ⟨w.heap.size, 0, C, q, by rw [List.length_append], rfl, by rw [List.length_append]; exact hq1, hq2, hsize, hrow⟩⟩
    have f := (Frame.drew w (H1 ++ T :: H2) (w.drawn + 1)).trans (Frame.alloc { w with drawn := w.drawn + 1 } (H1 ++ T :: H2) (.cells C E (0, 0)))
    have f2 : Frame w (H1 ++ T :: H2) (World.alloc { w with drawn := w.drawn + 1 } (.cells C E)) (H1 ++ [(w.heap.size, .cells C E (0, 0))] :: H2) := f.trans (HLe.front.frame _)
    have s2 : Sat (World.alloc { w with drawn := w.drawn + 1 } (.cells C E)) (H1 ++ [(w.heap.size, .cells C E (0, 0))] :: H2) := HLe.front.sat (Sat.alloc (w := { w with drawn := w.drawn + 1 }) (sat.drew _) _)
    exact ⟨_, _, _, hrun, hos, f2, s2⟩
  rcases hv.h with ⟨rfl, rfl, rfl⟩ | ⟨b, off, c, cap, rfl, rfl, g3, g4, g5, g6⟩
  · by_cases h0 : ys.length = 0
    · have hy : ys = [] := List.eq_nil_of_length_eq_zero h0
      subst hy
      refine ⟨.slice none 0 0, w, [], ?_, OS.nil, Frame.refl _ _, sat⟩
      simp only [Builtin.append_]
      simp only [List.getElem?_toArray, List.getElem?_cons_zero, List.getElem?_cons_succ, Sem.run_bind, run_underlying ua.h, run_underlying ub.h, Result.andThen_ok, s.h, Sem.run_pure, Bool.false_eq_true, if_false, hlu]
      have hfu0 : (Builtin.firstCells sz 0 u).run P w = .ok #[] w := hfu
      simp [hfu0]
    · exact grow none 0 rfl (by simp only [List.length_nil]; omega) rfl
  · by_cases hcap : xs.length + ys.length ≤ cap
    · have hb := sat.2 (b, .cells c E (0, 0)) (by simp)
      have hc : c = c.toList.toArray := by simp
      have hl1 := flatMap_length hv.len
      have hl2 := flatMap_length hu.len
      have hroom : off + xs.length * sz + (ys.flatMap enc).length ≤ c.toList.length := by
        rw [hl2, Array.length_toList, Nat.add_assoc, ← Nat.add_mul]
        exact Nat.le_trans (Nat.add_le_add_left (Nat.mul_le_mul_right _ hcap) _) g5
      have hst := run_storeCells (P := P) (b := b) (off := off + xs.length * sz) (E := E) (ys.flatMap enc) 0 c.toList w (by rw [← hc]; exact hb) hone' (by simpa using hroom)
      rw [Nat.add_zero] at hst
      have hadd : (⟨b, off, none⟩ : Addr).add (xs.length * sz) = ⟨b, off + xs.length * sz, none⟩ := by
        simp only [Addr.add]; split
        · rename_i h0; rw [h0]; rfl
        · rfl
      refine ⟨.slice (some ⟨b, off, none⟩) (xs.length + ys.length) cap, setO w b (.cells (setL c.toList (off + xs.length * sz) (ys.flatMap enc)).toArray E (0, 0)), [(b, .cells (setL c.toList (off + xs.length * sz) (ys.flatMap enc)).toArray E (0, 0))], ?_, ⟨hlen, hone, .inr ⟨b, off, _, cap, by rw [List.length_append], rfl, by rw [List.length_append]; exact hcap, g4, ?_, ?_⟩⟩, Frame.set (T1 := []) (T2 := []), Sat.set (T1 := []) (T2 := []) sat⟩
      · simp only [Builtin.append_]
        simp only [List.getElem?_toArray, List.getElem?_cons_zero, List.getElem?_cons_succ, Sem.run_bind, run_underlying ua.h, run_underlying ub.h, Result.andThen_ok, s.h, Sem.run_pure, Bool.false_eq_true, if_false, hlu, if_pos hcap, Bool.not_false, if_true, hfu, hadd, hst]
      · rw [List.size_toArray, setL_length hroom, Array.length_toList]; exact g5
      · intro k hk
        rw [List.flatMap_append] at hk ⊢
        rw [List.getElem?_toArray]
        have hle : off + xs.length * sz ≤ c.toList.length := by omega
        by_cases h1 : k < (xs.flatMap enc).length
        · have h2 := g6 k h1
          rw [hl1] at h1
          rw [setL, List.append_assoc, List.getElem?_append_left (by rw [List.length_take]; omega), List.getElem?_take_of_lt (by omega), Array.getElem?_toList, h2, List.getElem?_append_left (by omega)]
        · rw [List.length_append] at hk
          rw [hl1] at h1 hk
          rw [setL, List.append_assoc, List.getElem?_append_right (by rw [List.length_take]; omega), List.length_take, Nat.min_eq_left hle,
            List.getElem?_append_left (by omega), List.getElem?_append_right (by omega), hl1]
          congr 1
          omega
    · refine grow _ cap rfl hcap ?_
      refine run_firstCells (P := P) (R := sg [(b, .cells c E (0, 0))]) (hv.rs fun p hp => hp) fun b' o' h' => ?_
      simp only [sg, List.mem_singleton, Prod.mk.injEq] at h'
      obtain ⟨e1, e2⟩ := h'
      subst e1; subst e2
      exact sat.2 (b', .cells c E (0, 0)) (by simp)

section
variable {P : Program} {N : Nat} {R : Rds} {ops : Array Oper} {l : List Oper} {env : Env} {H : Segs} {K : Env → Segs → Prop} {ty : TypeId} {pos : String} {af : Array Edge} {m : Bool}

theorem TriOps.append {d : Nat} {x y : Operand} {ta tb tb' E sz bytes : Nat} {enc : α → List Value} {v u z : Value} {xs ys : List α} {T : Seg} {upd : Seg → Segs} (hv : OS E sz enc v xs T) (hu : RS (Rx R H) sz enc u ys) [sa : SegAt H T upd] [ua : Und P ta (.slice E)] [ub : Und P tb (.slice tb')] [s : Sz P E sz] [by_ : By P E bytes] [zr : Zr P E z]
    (hb : (xs.length + ys.length) * bytes ≤ 2 ^ 47) (hn : ∀ v' T', OS E sz enc v' (xs ++ ys) T' → TriOps false P N R ops l ((d, v') :: env) (upd T') K)
    (hx : ev env x = some v := by rfl) (hy : ev env y = some u := by rfl) (hz : z.cells.size = sz := by rfl) (hb0 : 0 < bytes := by decide) (hd : Nat.blt d N = true := by rfl) :
    TriOps false P N R ops (⟨some d, .call ⟨.builtin .append, #[x, y], #[ta, tb]⟩, ty, pos, af, none⟩ :: l) env H K :=
  TriOps.eff hd fun a w ha s' ro => by
    obtain ⟨H1, H2, h1, h2⟩ := sa.h
    subst h1
    obtain ⟨v', w', T', hr, ho, hf, hs⟩ := run_append (t := ty) hv hu ua ub s by_ zr hz hb0 hb s' ro
    refine ⟨v', w', _, ?_, ?_, ?_, hn v' T' ho⟩
    · simp [execOp, resolve, ha.eval hx, ha.eval hy, invoke, builtin, hr]
    · rw [h2]; exact hf
    · rw [h2]; exact hs

/-- One element that a call has just laid out, as a slice. -/
theorem RS.lit1 {b : Nat} {cs : List Value} {E sz : Nat} {fr : Nat × Nat} {enc : α → List Value} {x : α} (he : enc x = cs) (hl : cs.length = sz) (ho : ∀ c ∈ cs, Go.Proofs.Ytlmdgdehjpahiaa.oneCell c = true) : RS (Rx R ([(b, .cells cs.toArray E fr)] :: H)) sz enc (.slice (some ⟨b, 0, none⟩) 1 1) [x] :=
  ⟨by simp [he, hl], by simpa [he] using ho, some ⟨b, 0, none⟩, 1, rfl, by simp, by simp [maxLen], .inr ⟨b, 0, cs.toArray, E, fr, rfl, .inr (by simp), fun k hk => by
    simp only [List.flatMap_cons, List.flatMap_nil, List.append_nil, he] at hk ⊢
    simp [hk]⟩⟩

theorem TriOps.drop (is : List Nat) (h : TriOps m P N R ops l env (rest is H) K) : TriOps m P N R ops l env H K := fun Q' w0 H0 hQ a w s =>
  h Q' w0 H0 hQ a w (s.le (EnvLe.refl env) (HLe.drop is H))

/-- A store into an element of a slice of one's own. -/
theorem TriOps.storeO_gen {t : TypeId} {x y : Operand} {E sz n k : Nat} {enc : α → List Value} {v p u : Value} {xs : List α} {z z' : α} {cs : List Value} {T : Seg} {upd : Seg → Segs} (i : Nat) (hv : OS E sz enc v xs T) (hz : xs[i]? = some z) [sa : SegAt H T upd] [s : Sz P t n]
    (hx : ev env x = some p) (hp : p = addP (baseP v (i * sz)) k) (hy : ev env y = some u) (hc : u.cells = cs.toArray) (hn : cs.length = n) (ho : ∀ c ∈ cs, Go.Proofs.Ytlmdgdehjpahiaa.oneCell c = true) (he : enc z' = setL (enc z) k cs) (hl : k + cs.length ≤ sz)
    (hn' : ∀ T', OS E sz enc v (xs.set i z') T' → TriOps false P N R ops l env (upd T') K) : TriOps false P N R ops (⟨none, .store t x y, ty, pos, af, none⟩ :: l) env H K :=
  TriOps.eff0 fun a w ha s' ro => by
    obtain ⟨H1, H2, h1, h2⟩ := sa.h
    subst h1
    have hm := List.mem_of_getElem? hz
    have hi : i < xs.length := (List.getElem?_eq_some_iff.1 hz).1
    have hne : xs ≠ [] := fun e => by subst e; simp at hz
    have hlz := hv.len z hm
    have hlz' : (enc z').length = sz := by rw [he, setL_length (by omega), hlz]
    rcases hv.h with ⟨_, rfl, _⟩ | ⟨b, off, c, cap, rfl, rfl, g3, g4, g5, g6⟩
    · exact absurd rfl hne
    · have hb := s'.2 (b, .cells c E (0, 0)) (by simp)
      have hcc : c = c.toList.toArray := by simp
      have hpp : p = .pointer (some ⟨b, off + i * sz + k, none⟩) := by
        subst hp
        simp only [baseP, addP, add_mk]
      subst hpp
      have hcl : c.toList.length = c.size := Array.length_toList
      have hroom : off + i * sz + k + cs.length ≤ c.toList.length := by
        have h3 : (i + 1) * sz ≤ cap * sz := Nat.mul_le_mul_right _ (by omega)
        rw [Nat.succ_mul] at h3
        omega
      have hst := run_storeAt (P := P) (t := t) (n := n) (b := b) (off := off + i * sz + k) (E := E) (v := u) (cs := cs) (vs := c.toList) (w := w) hc hn (by rw [← hcc]; exact hb) ho hroom
      have hxs : ∀ x ∈ xs.set i z', (enc x).length = sz := fun x hx => (List.mem_or_eq_of_mem_set hx).elim (hv.len x) (fun e => by rw [e]; exact hlz')
      have hone : ∀ x ∈ xs.set i z', ∀ c ∈ enc x, Go.Proofs.Ytlmdgdehjpahiaa.oneCell c = true := fun x hx => (List.mem_or_eq_of_mem_set hx).elim (hv.one x) (fun e => by
        rw [e, he]
        intro c hc
        simp only [setL, List.mem_append] at hc
        rcases hc with (hc | hc) | hc
        · exact hv.one z hm c (List.mem_of_mem_take hc)
        · exact ho c hc
        · exact hv.one z hm c (List.mem_of_mem_drop hc))
      refine ⟨setO w b (.cells (setL c.toList (off + i * sz + k) cs).toArray E (0, 0)), _, .inl ?_, ?_, ?_, hn' [(b, .cells (setL c.toList (off + i * sz + k) cs).toArray E (0, 0))] ⟨hxs, hone, .inr ⟨b, off, _, cap, by rw [List.length_set], rfl, by rw [List.length_set]; exact g3, g4, ?_, ?_⟩⟩⟩
      · simp [execOp, ha.eval hx, ha.eval hy, hst]
      · rw [h2]; exact Frame.set (T1 := []) (T2 := [])
      · rw [h2]; exact Sat.set (T1 := []) (T2 := []) s'
      · rw [List.size_toArray, setL_length hroom, Array.length_toList]; exact g5
      · have h3 := flatMap_set hv.len hz hlz' he hl
        rw [h3]
        have hfl := flatMap_length hv.len
        have hle : i * sz + k + cs.length ≤ (xs.flatMap enc).length := by
          rw [hfl]
          have h3 : (i + 1) * sz ≤ xs.length * sz := Nat.mul_le_mul_right _ (by omega)
          rw [Nat.succ_mul] at h3; omega
        intro q hq
        rw [setL_length hle] at hq
        have h5 := g6 q hq
        rw [List.getElem?_toArray, setL_get hroom, setL_get hle, Array.getElem?_toList, h5]
        by_cases c1 : q < i * sz + k
        · rw [if_pos (show off + q < off + i * sz + k by omega), if_pos c1]
        · rw [if_neg (show ¬ off + q < off + i * sz + k by omega), if_neg c1]
          by_cases c2 : q < i * sz + k + cs.length
          · rw [if_pos (show off + q < off + i * sz + k + cs.length by omega), if_pos c2, show off + q - (off + i * sz + k) = q - (i * sz + k) by omega]
          · rw [if_neg (show ¬ off + q < off + i * sz + k + cs.length by omega), if_neg c2]
theorem addP_zero' (p : Value) : addP p 0 = p := by
  unfold addP
  split
  · rename_i a; rfl
  · rfl
theorem addP_zero {v : Value} {k : Nat} : addP (baseP v k) 0 = baseP v k := addP_zero' _
theorem setL_all {vs cs : List Value} (h : cs.length = vs.length) : setL vs 0 cs = cs := by simp [setL, h]
theorem TriOps.storeO {t : TypeId} {x y : Operand} {E sz : Nat} {enc : α → List Value} {v : Value} {xs : List α} {z : α} {T : Seg} {upd : Seg → Segs} (i : Nat) (hv : OS E sz enc v xs T) (hz : xs[i]? = some z) [sa : SegAt H T upd] [s : Sz P t sz] (z' : α)
    (hn' : ∀ T', OS E sz enc v (xs.set i z') T' → TriOps false P N R ops l env (upd T') K) (ho : ∀ c ∈ enc z', Go.Proofs.Ytlmdgdehjpahiaa.oneCell c = true) (hc : (enc z').length = sz := by rfl) (hx : ev env x = some (baseP v (i * sz)) := by rfl) (hy : ev env y = some (.agg (enc z').toArray) := by rfl) :
    TriOps false P N R ops (⟨none, .store t x y, ty, pos, af, none⟩ :: l) env H K :=
  TriOps.storeO_gen (k := 0) (cs := enc z') i hv hz hx addP_zero.symm hy rfl hc ho (setL_all (by rw [hc, hv.len z (List.mem_of_getElem? hz)])).symm (by omega) hn'
theorem TriOps.storeO1 {t : TypeId} {x y : Operand} {E : Nat} {enc : α → List Value} {v u : Value} {xs : List α} {z : α} {T : Seg} {upd : Seg → Segs} (i : Nat) (hv : OS E 1 enc v xs T) (hz : xs[i]? = some z) [sa : SegAt H T upd] [s : Sz P t 1] (z' : α)
    (hn' : ∀ T', OS E 1 enc v (xs.set i z') T' → TriOps false P N R ops l env (upd T') K) (hu : enc z' = [u] := by rfl) (ho : Go.Proofs.Ytlmdgdehjpahiaa.oneCell u = true := by rfl) (hx : ev env x = some (baseP v (i * 1)) := by rfl) (hy : ev env y = some u := by rfl) :
    TriOps false P N R ops (⟨none, .store t x y, ty, pos, af, none⟩ :: l) env H K :=
  TriOps.storeO_gen (k := 0) (cs := [u]) i hv hz hx addP_zero.symm hy (cells_one ho) rfl (by simpa using ho) (by rw [hu, setL_all (by rw [hv.len z (List.mem_of_getElem? hz)]; rfl)]) (by simp) hn'
end
end Go.Proofs.Ytlmdgdehjpahiaa
