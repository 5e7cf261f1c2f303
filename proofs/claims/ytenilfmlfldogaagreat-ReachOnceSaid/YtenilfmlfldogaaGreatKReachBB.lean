/- What the law 'ReachB' uses. No condition. -/
import Derived.IntWalk
import Derived.Test.YtenilfmlfldogaaGreatKReachBA
set_option linter.unusedVariables false
namespace Go.Proofs.YtenilfmlfldogaaGreat
section
variable {α β : Type}
theorem setL_get {vs cs : List Value} {off : Nat} (h : off + cs.length <= vs.length) (i : Nat) : (setL vs off cs)[i]? = if i < off then vs[i]? else if i < off + cs.length then cs[i - off]? else vs[i]? := by
 have e : min off vs.length = off := by omega
 simp only [setL_eq, List.append_assoc, List.getElem?_append, List.length_take, e, List.getElem?_drop]
 by_cases h1 : i < off
 ·simp [h1]
 ·by_cases h2 : i < off + cs.length
  ·simp [h1, h2, show i - off < cs.length by omega]
  ·simp [h1, h2, show ¬ i - off < cs.length by omega, show off + cs.length + (i - off - cs.length) = i by omega]
theorem add_mk (b off n : Nat) : (⟨b, off, none⟩ : Addr).add n = ⟨b, off + n, none⟩ := by
 simp only [Addr.add]; split
 ·rename_i h0; subst h0; rfl
 ·rfl
theorem growBy_le (newLen : Nat) : ∀ (r c : Nat), 256 <= c -> Builtin.growBy newLen r c <= max c (2 * newLen)
 | 0, c, _ => by simp [Builtin.growBy]; omega
 | r + 1, c, h => by
  simp only [Builtin.growBy]
  split
  ·omega
  ·have := growBy_le newLen r (c + (c + 768) / 4) (by omega)
   omega
theorem nextslicecap_le {need old : Nat} (h : old < need) : Builtin.nextslicecap need old <= 2 * need := by
 unfold Builtin.nextslicecap
 split
 ·omega
 ·split
  ·omega
  ·have := growBy_le need 4 old (by omega)
   omega
theorem zeroCells_size (z : Array Value) (n : Nat) : (Builtin.zeroCells z n).size = n * z.size := by simp [Builtin.zeroCells]
theorem run_firstCells {P : Program} {R : Rds} {sz : Nat} {enc : α -> List Value} {v : Value} {xs : List α} {w : World} (h : RS R sz enc v xs) (hw : ∀ b o, R b o -> w.heap[b]? = some o) : (Builtin.firstCells sz xs.length v).run P w = .ok (xs.flatMap enc).toArray w := by
 obtain ⟨p, cap, rfl, h2, h3, h4⟩ := h.h
 rcases h4 with rfl | ⟨b, off, c, E, fr, rfl, g2, g3⟩
 ·cases p with
  | none => rfl
  | some a => simp [Builtin.firstCells, loadCells, loadCellsFrom]
 ·have hb := hw _ _ g2
  have hl := flatMap_length h.len
  have := run_loadCellsFrom (P := P) (w := w) (b := b) (off := off) (xs.flatMap enc) 0 #[] (λ j hj => by
   have := g3 j hj
   simp [World.cell?, hb, this])
  simp only [Builtin.firstCells, loadCells]
  rw [<- hl, this]
  simp
theorem run_lenOf {P : Program} {R : Rds} {sz : Nat} {enc : α -> List Value} {v : Value} {xs : List α} {w : World} (h : RS R sz enc v xs) : (Builtin.lenOf v).run P w = .ok xs.length w := by
 obtain ⟨p, cap, rfl, _⟩ := h.h
 rfl
theorem perm_front {p : Blk} {A T B : Seg} : (p :: (A ++ (T ++ B))).Perm (A ++ (p :: B) ++ T) := by
 have h1 : (A ++ (T ++ B)).Perm (A ++ B ++ T) := by
  rw [List.append_assoc]
  exact List.perm_append_comm.append_left A
 have h2 : (p :: (A ++ B ++ T)).Perm (A ++ (p :: B) ++ T) := by
  have : (p :: (A ++ B)).Perm (A ++ p :: B) := List.perm_middle.symm
  exact this.append_right T
 exact (h1.cons p).trans h2
theorem HLe.front {H1 H2 : Segs} {T : Seg} {p : Blk} : HLe ([p] :: (H1 ++ T :: H2)) (H1 ++ [p] :: H2) := ⟨T, by
 simp only [List.flatten_cons, List.flatten_append, List.cons_append, List.nil_append]
 exact perm_front⟩
theorem run_append {P : Program} {R : Rds} {H1 H2 : Segs} {T : Seg} {E sz bytes : Nat} {enc : α -> List Value} {v u : Value} {xs ys : List α} {w : World} {ta tb tb' t : TypeId} {z : Value}
  (hv : OS E sz enc v xs T) (hu : RS (Rx R (H1 ++ T :: H2)) sz enc u ys) (ua : Und P ta (.slice E)) (ub : Und P tb (.slice tb')) (s : Sz P E sz) (by_ : By P E bytes) (zr : Zr P E z) (hz : z.cells.size = sz) (hb0 : 0 < bytes) (hb : (xs.length + ys.length) * bytes <= 2 ^ 47)
  (sat : Sat w (H1 ++ T :: H2)) (ro : RO w R (H1 ++ T :: H2)) :
  ∃ v' w' T', (Builtin.append_ #[ta, tb] t #[v, u]).run P w = .ok v' w' /\ OS E sz enc v' (xs ++ ys) T' /\ Frame w (H1 ++ T :: H2) w' (H1 ++ T' :: H2) /\ Sat w' (H1 ++ T' :: H2) := by
 have hw : ∀ b o, Rx R (H1 ++ T :: H2) b o -> w.heap[b]? = some o := λ b o h => by
  rcases h with h | h
  ·exact (ro b o h).1
  ·exact sat.2 _ h
 have hfu := run_firstCells (P := P) hu hw
 have hlu := run_lenOf (P := P) (w := w) hu
 have hlen : ∀ x ∈ xs ++ ys, (enc x).length = sz := λ x hx => (List.mem_append.1 hx).elim (hv.len x) (hu.len x)
 have hone : ∀ x ∈ xs ++ ys, ∀ c ∈ enc x, Go.Proofs.YtenilfmlfldogaaGreat.oneCell c = true := λ x hx => (List.mem_append.1 hx).elim (hv.one x) (hu.one x)
 have hneed : xs.length + ys.length <= 2 ^ 47 := Nat.le_trans (Nat.le_mul_of_pos_right _ hb0) hb
 have hone' : ∀ c ∈ ys.flatMap enc, Go.Proofs.YtenilfmlfldogaaGreat.oneCell c = true := λ c hc => by
  obtain ⟨y, hy, hcy⟩ := List.mem_flatMap.1 hc
  exact hu.one y hy c hcy
 -- the two ways
 have grow : ∀ (p : Option Addr) (cap : Nat), v = .slice p xs.length cap -> ¬ xs.length + ys.length <= cap -> (Builtin.firstCells sz xs.length v).run P { w with drawn := w.drawn + 1 } = .ok (xs.flatMap enc).toArray { w with drawn := w.drawn + 1 } ->
   ∃ v' w' T', (Builtin.append_ #[ta, tb] t #[v, u]).run P w = .ok v' w' /\ OS E sz enc v' (xs ++ ys) T' /\ Frame w (H1 ++ T :: H2) w' (H1 ++ T' :: H2) /\ Sat w' (H1 ++ T' :: H2) := by
  intro p cap hvp hcap hfv
  obtain ⟨i, hi, hib⟩ := by_.h w
  have hcut : ∃ q, xs.length + ys.length <= q /\ q <= maxLen /\ q = Question.cut (.appendCap (xs.length + ys.length) cap E) (w.tape w.drawn (.appendCap (xs.length + ys.length) cap E)) := by
   refine ⟨_, ?_, ?_, rfl⟩
   ·simp only [Question.cut]; omega
   ·simp only [Question.cut]
    have : w.tape w.drawn (.appendCap (xs.length + ys.length) cap E) % (2 ^ 63 - (xs.length + ys.length)) < 2 ^ 63 - (xs.length + ys.length) := Nat.mod_lt _ (by omega)
    unfold maxLen; omega
  obtain ⟨q, hq1, hq2, hq3⟩ := hcut
  have hfu' : (Builtin.firstCells sz ys.length u).run P { w with drawn := w.drawn + 1 } = .ok (ys.flatMap enc).toArray { w with drawn := w.drawn + 1 } := run_firstCells (P := P) hu (λ b o h => hw b o h)
  have hn1 : ¬ ((xs.length + ys.length : Nat) : Int) > IntKind.i64.max := by
   have : IntKind.i64.max = 9223372036854775807 := by decide
   omega
  have hn2 : ¬ Builtin.nextslicecap (xs.length + ys.length) cap * bytes > 2 ^ 48 := by
   have h1 := nextslicecap_le (need := xs.length + ys.length) (old := cap) (by omega)
   have h2 := Nat.mul_le_mul_right bytes h1
   rw [Nat.mul_assoc] at h2
   omega
  have hrun : (Builtin.append_ #[ta, tb] t #[v, u]).run P w = .ok (.slice (some ⟨w.heap.size, 0, none⟩) (xs.length + ys.length) q)
    (World.alloc { w with drawn := w.drawn + 1 } (.cells ((xs.flatMap enc).toArray ++ (ys.flatMap enc).toArray ++ Builtin.zeroCells z.cells (q - (xs.length + ys.length))) E)) := by
   subst hvp
   simp only [Builtin.append_]
   simp only [List.getElem?_toArray, List.getElem?_cons_zero, List.getElem?_cons_succ, Sem.run_bind, run_underlying ua.h, run_underlying ub.h, Result.andThen_ok, s.h, Sem.run_pure]
   have hm : ((TypeDesc.slice tb') matches .int _) = false := rfl
   simp only [Bool.false_eq_true, if_false, hlu, Result.andThen_ok, if_neg hcap, false_or, hn1, false_and, hi, hib, if_neg hn2, Sem.run_bind]
   have hch : (choose (.appendCap (xs.length + ys.length) cap E)).run P w = .ok (Question.cut (.appendCap (xs.length + ys.length) cap E) (w.tape w.drawn (.appendCap (xs.length + ys.length) cap E))) { w with drawn := w.drawn + 1 } := by
    simp [choose, Sem.run, Question.forced]
   rw [hch, <- hq3]
   obtain ⟨i', hi', hib'⟩ := by_.h { w with drawn := w.drawn + 1 }
   have har : ∀ n, (askRoom n).run P { w with drawn := w.drawn + 1 } = .ok () { w with drawn := w.drawn + 1 } := λ n => by
    unfold askRoom; split <;> rfl
   simp only [Result.andThen_ok, hi', har, hfv, Bool.not_false, if_true, hfu', zr.h, newRow_run]
   rfl
  have hz' : (Builtin.zeroCells z.cells (q - (xs.length + ys.length))).size = (q - (xs.length + ys.length)) * sz := by rw [zeroCells_size, hz]
  generalize hC : (xs.flatMap enc).toArray ++ (ys.flatMap enc).toArray ++ Builtin.zeroCells z.cells (q - (xs.length + ys.length)) = C at hrun
  have hsize : 0 + q * sz <= C.size := by
   have h1 := flatMap_length hv.len
   have h2 := flatMap_length hu.len
   rw [<- hC]
   simp only [Array.size_append, List.size_toArray, h1, h2, hz']
   rw [<- Nat.add_mul, <- Nat.add_mul, Nat.zero_add]
   exact Nat.mul_le_mul_right _ (by omega)
  have hrow : Row C 0 ((xs ++ ys).flatMap enc) := by
   intro k hk
   rw [<- hC]
   rw [List.flatMap_append] at hk ⊢
   have hsz : k < ((xs.flatMap enc).toArray ++ (ys.flatMap enc).toArray).size := by
    rw [List.length_append] at hk
    simpa only [Array.size_append, List.size_toArray] using hk
   rw [Nat.zero_add, Array.getElem?_append_left hsz, List.append_toArray (xs.flatMap enc) (ys.flatMap enc), List.getElem?_toArray]
  clear hC hz' hfu hlu hfu' hq3
  have hos : OS E sz enc (.slice (some ⟨w.heap.size, 0, none⟩) (xs.length + ys.length) q) (xs ++ ys) [(w.heap.size, .cells C E (0, 0))] :=
   ⟨hlen, hone, .inr ⟨w.heap.size, 0, C, q, by rw [List.length_append], rfl, by rw [List.length_append]; exact hq1, hq2, hsize, hrow⟩⟩
  have f := (Frame.drew w (H1 ++ T :: H2) (w.drawn + 1)).trans (Frame.alloc { w with drawn := w.drawn + 1 } (H1 ++ T :: H2) (.cells C E (0, 0)))
  have f2 : Frame w (H1 ++ T :: H2) (World.alloc { w with drawn := w.drawn + 1 } (.cells C E)) (H1 ++ [(w.heap.size, .cells C E (0, 0))] :: H2) := f.trans (HLe.front.frame _)
  have s2 : Sat (World.alloc { w with drawn := w.drawn + 1 } (.cells C E)) (H1 ++ [(w.heap.size, .cells C E (0, 0))] :: H2) := HLe.front.sat (Sat.alloc (w := { w with drawn := w.drawn + 1 }) (sat.drew _) _)
  exact ⟨_, _, _, hrun, hos, f2, s2⟩
 rcases hv.h with ⟨rfl, rfl, rfl⟩ | ⟨b, off, c, cap, rfl, rfl, g3, g4, g5, g6⟩
 ·by_cases h0 : ys.length = 0
  ·have hy : ys = [] := List.eq_nil_of_length_eq_zero h0
   subst hy
   refine ⟨.slice none 0 0, w, [], ?_, OS.nil, Frame.refl _ _, sat⟩
   simp only [Builtin.append_]
   simp only [List.getElem?_toArray, List.getElem?_cons_zero, List.getElem?_cons_succ, Sem.run_bind, run_underlying ua.h, run_underlying ub.h, Result.andThen_ok, s.h, Sem.run_pure, Bool.false_eq_true, if_false, hlu]
   have hfu0 : (Builtin.firstCells sz 0 u).run P w = .ok #[] w := hfu
   simp [hfu0]
  ·exact grow none 0 rfl (by simp only [List.length_nil]; omega) rfl
 ·by_cases hcap : xs.length + ys.length <= cap
  ·have hb := sat.2 (b, .cells c E (0, 0)) (by simp)
   have hc : c = c.toList.toArray := by simp
   have hl1 := flatMap_length hv.len
   have hl2 := flatMap_length hu.len
   have hroom : off + xs.length * sz + (ys.flatMap enc).length <= c.toList.length := by
    rw [hl2, Array.length_toList, Nat.add_assoc, <- Nat.add_mul]
    exact Nat.le_trans (Nat.add_le_add_left (Nat.mul_le_mul_right _ hcap) _) g5
   have hst := run_storeCells (P := P) (b := b) (off := off + xs.length * sz) (E := E) (ys.flatMap enc) 0 c.toList w (by rw [<- hc]; exact hb) hone' (by simpa using hroom)
   rw [Nat.add_zero] at hst
   have hadd : (⟨b, off, none⟩ : Addr).add (xs.length * sz) = ⟨b, off + xs.length * sz, none⟩ := by
    simp only [Addr.add]; split
    ·rename_i h0; rw [h0]; rfl
    ·rfl
   refine ⟨.slice (some ⟨b, off, none⟩) (xs.length + ys.length) cap, setO w b (.cells (setL c.toList (off + xs.length * sz) (ys.flatMap enc)).toArray E (0, 0)), [(b, .cells (setL c.toList (off + xs.length * sz) (ys.flatMap enc)).toArray E (0, 0))], ?_, ⟨hlen, hone, .inr ⟨b, off, _, cap, by rw [List.length_append], rfl, by rw [List.length_append]; exact hcap, g4, ?_, ?_⟩⟩, Frame.set (T1 := []) (T2 := []), Sat.set (T1 := []) (T2 := []) sat⟩
   ·simp only [Builtin.append_]
    simp only [List.getElem?_toArray, List.getElem?_cons_zero, List.getElem?_cons_succ, Sem.run_bind, run_underlying ua.h, run_underlying ub.h, Result.andThen_ok, s.h, Sem.run_pure, Bool.false_eq_true, if_false, hlu, if_pos hcap, Bool.not_false, if_true, hfu, hadd, hst]
   ·rw [List.size_toArray, setL_length hroom, Array.length_toList]; exact g5
   ·intro k hk
    rw [List.flatMap_append] at hk ⊢
    rw [List.getElem?_toArray]
    have hle : off + xs.length * sz <= c.toList.length := by omega
    by_cases h1 : k < (xs.flatMap enc).length
    ·have h2 := g6 k h1
     rw [hl1] at h1
     rw [setL_eq, List.append_assoc, List.getElem?_append_left (by rw [List.length_take]; omega), List.getElem?_take_of_lt (by omega), Array.getElem?_toList, h2, List.getElem?_append_left (by omega)]
    ·rw [List.length_append] at hk
     rw [hl1] at h1 hk
     rw [setL_eq, List.append_assoc, List.getElem?_append_right (by rw [List.length_take]; omega), List.length_take, Nat.min_eq_left hle,
      List.getElem?_append_left (by omega), List.getElem?_append_right (by omega), hl1]
     congr 1
     omega
  ·refine grow _ cap rfl hcap<|run_firstCells (P := P) (R := sg [(b, .cells c E (0, 0))]) (hv.rs λ p hp => hp) λ b' o' h' => ?_
   simp only [sg, List.mem_singleton, Prod.mk.injEq] at h'
   obtain ⟨e1, e2⟩ := h'
   subst e1; subst e2
   exact sat.2 (b', .cells c E (0, 0)) (by simp)
section
variable {P : Program} {N : Nat} {R : Rds} {ops : Array Oper} {l : List Oper} {env : Env} {H : Segs} {K : Env -> Segs -> Prop} {ty : TypeId} {pos : String} {af : Array Edge} {m : Bool}
theorem TriOps.append {d : Nat} {x y : Operand} {ta tb tb' E sz bytes : Nat} {enc : α -> List Value} {v u z : Value} {xs ys : List α} {T : Seg} {upd : Seg -> Segs} (hv : OS E sz enc v xs T) (hu : RS (Rx R H) sz enc u ys) [sa : SegAt H T upd] [ua : Und P ta (.slice E)] [ub : Und P tb (.slice tb')] [s : Sz P E sz] [by_ : By P E bytes] [zr : Zr P E z]
  (hb : (xs.length + ys.length) * bytes <= 2 ^ 47) (hn : ∀ v' T', OS E sz enc v' (xs ++ ys) T' -> TriOps false P N R ops l ((d, v') :: env) (upd T') K)
  (hx : ev env x = some v := by rfl) (hy : ev env y = some u := by rfl) (hz : z.cells.size = sz := by rfl) (hb0 : 0 < bytes := by decide) (hd : Nat.blt d N = true := by rfl) :
  TriOps false P N R ops (⟨some d, .call ⟨.builtin .append, #[x, y], #[ta, tb]⟩, ty, pos, af, none⟩ :: l) env H K :=
 TriOps.eff hd λ a w ha s' ro => by
  obtain ⟨H1, H2, h1, h2⟩ := sa.h
  subst h1
  obtain ⟨v', w', T', hr, ho, hf, hs⟩ := run_append (t := ty) hv hu ua ub s by_ zr hz hb0 hb s' ro
  refine ⟨v', w', _, ?_, ?_, ?_, hn v' T' ho⟩
  ·simp [execOp, resolve, ha.eval hx, ha.eval hy, invoke, builtin, hr]
  ·rw [h2]; exact hf
  ·rw [h2]; exact hs
theorem TriOps.drop (is : List Nat) (h : TriOps m P N R ops l env (rest is H) K) : TriOps m P N R ops l env H K := λ Q' w0 H0 hQ a w s =>
 h Q' w0 H0 hQ a w (s.le (EnvLe.refl env) (HLe.drop is H))
theorem TriOps.storeO_gen {t : TypeId} {x y : Operand} {E sz n k : Nat} {enc : α -> List Value} {v p u : Value} {xs : List α} {z z' : α} {cs : List Value} {T : Seg} {upd : Seg -> Segs} (i : Nat) (hv : OS E sz enc v xs T) (hz : xs[i]? = some z) [sa : SegAt H T upd] [s : Sz P t n]
  (hx : ev env x = some p) (hp : p = addP (baseP v (i * sz)) k) (hy : ev env y = some u) (hc : u.cells = cs.toArray) (hn : cs.length = n) (ho : ∀ c ∈ cs, Go.Proofs.YtenilfmlfldogaaGreat.oneCell c = true) (he : enc z' = setL (enc z) k cs) (hl : k + cs.length <= sz)
  (hn' : ∀ T', OS E sz enc v (xs.set i z') T' -> TriOps false P N R ops l env (upd T') K) : TriOps false P N R ops (⟨none, .store t x y, ty, pos, af, none⟩ :: l) env H K :=
 TriOps.eff0 λ a w ha s' ro => by
  obtain ⟨H1, H2, h1, h2⟩ := sa.h
  subst h1
  have hm := List.mem_of_getElem? hz
  have hi : i < xs.length := (List.getElem?_eq_some_iff.1 hz).1
  have hne : xs ≠ [] := λ e => by subst e; simp at hz
  have hlz := hv.len z hm
  have hlz' : (enc z').length = sz := by rw [he, setL_length (by omega), hlz]
  rcases hv.h with ⟨_, rfl, _⟩ | ⟨b, off, c, cap, rfl, rfl, g3, g4, g5, g6⟩
  ·exact absurd rfl hne
  ·have hb := s'.2 (b, .cells c E (0, 0)) (by simp)
   have hcc : c = c.toList.toArray := by simp
   have hpp : p = .pointer (some ⟨b, off + i * sz + k, none⟩) := by
    subst hp
    simp only [baseP, addP, add_mk]
   subst hpp
   have hcl : c.toList.length = c.size := Array.length_toList
   have hroom : off + i * sz + k + cs.length <= c.toList.length := by
    have h3 : (i + 1) * sz <= cap * sz := Nat.mul_le_mul_right _ (by omega)
    rw [Nat.succ_mul] at h3
    omega
   have hst := run_storeAt (P := P) (t := t) (n := n) (b := b) (off := off + i * sz + k) (E := E) (v := u) (cs := cs) (vs := c.toList) (w := w) hc hn (by rw [<- hcc]; exact hb) ho hroom
   have hxs : ∀ x ∈ xs.set i z', (enc x).length = sz := λ x hx => (List.mem_or_eq_of_mem_set hx).elim (hv.len x) (λ e => by rw [e]; exact hlz')
   have hone : ∀ x ∈ xs.set i z', ∀ c ∈ enc x, Go.Proofs.YtenilfmlfldogaaGreat.oneCell c = true := λ x hx => (List.mem_or_eq_of_mem_set hx).elim (hv.one x) (λ e => by
    rw [e, he]
    intro c hc
    simp only [setL_eq, List.mem_append] at hc
    rcases hc with (hc | hc) | hc
    ·exact hv.one z hm c (List.mem_of_mem_take hc)
    ·exact ho c hc
    ·exact hv.one z hm c (List.mem_of_mem_drop hc))
   refine ⟨setO w b (.cells (setL c.toList (off + i * sz + k) cs).toArray E (0, 0)), _, .inl ?_, ?_, ?_, hn' [(b, .cells (setL c.toList (off + i * sz + k) cs).toArray E (0, 0))] ⟨hxs, hone, .inr ⟨b, off, _, cap, by rw [List.length_set], rfl, by rw [List.length_set]; exact g3, g4, ?_, ?_⟩⟩⟩
   ·simp [execOp, ha.eval hx, ha.eval hy, hst]
   ·rw [h2]; exact Frame.set (T1 := []) (T2 := [])
   ·rw [h2]; exact Sat.set (T1 := []) (T2 := []) s'
   ·rw [List.size_toArray, setL_length hroom, Array.length_toList]; exact g5
   ·have h3 := flatMap_set hv.len hz hlz' he hl
    rw [h3]
    have hfl := flatMap_length hv.len
    have hle : i * sz + k + cs.length <= (xs.flatMap enc).length := by
     rw [hfl]
     have h3 : (i + 1) * sz <= xs.length * sz := Nat.mul_le_mul_right _ (by omega)
     rw [Nat.succ_mul] at h3; omega
    intro q hq
    rw [setL_length hle] at hq
    have h5 := g6 q hq
    rw [List.getElem?_toArray, setL_get hroom, setL_get hle, Array.getElem?_toList, h5]
    by_cases c1 : q < i * sz + k
    ·rw [if_pos (show off + q < off + i * sz + k by omega), if_pos c1]
    ·rw [if_neg (show ¬ off + q < off + i * sz + k by omega), if_neg c1]
     by_cases c2 : q < i * sz + k + cs.length
     ·rw [if_pos (show off + q < off + i * sz + k + cs.length by omega), if_pos c2, show off + q - (off + i * sz + k) = q - (i * sz + k) by omega]
     ·rw [if_neg (show ¬ off + q < off + i * sz + k + cs.length by omega), if_neg c2]
theorem addP_zero' (p : Value) : addP p 0 = p := by
 unfold addP
 split
 ·rename_i a; rfl
 ·rfl
theorem addP_zero {v : Value} {k : Nat} : addP (baseP v k) 0 = baseP v k := addP_zero' _
theorem setL_all {vs cs : List Value} (h : cs.length = vs.length) : setL vs 0 cs = cs := by rw [setL_eq]; simp [h]
theorem TriOps.storeO {t : TypeId} {x y : Operand} {E sz : Nat} {enc : α -> List Value} {v : Value} {xs : List α} {z : α} {T : Seg} {upd : Seg -> Segs} (i : Nat) (hv : OS E sz enc v xs T) (hz : xs[i]? = some z) [sa : SegAt H T upd] [s : Sz P t sz] (z' : α)
  (hn' : ∀ T', OS E sz enc v (xs.set i z') T' -> TriOps false P N R ops l env (upd T') K) (ho : ∀ c ∈ enc z', Go.Proofs.YtenilfmlfldogaaGreat.oneCell c = true) (hc : (enc z').length = sz := by rfl) (hx : ev env x = some (baseP v (i * sz)) := by rfl) (hy : ev env y = some (.agg (enc z').toArray) := by rfl) :
  TriOps false P N R ops (⟨none, .store t x y, ty, pos, af, none⟩ :: l) env H K :=
 TriOps.storeO_gen (k := 0) (cs := enc z') i hv hz hx addP_zero.symm hy rfl hc ho (setL_all (by rw [hc, hv.len z (List.mem_of_getElem? hz)])).symm (by omega) hn'
theorem TriOps.storeO1 {t : TypeId} {x y : Operand} {E : Nat} {enc : α -> List Value} {v u : Value} {xs : List α} {z : α} {T : Seg} {upd : Seg -> Segs} (i : Nat) (hv : OS E 1 enc v xs T) (hz : xs[i]? = some z) [sa : SegAt H T upd] [s : Sz P t 1] (z' : α)
  (hn' : ∀ T', OS E 1 enc v (xs.set i z') T' -> TriOps false P N R ops l env (upd T') K) (hu : enc z' = [u] := by rfl) (ho : Go.Proofs.YtenilfmlfldogaaGreat.oneCell u = true := by rfl) (hx : ev env x = some (baseP v (i * 1)) := by rfl) (hy : ev env y = some u := by rfl) :
  TriOps false P N R ops (⟨none, .store t x y, ty, pos, af, none⟩ :: l) env H K :=
 TriOps.storeO_gen (k := 0) (cs := [u]) i hv hz hx addP_zero.symm hy (cells_one ho) rfl (by simpa using ho) (by rw [hu, setL_all (by rw [hv.len z (List.mem_of_getElem? hz)]; rfl)]) (by simp) hn'
end
end
section
inductive CK where
 | i (k : IntKind)
 | s
 | b
def ckOf : CK -> Value -> Prop
 | .i k, .int k' _ => k' = k
 | .s, .string _ => True
 | .b, .bool _ => True
 | _, _ => False
def HasK : List CK -> List Value -> Prop
 | [], [] => True
 | k :: ks, v :: vs => ckOf k v /\ HasK ks vs
 | _, _ => False
def cellEq : Value -> Value -> Bool
 | .int _ a, .int _ b => a == b
 | .string a, .string b => decide (a = b)
 | .bool a, .bool b => a == b
 | _, _ => false
def cellsEq : List Value -> List Value -> Bool
 | [], [] => true
 | a :: l, b :: l2 => cellEq a b && cellsEq l l2
 | _, _ => false
def pack : Bool -> List Value -> Value
 | false, [x] => x
 | _, xs => .agg xs.toArray
theorem HasK.length : ∀ {ks : List CK} {vs : List Value}, HasK ks vs -> vs.length = ks.length
 | [], [], _ => rfl
 | _ :: ks, _ :: vs, h => by simp [HasK.length (ks := ks) (vs := vs) h.2]
 | [], _ :: _, h => h.elim
 | _ :: _, [], h => h.elim
theorem HasK.split : ∀ {ks ks' : List CK} {vs : List Value}, HasK (ks ++ ks') vs -> HasK ks (vs.take ks.length) /\ HasK ks' (vs.drop ks.length)
 | [], ks', vs, h => by simpa [HasK] using h
 | k :: ks, ks', v :: vs, h => by
  have := HasK.split (ks := ks) (ks' := ks') (vs := vs) h.2
  exact ⟨⟨h.1, this.1⟩, this.2⟩
 | _ :: _, _, [], h => h.elim
theorem cellsEq_split : ∀ (n : Nat) {xs ys : List Value}, n <= xs.length -> n <= ys.length -> cellsEq xs ys = (cellsEq (xs.take n) (ys.take n) && cellsEq (xs.drop n) (ys.drop n))
 | 0, xs, ys, _, _ => by simp [cellsEq]
 | n + 1, x :: xs, y :: ys, h1, h2 => by
  simp only [List.length_cons] at h1 h2
  simp only [cellsEq, List.take_succ_cons, List.drop_succ_cons]
  rw [cellsEq_split n (by omega) (by omega), Bool.and_assoc]
 | n + 1, [], _, h1, _ => by simp at h1
 | n + 1, _ :: _, [], _, h2 => by simp at h2
class EqT (P : Program) (t : TypeId) (n : outParam Nat) (ks : outParam (List CK)) (agg : outParam Bool) : Prop where
 ne : 0 < n
 eq : ∀ d, n <= d -> ∀ w xs ys, HasK ks xs -> HasK ks ys -> (Op.equalIn d t (pack agg xs) (pack agg ys)).run P w = .ok (cellsEq xs ys) w
 ck : ∀ d, n <= d -> ∀ e w xs, HasK ks xs -> (Instr.checkKey e d t (pack agg xs)).run P w = .ok () w
 part : ∀ w (X : List Value) off xs, (X.drop off).take ks.length = xs -> xs.length = ks.length -> (part t X.toArray off).run P w = .ok (pack agg xs) w
def ckFields (e : Bool) (d : Nat) (xs : Array Value) : List Field → Sem Unit
 | [] => pure ()
 | f :: fs => if f.name ≠ "_" then do Instr.checkKey e d f.type (← part f.type xs f.offset); ckFields e d xs fs else ckFields e d xs fs
structure EqFs (P : Program) (n off : Nat) (fs : List Field) (ks : List CK) : Prop where
 eq : ∀ d, n <= d -> ∀ w (X Y xs ys : List Value), X.drop off = xs -> Y.drop off = ys -> HasK ks xs -> HasK ks ys -> (Op.eqFields d X.toArray Y.toArray fs).run P w = .ok (cellsEq xs ys) w
 ck : ∀ d, n <= d -> ∀ e w (X xs : List Value), X.drop off = xs -> HasK ks xs -> (ckFields e d X.toArray fs).run P w = .ok () w
section
variable {P : Program}
theorem hasK_one {k : CK} {xs : List Value} (h : HasK [k] xs) : ∃ x, xs = [x] /\ ckOf k x := by
 match xs, h with
 | [x], h => exact ⟨x, rfl, h.1⟩
theorem part_one {t : TypeId} (ag : Agg P t false) (w : World) (X : List Value) (off : Nat) (xs : List Value) (h : (X.drop off).take 1 = xs) (hl : xs.length = 1) : (part t X.toArray off).run P w = .ok (pack false xs) w := by
 match xs, hl with
 | [x], _ =>
  have hx : X[off]? = some x := by
   have h2 := congrArg (λ l : List Value => l[0]?) h
   simpa [List.getElem?_take, List.getElem?_drop] using h2
  simp [Go.part, ag.h, hx, pack]
theorem EqT.int {t : TypeId} {k : IntKind} (u : Und P t (.int k)) (ag : Agg P t false) : EqT P t 1 [.i k] false where
 ne := by decide
 eq d hd w xs ys hx hy := by
  obtain ⟨x, rfl, h1⟩ := hasK_one hx
  obtain ⟨y, rfl, h2⟩ := hasK_one hy
  obtain ⟨d, rfl⟩ : ∃ d', d = d' + 1 := ⟨d - 1, by omega⟩
  cases x <;> simp only [ckOf] at h1
  cases y <;> simp only [ckOf] at h2
  subst h1; subst h2
  simp [pack, Op.equalIn, run_underlying u.h, cellsEq, cellEq]
 ck d hd e w xs hx := by
  obtain ⟨x, rfl, h1⟩ := hasK_one hx
  obtain ⟨d, rfl⟩ : ∃ d', d = d' + 1 := ⟨d - 1, by omega⟩
  simp [pack, Instr.checkKey, run_underlying u.h]
 part w X off xs h hl := part_one ag w X off xs h hl
theorem EqT.str {t : TypeId} (u : Und P t .string) (ag : Agg P t false) : EqT P t 1 [.s] false where
 ne := by decide
 eq d hd w xs ys hx hy := by
  obtain ⟨x, rfl, h1⟩ := hasK_one hx
  obtain ⟨y, rfl, h2⟩ := hasK_one hy
  obtain ⟨d, rfl⟩ : ∃ d', d = d' + 1 := ⟨d - 1, by omega⟩
  cases x <;> simp only [ckOf] at h1
  cases y <;> simp only [ckOf] at h2
  simp [pack, Op.equalIn, run_underlying u.h, cellsEq, cellEq, beq_str']
 ck d hd e w xs hx := by
  obtain ⟨x, rfl, h1⟩ := hasK_one hx
  obtain ⟨d, rfl⟩ : ∃ d', d = d' + 1 := ⟨d - 1, by omega⟩
  simp [pack, Instr.checkKey, run_underlying u.h]
 part w X off xs h hl := part_one ag w X off xs h hl
theorem EqT.bool {t : TypeId} (u : Und P t .bool) (ag : Agg P t false) : EqT P t 1 [.b] false where
 ne := by decide
 eq d hd w xs ys hx hy := by
  obtain ⟨x, rfl, h1⟩ := hasK_one hx
  obtain ⟨y, rfl, h2⟩ := hasK_one hy
  obtain ⟨d, rfl⟩ : ∃ d', d = d' + 1 := ⟨d - 1, by omega⟩
  cases x <;> simp only [ckOf] at h1
  cases y <;> simp only [ckOf] at h2
  simp [pack, Op.equalIn, run_underlying u.h, cellsEq, cellEq]
 ck d hd e w xs hx := by
  obtain ⟨x, rfl, h1⟩ := hasK_one hx
  obtain ⟨d, rfl⟩ : ∃ d', d = d' + 1 := ⟨d - 1, by omega⟩
  simp [pack, Instr.checkKey, run_underlying u.h]
 part w X off xs h hl := part_one ag w X off xs h hl
theorem EqFs.nil {n off : Nat} : EqFs P n off [] [] where
 eq d hd w X Y xs ys hx hy h1 h2 := by
  cases xs <;> cases ys <;> simp_all [HasK, Op.eqFields, cellsEq]
 ck d hd e w X xs hx h1 := rfl
theorem EqFs.cons {n m off : Nat} {f : Field} {fs : List Field} {kf ks : List CK} {agg : Bool} (ef : EqT P f.type m kf agg) (h : EqFs P n (off + kf.length) fs ks) (hm : m ≤ n := by decide) (ho : f.offset = off := by rfl) (hn : f.name ≠ "_" := by decide) : EqFs P n off (f :: fs) (kf ++ ks) where
 eq d hd w X Y xs ys hx hy h1 h2 := by
  obtain ⟨a1, a2⟩ := h1.split
  obtain ⟨b1, b2⟩ := h2.split
  have l1 := h1.length
  have l2 := h2.length
  rw [List.length_append] at l1 l2
  have e1 := ef.part w X off (xs.take kf.length) (by rw [hx]) a1.length
  have e2 := ef.part w Y off (ys.take kf.length) (by rw [hy]) b1.length
  have e3 := ef.eq d (by omega) w _ _ a1 b1
  have e4 := h.eq d hd w X Y (xs.drop kf.length) (ys.drop kf.length) (by rw [← hx, List.drop_drop]) (by rw [← hy, List.drop_drop]) a2 b2
  simp only [Op.eqFields, hn, ne_eq, not_false_eq_true, if_true, ho, Sem.run_bind, e1, e2, e3, Result.andThen_ok]
  rw [cellsEq_split kf.length (xs := xs) (ys := ys) (by omega) (by omega)]
  cases cellsEq (xs.take kf.length) (ys.take kf.length)
  ·simp
  ·simp only [Bool.not_true, Bool.false_eq_true, if_false, Bool.true_and]; exact e4
 ck d hd e w X xs hx h1 := by
  obtain ⟨a1, a2⟩ := h1.split
  have e1 := ef.part w X off (xs.take kf.length) (by rw [hx]) a1.length
  have e3 := ef.ck d (by omega) e w _ a1
  have e4 := h.ck d hd e w X (xs.drop kf.length) (by rw [← hx, List.drop_drop]) a2
  simp only [ckFields, hn, ne_eq, not_false_eq_true, if_true, ho, Sem.run_bind, e1, e3, Result.andThen_ok]
  exact e4
theorem run_checkKey_struct {t : TypeId} {fs : Array Field} (e : Bool) (d : Nat) (xs : Array Value) (w : World) (ht : P.underlying t = some (.struct fs)) : (Instr.checkKey e (d + 1) t (.agg xs)).run P w = (ckFields e d xs fs.toList).run P w := by
 simp only [Instr.checkKey, Sem.run_bind, run_underlying ht, Result.andThen_ok]
 rw [<- Array.forIn_toList]
 generalize fs.toList = fl
 clear ht
 induction fl generalizing w with
 | nil => simp [ckFields]
 | cons f fl ih =>
  simp only [List.forIn_cons, ckFields, Sem.run_bind, Sem.run_ite]
  split
  ·generalize (part f.type xs f.offset).run P w = r1
   cases r1 with
   | ok a w1 =>
    simp only [Result.andThen_ok]
    generalize (Instr.checkKey e d f.type a).run P w1 = r2
    cases r2 with
    | ok b w2 => simp only [Result.andThen_ok, Sem.run_pure]; exact ih w2
    | halt x w2 => rfl
   | halt x w1 => rfl
  ·simp only [Sem.run_pure, Result.andThen_ok]
   exact ih w
theorem EqFs.more {n m off : Nat} {f : Field} {fs : List Field} {kf ks ks' : List CK} {agg : Bool} (ef : EqT P f.type m kf agg) (h : EqFs P n (off + kf.length) fs ks) (hk : ks' = kf ++ ks := by rfl) (hm : m ≤ n := by decide) (ho : f.offset = off := by rfl) (hn : f.name ≠ "_" := by decide) : EqFs P n off (f :: fs) ks' := by
 subst hk; exact EqFs.cons ef h hm ho hn
theorem EqT.struct {t n : Nat} {fs : Array Field} {ks : List CK} (u : P.underlying t = some (.struct fs)) (hp : P.stoodInHeld t = false) (ag : Agg P t true) (sz : Sz P t ks.length) (h : EqFs P n 0 fs.toList ks) : EqT P t (n + 1) ks true where
 ne := by omega
 eq d hd w xs ys hx hy := by
  obtain ⟨d, rfl⟩ : ∃ d', d = d' + 1 := ⟨d - 1, by omega⟩
  have hf : P.fieldsOf t = fs := by simp [Program.fieldsOf, u]
  have := run_equalIn_struct (P := P) w d t xs.toArray ys.toArray (by rw [hf]; exact u) hp
  rw [hf] at this
  have e := h.eq d (by omega) w xs ys xs ys (by simp) (by simp) hx hy
  rw [e] at this
  exact this
 ck d hd e w xs hx := by
  obtain ⟨d, rfl⟩ : ∃ d', d = d' + 1 := ⟨d - 1, by omega⟩
  have e1 := h.ck d (by omega) e w xs xs (by simp) hx
  have := run_checkKey_struct (P := P) e d xs.toArray w u
  rw [e1] at this
  exact this
 part w X off xs h hl := by
  have : X.toArray.extract off (off + ks.length) = xs.toArray := by
   rw [List.extract_toArray, List.extract_eq_take_drop, <- h]
   congr 2
   omega
  simp only [Go.part, Sem.run_bind, ag.h, Result.andThen_ok, if_true, sz.h, this]
  rfl
class EqG (P : Program) (t : TypeId) : Prop where h : P.eqGuardType P.depth t = false
section
variable {R : Rds} {env : Env} {H : Segs} {ty : TypeId} {x y : Operand} {t u n : Nat} {ks : List CK} {xs ys : List Value}
theorem Quiet.eqA [e : EqT P t n ks true] [g : EqG P t] (hx : ev env x = some (.agg xs.toArray)) (hy : ev env y = some (.agg ys.toArray)) (h1 : HasK ks xs) (h2 : HasK ks ys) (hn : Nat.ble n 10000 = true := by rfl) :
  Quiet P R env H (.binOp .eql t x y u) ty (.bool (cellsEq xs ys)) := λ a w d pos af g' ha _ _ =>
 run_eqlOp (op := .move x) (ha.eval hx) (ha.eval hy) (run_eqGuard_agg w .eql t x y _ _ g.h) rfl (e.eq _ (Nat.le_of_ble_eq_true hn) w xs ys h1 h2)
theorem Quiet.neA [e : EqT P t n ks true] [g : EqG P t] (hx : ev env x = some (.agg xs.toArray)) (hy : ev env y = some (.agg ys.toArray)) (h1 : HasK ks xs) (h2 : HasK ks ys) (hn : Nat.ble n 10000 = true := by rfl) :
  Quiet P R env H (.binOp .neq t x y u) ty (.bool !(cellsEq xs ys)) := λ a w d pos af g' ha _ _ =>
 run_neqOp (op := .move x) (ha.eval hx) (ha.eval hy) (run_eqGuard_agg w .neq t x y _ _ g.h) rfl (e.eq _ (Nat.le_of_ble_eq_true hn) w xs ys h1 h2)
end
end
end
section
variable {κ β : Type} [DecidableEq κ]
def mget (k : κ) : List (κ × β) -> Option β
 | [] => none
 | (k', x) :: r => if k = k' then some x else mget k r
def mset (k : κ) (x : β) : List (κ × β) -> List (κ × β)
 | [] => [(k, x)]
 | (k', y) :: r => if k = k' then (k', x) :: r else (k', y) :: mset k x r
theorem mget_some {k : κ} {x : β} : ∀ {M : List (κ × β)}, mget k M = some x -> (k, x) ∈ M
 | [], h => by cases h
 | (k', y) :: r, h => by
  simp only [mget] at h
  split at h
  ·rename_i he; subst he; simp only [Option.some.injEq] at h; subst h; simp
  ·exact List.mem_cons_of_mem _ (mget_some h)
theorem mget_none {k : κ} : ∀ {M : List (κ × β)}, mget k M = none ↔ k ∉ M.map (·.1)
 | [] => by simp [mget]
 | (k', y) :: r => by
  simp only [mget, List.map_cons, List.mem_cons, not_or]
  split
  ·rename_i he; simp [he]
  ·rename_i he; simp [he, mget_none]
theorem mget_of_mem {k : κ} {x : β} : ∀ {M : List (κ × β)}, (M.map (·.1)).Nodup -> (k, x) ∈ M -> mget k M = some x
 | [], _, h => by simp at h
 | (k', y) :: r, hn, h => by
  simp only [List.map_cons, List.nodup_cons] at hn
  simp only [mget]
  rcases List.mem_cons.1 h with h0 | h0
  ·injection h0 with h1 h2; subst h1; subst h2; simp
  ·split
   ·rename_i he; subst he; exact absurd (List.mem_map.2 ⟨_, h0, rfl⟩) hn.1
   ·exact mget_of_mem hn.2 h0
theorem mset_keys {k : κ} {x : β} : ∀ {M : List (κ × β)}, (mset k x M).map (·.1) = if k ∈ M.map (·.1) then M.map (·.1) else M.map (·.1) ++ [k]
 | [] => by simp [mset]
 | (k', y) :: r => by
  simp only [mset]
  split
  ·rename_i he; subst he; simp
  ·rename_i he
   simp only [List.map_cons, mset_keys, List.mem_cons]
   by_cases h : k ∈ r.map (·.1)
   ·simp [h]
   ·simp [h, he]
theorem mset_nodup {k : κ} {x : β} {M : List (κ × β)} (h : (M.map (·.1)).Nodup) : ((mset k x M).map (·.1)).Nodup := by
 rw [mset_keys]
 split
 ·exact h
 ·rename_i hk
  exact List.nodup_append.2 ⟨h, by simp, λ a ha b hb e => by simp only [List.mem_singleton] at hb; subst hb; subst e; exact hk ha⟩
theorem mget_mset {k k' : κ} {x : β} : ∀ {M : List (κ × β)}, mget k' (mset k x M) = if k' = k then some x else mget k' M
 | [] => by simp [mset, mget]
 | (k1, y) :: r => by
  simp only [mset]
  split
  ·rename_i he; subst he
   simp only [mget]
   split <;> simp_all
  ·rename_i he
   simp only [mget, mget_mset]
   split
   ·rename_i h1; subst h1; rw [if_neg (λ e => he e.symm)]
   ·rfl
def lookE (k : κ) : List κ -> List MapEntry -> Nat -> Option (Nat × Value)
 | k' :: ks, e :: es, i => if k = k' then some (i, e.val) else lookE k ks es (i + 1)
 | _, _, _ => none
class KeyT (P : Program) (kt : TypeId) (encK : κ -> Value) : Prop where
 find : ∀ (k : κ) (es : List MapEntry) (ks : List κ) w, es.map (·.key) = ks.map encK -> (Instr.findKey kt (encK k) es).run P w = .ok (lookE k ks es 0) w
 ck : ∀ e k w, (Instr.checkKey e 10000 kt (encK k)).run P w = .ok () w
 same : ∀ k, Instr.sameBits 10000 (encK k) (encK k) = true
theorem run_findAsking {P : Program} {kt : TypeId} {encK : κ -> Value} (heq : ∀ k k' w, (Op.equal kt (encK k) (encK k')).run P w = .ok (decide (k = k')) w) (k : κ) :
  ∀ (es : List MapEntry) (ks : List κ) (i : Nat) w, es.map (·.key) = ks.map encK -> (Instr.findAsking kt (encK k) es i).run P w = .ok (lookE k ks es i) w
 | [], ks, i, w, h => by
  cases ks with
  | nil => rfl
  | cons _ _ => simp at h
 | e :: es, [], i, w, h => by simp at h
 | e :: es, k' :: ks, i, w, h => by
  simp only [List.map_cons, List.cons.injEq] at h
  simp only [Instr.findAsking, Sem.run_bind, h.1, heq, Result.andThen_ok, lookE]
  by_cases hk : k = k'
  ·simp [hk]
  ·simp only [hk, decide_false, Bool.false_eq_true, if_false]
   exact run_findAsking heq k es ks (i + 1) w h.2
theorem findNow_scalar {d : TypeDesc} {encK : κ -> Value} (hs : ∀ k k', Instr.sameNow d (encK k) (encK k') = some (decide (k = k'))) (k : κ) :
  ∀ (es : List MapEntry) (ks : List κ) (i : Nat), es.map (·.key) = ks.map encK -> Instr.findNow d (encK k) es i = some (lookE k ks es i)
 | [], ks, i, h => by
  cases ks with
  | nil => rfl
  | cons _ _ => simp at h
 | e :: es, [], i, h => by simp at h
 | e :: es, k' :: ks, i, h => by
  simp only [List.map_cons, List.cons.injEq] at h
  simp only [Instr.findNow, h.1, hs, lookE]
  by_cases hk : k = k'
  ·simp [hk]
  ·simp only [hk, decide_false, if_false]
   exact findNow_scalar hs k es ks (i + 1) h.2
theorem sameBits_cells {ks : List CK} : ∀ {xs : List Value}, HasK ks xs -> ∀ x ∈ xs, Instr.sameBits 9999 x x = true := by
 induction ks with
 | nil => intro xs h x hx; cases xs <;> simp_all [HasK]
 | cons k ks ih =>
  intro xs h x hx
  cases xs with
  | nil => simp at hx
  | cons y ys =>
   rcases List.mem_cons.1 hx with rfl | hx
   ·have := h.1
    cases k <;> cases x <;> first | exact this.elim | simp [Instr.sameBits, beq_str']
   ·exact ih h.2 x hx
theorem KeyT.agg {P : Program} {kt n : Nat} {ks : List CK} {encL : κ -> List Value} (e : EqT P kt n ks true) {fs : Array Field} (u : P.underlying kt = some (.struct fs)) (hn : Nat.ble n 10000 = true) (hk : ∀ k, HasK ks (encL k)) (hd : ∀ k k', cellsEq (encL k) (encL k') = decide (k = k')) : KeyT P kt (λ k : κ => .agg (encL k).toArray) where
 find k es ks' w h := by
  have heq : ∀ (k k' : κ) w, (Op.equal kt (.agg (encL k).toArray) (.agg (encL k').toArray)).run P w = .ok (decide (k = k')) w := λ k k' w => by
   rw [<- hd]; exact e.eq 10000 (Nat.le_of_ble_eq_true hn) w _ _ (hk k) (hk k')
  have h1 := run_findAsking heq k es ks' 0 w h
  simp only [Instr.findKey, Sem.run_bind, run_underlying u, Result.andThen_ok]
  cases es with
  | nil =>
   cases ks' with
   | nil => rfl
   | cons _ _ => simp at h
  | cons e es =>
   have : Instr.findNow (.struct fs) (.agg (encL k).toArray) (e :: es) 0 = none := rfl
   rw [this]
   exact h1
 ck em k w := e.ck 10000 (Nat.le_of_ble_eq_true hn) em w _ (hk k)
 same k := by
  have h := sameBits_cells (hk k)
  show ((encL k).toArray.size == (encL k).toArray.size && ((encL k).toArray.toList.zip (encL k).toArray.toList).all λ (x, y) => Instr.sameBits 9999 x y) = true
  simp only [beq_self_eq_true, Bool.true_and]
  rw [List.all_eq_true]
  intro p hp
  have : p.1 = p.2 /\ p.1 ∈ encL k := by
   have h2 := List.of_mem_zip hp
   have h3 : p.1 = p.2 := by
    obtain ⟨i, hi, rfl⟩ := List.mem_iff_getElem.1 hp
    simp
   exact ⟨h3, by simpa using h2.1⟩
  obtain ⟨x, y⟩ := p
  simp only at this ⊢
  obtain ⟨rfl, hx⟩ := this
  exact h x hx
theorem KeyT.str {P : Program} {kt : Nat} (u : Und P kt .string) (ag : Agg P kt false) : KeyT P kt (λ s : ByteArray => .string s) where
 find k es ks w h := by
  have := findNow_scalar (d := .string) (encK := λ s : ByteArray => Value.string s) (λ k k' => by simp [Instr.sameNow, beq_str']) k es ks 0 h
  simp only [Instr.findKey, Sem.run_bind, run_underlying u.h, Result.andThen_ok, this]
  rfl
 ck em k w := (EqT.str u ag).ck 10000 (by decide) em w [.string k] ⟨trivial, trivial⟩
 same k := by simp [Instr.sameBits, beq_str']
theorem KeyT.int {P : Program} {kt : Nat} {q : IntKind} (u : Und P kt (.int q)) (ag : Agg P kt false) : KeyT P kt (λ s : Int => .int q s) where
 find k es ks w h := by
  have := findNow_scalar (d := .int q) (encK := λ s : Int => Value.int q s) (λ k k' => by simp [Instr.sameNow]; rfl) k es ks 0 h
  simp only [Instr.findKey, Sem.run_bind, run_underlying u.h, Result.andThen_ok, this]
  rfl
 ck em k w := (EqT.int u ag).ck 10000 (by decide) em w [.int q k] ⟨rfl, trivial⟩
 same k := by simp [Instr.sameBits]
def Ents (encK : κ -> Value) (encV : β -> Value) (es : List MapEntry) (M : List (κ × β)) : Prop := es.map (λ e => (e.key, e.val)) = M.map λ p => (encK p.1, encV p.2)
omit [DecidableEq κ] in
theorem Ents.keys {encK : κ -> Value} {encV : β -> Value} {es : List MapEntry} {M : List (κ × β)} (h : Ents encK encV es M) : es.map (·.key) = (M.map (·.1)).map encK := by
 have := congrArg (List.map Prod.fst) h
 simpa [Function.comp_def] using this
omit [DecidableEq κ] in
theorem Ents.length {encK : κ -> Value} {encV : β -> Value} {es : List MapEntry} {M : List (κ × β)} (h : Ents encK encV es M) : es.length = M.length := by
 have := congrArg List.length h
 simpa using this
theorem look_get {encK : κ -> Value} {encV : β -> Value} (k : κ) : ∀ {es : List MapEntry} {M : List (κ × β)} (i : Nat), Ents encK encV es M ->
  (lookE k (M.map (·.1)) es i).map (·.2) = (mget k M).map encV
 | [], [], _, _ => rfl
 | [], _ :: _, _, h => by simp [Ents] at h
 | _ :: _, [], _, h => by simp [Ents] at h
 | e :: es, (k', x) :: M, i, h => by
  simp only [Ents, List.map_cons, List.cons.injEq, Prod.mk.injEq] at h
  simp only [List.map_cons, lookE, mget]
  split
  ·simp [h.1.2]
  ·exact look_get k (i + 1) h.2
structure MapOK (encK : κ -> Value) (encV : β -> Value) (es : Array MapEntry) (clock : Nat) (M : List (κ × β)) : Prop where
 ents : Ents encK encV es.toList M
 nd : (M.map (·.1)).Nodup
 born : ∀ e ∈ es.toList, e.born < clock
 bnd : (es.toList.map (·.born)).Nodup
def RM (R : Rds) (encK : κ -> Value) (encV : β -> Value) (m : Value) (M : List (κ × β)) : Prop := ∃ b es clock, m = .map (some b) /\ R b (.map es clock) /\ MapOK encK encV es clock M
def MS (encK : κ -> Value) (encV : β -> Value) (m : Value) (M : List (κ × β)) (T : Seg) : Prop := ∃ b es clock, m = .map (some b) /\ T = [(b, .map es clock)] /\ MapOK encK encV es clock M
omit [DecidableEq κ] in
theorem MS.rm {R : Rds} {encK : κ -> Value} {encV : β -> Value} {m : Value} {M : List (κ × β)} {T : Seg} (h : MS encK encV m M T) (hr : ∀ p ∈ T, R p.1 p.2) : RM R encK encV m M := by
 obtain ⟨b, es, clock, h1, rfl, h3⟩ := h
 exact ⟨b, es, clock, h1, hr (b, _) (by simp), h3⟩
omit [DecidableEq κ] in
theorem MS.rx {R : Rds} {H : Segs} {encK : κ -> Value} {encV : β -> Value} {m : Value} {M : List (κ × β)} {T : Seg} {upd : Seg -> Segs} (h : MS encK encV m M T) [s : SegAt H T upd] : RM (Rx R H) encK encV m M := h.rm λ p hp => .inr (s.mem p hp)
omit [DecidableEq κ] in
theorem RM.mono {R R' : Rds} {encK : κ -> Value} {encV : β -> Value} {m : Value} {M : List (κ × β)} (h : RM R encK encV m M) (hr : ∀ b o, R b o -> R' b o) : RM R' encK encV m M := by
 obtain ⟨b, es, clock, h1, h2, h3⟩ := h
 exact ⟨b, es, clock, h1, hr _ _ h2, h3⟩
omit [DecidableEq κ] in
theorem MS.nil {encK : κ -> Value} {encV : β -> Value} {b : Nat} : MS encK encV (.map (some b)) ([] : List (κ × β)) [(b, .map #[] 0)] :=
 ⟨b, #[], 0, rfl, rfl, ⟨by simp [Ents], by simp, by simp, by simp⟩⟩
omit [DecidableEq κ] in
theorem MS.one {encK : κ -> Value} {encV : β -> Value} {m : Value} {M : List (κ × β)} {T : Seg} (h : MS encK encV m M T) : One m := ⟨by obtain ⟨b, es, clock, rfl, _⟩ := h; rfl⟩
omit [DecidableEq κ] in
theorem RM.one {R : Rds} {encK : κ -> Value} {encV : β -> Value} {m : Value} {M : List (κ × β)} (h : RM R encK encV m M) : One m := ⟨by obtain ⟨b, es, clock, rfl, _⟩ := h; rfl⟩
omit [DecidableEq κ] in
theorem MS.nd {encK : κ -> Value} {encV : β -> Value} {m : Value} {M : List (κ × β)} {T : Seg} (h : MS encK encV m M T) : (M.map (·.1)).Nodup := by obtain ⟨b, es, clock, _, _, h3⟩ := h; exact h3.nd
omit [DecidableEq κ] in
theorem RM.nd {R : Rds} {encK : κ -> Value} {encV : β -> Value} {m : Value} {M : List (κ × β)} (h : RM R encK encV m M) : (M.map (·.1)).Nodup := by obtain ⟨b, es, clock, _, _, h3⟩ := h; exact h3.nd
theorem run_getMap {P : Program} {b : Nat} {es : Array MapEntry} {clock : Nat} {w : World} (h : w.heap[b]? = some (.map es clock)) : (getObj b).run P w = .ok (.map es clock) w := by
 simp [getObj, Sem.run, h]
theorem run_setMap {P : Program} {b : Nat} {es : Array MapEntry} {clock : Nat} {o : Obj} {w : World} (h : w.heap[b]? = some (.map es clock)) : (setObj b o).run P w = .ok () (setO w b o) := by
 simp [setObj, Sem.run, h, setO]
theorem lookE_none {k : κ} : ∀ {ks : List κ} {es : List MapEntry} {i : Nat}, ks.length = es.length -> (lookE k ks es i = none ↔ k ∉ ks)
 | [], es, i, h => by simp [lookE]
 | k' :: ks, [], i, h => by simp at h
 | k' :: ks, e :: es, i, h => by
  simp only [List.length_cons, Nat.add_right_cancel_iff] at h
  simp only [lookE, List.mem_cons, not_or]
  split
  ·rename_i he; simp [he]
  ·rename_i he; rw [lookE_none h]; simp [he]
theorem lookE_some {k : κ} : ∀ {ks : List κ} {es : List MapEntry} {i j : Nat} {v : Value}, lookE k ks es i = some (j, v) -> i <= j /\ ks[j - i]? = some k /\ ∃ e, es[j - i]? = some e /\ e.val = v
 | [], es, i, j, v, h => by simp [lookE] at h
 | k' :: ks, [], i, j, v, h => by simp [lookE] at h
 | k' :: ks, e :: es, i, j, v, h => by
  simp only [lookE] at h
  split at h
  ·rename_i he
   simp only [Option.some.injEq, Prod.mk.injEq] at h
   obtain ⟨rfl, rfl⟩ := h
   simp [he]
  ·have := lookE_some h
   have e1 : j - i = (j - (i + 1)) + 1 := by omega
   rw [e1]
   exact ⟨by omega, by simpa using this.2.1, by simpa using this.2.2⟩
theorem mset_get {k : κ} {x : β} : ∀ {M : List (κ × β)} {j : Nat}, (M.map (·.1)).Nodup -> (M.map (·.1))[j]? = some k -> mset k x M = M.set j (k, x)
 | [], j, _, h => by simp at h
 | (k', y) :: r, 0, hn, h => by
  simp at h; subst h; simp [mset]
 | (k', y) :: r, j + 1, hn, h => by
  simp only [List.map_cons, List.nodup_cons] at hn
  simp only [List.map_cons, List.getElem?_cons_succ] at h
  have hne : k ≠ k' := λ e => hn.1 (e ▸ List.mem_of_getElem? h)
  simp only [mset, if_neg hne, List.set_cons_succ, mset_get hn.2 h]
theorem mset_new {k : κ} {x : β} : ∀ {M : List (κ × β)}, k ∉ M.map (·.1) -> mset k x M = M ++ [(k, x)]
 | [], _ => rfl
 | (k', y) :: r, h => by
  simp only [List.map_cons, List.mem_cons, not_or] at h
  simp only [mset, if_neg h.1, mset_new h.2, List.cons_append]
theorem MapOK.find {P : Program} {kt : Nat} {encK : κ -> Value} {encV : β -> Value} {es : Array MapEntry} {clock : Nat} {M : List (κ × β)} (h : MapOK encK encV es clock M) [kk : KeyT P kt encK] (k : κ) (w : World) :
    ∃ r, (Instr.findKey kt (encK k) es.toList).run P w = .ok r w /\ r.map (·.2) = (mget k M).map encV /\
      (match r with
       | none => k ∉ M.map (·.1)
       | some (j, _) => (M.map (·.1))[j]? = some k /\ ∃ e, es[j]? = some e /\ e.key = encK k) := by
  refine ⟨_, kk.find k es.toList (M.map (·.1)) w h.ents.keys, look_get k 0 h.ents, ?_⟩
  cases hl : lookE k (M.map (·.1)) es.toList 0 with
  | none => exact (lookE_none (by rw [List.length_map, h.ents.length])).1 hl
  | some jv =>
    obtain ⟨j, v⟩ := jv
    obtain ⟨_, h2, e, h3, _⟩ := lookE_some hl
    simp only [Nat.sub_zero] at h2 h3
    refine ⟨h2, e, by simpa using h3, ?_⟩
    have h4 := congrArg (λ l : List Value => l[j]?) h.ents.keys
    simp only [List.getElem?_map, h3, Option.map_some] at h4
    rw [<- List.getElem?_map, h2] at h4
    simpa using h4
theorem MapOK.update {encK : κ -> Value} {encV : β -> Value} {es : Array MapEntry} {clock : Nat} {M : List (κ × β)} (h : MapOK encK encV es clock M) {k : κ} {j : Nat} (x : β) (hj : (M.map (·.1))[j]? = some k) :
  MapOK encK encV (es.modify j λ e => { e with key := encK k, val := encV x }) clock (mset k x M) := by
 have hl : (es.modify j λ e => { e with key := encK k, val := encV x }).toList = es.toList.modify j λ e => { e with key := encK k, val := encV x } := by
  apply List.ext_getElem?; intro i
  simp [List.getElem?_modify]
 have hb : (es.toList.modify j λ e => { e with key := encK k, val := encV x }).map (·.born) = es.toList.map (·.born) := by
  apply List.ext_getElem?; intro i
  simp only [List.getElem?_map, List.getElem?_modify]
  split <;> simp [Function.comp_def]
 refine ⟨?_, mset_nodup h.nd, ?_, ?_⟩
 ·rw [hl, mset_get h.nd hj]
  unfold Ents
  have := h.ents
  unfold Ents at this
  apply List.ext_getElem?; intro i
  have hi := congrArg (λ l : List (Value × Value) => l[i]?) this
  simp only [List.getElem?_map] at hi
  simp only [List.getElem?_map, List.getElem?_modify, List.getElem?_set]
  by_cases hij : j = i
  ·subst hij
   have hlt : j < M.length := by
    have := (List.getElem?_eq_some_iff.1 hj).1
    simpa using this
   simp only [if_true, hlt, Option.map_some]
   cases he : es.toList[j]? with
   | none =>
    have := List.getElem?_eq_none_iff.1 he
    rw [h.ents.length] at this
    omega
   | some e => rfl
  ·rw [if_neg hij, <- hi]
   cases es.toList[i]? <;> simp [hij]
 ·intro e he
  rw [hl] at he
  have h2 : e.born ∈ (es.toList.modify j λ e => { e with key := encK k, val := encV x }).map (·.born) := List.mem_map_of_mem he
  rw [hb] at h2
  obtain ⟨e', he', hbe⟩ := List.mem_map.1 h2
  rw [<- hbe]; exact h.born e' he'
 ·rw [hl, hb]; exact h.bnd
theorem MapOK.insert {encK : κ -> Value} {encV : β -> Value} {es : Array MapEntry} {clock : Nat} {M : List (κ × β)} (h : MapOK encK encV es clock M) {k : κ} (x : β) (hk : k ∉ M.map (·.1)) :
  MapOK encK encV (es.push { key := encK k, val := encV x, born := clock }) (clock + 1) (mset k x M) := by
 refine ⟨?_, mset_nodup h.nd, ?_, ?_⟩
 ·have := h.ents
  unfold Ents at this ⊢
  rw [mset_new hk]
  simp [this]
 ·intro e he
  simp only [Array.toList_push, List.mem_append, List.mem_singleton] at he
  rcases he with he | rfl
  ·have := h.born e he; omega
  ·simp
 ·simp only [Array.toList_push, List.map_append, List.map_cons, List.map_nil]
  refine List.nodup_append.2 ⟨h.bnd, by simp, ?_⟩
  intro a ha b hb e
  simp only [List.mem_singleton] at hb
  obtain ⟨e', he', rfl⟩ := List.mem_map.1 ha
  have := h.born e' he'
  omega
end
section
variable {κ β : Type} [DecidableEq κ]
def It (Rd : Rds) (encK : κ -> Value) (encV : β -> Value) (m : Value) (M : List (κ × β)) (it : Value) (todo : List κ) (Ti : Seg) : Prop :=
 ∃ b es clock r seen, m = .map (some b) /\ Rd b (.map es clock) /\ MapOK encK encV es clock M /\ it = .pointer (some ⟨r, 0, none⟩) /\ Ti = [(r, .mapIter (some b) clock seen clock)] /\
  todo = ((es.toList.zip M).filter λ p => !seen.contains p.1.born).map (·.2.1)
section
variable {P : Program} {N : Nat} {R : Rds} {ops : Array Oper} {l : List Oper} {env : Env} {H : Segs} {K : Env -> Segs -> Prop} {ty : TypeId} {pos : String} {af : Array Edge} {m : Bool}
variable {encK : κ -> Value} {encV : β -> Value} {mp : Value} {M : List (κ × β)} {T : Seg} {upd : Seg -> Segs}
theorem rx_in {w : World} (s : Sat w H) (r : RO w R H) : ∀ b o, Rx R H b o -> w.heap[b]? = some o := λ b o h => by
 rcases h with h | h
 ·exact (r b o h).1
 ·exact s.2 _ h
theorem run_lookup {x k : Value} {kt et t : TypeId} {z : Value} {key : κ} {w : World} {ok : Bool} {b : Nat} {es : Array MapEntry} {clock : Nat} (ut : Und P t (.map kt et)) (kk : KeyT P kt encK) (zr : Zr P et z) (hb : w.heap[b]? = some (.map es clock)) (h : MapOK encK encV es clock M) :
  (Instr.lookup t (.map (some b)) (encK key) ok).run P w = .ok (if ok then .tuple #[((mget key M).map encV).getD z, .bool (mget key M).isSome] else ((mget key M).map encV).getD z) w := by
 obtain ⟨r, h1, h2, h3⟩ := h.find (P := P) (kt := kt) key w
 unfold Instr.lookup
 simp only [Sem.run_bind, run_underlying ut.h, Result.andThen_ok, run_getMap hb, kk.ck, h1, Sem.run_pure]
 cases r with
 | none =>
  simp only [Option.map_none] at h2
  have h4 : mget key M = none := by simpa using h2.symm
  simp [h4, zr.h]
 | some jv =>
  obtain ⟨j, v⟩ := jv
  simp only [Option.map_some] at h2
  rw [<- h2]
  have h4 : (mget key M).isSome = true := by
   have := congrArg Option.isSome h2
   simpa using this.symm
  simp [h4]
theorem Quiet.lookup2 {x y : Operand} {t kt et : TypeId} {z : Value} {key : κ} (h : RM (Rx R H) encK encV mp M) (hx : ev env x = some mp) (hy : ev env y = some (encK key)) [ut : Und P t (.map kt et)] [kk : KeyT P kt encK] [zr : Zr P et z] :
  Quiet P R env H (.lookup t x y true) ty (.tuple [((mget key M).map encV).getD z, .bool (mget key M).isSome].toArray) := λ a w d pos af g ha s ro => by
 obtain ⟨b, es, clock, rfl, h2, h3⟩ := h
 have := run_lookup (P := P) (x := .nilFunc) (k := .nilFunc) (t := t) (ok := true) (key := key) ut kk zr (rx_in s ro _ _ h2) h3
 simp [execOp, ha.eval hx, ha.eval hy, this]
theorem Quiet.lookup1 {x y : Operand} {t kt et : TypeId} {z : Value} {key : κ} (h : RM (Rx R H) encK encV mp M) (hx : ev env x = some mp) (hy : ev env y = some (encK key)) [ut : Und P t (.map kt et)] [kk : KeyT P kt encK] [zr : Zr P et z] :
  Quiet P R env H (.lookup t x y false) ty (((mget key M).map encV).getD z) := λ a w d pos af g ha s ro => by
 obtain ⟨b, es, clock, rfl, h2, h3⟩ := h
 have := run_lookup (P := P) (x := .nilFunc) (k := .nilFunc) (t := t) (ok := false) (key := key) ut kk zr (rx_in s ro _ _ h2) h3
 simp [execOp, ha.eval hx, ha.eval hy, this]
omit [DecidableEq κ] in
theorem Quiet.lenM {x : Operand} {t kt et : TypeId} (h : RM (Rx R H) encK encV mp M) (hx : ev env x = some mp) [ut : Und P t (.map kt et)] : Quiet P R env H (.call ⟨.builtin .len, #[x], #[t]⟩) ty (.int .i64 M.length) := λ a w d pos af g ha s ro => by
 obtain ⟨b, es, clock, rfl, h2, h3⟩ := h
 have hl := h3.ents.length
 have hl' : es.size = M.length := by simpa using hl
 simp [execOp, resolve, ha.eval hx, invoke, builtin, Builtin.len_, run_underlying ut.h, run_getMap (rx_in s ro _ _ h2), goInt, hl']
theorem setO_seg {w : World} {H1 H2 : Segs} {b : Nat} {o o' : Obj} (s : Sat w (H1 ++ [(b, o)] :: H2)) : Frame w (H1 ++ [(b, o)] :: H2) (setO w b o') (H1 ++ [(b, o')] :: H2) /\ Sat (setO w b o') (H1 ++ [(b, o')] :: H2) :=
 ⟨Frame.set (T1 := []) (T2 := []), Sat.set (T1 := []) (T2 := []) s⟩
omit [DecidableEq κ] in
theorem it_update {b : Nat} {es es' : Array MapEntry} {clock : Nat} {M' : List (κ × β)} (hm : MapOK encK encV es clock M) (hm' : MapOK encK encV es' clock M') (hb : es'.toList.map (·.born) = es.toList.map (·.born)) (hk : M'.map (·.1) = M.map (·.1)) {it : Value} {todo : List κ} {Ti : Seg}
  (h : It (sg [(b, .map es clock)]) encK encV (.map (some b)) M it todo Ti) : It (sg [(b, .map es' clock)]) encK encV (.map (some b)) M' it todo Ti := by
 obtain ⟨b', e0, c0, r, seen, h1, h2, h3, h4, h5, h6⟩ := h
 simp only [sg, List.mem_singleton, Prod.mk.injEq, Obj.map.injEq] at h2
 obtain ⟨rfl, rfl, rfl⟩ := h2
 refine ⟨b', es', c0, r, seen, h1, by simp [sg], hm', h4, h5, ?_⟩
 rw [h6]
 have key : ∀ (e e' : List MapEntry) (N N' : List (κ × β)), e'.map (·.born) = e.map (·.born) -> N'.map (·.1) = N.map (·.1) -> e.length = N.length ->
   ((e.zip N).filter λ p => !seen.contains p.1.born).map (·.2.1) = ((e'.zip N').filter λ p => !seen.contains p.1.born).map (·.2.1) := by
  intro e
  induction e with
  | nil => intro e' N N' h1 h2 h3; cases e' <;> simp_all
  | cons a e ih =>
   intro e' N N' h1 h2 h3
   cases e' with
   | nil => simp at h1
   | cons a' e' => cases N with
    | nil => simp at h3
    | cons p N => cases N' with
     | nil => simp at h2
     | cons p' N' =>
      simp only [List.map_cons, List.cons.injEq] at h1 h2
      simp only [List.length_cons, Nat.add_right_cancel_iff] at h3
      have := ih e' N N' h1.2 h2.2 h3
      simp only [List.zip_cons_cons, List.filter_cons, h1.1]
      split
      ·simp only [List.map_cons, this, h2.1]
      ·exact this
 exact key _ _ _ _ hb hk (hm.ents.length)
theorem run_update {P : Program} {kt et t : TypeId} {key : κ} {x : β} {w : World} {b : Nat} {es : Array MapEntry} {clock : Nat} (ut : Und P t (.map kt et)) (kk : KeyT P kt encK) (hb : w.heap[b]? = some (.map es clock)) (h : MapOK encK encV es clock M) :
  ∃ es' clock', (Instr.mapUpdate t (.map (some b)) (encK key) (encV x)).run P w = .ok () (setO w b (.map es' clock')) /\ MapOK encK encV es' clock' (mset key x M) /\
   (key ∈ M.map (·.1) -> clock' = clock /\ es'.toList.map (·.born) = es.toList.map (·.born)) := by
 obtain ⟨r, h1, h2, h3⟩ := h.find (P := P) (kt := kt) key w
 cases r with
 | none =>
  refine ⟨_, _, ?_, h.insert x h3, λ hk => absurd hk h3⟩
  unfold Instr.mapUpdate
  simp only [Sem.run_bind, run_underlying ut.h, Result.andThen_ok, run_getMap hb, kk.ck, h1, run_setMap hb]
 | some jv =>
  obtain ⟨j, v⟩ := jv
  obtain ⟨h4, e, h5, h6⟩ := h3
  refine ⟨_, _, ?_, h.update x h4, λ _ => ⟨rfl, ?_⟩⟩
  ·unfold Instr.mapUpdate
   simp only [Sem.run_bind, run_underlying ut.h, Result.andThen_ok, run_getMap hb, kk.ck, h1, h5, Option.map_some, Option.getD_some, h6]
   have : (Instr.keyThatStays (encK key) (encK key)).run P w = .ok (encK key) w := by
    unfold Instr.keyThatStays
    rw [kk.same]; rfl
   rw [this]
   simp only [Result.andThen_ok, run_setMap hb]
  ·apply List.ext_getElem?; intro i
   simp only [List.getElem?_map, Array.getElem?_toList, Array.getElem?_modify]
   split
   ·rename_i hi; subst hi; cases es[j]? <;> simp
   ·rfl
theorem TriOps.update {t kt et : TypeId} {x y z : Operand} {key : κ} {u : β} (h : MS encK encV mp M T) [sa : SegAt H T upd] [ut : Und P t (.map kt et)] [kk : KeyT P kt encK] (hx : ev env x = some mp) (hy : ev env y = some (encK key)) (hz : ev env z = some (encV u))
  (hn : ∀ T', MS encK encV mp (mset key u M) T' -> (key ∈ M.map (·.1) -> ∀ it todo Ti, It (sg T) encK encV mp M it todo Ti -> It (sg T') encK encV mp (mset key u M) it todo Ti) -> TriOps false P N R ops l env (upd T') K) :
  TriOps false P N R ops (⟨none, .mapUpdate t x y z, ty, pos, af, none⟩ :: l) env H K :=
 TriOps.eff0 λ a w ha s ro => by
  obtain ⟨b, es, clock, rfl, rfl, h3⟩ := h
  obtain ⟨H1, H2, e1, e2⟩ := sa.h
  subst e1
  have hb : w.heap[b]? = some (.map es clock) := s.2 (b, _) (by simp)
  obtain ⟨es', clock', hr, hm, hi⟩ := run_update (P := P) (key := key) (x := u) ut kk hb h3
  obtain ⟨f, s'⟩ := setO_seg (o' := .map es' clock') s
  refine ⟨_, upd [(b, .map es' clock')], .inl ?_, by rw [e2]; exact f, by rw [e2]; exact s', hn _ ⟨b, es', clock', rfl, rfl, hm⟩ λ hk it todo Ti hit => ?_⟩
  ·simp [execOp, ha.eval hx, ha.eval hy, ha.eval hz, hr]
  ·obtain ⟨hc, hbn⟩ := hi hk
   subst hc
   exact it_update h3 hm hbn (by rw [mset_keys, if_pos hk]) hit
omit [DecidableEq κ] in
theorem TriOps.range {d : Nat} {x : Operand} {t kt et : TypeId} {Rd : Rds} (h : RM Rd encK encV mp M) (hrd : ∀ b o, Rd b o -> Rx R H b o) (hx : ev env x = some mp) [ut : Und P t (.map kt et)]
  (hn : ∀ it Ti, It Rd encK encV mp M it (M.map (·.1)) Ti -> TriOps false P N R ops l ((d, it) :: env) (Ti :: H) K) (hd : Nat.blt d N = true := by rfl) :
  TriOps false P N R ops (⟨some d, .range t x, ty, pos, af, none⟩ :: l) env H K :=
 TriOps.eff hd λ a w ha s ro => by
  obtain ⟨b, es, clock, rfl, h2, h3⟩ := h
  have hb := rx_in s ro _ _ (hrd _ _ h2)
  refine ⟨.pointer (some ⟨w.heap.size, 0, none⟩), w.alloc (.mapIter (some b) clock #[] clock), _, ?_, Frame.alloc w H _, Sat.alloc s _, hn _ _ ⟨b, es, clock, w.heap.size, #[], rfl, h2, h3, rfl, rfl, ?_⟩⟩
  ·simp [execOp, ha.eval hx, Instr.range, run_underlying ut.h, run_getMap hb, newObj, Sem.run]
  ·have hf : (es.toList.zip M).filter (λ p => !(#[] : Array Nat).contains p.1.born) = es.toList.zip M := by
    rw [List.filter_eq_self]; intro p _; simp
   rw [hf]
   have hl := h3.ents.length
   have : (es.toList.zip M).map (·.2) = M := List.map_snd_zip (by omega)
   have h7 := congrArg (List.map (·.1)) this
   rw [List.map_map] at h7
   exact h7.symm
end
end
section
def marked (n : Nat) : List Nat -> Array Bool
 | [] => Array.replicate n false
 | i :: d => (marked n d).setIfInBounds i true
def RAq (Q' : Act -> World -> Prop) : Exit -> Act -> World -> Prop
 | .normal, a, w => Q' a w
 | _, _, _ => False
structure Clo (ops : Array Oper) (listed : Array Bool) : Prop where
 size : listed.size = ops.size
 cl : ∀ j oj, ops[j]? = some oj -> listed.getD j false = true -> ∀ e ∈ oj.after, Region.binds .any e = true -> listed.getD e.on false = true
theorem Clo.set {ops : Array Oper} {listed : Array Bool} {i : Nat} (h : Clo ops listed) (hi : i ∈ Region.ready .any ops listed) : Clo ops (listed.setIfInBounds i true) := by
 obtain ⟨_, oi, hoi, hall⟩ := mem_ready.1 hi
 refine ⟨by simp [h.size], λ j oj hj hl e he hb => ?_⟩
 by_cases hij : i = j
 ·subst hij
  have : oj = oi := Option.some.inj (hj.symm.trans hoi)
  subst this
  exact getD_set_true (hall e he hb)
 ·rw [getD_set_ne false hij] at hl
  exact getD_set_true (h.cl j oj hj hl e he hb)
def waitsT (ops : Array Oper) : Nat -> Nat -> Nat -> Bool
 | 0, _, _ => false
 | f + 1, k, i => match ops[k]? with
  | some o => o.after.any λ e => Region.binds .any e && (Nat.beq e.on i || waitsT ops f e.on i)
  | none => false
theorem Clo.waits {ops : Array Oper} {listed : Array Bool} (h : Clo ops listed) {i : Nat} : ∀ (f k : Nat), waitsT ops f k i = true -> listed.getD k false = true -> listed.getD i false = true
 | 0, k, hw, _ => by simp [waitsT] at hw
 | f + 1, k, hw, hk => by
  unfold waitsT at hw
  cases ho : ops[k]? with
  | none => simp [ho] at hw
  | some o =>
   simp only [ho] at hw
   obtain ⟨e, he, h1⟩ := Array.any_eq_true'.1 hw
   simp only [Bool.and_eq_true, Bool.or_eq_true] at h1
   have h2 := h.cl k o ho hk e he h1.1
   rcases h1.2 with h3 | h3
   ·rwa [Nat.eq_of_beq_eq_true h3] at h2
   ·exact h.waits f e.on h3 h2
def Sup (listed listed' : Array Bool) : Prop := ∀ j, listed.getD j false = true -> listed'.getD j false = true
def wpAnyG (P : Program) (ops : Array Oper) (Q : Exit -> Act -> World -> Prop) (S : Array Bool -> World -> Prop) : Nat -> Array Bool -> Act -> World -> Prop
 | 0, listed, a, w => Region.ready .any ops listed = [] /\ Q .normal a w
 | fuel + 1, listed, a, w =>
  (Region.ready .any ops listed = [] -> Q .normal a w) /\
  ∀ i ∈ Region.ready .any ops listed, wpOp P ops Q i (λ a' w' => S (listed.setIfInBounds i true) w' /\ wpAnyG P ops Q S fuel (listed.setIfInBounds i true) a' w') a w
theorem wpAny_of_G {P : Program} {ops : Array Oper} {Q : Exit -> Act -> World -> Prop} {S : Array Bool -> World -> Prop} : ∀ (fuel : Nat) (listed : Array Bool) (a : Act) (w : World), wpAnyG P ops Q S fuel listed a w -> wpAny P .any ops Q fuel listed a w
 | 0, _, _, _, h => h
 | fuel + 1, _, _, _, h => ⟨h.1, λ i hi => wpOp_mono (λ a' w' h' => wpAny_of_G fuel _ a' w' h'.2) (h.2 i hi)⟩
def YieldsG (P : Program) (ops : Array Oper) (S : Array Bool -> World -> Prop) (listed : Array Bool) (i : Nat) (o : Oper) (v : Value) (a : Act) : Prop :=
 (Region.wanted o (yielded ops a.tmps) = true /\ ∀ l', Sup listed l' -> Clo ops l' -> l'.getD i true = false -> ∀ w, S l' w -> (execOp a.eval o).run P w = .ok (.value v) w) \/
 (Region.wanted o (yielded ops a.tmps) = false /\ v = undef)
section
variable {P : Program} {ops : Array Oper} {Q : Exit -> Act -> World -> Prop} {S : Array Bool -> World -> Prop}
theorem YieldsG.sup {listed l' : Array Bool} {i : Nat} {o : Oper} {v : Value} {a : Act} (h : YieldsG P ops S listed i o v a) (hs : Sup listed l') : YieldsG P ops S l' i o v a :=
 h.imp (λ ⟨h1, h2⟩ => ⟨h1, λ l2 hl hc hi w hw => h2 l2 (λ j hj => hl j (hs j hj)) hc hi w hw⟩) id
theorem YieldsG.of_same {listed : Array Bool} {i : Nat} {o : Oper} {v : Value} {a a' : Act} (hy : YieldsG P ops S listed i o v a) (he : execOp a'.eval o = execOp a.eval o)
  (hw : Region.wanted o (yielded ops a'.tmps) = Region.wanted o (yielded ops a.tmps)) : YieldsG P ops S listed i o v a' := by
 unfold YieldsG at *
 rw [he, hw]
 exact hy
theorem YieldsG.wpOp {i : Nat} {o : Oper} {v : Value} {a : Act} {listed : Array Bool} (hi : ops[i]? = some o) (hy : YieldsG P ops S listed i o v a) (hc : Clo ops listed) (hl : listed.getD i true = false)
  {K : Act -> World -> Prop} {w : World} (hS : S listed w) (h : K (a.put o.dst v) w) : wpOp P ops Q i K a w := by
 unfold Go.wpOp
 simp only [hi]
 rcases hy with ⟨hw, hv⟩ | ⟨hw, rfl⟩
 ·simp only [hw, if_true, Oper.wp, hv listed (λ _ h => h) hc hl w hS, Oper.upon]; exact .inl h
 ·simp only [hw, Bool.false_eq_true, if_false]; exact h
theorem wpOp_putG {i j : Nat} {oi oj : Oper} {v : Value} {listed : Array Bool} (hj : ops[j]? = some oj) (hap : oi.apart ops oj = true)
  (hsi : ∀ cs b, oi.op ≠ .select cs b) (hsj : ∀ cs b, oj.op ≠ .select cs b)
  (hQ : ∀ c a w, Q (.panic c) (a.put oi.dst v) w -> Q (.panic c) a w) {K : Act -> World -> Prop} {a : Act} {w : World}
  (hy : YieldsG P ops S listed i oi v a) (h : wpOp P ops Q j K (a.put oi.dst v) w) :
  wpOp P ops Q j (λ a' w' => YieldsG P ops S listed i oi v a' /\ K (a'.put oi.dst v) w') a w := by
 obtain ⟨h1, h2, h3⟩ := Oper.apart_spec hap
 have keep : ∀ (a : Act), YieldsG P ops S listed i oi v a -> ∀ u, YieldsG P ops S listed i oi v (a.put oj.dst u) := λ a hy u =>
  hy.of_same (execOp_put oi hsi a oj.dst u h3) (wanted_put oi a oj.dst u h3)
 have keepD : ∀ d, YieldsG P ops S listed i oi v { a with defers := d :: a.defers } := λ d => hy.of_same rfl rfl
 unfold Go.wpOp at *
 simp only [hj] at *
 rw [wanted_put oj a oi.dst v h1] at h
 split
 ·rename_i hw
  simp only [hw, if_true] at h
  rcases h with h | ⟨hasks, hlets⟩
  case inr => exact .inr ⟨by unfold Oper.asks at *; rw [execOp_put oj hsj a oi.dst v h1] at hasks; exact hasks, hlets⟩
  refine .inl ?_
  unfold Oper.wp at *
  rw [execOp_put oj hsj a oi.dst v h1] at h
  generalize (execOp a.eval oj).run P w = r at *
  cases r with
  | ok n w' =>
   cases n <;> simp only [Oper.upon] at h ⊢
   case value u => exact ⟨keep a hy u, by rw [<- Act.put_comm a v u h2]; exact h⟩
   case skip => exact ⟨keep a hy _, by rw [<- Act.put_comm a v undef h2]; exact h⟩
   case defer d =>
    refine ⟨keep _ (keepD d) _, ?_⟩
    rw [<- Act.put_comm _ v undef h2, <- Act.put_defers]
    exact h
   case enter f args =>
    refine Calls.mono h λ e w'' he => ?_
    cases e with
    | returned u => exact ⟨keep a hy u, by rw [<- Act.put_comm a v u h2]; exact he⟩
    | panicked c => exact hQ _ _ _ he
    | outgrown => exact he
   case row row args => exact Rows.mono h λ u w'' he => ⟨keep a hy u, by rw [<- Act.put_comm a v u h2]; exact he⟩
  | halt x w' =>
   cases x <;> simp only [Oper.upon] at h ⊢
   case panic u => exact hQ _ _ _ h
 ·rename_i hw
  simp only [hw] at h
  exact ⟨keep a hy _, by rw [<- Act.put_comm a v undef h2]; exact h⟩
theorem wpAnyG_first {i : Nat} {oi : Oper} {v : Value} (hset : ∀ l w, S (l.setIfInBounds i true) w ↔ S l w) (hi : ops[i]? = some oi) (hsel : ∀ (j : Nat) (o : Oper) cs b, ops[j]? = some o -> o.op ≠ .select cs b)
  (hQ : ∀ c a w, Q (.panic c) (a.put oi.dst v) w -> Q (.panic c) a w) :
  ∀ (fuel : Nat) (listed : Array Bool) (a : Act) (w : World),
   (∀ j oj, ops[j]? = some oj -> j ≠ i -> listed.getD j true = false -> (∀ e ∈ oj.after, Region.binds .any e = true -> e.on ≠ i) -> oi.apart ops oj = true) ->
   i ∈ Region.ready .any ops listed -> Clo ops listed -> YieldsG P ops S listed i oi v a -> S listed w ->
   wpAnyG P ops Q S fuel (listed.setIfInBounds i true) (a.put oi.dst v) w -> wpAnyG P ops Q S (fuel + 1) listed a w := by
 intro fuel
 induction fuel with
 | zero =>
  intro listed a w _ hr hc hy hS H
  refine ⟨λ h => (by rw [h] at hr; cases hr), λ j hj => ?_⟩
  by_cases hji : j = i
  ·subst hji; exact hy.wpOp hi hc (mem_ready.1 hr).1 hS ⟨(hset _ _).2 hS, H⟩
  ·have := ready_mono hj hji
   rw [H.1] at this
   cases this
 | succ fuel ih =>
  intro listed a w hfree hr hc hy hS H
  refine ⟨λ h => (by rw [h] at hr; cases hr), λ j hj => ?_⟩
  by_cases hji : j = i
  ·subst hji; exact hy.wpOp hi hc (mem_ready.1 hr).1 hS ⟨(hset _ _).2 hS, H⟩
  ·have h1 := H.2 j (ready_mono hj hji)
   obtain ⟨hjun, oj, hoj, hall⟩ := mem_ready.1 hj
   have hnot : ∀ e ∈ oj.after, Region.binds .any e = true -> e.on ≠ i := λ e he hb heq => by
    have h1 := hall e he hb
    have h0 := (mem_ready.1 hr).1
    rw [heq] at h1
    rcases Nat.lt_or_ge i listed.size with h' | h'
    ·simp [h'] at h0 h1; rw [h0] at h1; cases h1
    ·simp [Array.getElem?_eq_none h'] at h1
   have h2 := wpOp_putG hoj (hfree j oj hoj hji hjun hnot) (λ cs b => hsel i oi cs b hi) (λ cs b => hsel j oj cs b hoj) hQ hy h1
   have hfree' : ∀ k ok, ops[k]? = some ok -> k ≠ i -> (listed.setIfInBounds j true).getD k true = false ->
     (∀ e ∈ ok.after, Region.binds .any e = true -> e.on ≠ i) -> oi.apart ops ok = true := λ k ok hk hki hun hno => by
    refine hfree k ok hk hki ?_ hno
    by_cases hjk : j = k
    ·subst hjk; exact hjun
    ·rw [getD_set_ne true hjk] at hun; exact hun
   have hsup : Sup listed (listed.setIfInBounds j true) := λ q hq => getD_set_true hq
   refine wpOp_mono (λ a' w' h3 => ?_) h2
   obtain ⟨h4, h5, h6⟩ := h3
   rw [Array.setIfInBounds_comm _ _ (Ne.symm hji)] at h5 h6
   have h7 := (hset _ _).1 h5
   exact ⟨h7, ih (listed.setIfInBounds j true) a' w' hfree' (ready_mono hr (Ne.symm hji)) (hc.set hj) (h4.sup hsup) h7 h6⟩
end
def Held (R : Rds) (Ho : Segs) (Ms : List Nat) (l : Array Bool) (w : World) : Prop :=
 (∀ b o, R b o -> w.heap[b]? = some o) /\ ((∀ k ∈ Ms, l.getD k false = false) -> Sat w Ho /\ RO w R Ho)
theorem Held.same {R : Rds} {Ho : Segs} {Ms : List Nat} {i : Nat} (hi : Ms.contains i = false) (l : Array Bool) (w : World) : Held R Ho Ms (l.setIfInBounds i true) w ↔ Held R Ho Ms l w := by
 have hne : ∀ k ∈ Ms, i ≠ k := λ k hk he => by subst he; simp [hk] at hi
 unfold Held
 refine and_congr_right λ _ => ?_
 have : (∀ k ∈ Ms, (l.setIfInBounds i true).getD k false = false) ↔ ∀ k ∈ Ms, l.getD k false = false := ⟨λ h k hk => by have := h k hk; rwa [getD_set_ne false (hne k hk)] at this, λ h k hk => by rw [getD_set_ne false (hne k hk)]; exact h k hk⟩
 rw [this]
class SubS (A B : Segs) : Prop where h : ∃ G : Seg, B.flatten.Perm (A.flatten ++ G)
instance SubS.refl (A : Segs) : SubS A A := ⟨⟨[], by simp⟩⟩
instance SubS.cons (A B : Segs) (T : Seg) [s : SubS A B] : SubS A (T :: B) := ⟨by
 obtain ⟨G, h⟩ := s.h
 refine ⟨T ++ G, ?_⟩
 rw [List.flatten_cons]
 refine (h.append_left T).trans ?_
 rw [<- List.append_assoc, <- List.append_assoc]
 exact List.perm_append_comm.append_right _⟩
theorem SubS.sat {A B : Segs} (s : SubS A B) {w : World} (h : Sat w B) : Sat w A := HLe.sat s.h h
theorem SubS.ro {A B : Segs} (s : SubS A B) {w : World} {R : Rds} (h : RO w R B) : RO w R A := λ b o hb => ⟨(h b o hb).1, λ p hp => by
 obtain ⟨G, hg⟩ := s.h
 exact (h b o hb).2 p (hg.mem_iff.2 (List.mem_append_left _ hp))⟩
def RA (P : Program) (N : Nat) (R : Rds) (ops : Array Oper) (Ho : Segs) (Ms : List Nat) (done : List Nat) (env : Env) (H : Segs) (K : Env -> Segs -> Prop) : Prop :=
 ∀ (Q' : Act -> World -> Prop) (w0 : World) (H0 : Segs), (∀ env' H' a' w', K env' H' -> St N R a' w' env' H' w0 H0 -> Q' a' w') ->
  Clo ops (marked ops.size done) -> ∀ a w, St N R a w env H w0 H0 -> Held R Ho Ms (marked ops.size done) w -> wpAnyG P ops (RAq Q') (Held R Ho Ms) (ops.size - done.length) (marked ops.size done) a w
section
variable {P : Program} {N : Nat} {R : Rds} {ops : Array Oper} {l : List Oper} {env : Env} {H Ho : Segs} {Ms : List Nat} {K : Env -> Segs -> Prop} {Q : Exit -> Env -> Segs -> Prop} {m : Bool} {done : List Nat}
theorem St.lend {a : Act} {w w0 : World} {H0 : Segs} (is : List Nat) (s : St N R a w env H w0 H0) : St N (Rx R (rest is H)) a w env (take is H) w (take is H) :=
 ⟨s.defers, s.size, s.env, (sat_split s.sat).1, RO.split s.sat s.ro, Frame.refl _ _⟩
theorem St.back {a a' : Act} {w w' w0 : World} {H0 H' : Segs} {env' : Env} (is : List Nat) (s : St N R a w env H w0 H0) (s' : St N (Rx R (rest is H)) a' w' env' H' w (take is H)) : St N R a' w' env' (H' ++ rest is H) w0 H0 := by
 obtain ⟨j1, j2⟩ := sat_join s.sat s'.sat s'.fr
 exact ⟨s'.defers, s'.size, s'.env, j1, s.ro.frame j2, s.fr.trans j2⟩
theorem TriOps.lend (is : List Nat) (h : TriOps m P N (Rx R (rest is H)) ops l env (take is H) λ env' H' => K env' (H' ++ rest is H)) : TriOps m P N R ops l env H K := λ Q' w0 H0 hQ a w s =>
 h Q' w (take is H) (λ env' H' a' w' hk s' => hQ _ _ _ _ hk (s.back is s')) a w (s.lend is)
theorem Clo.none (ops : Array Oper) : Clo ops (marked ops.size []) := ⟨by simp [marked], λ j oj hj hl => by
 simp only [marked, Array.getD_eq_getD_getElem?, Array.getElem?_replicate] at hl
 split at hl <;> simp at hl⟩
theorem Tri.region_any {id : Nat} (is : List Nat) (Ms : List Nat) (hm : P.follows .mixedOrders = true) (h : RA P N (Rx R (rest is H)) l.toArray (take is H) Ms [] env (take is H) λ env' H' => Q .normal env' (H' ++ rest is H)) : Tri P N R (.region id l.toArray true) env H Q :=
 λ Q' w0 H0 hQ a w s => by
  have s1 : St N R a { w with drawn := w.drawn + 1 } env H w0 H0 := s.step (Frame.drew w H _) (s.sat.drew _)
  have s2 := s1.lend is
  have h1 := h (Q' .normal) _ _ (λ env' H' a' w' hk s' => hQ _ _ _ _ _ hk (s1.back is s')) (Clo.none _) a _ s2 ⟨λ b o hb => (s2.ro b o hb).1, λ _ => ⟨s2.sat, s2.ro⟩⟩
  refine wp_mono (wp_region_any hm (wpAny_of_G _ _ _ _ h1)) λ e a w hq => ?_
  cases e with
  | normal => exact hq
  | _ => exact hq.elim
theorem Tri.region_all {id : Nat} (Ms : List Nat) (hm : P.follows .mixedOrders = true) (h : RA P N R l.toArray H Ms [] env H (Q .normal)) : Tri P N R (.region id l.toArray true) env H Q :=
 λ Q' w0 H0 hQ a w s => by
  have s1 : St N R a { w with drawn := w.drawn + 1 } env H w0 H0 := s.step (Frame.drew w H _) (s.sat.drew _)
  have h1 := h (Q' .normal) _ _ (λ env' H' a' w' hk s' => hQ _ _ _ _ _ hk s') (Clo.none _) a _ s1 ⟨λ b o hb => (s1.ro b o hb).1, λ _ => ⟨s1.sat, s1.ro⟩⟩
  refine wp_mono (wp_region_any hm (wpAny_of_G _ _ _ _ h1)) λ e a w hq => ?_
  cases e with
  | normal => exact hq
  | _ => exact hq.elim
theorem RA.nil (hr : Region.ready .any ops (marked ops.size done) = []) (h : K env H) : RA P N R ops Ho Ms done env H K := λ Q' w0 H0 hQ _ a w s _ => by
 cases ops.size - done.length with
 | zero => exact ⟨hr, hQ _ _ _ _ h s⟩
 | succ n => exact ⟨λ _ => hQ _ _ _ _ h s, by rw [hr]; simp⟩
def tk (own : Bool) (ops : Array Oper) (Ms done : List Nat) (i : Nat) : Bool :=
 Region.noSelect ops && Region.free .any ops (marked ops.size done) i && (Region.ready .any ops (marked ops.size done)).contains i && Nat.blt done.length ops.size && !Ms.contains i && (!own || Ms.all λ k => waitsT ops ops.size k i)
theorem RA.take_gen {dst : Option Nat} {op : Op} {ty : TypeId} {pos : String} {af : Array Edge} {g : Option (Nat × Bool)} {v : Value} (own : Bool) (i : Nat) (hi : ops[i]? = some ⟨dst, op, ty, pos, af, g⟩)
  (hy : ∀ a, EnvOK a env -> (Region.wanted ⟨dst, op, ty, pos, af, g⟩ (yielded ops a.tmps) = true /\ ∀ w, (∀ b o, R b o -> w.heap[b]? = some o) -> (own = true -> Sat w Ho /\ RO w R Ho) -> (execOp a.eval ⟨dst, op, ty, pos, af, g⟩).run P w = .ok (.value v) w) \/
   (Region.wanted ⟨dst, op, ty, pos, af, g⟩ (yielded ops a.tmps) = false /\ v = undef))
  (hc : tk own ops Ms done i = true)
  (hn : ∀ a w w0 H0, St N R a w env H w0 H0 -> ∃ env', St N R (a.put dst v) w env' H w0 H0 /\ RA P N R ops Ho Ms (i :: done) env' H K) : RA P N R ops Ho Ms done env H K := λ Q' w0 H0 hQ hcl a w s hh => by
 simp only [tk, Bool.and_eq_true] at hc
 obtain ⟨⟨⟨⟨⟨h1, h2⟩, h3⟩, h4⟩, h5⟩, h6⟩ := hc
 have hlt : done.length < ops.size := Nat.le_of_ble_eq_true h4
 have hf : ops.size - done.length = (ops.size - (i :: done).length) + 1 := by simp only [List.length_cons]; omega
 have h5' : Ms.contains i = false := by simpa using h5
 have h3' : i ∈ Region.ready .any ops (marked ops.size done) := by simpa using h3
 rw [hf]
 obtain ⟨env', s', hn'⟩ := hn a w w0 H0 s
 refine wpAnyG_first (λ l w => Held.same h5' l w) hi (Region.noSelect_spec h1) (λ c a w hq => hq.elim) _ _ a w (Region.free_spec hi h2) h3' hcl ?_ hh (hn' Q' w0 H0 hQ (hcl.set h3') _ w s' ((Held.same h5' _ _).2 hh))
 refine (hy a s.env).imp (λ ⟨hw, hr⟩ => ⟨hw, λ l' _ hc' hli w' hw' => hr w' hw'.1 λ ho => hw'.2 λ k hk => ?_⟩) id
 subst ho
 have hwk : waitsT ops ops.size k i = true := by
  have := h6
  simp only [Bool.not_true, Bool.false_or] at this
  exact List.all_eq_true.1 this k hk
 cases hlk : l'.getD k false with
 | false => rfl
 | true =>
  have := hc'.waits _ _ hwk hlk
  rcases Nat.lt_or_ge i l'.size with h' | h'
  ·simp [h'] at this hli; rw [this] at hli; cases hli
  ·simp [Array.getElem?_eq_none h'] at this
theorem RA.take {d : Nat} {op : Op} {ty : TypeId} {pos : String} {af : Array Edge} {v : Value} (i : Nat) (hi : ops[i]? = some ⟨some d, op, ty, pos, af, none⟩) (hq : Quiet P R env [] op ty v)
  (hc : tk false ops Ms done i = true) (hn : RA P N R ops Ho Ms (i :: done) ((d, v) :: env) H K) (hd : Nat.blt d N = true := by rfl) : RA P N R ops Ho Ms done env H K :=
 RA.take_gen false i hi (λ a ha => .inl ⟨by simp [Region.wanted], λ w hw _ => hq a w (some d) pos af none ha ⟨by simp, by simp⟩ (λ b o hb => ⟨hw b o hb, by simp⟩)⟩) hc
  λ a w w0 H0 s => ⟨_, s.put v hd, hn⟩
theorem RA.takeO {d : Nat} {op : Op} {ty : TypeId} {pos : String} {af : Array Edge} {v : Value} (i : Nat) (hi : ops[i]? = some ⟨some d, op, ty, pos, af, none⟩) (hq : Quiet P R env Ho op ty v)
  (hc : tk true ops Ms done i = true) (hn : RA P N R ops Ho Ms (i :: done) ((d, v) :: env) H K) (hd : Nat.blt d N = true := by rfl) : RA P N R ops Ho Ms done env H K :=
 RA.take_gen true i hi (λ a ha => .inl ⟨by simp [Region.wanted], λ w _ hw => hq a w (some d) pos af none ha (hw rfl).1 (hw rfl).2⟩) hc
  λ a w w0 H0 s => ⟨_, s.put v hd, hn⟩
theorem upon_RAq {o : Oper} {a : Act} {w : World} {K1 K2 : Act -> World -> Prop} {Q1 : Act -> World -> Prop} {Q2 : Exit -> Act -> World -> Prop} (hk : ∀ a w, K1 a w -> K2 a w) (h : o.wp P a w K1 (RAq Q1)) : o.wp P a w K2 Q2 := by
 unfold Oper.wp at *
 generalize (execOp a.eval o).run P w = r at *
 cases r with
 | ok n w' =>
  cases n <;> simp only [Oper.upon] at h ⊢ <;> first
   |exact hk _ _ h
   |exact Calls.mono h (λ e w'' he => by
     cases e with
     | returned v => exact hk _ _ he
     | panicked c => exact he.elim
     | outgrown => obtain ⟨a, w, hq⟩ := he; exact hq.elim)
   |exact Rows.mono h (λ _ _ he => hk _ _ he)
 | halt x w' => cases x <;> simp only [Oper.upon] at h ⊢ <;> exact h.elim
theorem RA.op {o : Oper} {a : Act} {w w0 : World} {H0 : Segs} {Q' : Act -> World -> Prop} {K' : Act -> World -> Prop} {K2 : Env -> Segs -> Prop} (k : Nat) (hk : ops[k]? = some o) (h : TriOps false P N R ops [o] env H K2)
  (hK : ∀ env' H' a' w', K2 env' H' -> St N R a' w' env' H' w0 H0 -> K' a' w') (s : St N R a w env H w0 H0) : wpOp P ops (RAq Q') k K' a w := by
 have h1 := h (RAq K') w0 H0 (λ env' H' a' w' hk s' => hK _ _ _ _ hk s') a w s
 unfold wpOp
 simp only [hk]
 simp only [wpList] at h1
 split
 ·rename_i hw
  rw [if_pos hw] at h1
  rcases h1 with h1 | ⟨_, a0, w1, h1⟩
  ·exact .inl (upon_RAq (λ _ _ h => h) h1)
  ·exact h1.elim
 ·rename_i hw
  rw [if_neg hw] at h1
  exact h1
theorem getD_set_in {l : Array Bool} {i : Nat} (hi : i < l.size) : (l.setIfInBounds i true).getD i false = true := by simp [hi]
def Next (P : Program) (N : Nat) (R : Rds) (ops : Array Oper) (Ho : Segs) (Ms : List Nat) (done : List Nat) (K : Env -> Segs -> Prop) (i : Nat) (env' : Env) (H' : Segs) : Prop :=
 (((i :: done).any λ k => Ms.contains k && Nat.blt k ops.size) = true \/ SubS Ho H') /\ RA P N R ops Ho Ms (i :: done) env' H' K
theorem marked_size (n : Nat) : ∀ l, (marked n l).size = n
 | [] => by simp [marked]
 | i :: l => by simp [marked, marked_size n l]
theorem marked_get {n k : Nat} (hk : k < n) : ∀ {l : List Nat}, k ∈ l -> (marked n l).getD k false = true
 | i :: l, h => by
  rcases List.mem_cons.1 h with rfl | h
  ·exact getD_set_in (by rw [marked_size]; exact hk)
  ·exact getD_set_true (marked_get hk h)
theorem Next.mod {i : Nat} (hm : ((i :: done).any λ k => Ms.contains k && Nat.blt k ops.size) = true) (h : RA P N R ops Ho Ms (i :: done) env H K) : Next P N R ops Ho Ms done K i env H := ⟨.inl hm, h⟩
theorem Next.sub {i : Nat} (h : RA P N R ops Ho Ms (i :: done) env H K) (hs : SubS Ho H := by infer_instance) : Next P N R ops Ho Ms done K i env H := ⟨.inr hs, h⟩
theorem RA.step_gen (is : List Nat) (hr : Region.ready .any ops (marked ops.size done) = is) (hne : is ≠ []) (hl : Nat.blt done.length ops.size = true)
  (h : ∀ i ∈ is, ∃ o, ops[i]? = some o /\ TriOps false P N R ops [o] env H (Next P N R ops Ho Ms done K i)) : RA P N R ops Ho Ms done env H K := λ Q' w0 H0 hQ hcl a w s hh => by
 have hlt : done.length < ops.size := Nat.le_of_ble_eq_true hl
 have hf : ∀ i, ops.size - done.length = (ops.size - (i :: done).length) + 1 := λ i => by simp only [List.length_cons]; omega
 rw [hf 0]
 refine ⟨λ h0 => absurd (hr ▸ h0) hne, λ k hk => ?_⟩
 obtain ⟨o, ho, hT⟩ := h k (hr ▸ hk)
 refine RA.op k ho hT (λ env' H' a' w' hk' s' => ?_) s
 have hh' : Held R Ho Ms ((marked ops.size done).setIfInBounds k true) w' := by
  refine ⟨λ b o hb => (s'.ro b o hb).1, λ hno => ?_⟩
  rcases hk'.1 with hm | hs
  ·obtain ⟨q, hq, hm⟩ := List.any_eq_true.1 hm
   simp only [Bool.and_eq_true] at hm
   have h1 := hno q (by simpa using hm.1)
   rw [show (marked ops.size done).setIfInBounds k true = marked ops.size (k :: done) from rfl, marked_get (Nat.le_of_ble_eq_true hm.2) hq] at h1
   cases h1
  ·exact ⟨hs.sat s'.sat, hs.ro s'.ro⟩
 exact ⟨hh', hk'.2 Q' w0 H0 hQ (hcl.set hk) a' w' s' hh'⟩
theorem RA.step {o : Oper} (i : Nat) (hi : ops[i]? = some o) (hr : Region.ready .any ops (marked ops.size done) = [i]) (hl : Nat.blt done.length ops.size = true)
  (h : TriOps false P N R ops [o] env H (Next P N R ops Ho Ms done K i)) : RA P N R ops Ho Ms done env H K :=
 RA.step_gen [i] hr (by simp) hl λ k hk => by
  obtain rfl : k = i := by simpa using hk
  exact ⟨o, hi, h⟩
theorem RA.step2 {o1 o2 : Oper} (i j : Nat) (hi : ops[i]? = some o1) (hj : ops[j]? = some o2) (hr : Region.ready .any ops (marked ops.size done) = [i, j]) (hl : Nat.blt done.length ops.size = true)
  (h1 : TriOps false P N R ops [o1] env H (Next P N R ops Ho Ms done K i)) (h2 : TriOps false P N R ops [o2] env H (Next P N R ops Ho Ms done K j)) : RA P N R ops Ho Ms done env H K :=
 RA.step_gen [i, j] hr (by simp) hl λ k hk => by
  rcases List.mem_cons.1 hk with rfl | hk
  ·exact ⟨o1, hi, h1⟩
  ·obtain rfl : k = j := by simpa using hk
   exact ⟨o2, hj, h2⟩
end
section
variable {P : Program} {N : Nat} {R : Rds} {ops : Array Oper} {l : List Oper} {env : Env} {H : Segs} {K : Env -> Segs -> Prop} {Q : Exit -> Env -> Segs -> Prop} {m : Bool} {ty : TypeId}
theorem TriOps.gT {j t : Nat} {b want : Bool} {dst : Option Nat} {op : Op} {ty : TypeId} {pos : String} {af : Array Edge} (hb : b = want) (hn : TriOps m P N R ops (⟨dst, op, ty, pos, af, none⟩ :: l) env H K) (hj : gdst ops j = some t := by rfl) (hv : Env.get? env t = some (.bool b) := by rfl) :
  TriOps m P N R ops (⟨dst, op, ty, pos, af, some (j, want)⟩ :: l) env H K := TriOps.gt (by rw [hv, hb]) hn hj
theorem TriOps.gF {j t d : Nat} {b want : Bool} {op : Op} {ty : TypeId} {pos : String} {af : Array Edge} (hb : b = !want) (hn : TriOps m P N R ops l ((d, undef) :: env) H K) (hj : gdst ops j = some t := by rfl) (hv : Env.get? env t = some (.bool b) := by rfl) (hd : Nat.blt d N = true := by rfl) :
  TriOps m P N R ops (⟨some d, op, ty, pos, af, some (j, want)⟩ :: l) env H K := TriOps.gf hv (by subst hb; cases want <;> rfl) hn hj hd
theorem TriOps.split {t : Nat} {b : Bool} (hv : Env.get? env t = some (.bool b)) (ht : b = true -> TriOps m P N R ops l env H K) (hf : b = false -> TriOps m P N R ops l env H K) : TriOps m P N R ops l env H K := by
 cases b
 ·exact hf rfl
 ·exact ht rfl
theorem Quiet.pickTh {c x y : Operand} {b : Bool} {u : Value} (hb : b = true) (hc : ev env c = some (.bool b) := by rfl) (hx : ev env x = some u := by rfl) : Quiet P R env H (.pick c x y) ty u := by
 subst hb; exact Quiet.pickT hc hx
theorem Quiet.pickFh {c x y : Operand} {b : Bool} {v : Value} (hb : b = false) (hc : ev env c = some (.bool b) := by rfl) (hy : ev env y = some v := by rfl) : Quiet P R env H (.pick c x y) ty v := by
 subst hb; exact Quiet.pickF hc hy
theorem Tri.condT {c : Operand} {x y : Code} (h : Tri P N R x env H Q) (hc : ev env c = some (.bool true) := by rfl) : Tri P N R (.cond c x y) env H Q := Tri.cond hc (λ _ => h) (λ h => by cases h)
theorem Tri.condF {c : Operand} {x y : Code} (h : Tri P N R y env H Q) (hc : ev env c = some (.bool false) := by rfl) : Tri P N R (.cond c x y) env H Q := Tri.cond hc (λ h => by cases h) (λ _ => h)
def joinQ {X : Type} (I : X -> Prop) (e : X -> Env) (h : X -> Segs) (Q : Exit -> Env -> Segs -> Prop) : Exit -> Env -> Segs -> Prop
 | .normal, env, H => ∃ x, I x /\ EnvLe env (e x) /\ HLe H (h x)
 | ex, env, H => Q ex env H
theorem Tri.cut {X : Type} {c : Code} (I : X -> Prop) (e : X -> Env) (h : X -> Segs) (body : Tri P N R c env H (joinQ I e h Q)) (after : ∀ x, I x -> Q .normal (e x) (h x)) : Tri P N R c env H Q := λ Q' w0 H0 hQ a w s =>
 body Q' w0 H0 (λ ex env' H' a' w' hq s' => by
  cases ex with
  | normal => obtain ⟨x, h1, h2, h3⟩ := hq; exact hQ _ _ _ _ _ (after x h1) (s'.le h2 h3)
  | _ => exact hQ _ _ _ _ _ hq s') a w s
theorem joinQ_n {X : Type} {I : X -> Prop} {e : X -> Env} {h : X -> Segs} (x : X) (hI : I x) (he : EnvLe env (e x)) (hh : HLe H (h x)) : joinQ I e h Q .normal env H := ⟨x, hI, he, hh⟩
theorem joinQ_r {X : Type} {I : X -> Prop} {e : X -> Env} {h : X -> Segs} (hq : Q .ret env H) : joinQ I e h Q .ret env H := hq
theorem loopQ_i {X : Type} {I : X -> Prop} {e : X -> Env} {h : X -> Segs} {μ : X -> Nat} {n : Nat} (x : X) (hI : I x) (hm : μ x < n) (he : EnvLe env (e x)) (hh : HLe H (h x)) : loopQ (λ env' H' => ∃ x', I x' /\ μ x' < n /\ EnvLe env' (e x') /\ HLe H' (h x')) Q .normal env H := ⟨x, hI, hm, he, hh⟩
theorem Quiet.inc {x y : Operand} {t u : TypeId} {n : Nat} (hn : n < 9223372036854775807) (hx : ev env x = some (.int .i64 (n : Int)) := by rfl) (hy : ev env y = some (.int .i64 1) := by rfl) : Quiet P R env H (.binOp .add t x y u) ty (.int .i64 ((n + 1 : Nat) : Int)) := by
 have h := Quiet.add (P := P) (R := R) (H := H) (ty := ty) (t := t) (u := u) hx hy
 have : IntKind.i64.wrap ((n : Int) + 1) = ((n + 1 : Nat) : Int) := by
  rw [IntWalk.i64_in _ (by omega)]; omega
 rw [this] at h
 exact h
theorem TriOps.hole (h : TriOps m P N R ops l env H K) : TriOps m P N R ops l env H K := h
end
section
variable {P : Program} {N : Nat} {R : Rds} {ops : Array Oper} {l : List Oper} {env : Env} {H : Segs} {K : Env -> Segs -> Prop} {Q : Exit -> Env -> Segs -> Prop} {m : Bool} {d : Nat} {ty : TypeId} {pos : String} {af : Array Edge} {x : Operand}
theorem TriOps.mo {v : Value} (h : ev env x = some v) (hn : TriOps m P N R ops l ((d, v) :: env) H K) (hd : Nat.blt d N = true := by rfl) : TriOps m P N R ops (⟨some d, .move x, ty, pos, af, none⟩ :: l) env H K := .q (.move h) hn hd
theorem TriOps.ag {v : Value} (h : ev env x = some v) (hn : TriOps m P N R ops l ((d, v) :: env) H K) (hd : Nat.blt d N = true := by rfl) : TriOps m P N R ops (⟨some d, .assign x, ty, pos, af, none⟩ :: l) env H K := .q (.assign h) hn hd
theorem TriOps.lo {t : TypeId} {p u : Value} {vs r : List Value} (hx : ev env x = some p) [ag : Agg P t false] [rc : RC R H p vs] (hn : TriOps m P N R ops l ((d, u) :: env) H K) (hu : vs = u :: r := by rfl) (hd : Nat.blt d N = true := by rfl) : TriOps m P N R ops (⟨some d, .load t x, ty, pos, af, none⟩ :: l) env H K := .q (.load1 hx hu) hn hd
theorem TriOps.nc {p : Value} {vs : List Value} (hx : ev env x = some p) [rc : RC R H p vs] (hn : TriOps m P N R ops l ((d, p) :: env) H K) (hd : Nat.blt d N = true := by rfl) : TriOps m P N R ops (⟨some d, .nilCheck x, ty, pos, af, none⟩ :: l) env H K := .q (.nilCheck hx) hn hd
theorem TriOps.fa {s : TypeId} {f off : Nat} {p : Value} {vs : List Value} (hx : ev env x = some p) [fl : Fld P s f off] [rc : RC R H p vs] (hn : TriOps m P N R ops l ((d, addP p off) :: env) H K) (hd : Nat.blt d N = true := by rfl) : TriOps m P N R ops (⟨some d, .fieldAddr s x f, ty, pos, af, none⟩ :: l) env H K := .q (.fieldAddr hx) hn hd
theorem TriOps.zn {y : Code} (h : Tri P N R y env H Q) : TriOps m P N R ops [] env H (seqQ P N R y Q .normal) := .nil (seqQ_n h)
theorem TriOps.zs {y z : Code} (h : Tri P N R z env H (seqQ P N R y Q)) : TriOps m P N R ops [] env H (seqQ P N R (.seq z y) Q .normal) := .nil (seqQ_n (.seq h))
theorem TriOps.z {y : Code} {id : Nat} (h : TriOps false P N R l.toArray l env H (seqQ P N R y Q .normal)) : TriOps m P N R ops [] env H (seqQ P N R (.seq (.region id l.toArray false) y) Q .normal) := .nil (seqQ_n (.seq (.region h)))
theorem TriOps.gX {op : Op} {j t : Nat} {want b : Bool} (hn : TriOps m P N R ops l ((d, undef) :: env) H K) (hj : gdst ops j = some t := by rfl) (hv : Env.get? env t = some (.bool b) := by rfl) (hb : (b == want) = false := by rfl) (hd : Nat.blt d N = true := by rfl) : TriOps m P N R ops (⟨some d, op, ty, pos, af, some (j, want)⟩ :: l) env H K := .gf hv hb hn hj hd
theorem TriOps.az {v : Value} {y : Code} (h : ev env x = some v) (hn : Tri P N R y ((d, v) :: env) H Q) (hd : Nat.blt d N = true := by rfl) : TriOps m P N R ops [⟨some d, .assign x, ty, pos, af, none⟩] env H (seqQ P N R y Q .normal) := .q (.assign h) (.nil (seqQ_n hn)) hd
theorem Tri.sr {y : Code} {id : Nat} (h : TriOps false P N R l.toArray l env H (seqQ P N R y Q .normal)) : Tri P N R (.seq (.region id l.toArray false) y) env H Q := .seq (.region h)
theorem Tri.kn {y : Code} (h : Tri P N R y env H Q) : Tri P N R .skip env H (seqQ P N R y Q) := .skip (seqQ_n h)
end
end
section
theorem PC.of {R : Rds} {b : Nat} {vs : List Value} {E : TypeId} {fr : Nat × Nat} (h : R b (.cells vs.toArray E fr)) : PC R (.pointer (some ⟨b, 0, none⟩)) vs :=
 (RC.here (R := R) (H := []) (b := b) (vs := vs) (E := E) (fr := fr)).h.mono λ b' o h' => by
  rcases h' with h' | h'
  ·exact h'
  ·simp at h'; obtain ⟨rfl, rfl⟩ := h'; exact h
instance PC.rc {R : Rds} {H : Segs} {p : Value} {vs : List Value} [h : RC R H p vs] : PC (Rx R H) p vs := h.h
section
variable {P : Program} {N : Nat} {R R' : Rds} {ops : Array Oper} {l : List Oper} {env : Env} {H : Segs} {K : Env -> Segs -> Prop} {T : Seg} {upd : Seg -> Segs}
theorem Spec.at {f : FuncId} {args : List Value} {H1 H2 : Segs} {T : Seg} {Post : Value -> Seg -> Prop} (h : Spec P f args R' [T] λ v H' => ∃ T', H' = [T'] /\ Post v T') (hr : ∀ b o, R' b o -> R b o) : Spec P f args R (H1 ++ T :: H2) λ v H' => ∃ T', H' = H1 ++ T' :: H2 /\ Post v T' := λ w hs hro => by
 have hp : (H1 ++ T :: H2).flatten.Perm ([T] ++ (H1 ++ H2)).flatten := by
  simp only [List.flatten_append, List.flatten_cons, List.flatten_nil, List.append_nil]
  rw [<- List.append_assoc, <- List.append_assoc]
  exact List.perm_append_comm.append_right _
 have hs1 : Sat w ([T] ++ (H1 ++ H2)) := hs.perm hp
 have hT : take [0] ([T] ++ (H1 ++ H2)) = [T] := rfl
 have hR : rest [0] ([T] ++ (H1 ++ H2)) = H1 ++ H2 := rfl
 have ro1 : RO w R ([T] ++ (H1 ++ H2)) := λ b o hb => ⟨(hro b o hb).1, λ p hm => (hro b o hb).2 p (hp.mem_iff.2 hm)⟩
 obtain ⟨s1, s2, s3⟩ := sat_split (is := [0]) hs1
 have ro2 := RO.split (is := [0]) hs1 ro1
 rw [hT] at s1 ro2 s3; rw [hR] at ro2 s2 s3
 refine (h w s1 λ b o hb => ro2 b o (.inl (hr b o hb))).mono λ e w' ⟨v, H', he, ⟨T', hT', hq⟩, hs', hf⟩ => ?_
 subst hT'
 obtain ⟨j1, j2⟩ := sat_join (is := [0]) (H' := [T']) hs1 hs' hf
 rw [hR] at j1 j2
 have hp' : ([T'] ++ (H1 ++ H2)).flatten.Perm (H1 ++ T' :: H2).flatten := by
  simp only [List.flatten_append, List.flatten_cons, List.flatten_nil, List.append_nil]
  rw [<- List.append_assoc, <- List.append_assoc]
  exact List.perm_append_comm.append_right _
 refine ⟨v, _, he, ⟨T', rfl, hq⟩, j1.perm hp', ⟨j2.le, λ b hb hn => j2.keep b hb λ p hm => hn p (hp.mem_iff.2 hm), λ p hm => ?_, j2.os, j2.output, j2.tape⟩⟩
 rcases j2.dom p (hp'.mem_iff.2 hm) with ⟨q, hq, he⟩ | hge
 ·exact .inl ⟨q, hp.mem_iff.2 hq, he⟩
 ·exact .inr hge
theorem TriOps.callR {d : Nat} {ty : TypeId} {pos : String} {af : Array Edge} {f : FuncId} [e : Ent P f] {xs : List Operand} {ats : Array TypeId} {vs : List Value} {Post : Value -> Prop}
  (hs : Spec P f vs (Rx R H) [] λ v H' => Post v /\ H' = []) (hn : ∀ v, Post v -> TriOps false P N R ops l ((d, v) :: env) H K) (hxs : evs env xs = some vs := by rfl) (hd : Nat.blt d N = true := by rfl) :
  TriOps false P N R ops (⟨some d, .call ⟨.value (.func f), xs.toArray, ats⟩, ty, pos, af, none⟩ :: l) env H K :=
 TriOps.call [] hs (λ v H' ⟨h1, h2⟩ => by subst h2; exact hn v h1) hxs hd
theorem TriOps.callN {d : Nat} {ty : TypeId} {pos : String} {af : Array Edge} {f : FuncId} [e : Ent P f] {xs : List Operand} {ats : Array TypeId} {vs : List Value} {Post : Value -> Seg -> Prop}
  (hs : Spec P f vs (Rx R H) [] λ v H' => ∃ T, H' = [T] /\ Post v T) (hn : ∀ v T, Post v T -> TriOps false P N R ops l ((d, v) :: env) (T :: H) K) (hxs : evs env xs = some vs := by rfl) (hd : Nat.blt d N = true := by rfl) :
  TriOps false P N R ops (⟨some d, .call ⟨.value (.func f), xs.toArray, ats⟩, ty, pos, af, none⟩ :: l) env H K :=
 TriOps.call [] hs (λ v H' ⟨T, h1, h2⟩ => by subst h1; exact hn v T h2) hxs hd
theorem take_all : ∀ (H : Segs), take (H.map λ _ => 0) H = H
 | [] => rfl
 | T :: r => by simp only [List.map_cons, take, dropAt, List.getD_cons_zero, take_all r]
theorem rest_all : ∀ (H : Segs), rest (H.map λ _ => 0) H = []
 | [] => rfl
 | T :: r => by simp only [List.map_cons, rest, dropAt, rest_all r]
theorem TriOps.callM_gen {dst : Option Nat} {op : Op} {ty : TypeId} {pos : String} {af : Array Edge} {f : FuncId} {vs : List Value} {Post : Value -> Seg -> Prop} [sa : SegAt H T upd]
  (hx : ∀ a w, EnvOK a env -> (execOp a.eval ⟨dst, op, ty, pos, af, none⟩).run P w = .ok (.enter f vs.toArray) w)
  (hs : Spec P f vs R' [T] λ v H' => ∃ T', H' = [T'] /\ Post v T') (hr : ∀ b o, R' b o -> R b o)
  (hn : ∀ v T', Post v T' -> match dst with
   | some d => Nat.blt d N = true /\ TriOps false P N R ops l ((d, v) :: env) (upd T') K
   | none => TriOps false P N R ops l env (upd T') K) :
  TriOps false P N R ops (⟨dst, op, ty, pos, af, none⟩ :: l) env H K := by
 obtain ⟨H1, H2, h1, h2⟩ := sa.h
 refine .call_gen (H.map λ _ => 0) (Post := λ v H' => ∃ T', H' = H1 ++ T' :: H2 /\ Post v T') hx ?_ ?_
 ·rw [take_all, rest_all]
  have := Spec.at (H1 := H1) (H2 := H2) hs hr
  rw [<- h1] at this
  exact this.weaken λ b o hb => .inl hb
 ·intro v H' ⟨T', e1, e2⟩
  rw [rest_all, List.append_nil, e1, <- h2]
  exact hn v T' e2
theorem TriOps.callM {d : Nat} {ty : TypeId} {pos : String} {af : Array Edge} {f : FuncId} [e : Ent P f] {xs : List Operand} {ats : Array TypeId} {vs : List Value} {Post : Value -> Seg -> Prop}
  (hs : Spec P f vs R [T] λ v H' => ∃ T', H' = [T'] /\ Post v T') (hn : ∀ v T', Post v T' -> TriOps false P N R ops l ((d, v) :: env) (upd T') K) [sa : SegAt H T upd] (hxs : evs env xs = some vs := by rfl) (hd : Nat.blt d N = true := by rfl) :
  TriOps false P N R ops (⟨some d, .call ⟨.value (.func f), xs.toArray, ats⟩, ty, pos, af, none⟩ :: l) env H K :=
 TriOps.callM_gen (λ a w ha => run_call hxs a w ha) hs (λ _ _ h => h) (λ v T' hp => ⟨hd, hn v T' hp⟩)
theorem fillL_A {cs zs : List Value} {k : Nat} (h : zs.length = k) (hk : cs.length = k) : fillL ((List.range 1).map λ i => (i * k, k)) zs [(0, .agg cs.toArray)] = some cs := by
 subst hk
 have e : Nat.ble cs.length cs.length = true := Nat.ble_eq_true_of_le (Nat.le_refl _)
 have e2 : zs.drop cs.length = [] := List.drop_eq_nil_of_le (by omega)
 simp [fillL, setL_eq, h, List.range_succ, e, e2]
theorem fillL_1 {v : Value} {zs : List Value} (hv : oneCell v = true) (h : zs.length = 1) : fillL ((List.range 1).map λ i => (i * 1, 1)) zs [(0, v)] = some [v] := by
 have e2 : zs.drop 1 = [] := List.drop_eq_nil_of_le (by omega)
 have e3 : zs.tail = [] := by rw [<- List.drop_one]; exact e2
 cases v <;> simp_all [fillL, setL_eq, List.range_succ, oneCell]
theorem TriOps.buildSlice1A {d : Nat} {T E : TypeId} {k : Nat} {z : Value} {cs : List Value} {x : Operand} {ty : TypeId} {pos : String} {af : Array Edge} [ut : Und P T (.slice E)] [sz : Sz P E k] [zr : Zr P E z]
  (hn : ∀ b, TriOps false P N R ops l ((d, .slice (some ⟨b, 0, none⟩) 1 1) :: env) ([(b, .cells cs.toArray E (0, 0))] :: H) K) (hx : ev env x = some (.agg cs.toArray) := by rfl) (hl : cs.length = k := by rfl) (hs : Nat.ble (1 * k) (2 ^ 24) = true := by rfl) (hk : Nat.beq (1 * k) 0 = false := by rfl) (hd : Nat.blt d N = true := by rfl) :
  TriOps false P N R ops (⟨some d, .buildSlice T 1 [(0, x)].toArray, ty, pos, af, none⟩ :: l) env H K :=
 TriOps.buildSlice (z := z) (zs := ((Array.range (1 * k)).map (z.cells[· % z.cells.size]!)).toList) (parts := [(0, .agg cs.toArray)]) hs hk rfl (by simp [evp, hx]) (fillL_A (by simp) hl) hn hd
theorem TriOps.buildSlice11 {d : Nat} {T E : TypeId} {z v : Value} {x : Operand} {ty : TypeId} {pos : String} {af : Array Edge} [ut : Und P T (.slice E)] [sz : Sz P E 1] [zr : Zr P E z] [o : One v]
  (hn : ∀ b, TriOps false P N R ops l ((d, .slice (some ⟨b, 0, none⟩) 1 1) :: env) ([(b, .cells [v].toArray E (0, 0))] :: H) K) (hx : ev env x = some v := by rfl) (hd : Nat.blt d N = true := by rfl) :
  TriOps false P N R ops (⟨some d, .buildSlice T 1 [(0, x)].toArray, ty, pos, af, none⟩ :: l) env H K :=
 TriOps.buildSlice (z := z) (zs := ((Array.range (1 * 1)).map (z.cells[· % z.cells.size]!)).toList) (parts := [(0, v)]) rfl rfl rfl (by simp [evp, hx]) (fillL_1 o.h (by simp)) hn hd
theorem RA.indexO {Ho : Segs} {Ms done : List Nat} {d : Nat} {x y : Operand} {t e E : TypeId} {sz : Nat} {α : Type} {enc : α -> List Value} {v : Value} {xs : List α} {ty : TypeId} {pos : String} {af : Array Edge} {k : IntKind} {j : Int} {z : α} (i : Nat) (hi' : ops[i]? = some ⟨some d, .indexAddr t x y, ty, pos, af, none⟩) (q : Nat) (h : OS E sz enc v xs T) (hz : xs[q]? = some z) [ut : Und P t (.slice e)] [s : Sz P e sz]
  (hx : ev env x = some v) (hy : ev env y = some (.int k j)) (hj : j = (q : Int)) (hc : tk false ops Ms done i = true) (hn : PS T (baseP v (q * sz)) (enc z) -> RA P N R ops Ho Ms (i :: done) ((d, baseP v (q * sz)) :: env) H K) (hd : Nat.blt d N = true := by rfl) :
  RA P N R ops Ho Ms done env H K :=
 RA.take i hi' (Quiet.indexR q (h.rs (R := sg T) λ p hp => hp) hz hx hy hj) hc (hn ⟨h.pc hz⟩) hd
theorem Quiet.nilCheckA {ty : TypeId} {x : Operand} {p : Value} {a0 : Addr} (hx : ev env x = some p) (hp : p = .pointer (some a0) := by rfl) : Quiet P R env H (.nilCheck x) ty p := λ a w d pos af g ha _ _ => by
 subst hp
 simp [execOp, ha.eval hx]
theorem Quiet.fieldAddrA {ty : TypeId} {x : Operand} {s : TypeId} {f off : Nat} {p : Value} {a0 : Addr} (hx : ev env x = some p) [fl : Fld P s f off] (hp : p = .pointer (some a0) := by rfl) : Quiet P R env H (.fieldAddr s x f) ty (addP p off) := λ a w d pos af g ha _ _ => by
 subst hp
 have := fl.h a0 w
 simp [execOp, ha.eval hx, this, addP]
end
end
section
section
variable {P : Program} {N : Nat} {R R' : Rds} {ops : Array Oper} {l : List Oper} {env : Env} {H : Segs} {K : Env -> Segs -> Prop} {T : Seg} {upd : Seg -> Segs} {ty : TypeId} {pos : String} {af : Array Edge} {α : Type}
def pieceV (sz lo hi : Nat) (p : Option Addr) (cap : Nat) : Value := .slice (if cap = lo then p else p.map (·.add (lo * sz))) (hi - lo) (cap - lo)
theorem OS.shape {E : TypeId} {sz : Nat} {enc : α -> List Value} {v : Value} {xs : List α} (h : OS E sz enc v xs T) : ∃ p cap, v = .slice p xs.length cap /\ xs.length <= cap := by
 rcases h.h with ⟨h1, h2, _⟩ | ⟨b, off, c, cap, h1, _, h3, _⟩
 ·exact ⟨none, 0, by rw [h1, h2]; rfl, by simp [h2]⟩
 ·exact ⟨_, cap, h1, h3⟩
theorem OS.head {E : TypeId} {sz n cap : Nat} {p : Option Addr} {enc : α -> List Value} {xs : List α} (h : OS E sz enc (.slice p n cap) xs T) (lo : Nat) (hlo : lo <= xs.length) : OS E sz enc (pieceV sz 0 lo p cap) (xs.take lo) T := by
 have hn : (xs.take lo).length = lo := by simp; omega
 refine ⟨λ x hx => h.len x (List.mem_of_mem_take hx), λ x hx => h.one x (List.mem_of_mem_take hx), ?_⟩
 rcases h.h with ⟨h1, h2, h3⟩ | ⟨b, off, c, cap', h1, h2, h3, h4, h5, h6⟩
 ·cases h1
  subst h2
  obtain rfl : lo = 0 := by simpa using hlo
  exact .inl ⟨by simp [pieceV], by simp, h3⟩
 ·cases h1
  refine .inr ⟨b, off, c, cap, ?_, h2, by omega, h4, h5, by simpa using h6.piece h.len 0 lo⟩
  rw [hn]
  by_cases hc : cap = 0
  ·simp [pieceV, hc]
  ·simp [pieceV, hc, Addr.add]
theorem Row.setL {c : Array Value} {off k : Nat} {cs vs : List Value} (h : Row c off cs) (hk : off + cs.length <= k) (hl : k + vs.length <= c.size) : Row (Go.Proofs.YtenilfmlfldogaaGreat.setL c.toList k vs).toArray off cs := λ j hj => by
 have h1 := h j hj
 have h2 := setL_get (vs := c.toList) (cs := vs) (off := k) (by simpa using hl) (off + j)
 simp only [List.getElem?_toArray]
 rw [h2, if_pos (by omega)]
 simpa using h1
theorem run_equalIn_slnil (n : Nat) {t e : TypeId} {w : World} {p : Option Addr} {a c a' c' : Nat} (ut : P.underlying t = some (.slice e)) : (Op.equalIn (n + 1) t (.slice p a c) (.slice none a' c')).run P w = .ok p.isNone w := by
 cases p <;> simp [Op.equalIn, run_underlying ut]
theorem Quiet.eqNilS {x y : Operand} {t u e n c : Nat} {p : Option Addr} {n' c' : Nat} (hx : ev env x = some (.slice p n c)) (hy : ev env y = some (.slice none n' c')) [ut : Und P t (.slice e)] : Quiet P R env H (.binOp .eql t x y u) ty (.bool p.isNone) := λ a w d pos af g ha _ _ =>
 run_eqlOp (op := .move x) (ha.eval hx) (ha.eval hy) (eqGuard_other rfl) rfl (run_equalIn_slnil _ ut.h)
theorem TriOps.buildSlice0 {d : Nat} {T E k : Nat} [ut : Und P T (.slice E)] [sz : Sz P E k] (hn : ∀ b, TriOps false P N R ops l ((d, .slice (some ⟨b, 0, none⟩) 0 0) :: env) ([(b, .cells [].toArray E (0, 0))] :: H) K) (hd : Nat.blt d N = true := by rfl) :
  TriOps false P N R ops (⟨some d, .buildSlice T 0 [].toArray, ty, pos, af, none⟩ :: l) env H K :=
 TriOps.fresh (v := λ b => .slice (some ⟨b, 0, none⟩) 0 0) hd (λ a w ha s ro => ⟨w.drawn, by
  have h6 : (execOp a.eval ⟨some d, .buildSlice T 0 [].toArray, ty, pos, af, none⟩) = (do pure (.value (<- Instr.buildSlice T 0 #[]))) := by
   show (do pure (Next.value (<- Instr.buildSlice T 0 ((#[] : Array (Nat × Operand)).map λ x : Nat × Operand => (x.1, a.eval x.2))))) = _
   rw [Array.map_empty]
  rw [h6]
  have h7 : ((Array.range 0).map λ x => (default : Value)) = #[] := by apply Array.eq_empty_of_size_eq_zero; simp
  simp [Instr.buildSlice, run_underlying ut.h, sz.h, Instr.fill, newRow_run, h7]⟩) hn
theorem OS.empty {E sz b : Nat} {enc : α -> List Value} : OS E sz enc (.slice (some ⟨b, 0, none⟩) 0 0) ([] : List α) [(b, .cells [].toArray E (0, 0))] :=
 ⟨by simp, by simp, .inr ⟨b, 0, _, 0, rfl, rfl, by simp, by simp, by simp, λ k hk => by simp at hk⟩⟩
theorem RS.none_nil {sz n c : Nat} {enc : α -> List Value} {xs : List α} (h : RS R sz enc (.slice none n c) xs) : xs = [] := by
 obtain ⟨p, cap, h1, _, _, h4⟩ := h.h
 cases h1
 rcases h4 with h4 | ⟨b, off, c, E, fr, h5, _⟩
 ·exact h4
 ·cases h5
end
end
section
section
variable {P : Program} {N : Nat} {R R' : Rds} {ops : Array Oper} {l : List Oper} {env : Env} {H : Segs} {K : Env -> Segs -> Prop} {T : Seg} {upd : Seg -> Segs} {ty : TypeId} {pos : String} {af : Array Edge}
def MthAt (P : Program) (D : Rds) (t : TypeId) (v : Value) (name : String) (f : FuncId) (r : Value) : Prop :=
 ∀ w, (∀ b o, D b o -> w.heap[b]? = some o) -> (Go.method (P.types.size + Made.depth) t v name).run P w = .ok (f, r) w
theorem MthAt.mono {D D' : Rds} {t : TypeId} {v : Value} {name : String} {f : FuncId} {r : Value} (h : MthAt P D t v name f r) (hd : ∀ b o, D b o -> D' b o) : MthAt P D' t v name f r := λ w hw => h w λ b o hb => hw b o (hd b o hb)
def ISpec (P : Program) (t : TypeId) (v : Value) (name : String) (vs : List Value) (R : Rds) (T : Seg) (Post : Value -> Seg -> Prop) : Prop :=
 ∃ f r, MthAt P (Rx R [T]) t v name f r /\ Ent P f /\ Spec P f (r :: vs) R [T] λ u H' => ∃ T', H' = [T'] /\ Post u T'
theorem ISpec.weaken {t : TypeId} {v : Value} {name : String} {vs : List Value} {Post : Value -> Seg -> Prop} (h : ISpec P t v name vs R' T Post) (hr : ∀ b o, R' b o -> R b o) : ISpec P t v name vs R T Post := by
 obtain ⟨f, r, h1, h2, h3⟩ := h
 exact ⟨f, r, h1.mono λ b o hb => hb.imp (hr b o) id, h2, h3.weaken hr⟩
theorem Quiet.i64 {op : Op} {z : Int} (c : Int) (h : Quiet P R env H op ty (.int .i64 (IntKind.i64.wrap z))) (e : z = c /\ -9223372036854775808 <= c /\ c <= 9223372036854775807) : Quiet P R env H op ty (.int .i64 c) := by
 obtain ⟨rfl, h1, h2⟩ := e
 rw [IntWalk.i64_in _ (by omega)] at h
 exact h
theorem tdiv2 {j : Nat} : ((j : Int) - 1).tdiv 2 = (((j - 1) / 2 : Nat) : Int) := by
 rcases Nat.eq_zero_or_pos j with h | h
 ·subst h; decide
 ·rw [Int.tdiv_eq_ediv_of_nonneg (by omega)]; omega
theorem MthAt.ptr {D : Rds} {t e : TypeId} {v : Value} {name : String} {f : FuncId} {info : TypeInfo} (ht : ∀ w, (typeInfo t).run P w = .ok info w) (hm : (info.methods.find? (·.name == name)).map (λ m => (m.path.isEmpty, m.func)) = some (true, some (f, true)))
  (hu : Und P t (.pointer e)) (hs : Nat.beq P.types.size 0 = false) : MthAt P D t v name f v := λ w _ => by
 obtain ⟨n, hn⟩ : ∃ n, P.types.size + Made.depth = n + 1 := ⟨P.types.size + Made.depth - 1, by have : P.types.size ≠ 0 := λ e => (by rw [e] at hs; cases hs); omega⟩
 rw [hn]
 obtain ⟨m, hm1, hm2⟩ := Option.map_eq_some_iff.1 hm
 simp only [Prod.mk.injEq] at hm2
 have hp : m.path = #[] := by simpa using hm2.1
 unfold Go.method
 simp [ht, hm1, hp, hm2.2, follow, receiverAt, run_underlying hu.h, Place.get]
theorem run_wrapNil {tys : Array TypeId} {t : TypeId} {a : Addr} {s m : ByteArray} {w : World} : (Builtin.ssaWrapNilChk_ tys t #[.pointer (some a), .string s, .string m]).run P w = .ok (.pointer (some a)) w := rfl
theorem MthAt.val {D : Rds} {t e : TypeId} {v u : Value} {us : List Value} {name : String} {f : FuncId} {info : TypeInfo} (ht : ∀ w, (typeInfo t).run P w = .ok info w) (hm : (info.methods.find? (·.name == name)).map (λ m => (m.path.isEmpty, m.func)) = some (true, some (f, false)))
  (hu : Und P t (.pointer e)) (hs : Nat.beq P.types.size 0 = false) (ag : Agg P e false) (hc : PC D v (u :: us)) : MthAt P D t v name f u := λ w hw => by
 obtain ⟨n, hn⟩ : ∃ n, P.types.size + Made.depth = n + 1 := ⟨P.types.size + Made.depth - 1, by have : P.types.size ≠ 0 := λ e => (by rw [e] at hs; cases hs); omega⟩
 rw [hn]
 obtain ⟨m, hm1, hm2⟩ := Option.map_eq_some_iff.1 hm
 simp only [Prod.mk.injEq] at hm2
 have hp : m.path = #[] := by simpa using hm2.1
 obtain ⟨b, off, c, E, fr, rfl, hb, hcs⟩ := hc.h
 have h0 := hcs 0 (by simp)
 have h1 : w.cell? ⟨b, off, none⟩ = some u := by
  simp [World.cell?, hw _ _ hb]
  simpa using h0
 unfold Go.method
 simp only [Sem.run_bind, ht, Result.andThen_ok, hm1, hp, hm2.2, follow, receiverAt, Sem.run_pure, Array.isEmpty_empty, if_true]
 simp only [run_underlying hu.h, Result.andThen_ok, Place.get, Sem.run_bind, Sem.run_pure, strVal, run_wrapNil, asAddr, loadVar, ag.h, run_load1 h1, Bool.false_eq_true, if_false]
end
end
section
variable {α : Type}
def swp (L : List α) (i k : Nat) : List α := match L[i]?, L[k]? with
 | some x, some y => (L.set i y).set k x
 | _, _ => L
theorem swp_eq {L : List α} {i k : Nat} {x y : α} (h1 : L[i]? = some x) (h2 : L[k]? = some y) : swp L i k = (L.set i y).set k x := by simp [swp, h1, h2]
theorem swp_length {L : List α} {i k : Nat} : (swp L i k).length = L.length := by
 unfold swp; split <;> simp
theorem swp_get {L : List α} {i k : Nat} (hi : i < L.length) (hk : k < L.length) (j : Nat) : (swp L i k)[j]? = if j = k then L[i]? else if j = i then L[k]? else L[j]? := by
 rw [swp_eq (List.getElem?_eq_getElem hi) (List.getElem?_eq_getElem hk), List.getElem?_set, List.getElem?_set]
 by_cases h1 : k = j
 ·subst h1; simp [hk, List.getElem?_eq_getElem hi]
 ·by_cases h2 : i = j
  ·subst h2
   simp [h1, Ne.symm h1, hi, List.getElem?_eq_getElem hk]
  ·simp [h1, h2, Ne.symm h1, Ne.symm h2]
theorem swp_perm {L : List α} {i k : Nat} : (swp L i k).Perm L := by
 unfold swp
 split
 ·rename_i x y h1 h2
  obtain ⟨hi, rfl⟩ := List.getElem?_eq_some_iff.1 h1
  obtain ⟨hk, rfl⟩ := List.getElem?_eq_some_iff.1 h2
  exact List.set_set_perm hi hk
 ·exact .refl _
structure SO (lt : α -> α -> Bool) : Prop where
 irr : ∀ x, lt x x = false
 tr : ∀ x y z, lt x y = true -> lt y z = true -> lt x z = true
 ntr : ∀ x y z, lt x y = false -> lt y z = false -> lt x z = false
theorem SO.asym {lt : α -> α -> Bool} (h : SO lt) {x y : α} (hx : lt x y = true) : lt y x = false := by
 cases hy : lt y x with
 | false => rfl
 | true => have := h.tr _ _ _ hx hy; rw [h.irr] at this; cases this
def par (k : Nat) : Nat := (k - 1) / 2
def HEdge (lt : α -> α -> Bool) (L : List α) (a k : Nat) : Prop := ∀ x y, L[a]? = some x -> L[k]? = some y -> lt y x = false
def Heap (lt : α -> α -> Bool) (L : List α) (n : Nat) : Prop := ∀ k, 0 < k -> k < n -> HEdge lt L (par k) k
structure Up (lt : α -> α -> Bool) (L : List α) (n j : Nat) : Prop where
 e : ∀ k, 0 < k -> k < n -> k ≠ j -> HEdge lt L (par k) k
 b : ∀ k, 0 < k -> k < n -> par k = j -> 0 < j -> HEdge lt L (par j) k
structure Hole (lt : α -> α -> Bool) (L : List α) (n i : Nat) : Prop where
 e : ∀ k, 0 < k -> k < n -> k ≠ i -> par k ≠ i -> HEdge lt L (par k) k
 b : ∀ k, 0 < k -> k < n -> par k = i -> 0 < i -> HEdge lt L (par i) k
theorem par_lt {k : Nat} (h : 0 < k) : par k < k := by unfold par; omega
section
variable {lt : α -> α -> Bool} {L : List α} {n i j : Nat}
theorem Up.stop (h : Up lt L n j) (he : HEdge lt L (par j) j) : Heap lt L n := λ k h0 hk => by
 by_cases hkj : k = j
 ·subst hkj; exact he
 ·exact h.e k h0 hk hkj
theorem HEdge.of_get {L' : List α} {a k a' k' : Nat} (h : HEdge lt L a k) (h1 : L'[a']? = L[a]?) (h2 : L'[k']? = L[k]?) : HEdge lt L' a' k' := λ x y hx hy => h x y (h1 ▸ hx) (h2 ▸ hy)
theorem Hole.stop (h : Hole lt L n i) (hc : ∀ c, 0 < c -> c < n -> par c = i -> HEdge lt L i c) : Up lt L n i :=
 ⟨λ k hk0 hk hki => by
  by_cases h1 : par k = i
  ·rw [h1]; exact hc k hk0 hk h1
  ·exact h.e k hk0 hk hki h1, h.b⟩
theorem Heap.hole (so : SO lt) (h : Heap lt L n) (hn : n <= L.length) {L' : List α} (hs : ∀ k, k < n -> k ≠ i -> L'[k]? = L[k]?) : Hole lt L' n i := by
 refine ⟨λ k hk0 hk hki hkp => ?_, λ k hk0 hk hkp hi0 => ?_⟩
 ·have := par_lt hk0
  exact (h k hk0 hk).of_get (hs _ (by omega) hkp) (hs _ hk hki)
 ·have h1 := par_lt hk0
  have h2 := par_lt hi0
  intro u v hu hv
  rw [hs _ (by omega) (by omega)] at hu
  rw [hs _ hk (by omega)] at hv
  have hi : L[i]? = some (L[i]'(by omega)) := List.getElem?_eq_getElem _
  exact so.ntr _ _ _ (h k hk0 hk _ v (by rw [hkp]; exact hi) hv) (h i hi0 (by omega) u _ hu hi)
theorem Heap.push (h : Heap lt L L.length) (x : α) : Up lt (L ++ [x]) (L.length + 1) L.length := by
 refine ⟨λ k hk0 hk hkn => ?_, λ k hk0 hk hkp _ => ?_⟩
 ·have h1 := par_lt hk0
  refine (h k hk0 (by omega)).of_get ?_ ?_ <;> rw [List.getElem?_append_left (by omega)]
 ·have h1 := par_lt hk0
  omega
theorem Heap.of_get {L' : List α} (h : Heap lt L n) (hs : ∀ k, k < n -> L'[k]? = L[k]?) : Heap lt L' n := λ k h0 hk => by
 have := par_lt h0
 exact (h k h0 hk).of_get (hs _ (by omega)) (hs _ hk)
end
end
section
theorem HLe.trans {A B C : Segs} (h : HLe A B) (h' : HLe B C) : HLe A C := by
 obtain ⟨G, h⟩ := h
 obtain ⟨G', h'⟩ := h'
 refine ⟨G' ++ G, h.trans ?_⟩
 rw [<- List.append_assoc]
 exact h'.append_right G
theorem RS.litB {α : Type} {R : Rds} {b n E sz : Nat} {cs : List Value} {fr : Nat × Nat} {enc : α -> List Value} {xs : List α} (hb : R b (.cells cs.toArray E fr)) (he : xs.flatMap enc = cs) (hl : ∀ x ∈ xs, (enc x).length = sz) (ho : ∀ x ∈ xs, ∀ u ∈ enc x, Go.Proofs.YtenilfmlfldogaaGreat.oneCell u = true) (hn : xs.length = n := by rfl) (hm : Nat.ble n 9223372036854775807 = true := by rfl) :
  RS R sz enc (.slice (some ⟨b, 0, none⟩) n n) xs :=
 ⟨hl, ho, _, n, by rw [hn], by omega, by have := Nat.le_of_ble_eq_true hm; unfold maxLen; omega, .inr ⟨b, 0, _, E, fr, rfl, hb, λ k hk => by subst he; simp⟩⟩
theorem RS.lits {α : Type} {R : Rds} {H : Segs} {b n E sz : Nat} {cs : List Value} {fr : Nat × Nat} {enc : α -> List Value} {xs : List α} (he : xs.flatMap enc = cs) (hl : ∀ x ∈ xs, (enc x).length = sz) (ho : ∀ x ∈ xs, ∀ u ∈ enc x, Go.Proofs.YtenilfmlfldogaaGreat.oneCell u = true) (hn : xs.length = n := by rfl) (hm : Nat.ble n 9223372036854775807 = true := by rfl) :
  RS (Rx R ([(b, .cells cs.toArray E fr)] :: H)) sz enc (.slice (some ⟨b, 0, none⟩) n n) xs := RS.litB (E := E) (fr := fr) (.inr (by simp)) he hl ho hn hm
def idx {α : Type} : Nat -> List α -> List (Nat × α)
 | _, [] => []
 | i, x :: l => (i, x) :: idx (i + 1) l
theorem fillL_one {places : List (Nat × Nat)} {zs : List Value} {i off : Nat} {v : Value} {r : List (Nat × Value)} (hp : places[i]? = some (off, 1)) (hv : oneCell v = true) (hl : off + 1 <= zs.length) : fillL places zs ((i, v) :: r) = fillL places (setL zs off [v]) r := by
 have h2 : Nat.ble (off + 1) zs.length = true := Nat.ble_eq_true_of_le hl
 simp only [fillL, hp]
 cases v <;> first | (cases hv; done) | simp [h2]
theorem fillL_seq1' {n : Nat} : ∀ (vs zs : List Value) (i : Nat), i + vs.length = n -> zs.length = n -> (∀ v ∈ vs, oneCell v = true) -> fillL ((List.range n).map λ i => (i * 1, 1)) zs (idx i vs) = some (zs.take i ++ vs)
 | [], zs, i, h, hz, _ => by
  simp only [idx, fillL, List.append_nil]
  rw [List.take_of_length_le (by simp at h; omega)]
 | v :: vs, zs, i, h, hz, ho => by
  simp only [List.length_cons] at h
  have hp : ((List.range n).map λ i => (i * 1, 1))[i]? = some (i * 1, 1) := by
   rw [List.getElem?_map, List.getElem?_range (by omega)]; rfl
  simp only [idx]
  rw [fillL_one hp (ho v (by simp)) (by omega), fillL_seq1' vs _ (i + 1) (by omega) (by rw [setL_length (by simp; omega)]; exact hz) λ u hu => ho u (by simp [hu])]
  simp only [setL_eq, Nat.mul_one, List.append_assoc]
  rw [List.take_append, List.take_of_length_le (by simp; omega)]
  have e1 : i + 1 - (zs.take i).length = 1 := by rw [List.length_take]; omega
  rw [e1]; simp
theorem fillL_seq1 {n : Nat} {vs zs : List Value} (hn : vs.length = n) (hz : zs.length = n) (ho : ∀ v ∈ vs, oneCell v = true) : fillL ((List.range n).map λ i => (i * 1, 1)) zs (idx 0 vs) = some vs := by
 rw [fillL_seq1' vs zs 0 (by omega) hz ho]; simp
section
variable {P : Program} {N : Nat} {R R' : Rds} {ops : Array Oper} {l : List Oper} {env : Env} {H : Segs} {K : Env -> Segs -> Prop} {Q : Exit -> Env -> Segs -> Prop} {T : Seg} {upd : Seg -> Segs} {ty : TypeId} {pos : String} {af : Array Edge} {m : Bool}
theorem Spec.keep {f : FuncId} {args : List Value} {Post : Value -> Prop} (h : Spec P f args (Rx R H) [] λ v H' => Post v /\ H' = []) : Spec P f args R H λ v H' => Post v /\ H' = H := λ w hs hr => by
 obtain ⟨s1, s2, s3⟩ := sat_split (is := []) hs
 refine (h w s1 (RO.split (is := []) hs hr)).mono λ e w' ⟨v, H', he, ⟨hp, hH⟩, hs', hf⟩ => ?_
 subst hH
 obtain ⟨j1, j2⟩ := sat_join (is := []) hs hs' hf
 exact ⟨v, H, he, ⟨hp, rfl⟩, j1, j2⟩
theorem ISpec.keep {t : TypeId} {v r : Value} {name : String} {vs : List Value} {f : FuncId} {Post : Value -> Prop} (hm : MthAt P (Rx R [T]) t v name f r) [e : Ent P f] (h : Spec P f (r :: vs) (Rx R [T]) [] λ v H' => Post v /\ H' = []) : ISpec P t v name vs R T λ u T' => Post u /\ T' = T :=
 ⟨f, r, hm, e, h.keep.mono λ u H' ⟨h1, h2⟩ => ⟨T, h2, h1, rfl⟩⟩
theorem PS.of {b : Nat} {vs : List Value} {E : TypeId} {fr : Nat × Nat} (h : (b, .cells vs.toArray E fr) ∈ T) : PS T (.pointer (some ⟨b, 0, none⟩)) vs := ⟨PC.of h⟩
theorem TriOps.buildSliceN1 {d : Nat} {T E n : Nat} {z : Value} {xs : List (Nat × Operand)} (vs : List Value) [ut : Und P T (.slice E)] [sz : Sz P E 1] [zr : Zr P E z]
  (hn : ∀ b, TriOps false P N R ops l ((d, .slice (some ⟨b, 0, none⟩) n n) :: env) ([(b, .cells vs.toArray E (0, 0))] :: H) K)
  (hx : evp env xs = some (idx 0 vs) := by rfl) (hl : vs.length = n := by rfl) (ho : ∀ v ∈ vs, Go.Proofs.YtenilfmlfldogaaGreat.oneCell v = true := by simp [Go.Proofs.YtenilfmlfldogaaGreat.oneCell]) (hs : Nat.ble (n * 1) (2 ^ 24) = true := by rfl) (hk : Nat.beq (n * 1) 0 = false := by rfl) (hp : (idx 0 vs).all (λ p => Nat.blt p.1 n) = true := by rfl) (hd : Nat.blt d N = true := by rfl) :
  TriOps false P N R ops (⟨some d, .buildSlice T n xs.toArray, ty, pos, af, none⟩ :: l) env H K :=
 TriOps.buildSlice (z := z) (zs := ((Array.range (n * 1)).map (z.cells[· % z.cells.size]!)).toList) (parts := idx 0 vs) hs hk rfl hx (fillL_seq1 hl (by simp) ho) hn hd hp
theorem Spec.lend {f : FuncId} {args : List Value} {Post : Value -> Segs -> Prop} (is : List Nat) (h : Spec P f args (Rx R (rest is H)) (take is H) Post) : Spec P f args R H λ v H' => ∃ H1, H' = H1 ++ rest is H /\ Post v H1 := λ w hs hr => by
 obtain ⟨s1, s2, s3⟩ := sat_split (is := is) hs
 refine (h w s1 (RO.split hs hr)).mono λ e w' ⟨v, H', he, hp, hs', hf⟩ => ?_
 obtain ⟨j1, j2⟩ := sat_join hs hs' hf
 exact ⟨v, _, he, ⟨H', rfl, hp⟩, j1, j2⟩
theorem Spec.flat {f : FuncId} {args : List Value} {Post : Value -> Segs -> Prop} (h : Spec P f args R H λ v H' => ∃ H1 T', H' = H1 /\ H1.flatten.Perm T' /\ Post v [T']) : Spec P f args R H Post := λ w hs hr =>
 (h w hs hr).mono λ e w' ⟨v, H', he, ⟨H1, T', e1, hp, hq⟩, hs', hf⟩ => by
  subst e1
  have hh : HLe H' [T'] := ⟨[], by simpa using hp⟩
  exact ⟨v, [T'], he, hq, hh.sat hs', hf.trans (hh.frame w')⟩
theorem TriOps.sub {H' : Segs} (hh : HLe H H') (h : TriOps m P N R ops l env H' K) : TriOps m P N R ops l env H K := λ Q' w0 H0 hQ a w s => h Q' w0 H0 hQ a w (s.le (EnvLe.refl env) hh)
theorem HLe.ofPerm {H H' : Segs} (h : H.flatten.Perm H'.flatten) : HLe H H' := ⟨[], by simpa using h⟩
theorem run_sliceAtS {t : TypeId} {s : ByteArray} {lo hi : Nat} {xl xh : Option Operand} {a : Act} {w : World} (ha : EnvOK a env) [ut : Und P t .string] (h1 : optN env xl 0 lo) (h2 : optN env xh s.size hi) (h3 : lo <= hi) (h4 : hi <= s.size) :
  (Instr.sliceAt t (.string s) (xl.map a.eval) (xh.map a.eval) none).run P w = .ok (.string (s.extract lo hi)) w := by
 have b1 : ∀ {x : Operand} {k : IntKind} {y n : Nat} {code : BoundsCode}, ev env x = some (.int k n) -> n <= y -> (Instr.sliceBound (a.eval x) y code).run P w = .ok n w := λ hx hn => run_sliceBound (ha.eval hx) hn
 unfold Instr.sliceAt
 simp only [Sem.run_bind, run_underlying ut.h, Result.andThen_ok]
 unfold Instr.slice
 simp only [Sem.run_bind, run_underlying ut.h, Result.andThen_ok]
 unfold Instr.sliceBounds
 cases xl with
 | none =>
  simp only [optN] at h1
  subst h1
  cases xh with
  | none => simp only [optN] at h2; subst h2; simp
  | some o => obtain ⟨k, hk⟩ := h2; simp [b1 hk h4]
 | some q =>
  obtain ⟨k1, hk1⟩ := h1
  cases xh with
  | none => simp only [optN] at h2; subst h2; simp [b1 hk1 h3]
  | some o => obtain ⟨k, hk⟩ := h2; simp [b1 hk h4, b1 hk1 h3]
theorem Quiet.sliceStr {x : Operand} {xl xh : Option Operand} {t : TypeId} {s : ByteArray} (lo hi : Nat) [ut : Und P t .string] (h1 : optN env xl 0 lo) (h2 : optN env xh s.size hi) (h3 : lo <= hi) (h4 : hi <= s.size) (hx : ev env x = some (.string s) := by rfl) :
  Quiet P R env H (.slice t x xl xh none) ty (.string (s.extract lo hi)) := λ a w d pos af g ha _ _ => by
 have := run_sliceAtS (P := P) (w := w) (s := s) ha h1 h2 h3 h4 (t := t)
 simp only [execOp, ha.eval hx, Option.map_none]
 rw [Sem.run_bind, this]
 rfl
theorem TriOps.callRV {d t : Nat} {f : FuncId} {first captured : List Value} [e : Ent P f] {xs : List Operand} {ats : Array TypeId} {vs : List Value} {Post : Value -> Prop}
  (hs : Spec P f (first ++ vs ++ captured) (Rx R H) [] λ v H' => Post v /\ H' = []) (hn : ∀ v, Post v -> TriOps false P N R ops l ((d, v) :: env) H K)
  (ht : Env.get? env t = some (.func (.func f) first.toArray captured.toArray) := by rfl) (hxs : evs env xs = some vs := by rfl) (hd : Nat.blt d N = true := by rfl) :
  TriOps false P N R ops (⟨some d, .call ⟨.value (.tmp t), xs.toArray, ats⟩, ty, pos, af, none⟩ :: l) env H K :=
 TriOps.callV [] (first := first) (captured := captured) ht hs (λ v H' hp => by obtain ⟨h1, rfl⟩ := hp; exact hn v h1) hxs hd
theorem yielded_undef {a : Act} {j t : Nat} (he : EnvOK a env) (hj : gdst ops j = some t) (hv : Env.get? env t = some undef) : yielded ops a.tmps j = none := by
 unfold gdst at hj
 have := he t _ hv
 simp [yielded, hj, this, undef]
theorem TriOps.gfU {j t d : Nat} {want : Bool} {op : Op} (hv : Env.get? env t = some undef) (hn : TriOps m P N R ops l ((d, undef) :: env) H K) (hj : gdst ops j = some t := by rfl) (hd : Nat.blt d N = true := by rfl) :
  TriOps m P N R ops (⟨some d, op, ty, pos, af, some (j, want)⟩ :: l) env H K := λ Q' w0 H0 hQ a w s => by
 have hw : ¬ Region.wanted ⟨some d, op, ty, pos, af, some (j, want)⟩ (yielded ops a.tmps) = true := by
  simp [Region.wanted, yielded_undef s.env hj hv]
 have h := hn Q' w0 H0 hQ _ w (s.put undef hd)
 cases m
 ·simp only [wpList]
  rw [if_neg hw]
  exact h
 ·simp only [wpStill]
  rw [if_neg hw]
  exact h
theorem TriOps.sliceR {d : Nat} {x : Operand} {xl xh : Option Operand} {t e : TypeId} {sz : Nat} {α : Type} {enc : α -> List Value} {v : Value} {xs : List α} (lo hi : Nat) (h : RS R' sz enc v xs) [ut : Und P t (.slice e)] [s : Sz P e sz] (h1 : optN env xl 0 lo) (h2 : optN env xh xs.length hi) (h3 : lo <= hi) (h4 : hi <= xs.length)
  (hn : ∀ v', RS R' sz enc v' ((xs.drop lo).take (hi - lo)) -> TriOps m P N R ops l ((d, v') :: env) H K) (hx : ev env x = some v := by rfl) (hd : Nat.blt d N = true := by rfl) :
  TriOps m P N R ops (⟨some d, .slice t x xl xh none, ty, pos, af, none⟩ :: l) env H K := by
 obtain ⟨v', g1, g2⟩ := Quiet.sliceR (P := P) (R := R) (H := H) (ty := ty) (t := t) lo hi h h1 h2 h3 h4 hx
 exact TriOps.q g2 (hn v' g1) hd
end
end
section
section
variable {P : Program} {N : Nat} {R R' : Rds} {ops : Array Oper} {l : List Oper} {env : Env} {H : Segs} {K : Env -> Segs -> Prop} {Q : Exit -> Env -> Segs -> Prop} {T : Seg} {upd : Seg -> Segs} {ty : TypeId} {pos : String} {af : Array Edge} {m : Bool}
theorem Quiet.cast {op : Op} {v v' : Value} (h : Quiet P R env H op ty v) (e : v = v') : Quiet P R env H op ty v' := e ▸ h
theorem RS.seg {α : Type} {sz : Nat} {enc : α -> List Value} {v : Value} {xs : List α} (h : RS (sg T) sz enc v xs) [sa : SegAt H T upd] : RS (Rx R H) sz enc v xs := h.mono λ b o hb => .inr (sa.mem (b, o) hb)
theorem RS.left {α : Type} {T1 T2 : Seg} {sz : Nat} {enc : α -> List Value} {v : Value} {xs : List α} (h : RS (sg T1) sz enc v xs) : RS (sg (T1 ++ T2)) sz enc v xs := h.mono λ b o hb => List.mem_append_left _ hb
theorem OS.sg {α : Type} {E sz : Nat} {enc : α -> List Value} {v : Value} {xs : List α} (h : OS E sz enc v xs T) : RS (Go.Proofs.YtenilfmlfldogaaGreat.sg T) sz enc v xs := h.rs λ _ hp => hp
end
abbrev bl (b : Nat) (cs : List Value) (t : TypeId) : Seg := [(b, .cells cs.toArray t (0, 0))]
abbrev sZ : Value := .slice none 0 0
abbrev pT (b : Nat) : Value := .pointer (some ⟨b, 0, none⟩)
abbrev iN (n : Nat) : Value := .int .i64 (n : Int)
section
variable {P : Program} {N : Nat} {R : Rds} {ops : Array Oper} {l : List Oper} {env : Env} {H Ho : Segs} {Ms done : List Nat} {K : Env -> Segs -> Prop} {m : Bool} {d : Nat} {ty : TypeId} {pos : String} {af : Array Edge}
theorem TriOps.ia {op : Op} {z : Int} (c : Nat) (h : Quiet P R env H op ty (.int .i64 (IntKind.i64.wrap z))) (hn : TriOps m P N R ops l ((d, .int .i64 ((c : Nat) : Int)) :: env) H K) (e : z = (c : Int) /\ -9223372036854775808 <= (c : Int) /\ (c : Int) <= 9223372036854775807 := by (refine ⟨?_, ?_, ?_⟩ <;> omega)) (hd : Nat.blt d N = true := by rfl) : TriOps m P N R ops (⟨some d, op, ty, pos, af, none⟩ :: l) env H K := .q (.i64 (c : Int) h e) hn hd
theorem RA.tK {op : Op} {v : Value} (i : Nat) (hi : ops[i]? = some ⟨some d, op, ty, pos, af, none⟩) (hq : Quiet P R env [] op ty v) (hn : RA P N R ops Ho Ms (i :: done) ((d, v) :: env) H K) (hc : tk false ops Ms done i = true := by kernel_rfl) (hd : Nat.blt d N = true := by rfl) : RA P N R ops Ho Ms done env H K := .take i hi hq hc hn hd
theorem RA.tO {op : Op} {v : Value} (i : Nat) (hi : ops[i]? = some ⟨some d, op, ty, pos, af, none⟩) (hq : Quiet P R env Ho op ty v) (hn : RA P N R ops Ho Ms (i :: done) ((d, v) :: env) H K) (hc : tk true ops Ms done i = true := by kernel_rfl) (hd : Nat.blt d N = true := by rfl) : RA P N R ops Ho Ms done env H K := .takeO i hi hq hc hn hd
theorem RA.sT {o : Oper} (i : Nat) (hi : ops[i]? = some o) (h : TriOps false P N R ops [o] env H (Next P N R ops Ho Ms done K i)) (hr : Region.ready .any ops (marked ops.size done) = [i] := by kernel_rfl) (hl : Nat.blt done.length ops.size = true := by rfl) : RA P N R ops Ho Ms done env H K := .step i hi hr hl h
theorem rq1 {Post : Value -> Segs -> Prop} {t : Nat} {v : Value} (h : Env.get? env t = some v) (hp : Post v []) : retQ P R [.tmp t] Post .ret env H := retQ_r v (.one (.tmp h)) (.none _) hp
theorem rxl : ∀ b o, R b o -> Rx R H b o := λ _ _ h => .inl h
end
theorem lt_i {a b : Nat} (h : decide ((a : Int) < (b : Int)) = true) : a < b := by have := of_decide_eq_true h; omega
theorem ge_i {a b : Nat} (h : decide ((a : Int) < (b : Int)) = false) : b <= a := by have := of_decide_eq_false h; omega
theorem exg {α : Type} {l : List α} {i : Nat} (h : i < l.length) : ∃ x, l[i]? = some x := ⟨_, List.getElem?_eq_getElem h⟩
theorem gge {α : Type} {l : List α} {i : Nat} (h : i < l.length) : l[i]? = some l[i] := List.getElem?_eq_getElem h
theorem mog {α : Type} {l : List α} {i : Nat} {a : α} (h : l[i]? = some a) : a ∈ l := List.mem_of_getElem? h
theorem odt {p : Prop} [i : Decidable p] (h : decide p = true) : p := of_decide_eq_true h
theorem odf {p : Prop} [i : Decidable p] (h : decide p = false) : ¬ p := of_decide_eq_false h
theorem rH {H : Segs} : HLe H H := .refl _
theorem pkH (is : List Nat) {H : Segs} : HLe H (take is H) := .pick is H
end
section
variable {α : Type}
inductive RP (a b : Nat) : List α -> List α -> Prop
 | refl (xs : List α) : RP a b xs xs
 | step {xs ys : List α} {i j : Nat} : RP a b xs ys -> a <= i -> i < b -> a <= j -> j < b -> b <= ys.length -> RP a b xs (swp ys i j)
section
variable {a b a' b' : Nat} {xs ys zs : List α}
theorem RP.length (h : RP a b xs ys) : ys.length = xs.length := by
 induction h with
 | refl => rfl
 | step _ _ _ _ _ _ ih => rw [swp_length, ih]
theorem RP.perm (h : RP a b xs ys) : ys.Perm xs := by
 induction h with
 | refl => exact .refl _
 | step _ _ _ _ _ _ ih => exact swp_perm.trans ih
theorem RP.out (h : RP a b xs ys) {k : Nat} (hk : k < a \/ b <= k) : ys[k]? = xs[k]? := by
 induction h with
 | refl => rfl
 | step _ h1 h2 h3 h4 h5 ih => rw [swp_get (by omega) (by omega), if_neg (by omega), if_neg (by omega), ih]
theorem RP.all (h : RP a b xs ys) {p : α -> Prop} (hp : ∀ (k : Nat) (x : α), a <= k -> k < b -> xs[k]? = some x -> p x) : ∀ (k : Nat) (x : α), a <= k -> k < b -> ys[k]? = some x -> p x := by
 induction h with
 | refl => exact hp
 | step _ h1 h2 h3 h4 h5 ih =>
  intro k x hk1 hk2 hx
  rw [swp_get (by omega) (by omega)] at hx
  split at hx
  ·exact ih _ x h1 h2 hx
  ·split at hx
   ·exact ih _ x h3 h4 hx
   ·exact ih k x hk1 hk2 hx
theorem RP.trans (h : RP a b xs ys) (h' : RP a b ys zs) : RP a b xs zs := by
 induction h' with
 | refl => exact h
 | step _ h1 h2 h3 h4 h5 ih => exact .step ih h1 h2 h3 h4 h5
theorem RP.mono (h : RP a b xs ys) (ha : a' <= a) (hb : b <= b') (hl : b' <= xs.length) : RP a' b' xs ys := by
 induction h with
 | refl => exact .refl _
 | step h0 h1 h2 h3 h4 h5 ih => exact .step ih (by omega) (by omega) (by omega) (by omega) (by rw [h0.length]; omega)
theorem RP.one {i j : Nat} (h1 : a <= i) (h2 : i < b) (h3 : a <= j) (h4 : j < b) (h5 : b <= xs.length) : RP a b xs (swp xs i j) := .step (.refl xs) h1 h2 h3 h4 h5
end
section
variable {lt : α -> α -> Bool} {a b a0 b0 mid : Nat} {xs ys zs : List α}
def SR (lt : α -> α -> Bool) (xs : List α) (a b : Nat) : Prop := ∀ i j, a <= i -> i < j -> j < b -> HEdge lt xs i j
def OX (lt : α -> α -> Bool) (xs : List α) (a0 b0 a b : Nat) : Prop := ∀ i j, a0 <= i -> i < j -> j < b0 -> (i < a \/ b <= j) -> HEdge lt xs i j
theorem OX.start : OX lt xs a0 b0 a0 b0 := λ i j h1 h2 h3 h4 => by omega
theorem OX.sorted (h : OX lt xs a0 b0 a b) (hs : SR lt xs a b) : SR lt xs a0 b0 := λ i j h1 h2 h3 => by
 by_cases h4 : i < a \/ b <= j
 ·exact h i j h1 h2 h3 h4
 ·exact hs i j (by omega) h2 (by omega)
theorem OX.rp (h : OX lt xs a0 b0 a b) (hr : RP a b xs ys) (ha : a0 <= a) (hb : b <= b0) : OX lt ys a0 b0 a b := λ i j h1 h2 h3 h4 x y hx hy => by
 rcases h4 with h4 | h4
 ·rw [hr.out (.inl h4)] at hx
  by_cases h5 : j < a \/ b <= j
  ·rw [hr.out h5] at hy
   exact h i j h1 h2 h3 (.inl h4) x y hx hy
  ·exact hr.all (p := λ y => lt y x = false) (λ k z hk1 hk2 hz => h i k h1 (by omega) (by omega) (.inl h4) x z hx hz) j y (by omega) (by omega) hy
 ·rw [hr.out (.inr h4)] at hy
  by_cases h5 : i < a \/ b <= i
  ·rw [hr.out h5] at hx
   exact h i j h1 h2 h3 (.inr h4) x y hx hy
  ·exact hr.all (p := λ x => lt y x = false) (λ k z hk1 hk2 hz => h k j (by omega) (by omega) h3 (.inr h4) z y hz hy) i x (by omega) (by omega) hx
structure Part (lt : α -> α -> Bool) (xs : List α) (a mid b : Nat) (p : α) : Prop where
 lo : a <= mid
 hi : mid < b
 at_ : xs[mid]? = some p
 left : ∀ (k : Nat) (x : α), a <= k -> k < mid -> xs[k]? = some x -> lt x p = true
 right : ∀ (k : Nat) (x : α), mid < k -> k < b -> xs[k]? = some x -> lt x p = false
theorem Part.rpL {p : α} (h : Part lt xs a mid b p) (hr : RP a mid xs ys) : Part lt ys a mid b p :=
 ⟨h.lo, h.hi, by rw [hr.out (.inr (Nat.le_refl _))]; exact h.at_, hr.all h.left, λ k x h1 h2 hx => h.right k x h1 h2 (by rw [<- hr.out (.inr (by omega))]; exact hx)⟩
theorem Part.rpR {p : α} (h : Part lt xs a mid b p) (hr : RP (mid + 1) b xs ys) : Part lt ys a mid b p :=
 ⟨h.lo, h.hi, by rw [hr.out (.inl (by omega))]; exact h.at_, λ k x h1 h2 hx => h.left k x h1 h2 (by rw [<- hr.out (.inl (by omega))]; exact hx),
  λ k x h1 h2 hx => hr.all (p := λ x => lt x p = false) (λ k x hk1 hk2 => h.right k x (by omega) hk2) k x (by omega) h2 hx⟩
theorem Part.pair (so : SO lt) {p : α} (h : Part lt xs a mid b p) {i j : Nat} (h1 : a <= i) (h2 : i < j) (h3 : j < b) (h4 : i <= mid) (h5 : mid <= j) : HEdge lt xs i j := λ x y hx hy => by
 rcases Nat.lt_or_ge i mid with hi | hi
 ·have hxp := h.left i x h1 hi hx
  rcases Nat.lt_or_ge mid j with hj | hj
  ·have hyp := h.right j y hj h3 hy
   cases hc : lt y x with
   | false => rfl
   | true => rw [so.tr _ _ _ hc hxp] at hyp; cases hyp
  ·have : j = mid := by omega
   subst this
   rw [h.at_] at hy; cases hy
   exact so.asym hxp
 ·have : i = mid := by omega
  subst this
  rw [h.at_] at hx; cases hx
  exact h.right j y (by omega) h3 hy
theorem OX.left (so : SO lt) {p : α} (h : OX lt xs a0 b0 a b) (hp : Part lt xs a mid b p) (hr : RP a mid xs ys) (hs : SR lt ys a mid) (ha : a0 <= a) (hb : b <= b0) (hl : b <= xs.length) : OX lt ys a0 b0 (mid + 1) b := λ i j h1 h2 h3 h4 => by
 have ho := h.rp (hr.mono (Nat.le_refl a) (Nat.le_of_lt hp.hi) hl) ha hb
 have hp' := hp.rpL hr
 by_cases h5 : i < a \/ b <= j
 ·exact ho i j h1 h2 h3 h5
 ·rcases Nat.lt_or_ge j mid with hj | hj
  ·exact hs i j (by omega) h2 hj
  ·exact hp'.pair so (by omega) h2 (by omega) (by omega) hj
theorem OX.right (so : SO lt) {p : α} (h : OX lt xs a0 b0 a b) (hp : Part lt xs a mid b p) (hr : RP (mid + 1) b xs ys) (hs : SR lt ys (mid + 1) b) (ha : a0 <= a) (hb : b <= b0) (hl : b <= xs.length) : OX lt ys a0 b0 a mid := λ i j h1 h2 h3 h4 => by
 have hlo := hp.lo
 have ho := h.rp (hr.mono (by omega) (Nat.le_refl b) hl) ha hb
 have hp' := hp.rpR hr
 by_cases h5 : i < a \/ b <= j
 ·exact ho i j h1 h2 h3 h5
 ·rcases Nat.lt_or_ge mid i with hi | hi
  ·exact hs i j (by omega) h2 (by omega)
  ·exact hp'.pair so (by omega) h2 (by omega) hi (by omega)
structure PartE (lt : α -> α -> Bool) (xs : List α) (a mid b : Nat) (p : α) : Prop where
 lo : a < mid
 hi : mid <= b
 left : ∀ (k : Nat) (x : α), a <= k -> k < mid -> xs[k]? = some x -> lt x p = false /\ lt p x = false
 right : ∀ (k : Nat) (x : α), mid <= k -> k < b -> xs[k]? = some x -> lt p x = true
theorem OX.eqs (so : SO lt) {p : α} (h : OX lt xs a0 b0 a b) (hp : PartE lt xs a mid b p) : OX lt xs a0 b0 mid b := λ i j h1 h2 h3 h4 => by
 by_cases h5 : i < a \/ b <= j
 ·exact h i j h1 h2 h3 h5
 ·intro x y hx hy
  obtain ⟨e1, e2⟩ := hp.left i x (by omega) (by omega) hx
  rcases Nat.lt_or_ge j mid with hj | hj
  ·obtain ⟨e3, e4⟩ := hp.left j y (by omega) hj hy
   exact so.ntr _ _ _ e3 e2
  ·have e3 := hp.right j y hj (by omega) hy
   cases hc : lt y x with
   | false => rfl
   | true => rw [so.tr _ _ _ e3 hc] at e2; cases e2
def Ins (lt : α -> α -> Bool) (xs : List α) (a j n : Nat) : Prop := ∀ i k, a <= i -> i < k -> k < n -> k ≠ j -> HEdge lt xs i k
theorem SR.ins (h : SR lt xs a b) : Ins lt xs a b (b + 1) := λ i k h1 h2 h3 h4 => h i k h1 h2 (by omega)
theorem Ins.done (so : SO lt) {j n : Nat} (h : Ins lt xs a j n) (hn : n <= xs.length) (hj : j < n) (he : j = a \/ a < j /\ HEdge lt xs (j - 1) j) : SR lt xs a n := λ i k h1 h2 h3 => by
 by_cases hk : k = j
 ·subst hk
  rcases he with he | ⟨he1, he⟩
  ·omega
  ·by_cases hi : i = k - 1
   ·subst hi; exact he
   ·intro x y hx hy
    have hz : xs[k - 1]? = some (xs[k - 1]'(by omega)) := gge _
    exact so.ntr _ _ _ (he _ y hz hy) (h i (k - 1) h1 (by omega) (by omega) (by omega) x _ hx hz)
 ·exact h i k h1 h2 h3 hk
theorem Ins.step (so : SO lt) {j n : Nat} (h : Ins lt xs a j n) (hn : n <= xs.length) (hj : j < n) (ha : a < j) {x y : α} (hx : xs[j]? = some x) (hy : xs[j - 1]? = some y) (hlt : lt x y = true) : Ins lt (swp xs j (j - 1)) a (j - 1) n := λ i k h1 h2 h3 h4 => by
 have g := λ k => swp_get (L := xs) (i := j) (k := j - 1) (by omega) (by omega) k
 by_cases hk : k = j
 ·subst hk
  by_cases hi : i = k - 1
  ·subst hi
   intro u v hu hv
   rw [g, if_pos rfl, hx] at hu
   rw [g, if_neg (by omega), if_pos rfl, hy] at hv
   cases hu; cases hv
   exact so.asym hlt
  ·refine (h i (k - 1) h1 (by omega) (by omega) (by omega)).of_get ?_ ?_
   ·rw [g, if_neg hi, if_neg (by omega)]
   ·rw [g, if_neg (by omega), if_pos rfl]
 ·by_cases hi : i = j
  ·subst hi
   refine (h (i - 1) k (by omega) (by omega) h3 hk).of_get ?_ ?_
   ·rw [g, if_neg (by omega), if_pos rfl]
   ·rw [g, if_neg h4, if_neg hk]
  ·by_cases hi2 : i = j - 1
   ·subst hi2
    refine (h j k (by omega) (by omega) h3 hk).of_get ?_ ?_
    ·rw [g, if_pos rfl]
    ·rw [g, if_neg h4, if_neg hk]
   ·refine (h i k h1 h2 h3 hk).of_get ?_ ?_
    ·rw [g, if_neg hi2, if_neg hi]
    ·rw [g, if_neg h4, if_neg hk]
end
end
section
variable {α : Type}
def FnC (P : Program) (f : FuncId) (caps : List Value) (R : Rds) (pk : α -> Value) (c : α -> α -> Int) (ok : α -> Prop) : Prop :=
 ∀ x y, ok x -> ok y -> ∀ R', (∀ b o, R b o -> R' b o) -> Spec P f ([pk x, pk y] ++ caps) R' [] λ v H' => v = .int .i64 (c x y) /\ H' = []
theorem FnC.mono {P : Program} {f : FuncId} {caps : List Value} {R R' : Rds} {pk : α -> Value} {c : α -> α -> Int} {ok : α -> Prop} (h : FnC P f caps R pk c ok) (hr : ∀ b o, R b o -> R' b o) : FnC P f caps R' pk c ok := λ x y hx hy R2 h2 => h x y hx hy R2 λ b o hb => h2 b o (hr b o hb)
def ltc (c : α -> α -> Int) (x y : α) : Bool := decide (c x y < 0)
def HeapF (lt : α -> α -> Bool) (L : List α) (n lo : Nat) : Prop := ∀ k, 0 < k -> k < n -> lo <= par k -> HEdge lt L (par k) k
structure HoleF (lt : α -> α -> Bool) (L : List α) (n lo i : Nat) : Prop where
 e : ∀ k, 0 < k -> k < n -> k ≠ i -> par k ≠ i -> lo <= par k -> HEdge lt L (par k) k
 b : ∀ k, 0 < k -> k < n -> par k = i -> 0 < i -> lo <= par i -> HEdge lt L (par i) k
 u : 0 < i -> lo <= par i -> HEdge lt L (par i) i
section
variable {lt : α -> α -> Bool} {L : List α} {n i j lo : Nat}
theorem HoleF.step (so : SO lt) (h : HoleF lt L n lo i) (hlo : lo <= i) (h0 : 0 < j) (hj : j < n) (hn : n <= L.length) (hp : par j = i) {x y : α} (hx : L[j]? = some x) (hy : L[i]? = some y) (hlt : lt x y = true)
  (hmin : ∀ c z, 0 < c -> c < n -> par c = i -> L[c]? = some z -> lt z x = false) : HoleF lt (swp L i j) n lo j := by
 have hij : i < j := hp ▸ par_lt h0
 have g := λ k => swp_get (L := L) (i := i) (k := j) (by omega) (by omega) k
 refine ⟨λ k hk0 hk hkj hkp hkl => ?_, λ k hk0 hk hkp _ hkl => ?_, λ _ _ => ?_⟩
 ·by_cases hki : k = i
  ·subst hki
   have hpk := par_lt hk0
   refine (h.b j h0 hj hp hk0 hkl).of_get ?_ ?_
   ·rw [g, if_neg (by omega), if_neg (by omega)]
   ·rw [g, if_neg hkj, if_pos rfl]
  ·by_cases h1 : par k = i
   ·intro u v hu hv
    rw [h1, g, if_neg (by omega), if_pos rfl, hx] at hu
    rw [g, if_neg hkj, if_neg hki] at hv
    cases hu
    exact hmin k v hk0 hk h1 hv
   ·refine (h.e k hk0 hk hki h1 hkl).of_get ?_ ?_
    ·rw [g, if_neg hkp, if_neg h1]
    ·rw [g, if_neg hkj, if_neg hki]
 ·have hkj : k ≠ j := by have := par_lt hk0; omega
  have hki : k ≠ i := by have := par_lt hk0; omega
  refine (h.e k hk0 hk hki (by omega) (by omega)).of_get ?_ ?_
  ·rw [hp, hkp, g, if_neg (by omega), if_pos rfl]
  ·rw [g, if_neg hkj, if_neg hki]
 ·intro u v hu hv
  rw [hp, g, if_neg (by omega), if_pos rfl, hx] at hu
  rw [g, if_pos rfl, hy] at hv
  cases hu; cases hv
  exact so.asym hlt
theorem HoleF.stop (h : HoleF lt L n lo i) (hc : ∀ c, 0 < c -> c < n -> par c = i -> HEdge lt L i c) : HeapF lt L n lo := λ k hk0 hk hkl => by
 by_cases h1 : par k = i
 ·rw [h1]; exact hc k hk0 hk h1
 ·by_cases hki : k = i
  ·subst hki; exact h.u hk0 hkl
  ·exact h.e k hk0 hk hki h1 hkl
theorem HeapF.hole (h : HeapF lt L n (lo + 1)) : HoleF lt L n lo lo :=
 ⟨λ k hk0 hk _ hkp hkl => h k hk0 hk (by omega), λ k _ _ _ h0 hl => by have := par_lt h0; omega, λ h0 hl => by have := par_lt h0; omega⟩
theorem HeapF.hole0 (h : HeapF lt L (n + 1) 0) {L' : List α} (hs : ∀ k, 0 < k -> k < n -> L'[k]? = L[k]?) : HoleF lt L' n 0 0 :=
 ⟨λ k hk0 hk _ hkp _ => by
  have := par_lt hk0
  exact (h k hk0 (by omega) (Nat.zero_le _)).of_get (hs _ (by omega) (by omega)) (hs _ hk0 hk), λ k _ _ _ h0 _ => by omega, λ h0 _ => by omega⟩
theorem HeapF.top (so : SO lt) (h : HeapF lt L n 0) (hn : n <= L.length) {x : α} (hx : L[0]? = some x) : ∀ (k : Nat) (y : α), k < n -> L[k]? = some y -> lt y x = false := by
 intro k
 induction k using Nat.strongRecOn with
 | _ k ih =>
  intro y hk hy
  by_cases h0 : k = 0
  ·subst h0; rw [hx] at hy; cases hy; exact so.irr _
  ·have hp := par_lt (k := k) (by omega)
   have h1 : L[par k]? = some (L[par k]'(by omega)) := gge _
   exact so.ntr _ _ _ (h k (by omega) hk (Nat.zero_le _) _ y h1 hy) (ih (par k) hp _ (by omega) h1)
theorem SO.rev (so : SO lt) : SO (λ x y => lt y x) := ⟨so.irr, λ x y z h1 h2 => so.tr _ _ _ h2 h1, λ x y z h1 h2 => so.ntr _ _ _ h2 h1⟩
theorem drop_get (xs : List α) (f k : Nat) : (xs.drop f)[k]? = xs[f + k]? := by rw [List.getElem?_drop]
theorem drop_swp {xs : List α} {f i j : Nat} (hi : f + i < xs.length) (hj : f + j < xs.length) : (swp xs (f + i) (f + j)).drop f = swp (xs.drop f) i j := by
 apply List.ext_getElem?
 intro k
 rw [drop_get, swp_get hi hj, swp_get (by rw [List.length_drop]; omega) (by rw [List.length_drop]; omega), drop_get, drop_get, drop_get]
 by_cases h1 : k = j
 ·subst h1; simp
 ·by_cases h2 : k = i
  ·subst h2; simp [h1]
  ·rw [if_neg (by omega), if_neg (by omega), if_neg h1, if_neg h2]
theorem OX.last {xs : List α} {a0 b0 m : Nat} {x : α} (h : OX lt xs a0 b0 a0 (m + 1)) (ha : a0 <= m) (hm : m + 1 <= b0) (hb : b0 <= xs.length) (hx : xs[a0]? = some x) (hmax : ∀ (k : Nat) (y : α), a0 <= k -> k <= m -> xs[k]? = some y -> lt x y = false) : OX lt (swp xs a0 m) a0 b0 a0 m := λ i j h1 h2 h3 h4 => by
 have hr : RP a0 (m + 1) xs (swp xs a0 m) := RP.one (Nat.le_refl _) (by omega) ha (by omega) (by omega)
 by_cases hj : m + 1 <= j
 ·exact h.rp hr (Nat.le_refl _) hm i j h1 h2 h3 (.inr hj)
 ·have : j = m := by omega
  subst this
  intro u w hu hw
  rw [swp_get (by omega) (by omega), if_pos rfl, hx] at hw
  cases hw
  exact hr.all (p := λ y => lt x y = false) (λ k y hk1 hk2 hy => hmax k y hk1 (by omega) hy) i u h1 (by omega) hu
end
end
section
section
variable {P : Program} {R : Rds} {env : Env} {H : Segs} {ty : TypeId} {x y : Operand} {t u : TypeId} {k k2 : IntKind} {m n : Int}
theorem Quiet.andI (hx : ev env x = some (.int k m) := by rfl) (hy : ev env y = some (.int k n) := by rfl) : Quiet P R env H (.binOp .and t x y u) ty (.int k (k.wrap (BitVec.ofInt k.bits m &&& BitVec.ofInt k.bits n).toNat)) := λ a w d pos af g ha _ _ => by
 simp [execOp, ha.eval hx, ha.eval hy, eqGuard, binOp, Op.intBits]
theorem Quiet.xorI (hx : ev env x = some (.int k m) := by rfl) (hy : ev env y = some (.int k n) := by rfl) : Quiet P R env H (.binOp .xor t x y u) ty (.int k (k.wrap (BitVec.ofInt k.bits m ^^^ BitVec.ofInt k.bits n).toNat)) := λ a w d pos af g ha _ _ => by
 simp [execOp, ha.eval hx, ha.eval hy, eqGuard, binOp, Op.intBits]
theorem Quiet.shlI (hx : ev env x = some (.int k m) := by rfl) (hy : ev env y = some (.int k2 n) := by rfl) (hn : 0 <= n := by first | decide | omega) : Quiet P R env H (.binOp .shl t x y u) ty (.int k (k.wrap (m * 2 ^ (min n.toNat k.bits)))) := λ a w d pos af g ha _ _ => by
 have h : ¬ n < 0 := by omega
 simp [execOp, ha.eval hx, ha.eval hy, eqGuard, binOp, Op.shift, h]
theorem Quiet.shrI (hx : ev env x = some (.int k m) := by rfl) (hy : ev env y = some (.int k2 n) := by rfl) (hn : 0 <= n := by first | decide | omega) : Quiet P R env H (.binOp .shr t x y u) ty (.int k (m.fdiv (2 ^ (min n.toNat k.bits)))) := λ a w d pos af g ha _ _ => by
 have h : ¬ n < 0 := by omega
 simp [execOp, ha.eval hx, ha.eval hy, eqGuard, binOp, Op.shift, h]
end
theorem wrap_u64_in {z : Int} (h0 : 0 <= z) (h1 : z < 18446744073709551616) : IntKind.u64.wrap z = z := by
 have : IntKind.u64.wrap z = z % 18446744073709551616 := by simp [IntKind.wrap, IntKind.bits, IntKind.signed]
 rw [this]; omega
theorem wrap_i64_in {z : Int} (h0 : -9223372036854775808 <= z) (h1 : z <= 9223372036854775807) : IntKind.i64.wrap z = z := IntWalk.i64_in _ (by omega)
theorem and_le {z q : Int} (h0 : 0 <= q) (h1 : q < 18446744073709551616) : 0 <= IntKind.u64.wrap (BitVec.ofInt IntKind.u64.bits z &&& BitVec.ofInt IntKind.u64.bits q).toNat /\ IntKind.u64.wrap (BitVec.ofInt IntKind.u64.bits z &&& BitVec.ofInt IntKind.u64.bits q).toNat <= q := by
 have e : (BitVec.ofInt IntKind.u64.bits q).toNat = q.toNat := by
  simp [IntKind.bits, BitVec.toNat_ofInt]; omega
 have h2 : (BitVec.ofInt IntKind.u64.bits z &&& BitVec.ofInt IntKind.u64.bits q).toNat <= q.toNat := by
  rw [BitVec.toNat_and, <- e]; exact Nat.and_le_right
 rw [wrap_u64_in (by omega) (by omega)]
 omega
end
section
variable {α : Type} {lt : α -> α -> Bool} {a b i j : Nat} {xs ys : List α}
def LB (lt : α -> α -> Bool) (xs : List α) (a b : Nat) : Prop := 0 < a -> ∀ k, a <= k -> k < b -> HEdge lt xs (a - 1) k
theorem LB.rp (h : LB lt xs a b) (hr : RP a b xs ys) : LB lt ys a b := λ h0 k h1 h2 x y hx hy => by
 rw [hr.out (.inl (by omega))] at hx
 exact hr.all (p := λ y => lt y x = false) (λ k y hk1 hk2 hy => h h0 k hk1 hk2 x y hx hy) k y h1 h2 hy
theorem SR.snoc (so : SO lt) (h : SR lt xs a i) (hi : a < i) (hl : i < xs.length) (he : HEdge lt xs (i - 1) i) : SR lt xs a (i + 1) := h.ins.done so (by omega) (by omega) (.inr ⟨hi, he⟩)
theorem SR.swp_out {p q : Nat} (h : SR lt xs a i) (hp : i <= p) (hq : i <= q) (hp2 : p < xs.length) (hq2 : q < xs.length) : SR lt (swp xs p q) a i := λ u w h1 h2 h3 =>
 (h u w h1 h2 h3).of_get (by rw [swp_get hp2 hq2, if_neg (by omega), if_neg (by omega)]) (by rw [swp_get hp2 hq2, if_neg (by omega), if_neg (by omega)])
theorem SR.swp_last (h : SR lt xs a i) (hi : i < xs.length) : Ins lt (swp xs i (i - 1)) a (i - 1) i := λ u w h1 h2 h3 h4 =>
 (h u w h1 h2 h3).of_get (by rw [swp_get hi (by omega), if_neg (by omega), if_neg (by omega)]) (by rw [swp_get hi (by omega), if_neg (by omega), if_neg (by omega)])
theorem OX.lb {a0 b0 : Nat} (h : OX lt xs a0 b0 a b) (hlb : LB lt xs a0 b0) (ha : a0 <= a) (hb : b <= b0) : LB lt xs a b := λ h0 k h1 h2 => by
 by_cases he : a = a0
 ·subst he; exact hlb h0 k h1 (by omega)
 ·exact h (a - 1) k (by omega) (by omega) (by omega) (.inl (by omega))
end
section
section
variable {α : Type} {lt : α -> α -> Bool} {q : α -> Bool} {ys : List α} {a b i j : Nat} {p : α}
structure PQ (q : α -> Bool) (ys : List α) (a i j b : Nat) (p : α) : Prop where
 i0 : a < i
 ij : i <= j + 1
 jb : j < b
 at_ : ys[a]? = some p
 left : ∀ (k : Nat) (x : α), a < k -> k < i -> ys[k]? = some x -> q x = true
 right : ∀ (k : Nat) (x : α), j < k -> k < b -> ys[k]? = some x -> q x = false
theorem PQ.start (hab : a < b) (h : ys[a]? = some p) : PQ q ys a (a + 1) (b - 1) b p :=
 ⟨Nat.lt_succ_self _, by omega, by omega, h, λ k x h1 h2 => by omega, λ k x h1 h2 => by omega⟩
theorem PQ.inc (h : PQ q ys a i j b p) (hij : i <= j) {x : α} (hx : ys[i]? = some x) (hq : q x = true) : PQ q ys a (i + 1) j b p :=
 ⟨by have := h.i0; omega, by omega, h.jb, h.at_, λ k y h1 h2 hy => by
  rcases Nat.lt_or_ge k i with hk | hk
  ·exact h.left k y h1 hk hy
  ·have : k = i := by omega
   subst this
   rw [hx] at hy; cases hy; exact hq, h.right⟩
theorem PQ.dec (h : PQ q ys a i j b p) (hij : i <= j) {x : α} (hx : ys[j]? = some x) (hq : q x = false) : PQ q ys a i (j - 1) b p :=
 ⟨h.i0, by have := h.i0; omega, by have := h.jb; omega, h.at_, h.left, λ k y h1 h2 hy => by
  rcases Nat.lt_or_ge j k with hk | hk
  ·exact h.right k y hk h2 hy
  ·have : k = j := by omega
   subst this
   rw [hx] at hy; cases hy; exact hq⟩
theorem PQ.sw (h : PQ q ys a i j b p) (hij : i <= j) (hl : b <= ys.length) {x y : α} (hx : ys[i]? = some x) (hy : ys[j]? = some y) (hqx : q x = false) (hqy : q y = true) : i < j /\ PQ q (swp ys i j) a (i + 1) (j - 1) b p := by
 have i0 := h.i0
 have jb := h.jb
 have hne : i ≠ j := λ e => by
  subst e
  rw [hx] at hy; cases hy
  rw [hqx] at hqy; cases hqy
 have g := λ k => swp_get (L := ys) (i := i) (k := j) (by omega) (by omega) k
 refine ⟨by omega, by omega, by omega, by omega, ?_, λ k z h1 h2 hz => ?_, λ k z h1 h2 hz => ?_⟩
 ·rw [g, if_neg (by omega), if_neg (by omega)]; exact h.at_
 ·rw [g, if_neg (by omega)] at hz
  by_cases hk : k = i
  ·rw [if_pos hk, hy] at hz; cases hz; exact hqy
  ·rw [if_neg hk] at hz; exact h.left k z h1 (by omega) hz
 ·rw [g] at hz
  by_cases hk : k = j
  ·rw [if_pos hk, hx] at hz; cases hz; exact hqx
  ·rw [if_neg hk, if_neg (by omega)] at hz; exact h.right k z (by omega) h2 hz
theorem PQ.fin (h : PQ (λ x => lt x p) ys a i j b p) (hij : j < i) (hl : b <= ys.length) : Part lt (swp ys j a) a j b p := by
 have i0 := h.i0
 have ij := h.ij
 have jb := h.jb
 have g := λ k => swp_get (L := ys) (i := j) (k := a) (by omega) (by omega) k
 refine ⟨by omega, jb, ?_, λ k z h1 h2 hz => ?_, λ k z h1 h2 hz => ?_⟩
 ·rw [g]
  by_cases hk : j = a
  ·rw [if_pos hk, hk]; exact h.at_
  ·rw [if_neg hk, if_pos rfl]; exact h.at_
 ·rw [g] at hz
  by_cases hk : k = a
  ·rw [if_pos hk] at hz
   exact h.left j z (by omega) (by omega) hz
  ·rw [if_neg hk, if_neg (by omega)] at hz
   exact h.left k z (by omega) (by omega) hz
 ·rw [g, if_neg (by omega), if_neg (by omega)] at hz
  exact h.right k z h1 h2 hz
theorem PQ.finE (so : SO lt) (h : PQ (λ x => !lt p x) ys a i j b p) (hij : j < i) (hlo : ∀ (k : Nat) (x : α), a <= k -> k < b -> ys[k]? = some x -> lt x p = false) : PartE lt ys a i b p := by
 have i0 := h.i0
 have ij := h.ij
 have jb := h.jb
 refine ⟨i0, by omega, λ k z h1 h2 hz => ⟨hlo k z h1 (by omega) hz, ?_⟩, λ k z h1 h2 hz => ?_⟩
 ·by_cases hk : k = a
  ·subst hk
   rw [h.at_] at hz; cases hz; exact so.irr _
  ·simpa using h.left k z (by omega) h2 hz
 ·simpa using h.right k z (by omega) h2 hz
theorem Part.lb (h : Part lt ys a j b p) : LB lt ys (j + 1) b := λ _ k h1 h2 x y hx hy => by
 rw [Nat.add_sub_cancel, h.at_] at hx
 cases hx
 exact h.right k y h1 h2 hy
theorem LB.less (h : LB lt ys a b) {b' : Nat} (hb : b' <= b) : LB lt ys a b' := λ h0 k h1 h2 => h h0 k h1 (by omega)
theorem LB.nol (so : SO lt) (h : LB lt ys a b) (h0 : 0 < a) {x : α} (hx : ys[a - 1]? = some x) (hp : lt x p = false) : ∀ (k : Nat) (y : α), a <= k -> k < b -> ys[k]? = some y -> lt y p = false := λ k y h1 h2 hy =>
 so.ntr _ _ _ (h h0 k h1 h2 x y hx hy) hp
end
end
section
variable {κ β : Type} [DecidableEq κ]
def ItC (Rd : Rds) (encK : κ -> Value) (encV : β -> Value) (m : Value) (M : List (κ × β)) (it : Value) (todo : List κ) (k : κ) (u : β) (Ti : Seg) : Prop :=
 ∃ (b : Nat) (es : Array MapEntry) (clock r : Nat) (seen : Array Nat) (e : MapEntry), m = .map (some b) /\ Rd b (.map es clock) /\ MapOK encK encV es clock M /\ it = pT r /\ Ti = [(r, .mapIter (some b) clock (seen.push e.born) clock)] /\ e ∈ es.toList /\ e.key = encK k /\ e.val = encV u /\
  todo = ((es.toList.zip M).filter λ p => !(seen.push e.born).contains p.1.born).map (·.2.1)
omit [DecidableEq κ] in
theorem ItC.it {Rd : Rds} {encK : κ -> Value} {encV : β -> Value} {m : Value} {M : List (κ × β)} {it : Value} {todo : List κ} {k : κ} {u : β} {Ti : Seg} (h : ItC Rd encK encV m M it todo k u Ti) : It Rd encK encV m M it todo Ti := by
 obtain ⟨b, es, clock, r, seen, e, h1, h2, h3, h4, h5, h6, h7, h8, h9⟩ := h
 exact ⟨b, es, clock, r, seen.push e.born, h1, h2, h3, h4, h5, h9⟩
theorem find_stamp (e : MapEntry) : ∀ (l : List MapEntry), (l.map (·.born)).Nodup -> e ∈ l -> l.find? (·.born == e.born) = some e
 | [], _, h => by cases h
 | x :: l, hn, h => by
  have hn' := List.nodup_cons.1 hn
  rcases List.mem_cons.1 h with rfl | h
  ·simp
  ·have : x.born ≠ e.born := λ he => hn'.1 (List.mem_map.2 ⟨e, h, he.symm⟩)
   simp [this, find_stamp e l hn'.2 h]
section
variable {P : Program} {N : Nat} {R : Rds} {ops : Array Oper} {l : List Oper} {env : Env} {H : Segs} {K : Env -> Segs -> Prop} {ty : TypeId} {pos : String} {af : Array Edge} {m : Bool}
variable {encK : κ -> Value} {encV : β -> Value} {mp : Value} {M : List (κ × β)} {T : Seg} {upd : Seg -> Segs}
theorem TriOps.nextC {d : Nat} {x : Operand} {Rd : Rds} {it : Value} {todo : List κ} {Ti : Seg} (h : It Rd encK encV mp M it todo Ti) [sa : SegAt H Ti upd] (hrd : ∀ b o, Rd b o -> Rx R H b o) (hx : ev env x = some it)
  (h0 : todo = [] -> TriOps false P N R ops l ((d, .tuple [.bool false].toArray) :: env) H K)
  (hn : ∀ k u Ti', k ∈ todo -> mget k M = some u -> ItC Rd encK encV mp M it (todo.filter λ k' => decide (k' ≠ k)) k u Ti' -> TriOps false P N R ops l ((d, .tuple [.bool true, encK k, encV u].toArray) :: env) (upd Ti') K) (hd : Nat.blt d N = true := by rfl) :
  TriOps false P N R ops (⟨some d, .next x false, ty, pos, af, none⟩ :: l) env H K :=
 TriOps.eff hd λ a w ha s ro => by
  obtain ⟨b, es, clock, r, seen, rfl, h2, h3, rfl, rfl, h6⟩ := h
  obtain ⟨H1, H2, e1, e2⟩ := sa.h
  have hb := rx_in s ro _ _ (hrd _ _ h2)
  subst e1
  have hr : w.heap[r]? = some (.mapIter (some b) clock seen clock) := s.2 (r, _) (by simp)
  have hgi : (getObj r).run P w = .ok (.mapIter (some b) clock seen clock) w := by simp [getObj, Sem.run, hr]
  have hl := h3.ents.length
  have hbo := h3.born
  -- what may come
  have hleft : es.filter (λ e => !seen.contains e.born) = ((es.toList.filter λ e => !seen.contains e.born)).toArray := by
   apply Array.toList_inj.1; rw [Array.toList_filter]
  have htodo : (es.toList.filter λ e => !seen.contains e.born).length = todo.length := by
   rw [h6, List.length_map]
   have : ((es.toList.zip M).filter λ p => !seen.contains p.1.born).length = (((es.toList.zip M).map (·.1)).filter λ e => !seen.contains e.born).length := by
    rw [List.filter_map, List.length_map]; rfl
   rw [this, List.map_fst_zip (by omega)]
  have hguard : (!seen.isEmpty && !es.isEmpty && es.all (λ e => decide (e.born ≥ clock))) = false := by
   cases hes : es.toList with
   | nil =>
    have : es = #[] := by simpa using hes
    simp [this]
   | cons e rest =>
    have h1 := hbo e (by rw [hes]; simp)
    have : es.all (λ e => decide (e.born ≥ clock)) = false := by
     rw [<- Array.all_toList, hes]
     simp; omega
    rw [this, Bool.and_false]
  have hold : (es.filter λ e => !seen.contains e.born).filter (λ e => decide (e.born < clock)) = es.filter λ e => !seen.contains e.born := by
   rw [Array.filter_eq_self]
   intro e he
   have := hbo e (by simpa using (Array.mem_filter.1 he).1)
   simpa using this
  have hnew : (es.filter λ e => !seen.contains e.born).filter (λ e => decide (e.born ≥ clock)) = #[] := by
   rw [Array.filter_eq_empty_iff]
   intro e he
   have := hbo e (by simpa using (Array.mem_filter.1 he).1)
   simpa using this
  by_cases ht : todo = []
  ·refine ⟨.tuple #[.bool false], w, _, ?_, Frame.refl _ _, s, h0 ht⟩
   have he : es.filter (λ e => !seen.contains e.born) = #[] := by
    rw [hleft]
    have : (es.toList.filter λ e => !seen.contains e.born) = [] := List.eq_nil_of_length_eq_zero (by rw [htodo, ht]; rfl)
    rw [this]
   have hc : (choose (.mapNext 1)).run P w = .ok 0 w := by simp [choose, Sem.run, Question.forced]
   simp only [execOp, ha.eval hx, Instr.next, Sem.run_bind, hgi, run_getMap hb, Result.andThen_ok, hguard, Bool.false_eq_true, if_false, he]
   simp [hc]
  ·have hne : (es.filter λ e => !seen.contains e.born).isEmpty = false := by
    rw [hleft]
    cases hf : (es.toList.filter λ e => !seen.contains e.born) with
    | nil => rw [hf] at htodo; exact absurd (List.eq_nil_of_length_eq_zero htodo.symm) ht
    | cons _ _ => rfl
   have hpos : 0 < todo.length := List.length_pos_iff.2 ht
   have hsz : (es.filter λ e => !seen.contains e.born).size = todo.length := by rw [hleft]; simpa using htodo
   obtain ⟨n, w1, hc, hlt, hw1⟩ : ∃ n w1, (choose (.mapNext todo.length)).run P w = .ok n w1 /\ n < todo.length /\ ∃ q, w1 = { w with drawn := q } := by
    by_cases h1 : todo.length <= 1
    ·exact ⟨0, w, by simp [choose, Sem.run, Question.forced, h1], hpos, w.drawn, rfl⟩
    ·exact ⟨_, _, by simp only [choose, Sem.run, Question.forced, h1, decide_false, Bool.false_eq_true, if_false]; rfl, by simp only [Question.cut]; exact Nat.mod_lt _ hpos, _, rfl⟩
   obtain ⟨q, rfl⟩ := hw1
   have hn' : n < (es.toList.filter λ e => !seen.contains e.born).length := by rw [htodo]; exact hlt
   generalize he : (es.toList.filter λ e => !seen.contains e.born)[n] = e
   have hem : e ∈ es.toList.filter λ e => !seen.contains e.born := he ▸ List.getElem_mem hn'
   obtain ⟨hes, hns⟩ := List.mem_filter.1 hem
   obtain ⟨j, hj, hje⟩ := List.mem_iff_getElem.1 hes
   have hjM : j < M.length := by omega
   have hpair : (e.key, e.val) = (encK M[j].1, encV M[j].2) := by
    have := congrArg (λ l : List (Value × Value) => l[j]?) h3.ents
    simp only [List.getElem?_map, gge hj, gge hjM, Option.map_some, Option.some.injEq, hje] at this
    exact this
   injection hpair with hp1 hp2
   have hzip : (e, M[j]) ∈ es.toList.zip M := by
    refine List.mem_iff_getElem.2 ⟨j, by rw [List.length_zip]; omega, ?_⟩
    simp only [List.getElem_zip, hje]
   have hkt : M[j].1 ∈ todo := by
    rw [h6]
    exact List.mem_map.2 ⟨(e, M[j]), List.mem_filter.2 ⟨hzip, hns⟩, rfl⟩
   have hget : mget M[j].1 M = some M[j].2 := mget_of_mem h3.nd (List.getElem_mem hjM)
   have hrun : (execOp a.eval ⟨some d, .next x false, ty, pos, af, none⟩).run P w = .ok (.value (.tuple #[.bool true, e.key, e.val])) (setO { w with drawn := q } r (.mapIter (some b) clock (seen.push e.born) clock)) := by
    have hcand : ∀ (A : Array MapEntry), A.isEmpty = false -> (if A.isEmpty = true then #[none] else #[]) ++ (A ++ #[]).map some = A.map some := λ A hA => by simp [hA]
    have hget2 : ((es.filter λ e => !seen.contains e.born).map some)[n]? = some (some e) := by
     rw [hleft]
     simp only [List.map_toArray, List.getElem?_toArray, List.getElem?_map, gge hn', he, Option.map_some]
    have hset : (setObj r (.mapIter (some b) clock (seen.push e.born) clock)).run P { w with drawn := q } = .ok () (setO { w with drawn := q } r (.mapIter (some b) clock (seen.push e.born) clock)) := by
     have : ({ w with drawn := q } : World).heap[r]? = some (.mapIter (some b) clock seen clock) := hr
     simp [setObj, Sem.run, this, setO]
    simp only [execOp, ha.eval hx, Instr.next, Sem.run_bind, hgi, run_getMap hb, Result.andThen_ok, hguard, Bool.false_eq_true, if_false, hold, hnew]
    rw [hcand _ hne]
    simp only [Array.size_map, hsz, hc, Result.andThen_ok, hget2, Sem.run_bind, hset, Sem.run_pure]
   obtain ⟨f, s'⟩ := setO_seg (w := { w with drawn := q }) (o' := .mapIter (some b) clock (seen.push e.born) clock) (s.drew q)
   refine ⟨_, _, upd [(r, .mapIter (some b) clock (seen.push e.born) clock)], hrun, by rw [e2]; exact (Frame.drew w _ q).trans f, by rw [e2]; exact s', ?_⟩
   rw [hp1, hp2]
   refine hn M[j].1 M[j].2 _ hkt hget ⟨b, es, clock, r, seen, e, rfl, h2, h3, rfl, rfl, hes, hp1, hp2, ?_⟩
   rw [h6]
   -- the one that came is no more to come, all others are
   have key : ∀ (l : List (MapEntry × (κ × β))), (∀ p ∈ l, (p.1.born = e.born ↔ p.2.1 = M[j].1)) ->
     ((l.filter λ p => !seen.contains p.1.born).map (·.2.1)).filter (λ k' => decide (k' ≠ M[j].1)) = (l.filter λ p => !(seen.push e.born).contains p.1.born).map (·.2.1) := by
    intro l
    induction l with
    | nil => intro _; rfl
    | cons p l ih =>
     intro hp
     have h1 := hp p (by simp)
     have h2 := ih λ q hq => hp q (by simp [hq])
     simp only [Array.contains_push] at h2
     simp only [List.filter_cons, Array.contains_push]
     by_cases hc : seen.contains p.1.born = true
     ·simp only [hc, Bool.not_true, Bool.false_eq_true, if_false, Bool.true_or]; exact h2
     ·simp only [Bool.not_eq_true] at hc
      simp only [hc, Bool.not_false, if_true, Bool.false_or, List.map_cons, List.filter_cons]
      by_cases hb : p.1.born = e.born
      ·have := h1.1 hb
       simp only [this, ne_eq, not_true, decide_false, Bool.false_eq_true, if_false, hb, beq_self_eq_true, Bool.not_true]; simpa only [ne_eq] using h2
      ·have hk : ¬ p.2.1 = M[j].1 := λ hk => hb (h1.2 hk)
       have hb' : (p.1.born == e.born) = false := by simpa using hb
       simp only [hk, ne_eq, not_false_eq_true, decide_true, if_true, hb', Bool.not_false, List.map_cons]
       exact congrArg _ (by simpa only [ne_eq] using h2)
   refine key _ λ p hp => ?_
   obtain ⟨i, hi, hpi⟩ := List.mem_iff_getElem.1 hp
   have hi' : i < es.toList.length := by simp only [List.length_zip] at hi; omega
   have hiM : i < M.length := by omega
   rw [List.getElem_zip] at hpi
   subst hpi
   simp only
   constructor
   ·intro hb
    have : i = j := (List.getElem_inj (h := h3.bnd) (i := i) (j := j) (h₀ := by simpa using hi') (h₁ := by simpa using hj)).1 (by rw [List.getElem_map, List.getElem_map, hb, hje])
    subst this; rfl
   ·intro hk
    have : i = j := (List.getElem_inj (h := h3.nd) (i := i) (j := j) (h₀ := by simpa using hiM) (h₁ := by simpa using hjM)).1 (by rw [List.getElem_map, List.getElem_map]; exact hk)
    subst this; rw [hje]
omit [DecidableEq κ] in
theorem Quiet.entry {x : Operand} {Rd : Rds} {it : Value} {todo : List κ} {k : κ} {u : β} {Ti : Seg} (h : ItC Rd encK encV mp M it todo k u Ti) [sa : SegAt H Ti upd] (hrd : ∀ b o, Rd b o -> Rx R H b o) (hx : ev env x = some it) :
  Quiet P R env H (.entry x) ty (.tuple [encK k, encV u].toArray) := λ a w d pos af g ha s ro => by
 obtain ⟨b, es, clock, r, seen, e, rfl, h2, h3, rfl, rfl, h6, h7, h8, h9⟩ := h
 obtain ⟨H1, H2, e1, e2⟩ := sa.h
 have hb := rx_in s ro _ _ (hrd _ _ h2)
 subst e1
 have hr : w.heap[r]? = some (.mapIter (some b) clock (seen.push e.born) clock) := s.2 (r, _) (by simp)
 have hf : es.find? (·.born == e.born) = some e := by rw [<- Array.find?_toList]; exact find_stamp e es.toList h3.bnd h6
 rw [<- h7, <- h8]
 simp only [execOp, ha.eval hx, Instr.entry, getObj, Sem.run_bind, Sem.run, hr, hb, Result.andThen, Array.back?_push, bne_self_eq_false, Bool.false_eq_true, if_false, hf]
 rfl
theorem SegAt.same {H : Segs} {T : Seg} {upd : Seg -> Segs} (s : SegAt H T upd) : upd T = H := by
 obtain ⟨H1, H2, h1, h2⟩ := s.h
 rw [h2, h1]
theorem TriOps.nextB {d : Nat} {x : Operand} {Rd : Rds} {it : Value} {todo : List κ} {Ti : Seg} (h : It Rd encK encV mp M it todo Ti) [sa : SegAt H Ti upd] (hrd : ∀ b o, Rd b o -> Rx R H b o) (hx : ev env x = some it)
  (hn : ∀ (b : Bool) (rest : List Value) (Ti' : Seg), (b = false -> todo = []) -> (b = true -> ∃ k u, k ∈ todo /\ mget k M = some u /\ ItC Rd encK encV mp M it (todo.filter λ k' => decide (k' ≠ k)) k u Ti') -> TriOps false P N R ops l ((d, .tuple (.bool b :: rest).toArray) :: env) (upd Ti') K) (hd : Nat.blt d N = true := by rfl) :
  TriOps false P N R ops (⟨some d, .next x false, ty, pos, af, none⟩ :: l) env H K :=
 TriOps.nextC h hrd hx
  (λ h0 => by
   have := hn false [] Ti (λ _ => h0) (λ hb => by cases hb)
   rw [sa.same] at this
   exact this)
  (λ k u Ti' hk hu hc => hn true [encK k, encV u] Ti' (λ hb => by cases hb) (λ _ => ⟨k, u, hk, hu, hc⟩)) hd
end
theorem sg_left {A B : Seg} {b : Nat} {o : Obj} (h : sg A b o) : sg (A ++ B) b o := List.mem_append_left B h
theorem sg_right {A B : Seg} {b : Nat} {o : Obj} (h : sg B b o) : sg (A ++ B) b o := List.mem_append_right A h
theorem SR.ordered {α : Type} {lt : α -> α -> Bool} {ys : List α} (h : SR lt ys 0 ys.length) : ys.Pairwise λ p r => lt r p = false := by
 rw [List.pairwise_iff_getElem]
 intro i j hi hj hij
 exact h i j (Nat.zero_le _) hij hj _ _ (gge hi) (gge hj)
end
section
section
variable {P : Program} {N : Nat} {R R' : Rds} {ops : Array Oper} {l : List Oper} {env : Env} {H : Segs} {K : Env -> Segs -> Prop} {T : Seg} {upd : Seg -> Segs}
theorem Spec.atX {f : FuncId} {args : List Value} {H1 H2 : Segs} {T : Seg} {Post : Value -> Seg -> Prop} (h : Spec P f args (Rx R (H1 ++ H2)) [T] λ v H' => ∃ T', H' = [T'] /\ Post v T') : Spec P f args R (H1 ++ T :: H2) λ v H' => ∃ T', H' = H1 ++ T' :: H2 /\ Post v T' := λ w hs hro => by
 have hp : (H1 ++ T :: H2).flatten.Perm ([T] ++ (H1 ++ H2)).flatten := by
  simp only [List.flatten_append, List.flatten_cons, List.flatten_nil, List.append_nil]
  rw [<- List.append_assoc, <- List.append_assoc]
  exact List.perm_append_comm.append_right _
 have hs1 : Sat w ([T] ++ (H1 ++ H2)) := hs.perm hp
 have hT : take [0] ([T] ++ (H1 ++ H2)) = [T] := rfl
 have hR : rest [0] ([T] ++ (H1 ++ H2)) = H1 ++ H2 := rfl
 have ro1 : RO w R ([T] ++ (H1 ++ H2)) := λ b o hb => ⟨(hro b o hb).1, λ p hm => (hro b o hb).2 p (hp.mem_iff.2 hm)⟩
 obtain ⟨s1, s2, s3⟩ := sat_split (is := [0]) hs1
 have ro2 := RO.split (is := [0]) hs1 ro1
 rw [hT] at s1 ro2 s3; rw [hR] at ro2 s2 s3
 refine (h w s1 ro2).mono λ e w' ⟨v, H', he, ⟨T', hT', hq⟩, hs', hf⟩ => ?_
 subst hT'
 obtain ⟨j1, j2⟩ := sat_join (is := [0]) (H' := [T']) hs1 hs' hf
 rw [hR] at j1 j2
 have hp' : ([T'] ++ (H1 ++ H2)).flatten.Perm (H1 ++ T' :: H2).flatten := by
  simp only [List.flatten_append, List.flatten_cons, List.flatten_nil, List.append_nil]
  rw [<- List.append_assoc, <- List.append_assoc]
  exact List.perm_append_comm.append_right _
 refine ⟨v, _, he, ⟨T', rfl, hq⟩, j1.perm hp', ⟨j2.le, λ b hb hn => j2.keep b hb λ p hm => hn p (hp.mem_iff.2 hm), λ p hm => ?_, j2.os, j2.output, j2.tape⟩⟩
 rcases j2.dom p (hp'.mem_iff.2 hm) with ⟨q, hq, he⟩ | hge
 ·exact .inl ⟨q, hp.mem_iff.2 hq, he⟩
 ·exact .inr hge
theorem TriOps.callW_gen {dst : Option Nat} {op : Op} {ty : TypeId} {pos : String} {af : Array Edge} {f : FuncId} {vs : List Value} {Post : Value -> Seg -> Prop} [sa : SegAt H T upd]
  (hx : ∀ a w, EnvOK a env -> (execOp a.eval ⟨dst, op, ty, pos, af, none⟩).run P w = .ok (.enter f vs.toArray) w)
  (hs : Spec P f vs (Rx R (upd [])) [T] λ v H' => ∃ T', H' = [T'] /\ Post v T')
  (hn : ∀ v T', Post v T' -> match dst with
   | some d => Nat.blt d N = true /\ TriOps false P N R ops l ((d, v) :: env) (upd T') K
   | none => TriOps false P N R ops l env (upd T') K) :
  TriOps false P N R ops (⟨dst, op, ty, pos, af, none⟩ :: l) env H K := by
 obtain ⟨H1, H2, h1, h2⟩ := sa.h
 refine .call_gen (H.map λ _ => 0) (Post := λ v H' => ∃ T', H' = H1 ++ T' :: H2 /\ Post v T') hx ?_ ?_
 ·rw [take_all, rest_all, h1]
  refine Spec.atX (H1 := H1) (H2 := H2) (hs.weaken λ b o hb => ?_)
  rw [h2] at hb
  rcases hb with hb | hb
  ·exact .inl (.inl hb)
  ·exact .inr (by simpa using hb)
 ·intro v H' ⟨T', e1, e2⟩
  rw [rest_all, List.append_nil, e1, <- h2]
  exact hn v T' e2
theorem TriOps.callW {d : Nat} {ty : TypeId} {pos : String} {af : Array Edge} {f : FuncId} [e : Ent P f] {xs : List Operand} {ats : Array TypeId} {vs : List Value} {Post : Value -> Seg -> Prop} [sa : SegAt H T upd]
  (hs : Spec P f vs (Rx R (upd [])) [T] λ v H' => ∃ T', H' = [T'] /\ Post v T') (hn : ∀ v T', Post v T' -> TriOps false P N R ops l ((d, v) :: env) (upd T') K) (hxs : evs env xs = some vs := by rfl) (hd : Nat.blt d N = true := by rfl) :
  TriOps false P N R ops (⟨some d, .call ⟨.value (.func f), xs.toArray, ats⟩, ty, pos, af, none⟩ :: l) env H K :=
 TriOps.callW_gen (λ a w ha => run_call hxs a w ha) hs (λ v T' hp => ⟨hd, hn v T' hp⟩)
end
end
section
section
variable {P : Program} {N : Nat} {R : Rds} {env : Env} {H : Segs} {Q : Exit -> Env -> Segs -> Prop}
theorem Tri.loopS {X : Type} {c : Code} {G : Segs} (E : Env) (I : X -> Prop) (e : X -> Env -> Env) (h : X -> Segs -> Segs) (μ : X -> Nat) (x0 : X) (hI : I x0) (he : EnvLe env (e x0 E)) (hh : HLe H (h x0 G))
  (round : ∀ x, I x -> Tri P N R c (e x E) (h x G) (loopQ (λ env' H' => ∃ x', I x' /\ μ x' < μ x /\ EnvLe env' (e x' E) /\ HLe H' (h x' G)) Q)) : Tri P N R (.loop c) env H Q :=
 Tri.loop I (λ x => e x E) (λ x => h x G) μ x0 hI he hh round
theorem Tri.cutS {X : Type} {c : Code} (E : Env) (hE : EnvLe env E) (I : X -> Prop) (e : X -> Env -> Env) (h : X -> Segs) (body : Tri P N R c env H (joinQ I (λ x => e x E) h Q)) (after : ∀ x, I x -> Q .normal (e x E) (h x)) : Tri P N R c env H Q :=
 Tri.cut I (λ x => e x E) h body after
theorem HLe.new0 : HLe H ([] :: H) := ⟨[], by simp⟩
theorem HLe.new00 : HLe H ([] :: [] :: H) := ⟨[], by simp⟩
theorem HLe.new000 : HLe H ([] :: [] :: [] :: H) := ⟨[], by simp⟩
theorem EnvLe.consE {env' : Env} {t : Nat} {v v' : Value} (h : EnvLe env env') (hv : Env.get? env t = some v) (e : v = v') : EnvLe env ((t, v') :: env') := h.cons (e ▸ hv)
theorem EnvLe.consB {env' : Env} {t : Nat} {b b' : Bool} (h : EnvLe env env') (hv : Env.get? env t = some (.bool b)) (e : b = b') : EnvLe env ((t, .bool b') :: env') := h.cons (e ▸ hv)
theorem EnvLe.consI {env' : Env} {t : Nat} {k : IntKind} {b b' : Int} (h : EnvLe env env') (hv : Env.get? env t = some (.int k b)) (e : b = b') : EnvLe env ((t, .int k b') :: env') := h.cons (e ▸ hv)
theorem Quiet.maxI {x y : Operand} {t u ty : TypeId} {k k2 : IntKind} {m n : Int} (hx : ev env x = some (.int k m) := by rfl) (hy : ev env y = some (.int k2 n) := by rfl) : Quiet P R env H (.call ⟨.builtin .max, #[x, y], #[t, u]⟩) ty (.int k (max m n)) := λ a w d pos af g ha _ _ => by
 have e : (if n > m then n else m) = max m n := by rw [Int.max_def]; split <;> split <;> omega
 simp [execOp, resolve, ha.eval hx, ha.eval hy, invoke, builtin, Builtin.max_, Builtin.max2, e]
theorem Res.five {r1 r2 r3 r4 r5 : ResultVar} {v1 v2 v3 v4 v5 : Value} (h1 : RV R H env P r1 v1) (h2 : RV R H env P r2 v2) (h3 : RV R H env P r3 v3) (h4 : RV R H env P r4 v4) (h5 : RV R H env P r5 v5) : Res P R [r1, r2, r3, r4, r5] env H (.tuple #[v1, v2, v3, v4, v5]) := λ a w fn hf ha s ro => by
 have e1 := h1.h a w ha s ro
 have e2 := h2.h a w ha s ro
 have e3 := h3.h a w ha s ro
 have e4 := h4.h a w ha s ro
 have e5 := h5.h a w ha s ro
 rw [results_rv, hf]
 simp [e1, e2, e3, e4, e5]
end
section
variable {α : Type} {l : List α} {i : Nat} {x : α} {f : α -> Bool}
theorem take_next (hx : l[i]? = some x) : l.take (i + 1) = l.take i ++ [x] := by rw [List.take_add_one, hx]; rfl
theorem any_next (hx : l[i]? = some x) (h : (l.take i).any f = false) (hf : f x = false) : (l.take (i + 1)).any f = false := by rw [take_next hx, List.any_append, h]; simp [hf]
theorem any_hit (hx : l[i]? = some x) (hf : f x = true) : l.any f = true := List.any_eq_true.2 ⟨x, mog hx, hf⟩
theorem all_next (hx : l[i]? = some x) (h : (l.take i).all f = true) (hf : f x = true) : (l.take (i + 1)).all f = true := by rw [take_next hx, List.all_append, h]; simp [hf]
theorem all_miss (hx : l[i]? = some x) (hf : f x = false) : l.all f = false := List.all_eq_false.2 ⟨x, mog hx, by simp [hf]⟩
theorem take_end (h : l.length <= i) : l.take i = l := List.take_of_length_le h
end
end
section
set_option linter.unusedVariables false
section
variable {κ β : Type} [DecidableEq κ]
variable {P : Program} {N : Nat} {R : Rds} {ops : Array Oper} {l : List Oper} {env : Env} {H : Segs} {K : Env -> Segs -> Prop} {T : Seg} {upd : Seg -> Segs} {ty : TypeId} {pos : String} {af : Array Edge}
variable {encK : κ -> Value} {encV : β -> Value} {mp : Value} {M : List (κ × β)}
def ME (encK : κ -> Value) (encV : β -> Value) (m : Value) (M : List (κ × β)) (key : κ) (s : Value) (T : Seg) : Prop :=
 ∃ (b : Nat) (es : Array MapEntry) (clock j : Nat) (e : MapEntry) (M1 : List (κ × β)), m = .map (some b) /\ T = [(b, .map es clock)] /\ MapOK encK encV es clock M1 /\ (M1.map (·.1))[j]? = some key /\ es[j]? = some e /\ e.key = encK key /\ s = goInt (e.born : Nat) /\ ∀ u, mset key u M1 = mset key u M
theorem mset_mset {k : κ} {x y : β} {M : List (κ × β)} (h : k ∉ M.map (·.1)) : mset k y (mset k x M) = mset k y M := by
 rw [mset_new h, mset_new h]
 induction M with
 | nil => simp [mset]
 | cons p M ih =>
  obtain ⟨k', z⟩ := p
  simp only [List.map_cons, List.mem_cons, not_or] at h
  simp only [List.cons_append, mset, if_neg h.1, ih h.2]
theorem TriOps.mapEntry {d : Nat} {t kt et : TypeId} {x y : Operand} {key : κ} {z : Value} (u0 : β) (h : MS encK encV mp M T) [sa : SegAt H T upd] (hx : ev env x = some mp) (hy : ev env y = some (encK key)) [ut : Und P t (.map kt et)] [kk : KeyT P kt encK] [zr : Zr P et z] (hz : encV u0 = z)
  (hn : ∀ T' s, ME encK encV mp M key s T' -> TriOps false P N R ops l ((d, .tuple [((mget key M).map encV).getD z, s].toArray) :: env) (upd T') K) (hd : Nat.blt d N = true := by rfl) :
  TriOps false P N R ops (⟨some d, .mapEntry t x y, ty, pos, af, none⟩ :: l) env H K :=
 TriOps.eff hd λ a w ha s ro => by
  obtain ⟨b, es, clock, rfl, rfl, h3⟩ := h
  obtain ⟨H1, H2, e1, e2⟩ := sa.h
  subst e1
  have hb : w.heap[b]? = some (.map es clock) := s.2 (b, _) (by simp)
  obtain ⟨r, h4, h5, h6⟩ := h3.find (P := P) (kt := kt) key w
  cases r with
  | none =>
   obtain ⟨f, s'⟩ := setO_seg (o' := .map (es.push { key := encK key, val := z, born := clock }) (clock + 1)) s
   have hm := h3.insert u0 h6
   rw [hz] at hm
   have h7 : mget key M = none := by simpa using h5.symm
   refine ⟨.tuple [z, goInt clock].toArray, _, upd [(b, .map (es.push { key := encK key, val := z, born := clock }) (clock + 1))], ?_, by rw [e2]; exact f, by rw [e2]; exact s', ?_⟩
   ·simp only [execOp, ha.eval hx, ha.eval hy]
    simp [Instr.mapEntry, run_underlying ut.h, run_getMap hb, kk.ck, h4, zr.h, run_setMap hb]
   ·have hk : z = ((mget key M).map encV).getD z := by rw [h7]; rfl
    have := hn [(b, .map (es.push { key := encK key, val := z, born := clock }) (clock + 1))] (goInt clock) ⟨b, _, _, es.size, { key := encK key, val := z, born := clock }, mset key u0 M, rfl, rfl, hm, by
     rw [mset_new h6]
     have := h3.ents.length
     simp at this ⊢
     simp [this], by simp, rfl, rfl, λ u => mset_mset h6⟩
    rw [<- hk] at this
    exact this
  | some jv =>
   obtain ⟨j, v⟩ := jv
   obtain ⟨h7, e, h8, h9⟩ := h6
   have hes : (es.modify j λ e => { e with key := encK key }) = es := by
    apply Array.ext_getElem?
    intro i
    rw [Array.getElem?_modify]
    split
    ·rename_i hi
     subst hi
     rw [h8]
     simp only [Option.map_some, Option.some.injEq]
     rw [<- h9]
    ·rfl
   obtain ⟨f, s'⟩ := setO_seg (o' := .map es clock) s
   have hv : v = ((mget key M).map encV).getD z := by rw [<- h5]; rfl
   refine ⟨.tuple [v, goInt e.born].toArray, _, upd [(b, .map es clock)], ?_, by rw [e2]; exact f, by rw [e2]; exact s', ?_⟩
   ·have hst : (Instr.keyThatStays (encK key) (encK key)).run P w = .ok (encK key) w := by
     unfold Instr.keyThatStays
     rw [kk.same]; rfl
    simp only [execOp, ha.eval hx, ha.eval hy]
    simp [Instr.mapEntry, run_underlying ut.h, run_getMap hb, kk.ck, h4, h8, h9, hst, hes, run_setMap hb]
   ·rw [hv]
    exact hn _ _ ⟨b, es, clock, j, e, M, rfl, rfl, h3, h7, h8, h9, rfl, λ u => rfl⟩
theorem Quiet.lookupE {x y : Operand} {t kt et : TypeId} {z v : Value} {key : κ} (h : RM (Rx R H) encK encV mp M) (hx : ev env x = some mp) (hy : ev env y = some (encK key)) (he : ((mget key M).map encV).getD z = v) [ut : Und P t (.map kt et)] [kk : KeyT P kt encK] [zr : Zr P et z] :
  Quiet P R env H (.lookup t x y false) ty v := he ▸ Quiet.lookup1 h hx hy
theorem TriOps.entryStore {t : TypeId} {x y z : Operand} {key : κ} {s : Value} {u : β} (h : ME encK encV mp M key s T) [sa : SegAt H T upd] (hx : ev env x = some mp) (hy : ev env y = some s) (hz : ev env z = some (encV u))
  (hn : ∀ T', MS encK encV mp (mset key u M) T' -> TriOps false P N R ops l env (upd T') K) :
  TriOps false P N R ops (⟨none, .entryStore t x y z, ty, pos, af, none⟩ :: l) env H K :=
 TriOps.eff0 λ a w ha s ro => by
  obtain ⟨b, es, clock, j, e, M1, rfl, rfl, h3, h7, h8, h9, rfl, hu⟩ := h
  obtain ⟨H1, H2, e1, e2⟩ := sa.h
  subst e1
  have hb : w.heap[b]? = some (.map es clock) := s.2 (b, _) (by simp)
  have hm := h3.update u h7
  rw [hu] at hm
  have hes : (es.modify j λ e => { e with val := encV u }) = es.modify j λ e => { e with key := encK key, val := encV u } := by
   apply Array.ext_getElem?
   intro i
   rw [Array.getElem?_modify, Array.getElem?_modify]
   split
   ·rename_i hi
    subst hi
    rw [h8]
    simp only [Option.map_some, Option.some.injEq]
    rw [<- h9]
   ·rfl
  have hf : es.findIdx? (λ x => (x.born : Int) == (e.born : Int)) = some j := by
   have hj := (Array.getElem?_eq_some_iff.1 h8)
   have hjl := hj.1
   rw [Array.findIdx?_eq_some_iff_getElem]
   refine ⟨hj.1, by rw [hj.2]; simp, λ i hi => ?_⟩
   have hn2 := List.pairwise_iff_getElem.1 h3.bnd i j (by simp; omega) (by simp; omega) hi
   simp only [List.getElem_map, Array.getElem_toList, hj.2] at hn2
   simp only [beq_iff_eq]
   omega
  obtain ⟨f, s'⟩ := setO_seg (o' := .map (es.modify j λ e => { e with key := encK key, val := encV u }) clock) s
  refine ⟨_, upd [(b, .map (es.modify j λ e => { e with key := encK key, val := encV u }) clock)], .inl ?_, by rw [e2]; exact f, by rw [e2]; exact s', hn _ ⟨b, _, clock, rfl, rfl, hm⟩⟩
  simp only [execOp, ha.eval hx, ha.eval hy, ha.eval hz]
  simp [Instr.entryStore, run_getMap hb, asInt, asIntOf, goInt, hf, hes, run_setMap hb]
theorem Quiet.u64 {op : Op} {z : Int} (c : Int) (h : Quiet P R env H op ty (.int .u64 (IntKind.u64.wrap z))) (e : z = c /\ 0 <= c /\ c <= 18446744073709551615) : Quiet P R env H op ty (.int .u64 c) := by
 obtain ⟨rfl, h1, h2⟩ := e
 have hw : IntKind.u64.wrap z = z := by
  simp [IntKind.wrap, IntKind.bits, IntKind.signed]
  omega
 rw [hw] at h
 exact h
theorem Spec.permH {f : FuncId} {args : List Value} {H' : Segs} {Post : Value -> Segs -> Prop} (h : H.flatten.Perm H'.flatten) (s : Spec P f args R H' Post) : Spec P f args R H Post := λ w hs hr => by
 have h1 : Sat w H' := hs.perm h
 have h2 : RO w R H' := λ b o hb => ⟨(hr b o hb).1, λ p hp => (hr b o hb).2 p (h.mem_iff.2 hp)⟩
 refine (s w h1 h2).mono λ e w' ⟨v, H2, he, hp, hs', hf⟩ => ⟨v, H2, he, hp, hs', hf.le, λ b hb hn => hf.keep b hb λ p hm => hn p (h.mem_iff.2 hm), λ p hp => ?_, hf.os, hf.output, hf.tape⟩
 rcases hf.dom p hp with ⟨q, hq, he⟩ | hge
 ·exact .inl ⟨q, h.mem_iff.2 hq, he⟩
 ·exact .inr hge
end
section
variable {α : Type} {lt : α -> α -> Bool}
def gins (lt : α -> α -> Bool) (p : α) : List α -> List α
 | [] => [p]
 | r :: L => if lt p r then p :: r :: L else r :: gins lt p L
theorem gins_any {p : α} : ∀ {X Y : List α}, X.any (lt p) = true -> gins lt p (X ++ Y) = gins lt p X ++ Y
 | [], Y, h => by simp at h
 | r :: X, Y, h => by
  simp only [List.cons_append, gins]
  split
  ·rfl
  ·rename_i hn
   have : X.any (lt p) = true := by simpa [hn] using h
   rw [gins_any this]; rfl
theorem gins_none {p : α} : ∀ {X Y : List α}, X.any (lt p) = false -> gins lt p (X ++ Y) = X ++ gins lt p Y
 | [], Y, h => rfl
 | r :: X, Y, h => by
  simp only [List.any_cons, Bool.or_eq_false_iff] at h
  simp only [List.cons_append, gins, h.1]
  rw [gins_none h.2]; rfl
theorem gins_perm {p : α} : ∀ {L : List α}, (gins lt p L).Perm (p :: L)
 | [] => .refl _
 | r :: L => by
  simp only [gins]
  split
  ·exact .refl _
  ·exact ((gins_perm (L := L)).cons r).trans (List.Perm.swap p r L)
theorem gins_strict (tr : ∀ x y z, lt x y = true -> lt y z = true -> lt x z = true) {p : α} : ∀ {L : List α}, (L.Pairwise λ x y => lt x y = true) -> (∀ y ∈ L, lt p y = true \/ lt y p = true) -> (gins lt p L).Pairwise λ x y => lt x y = true
 | [], _, _ => by simp [gins]
 | r :: L, h, hp => by
  have h' := List.pairwise_cons.1 h
  simp only [gins]
  split
  ·rename_i hlt
   refine List.pairwise_cons.2 ⟨λ x hx => ?_, h⟩
   rcases List.mem_cons.1 hx with rfl | hx
   ·exact hlt
   ·exact tr _ _ _ hlt (h'.1 x hx)
  ·rename_i hlt
   refine List.pairwise_cons.2 ⟨λ x hx => ?_, gins_strict tr h'.2 λ y hy => hp y (by simp [hy])⟩
   rcases List.mem_cons.1 (gins_perm.mem_iff.1 hx) with rfl | hx
   ·rcases hp r (by simp) with h2 | h2
    ·exact absurd h2 hlt
    ·exact h2
   ·exact h'.1 x hx
theorem gins_end {p : α} {L : List α} (h : L.any (lt p) = false) : gins lt p L = L ++ [p] := by
 have := gins_none (Y := []) h
 simpa [gins] using this
theorem gins_len {p : α} {L : List α} : (gins lt p L).length = L.length + 1 := by
 simpa using (gins_perm (lt := lt) (p := p) (L := L)).length_eq
def gpre (lt : α -> α -> Bool) (p : α) (X : List α) : List α := if X.any (lt p) then gins lt p X else X
theorem gpre_len {p : α} {X : List α} : (gpre lt p X).length <= X.length + 1 := by
 unfold gpre
 split
 ·rw [gins_len]; omega
 ·omega
def gmid (lt : α -> α -> Bool) (p : α) (X : List α) (x : α) : List α := gpre lt p X ++ if !X.any (lt p) && lt p x then [p] else []
theorem gany_take {p x : α} {L : List α} {i : Nat} (hx : L[i]? = some x) : (L.take (i + 1)).any (lt p) = ((L.take i).any (lt p) || lt p x) := by
 rw [List.take_add_one, hx]; simp
theorem gmid_next {p x : α} {L : List α} {i : Nat} (hx : L[i]? = some x) : gmid lt p (L.take i) x ++ [x] = gpre lt p (L.take (i + 1)) := by
 have e1 := gany_take (lt := lt) (p := p) hx
 have e0 : L.take (i + 1) = L.take i ++ [x] := by rw [List.take_add_one, hx]; rfl
 unfold gmid gpre
 rw [e1]
 cases h : (L.take i).any (lt p) with
 | true => simp [e0, gins_any h]
 | false =>
  cases h' : lt p x with
  | true => simp [e0, gins_none h, gins, h']
  | false => simp [e0]
theorem gmid_put {p x : α} {L : List α} {i : Nat} (hx : L[i]? = some x) (ha : (!(L.take i).any (lt p)) = true) (hp : lt p x = true) : gmid lt p (L.take i) x = gpre lt p (L.take i) ++ [p] /\ (L.take (i + 1)).any (lt p) = true := by
 refine ⟨?_, by rw [gany_take hx, hp, Bool.or_true]⟩
 unfold gmid
 rw [ha, hp]; rfl
theorem gmid_not {p x : α} {L : List α} {i : Nat} (hx : L[i]? = some x) (hp : (!(L.take i).any (lt p)) = false \/ lt p x = false) : gmid lt p (L.take i) x = gpre lt p (L.take i) /\ (L.take (i + 1)).any (lt p) = (L.take i).any (lt p) := by
 rw [gany_take hx]
 unfold gmid
 rcases hp with h | h
 ·have h2 : (L.take i).any (lt p) = true := by simpa using h
  simp [h2]
 ·simp [h]
end
end
end Go.Proofs.YtenilfmlfldogaaGreat
