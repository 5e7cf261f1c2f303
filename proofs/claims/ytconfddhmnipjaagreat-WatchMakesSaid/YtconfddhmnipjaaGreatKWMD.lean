/- What the law 'WM' uses of this prover's engine, facts and walks. No condition. -/
import Derived.Lib.Overlaps
import Derived.Test.YtconfddhmnipjaaGreatKWMB
set_option linter.unusedVariables false
namespace Go.Proofs.YtconfddhmnipjaaGreat
theorem row_put {c : Array Value} {off sz cap lo : Nat} {α : Type} {enc : α → List Value} {xs ys : List α} (hr : Row c off (xs.flatMap enc)) (hx : ∀ x ∈ xs, (enc x).length = sz) (hy : ∀ y ∈ ys, (enc y).length = sz) (hlo : lo ≤ xs.length) (hcap : lo + ys.length ≤ cap) (hc : off + cap * sz ≤ c.size) :
    Row (setL c.toList (off + lo * sz) (ys.flatMap enc)).toArray off ((xs.take lo ++ ys ++ xs.drop (lo + ys.length)).flatMap enc) := by
  intro k hk
  have hl1 := flatMap_length hx
  have hl2 := flatMap_length hy
  rw [List.flatMap_append, List.flatMap_append, flatMap_take lo hx, flatMap_drop (lo + ys.length) hx] at hk ⊢
  have hm1 : lo * sz ≤ xs.length * sz := Nat.mul_le_mul_right _ hlo
  have hm2 : (lo + ys.length) * sz ≤ cap * sz := Nat.mul_le_mul_right _ hcap
  have hm3 : (lo + ys.length) * sz = lo * sz + ys.length * sz := Nat.add_mul _ _ _
  have ht : ((xs.flatMap enc).take (lo * sz)).length = lo * sz := by rw [List.length_take, hl1]; omega
  rw [List.getElem?_toArray, setL_eq]
  have hct : (c.toList.take (off + lo * sz)).length = off + lo * sz := by rw [List.length_take, Array.length_toList]; omega
  simp only [List.getElem?_append, List.length_append, hct, ht, hl2]
  by_cases h1 : k < lo * sz
  · rw [if_pos (by omega), if_pos (by omega), if_pos (by omega), if_pos h1, List.getElem?_take_of_lt (by omega), List.getElem?_take_of_lt h1, Array.getElem?_toList]
    exact hr k (by rw [hl1]; omega)
  · by_cases h2 : k < lo * sz + ys.length * sz
    · rw [if_pos (by omega), if_neg (by omega), if_pos (by omega), if_neg h1]
      congr 1
      omega
    · have hk2 : k < xs.length * sz := by
        simp only [List.length_append, ht, hl2, List.length_drop, hl1] at hk
        omega
      rw [if_neg (by omega), if_neg (by omega), List.getElem?_drop, List.getElem?_drop, Array.getElem?_toList]
      have h3 := hr k (by rw [hl1]; exact hk2)
      have i1 : off + lo * sz + ys.length * sz + (off + k - (off + lo * sz + ys.length * sz)) = off + k := by omega
      have i2 : (lo + ys.length) * sz + (k - (lo * sz + ys.length * sz)) = k := by omega
      rw [i1, i2]
      exact h3
/-- Elements laid into an owned block, from an element's place on. -/
theorem os_put {E sz b off cap lo : Nat} {c : Array Value} {α : Type} {enc : α → List Value} {xs ys : List α} (h : OS E sz enc (.slice (some ⟨b, off, none⟩) xs.length cap) xs [(b, .cells c E (0, 0))]) (hy : ∀ y ∈ ys, (enc y).length = sz) (hyo : ∀ y ∈ ys, ∀ u ∈ enc y, Go.Proofs.YtconfddhmnipjaaGreat.oneCell u = true) (hlo : lo ≤ xs.length) (hcap : lo + ys.length ≤ cap)
    (hr : Row c off (xs.flatMap enc)) (hc : off + cap * sz ≤ c.size) (hm : cap ≤ maxLen) (n : Nat) (hn : (xs.take lo ++ ys ++ xs.drop (lo + ys.length)).length = n) (hncap : n ≤ cap) :
    OS E sz enc (.slice (some ⟨b, off, none⟩) n cap) (xs.take lo ++ ys ++ xs.drop (lo + ys.length)) [(b, .cells (setL c.toList (off + lo * sz) (ys.flatMap enc)).toArray E (0, 0))] := by
  have hl2 := flatMap_length hy
  have hm2 : (lo + ys.length) * sz ≤ cap * sz := Nat.mul_le_mul_right _ hcap
  have hm3 : (lo + ys.length) * sz = lo * sz + ys.length * sz := Nat.add_mul _ _ _
  refine ⟨fun x hx => ?_, fun x hx => ?_, .inr ⟨b, off, _, cap, by rw [hn], rfl, by rw [hn]; exact hncap, hm, ?_, row_put hr h.len hy hlo hcap hc⟩⟩
  · rcases List.mem_append.1 hx with hx | hx
    · rcases List.mem_append.1 hx with hx | hx
      · exact h.len x (List.mem_of_mem_take hx)
      · exact hy x hx
    · exact h.len x (List.mem_of_mem_drop hx)
  · rcases List.mem_append.1 hx with hx | hx
    · rcases List.mem_append.1 hx with hx | hx
      · exact h.one x (List.mem_of_mem_take hx)
      · exact hyo x hx
    · exact h.one x (List.mem_of_mem_drop hx)
  · have hcl : c.toList.length = c.size := Array.length_toList
    rw [List.size_toArray, setL_length (by rw [hl2]; omega), hcl]; exact hc
section
variable {P : Program} {N : Nat} {R : Rds} {ops : Array Oper} {l : List Oper} {env : Env} {H : Segs} {K : Env → Segs → Prop} {T : Seg} {upd : Seg → Segs} {ty : TypeId} {pos : String} {af : Array Edge} {α : Type}
/-- A copy into a slice of one's own, from an element's place on, maybe behind its end; of elements that are read. -/
theorem TriOps.copyO {d : Nat} {x y : Operand} {ta tb E sz cap sl sc kc dl dc lo n : Nat} {b off : Nat} {pd ps : Option Addr} {enc : α → List Value} {xs ys : List α} (hv : OS E sz enc (.slice (some ⟨b, off, none⟩) xs.length cap) xs T) (hu : RS (Rx R H) sz enc (.slice ps ys.length kc) ys) [sa : SegAt H T upd] [ua : Und P ta (.slice E)] [s : Sz P E sz]
    (hpd : pd = some ⟨b, off + lo * sz, none⟩) (hk : Nat.min sl dl = ys.length) (hlo : lo ≤ xs.length) (hcap : lo + ys.length ≤ cap) (hnl : (xs.take lo ++ ys ++ xs.drop (lo + ys.length)).length = n) (hncap : n ≤ cap)
    (hx : ev env x = some (.slice pd dl dc)) (hy : ev env y = some (.slice ps sl sc)) (hn : ∀ T', OS E sz enc (.slice (some ⟨b, off, none⟩) n cap) (xs.take lo ++ ys ++ xs.drop (lo + ys.length)) T' → TriOps false P N R ops l ((d, .int .i64 (ys.length : Nat)) :: env) (upd T') K) (hd : Nat.blt d N = true := by rfl) :
    TriOps false P N R ops (⟨some d, .call ⟨.builtin .copy, #[x, y], #[ta, tb]⟩, ty, pos, af, none⟩ :: l) env H K :=
  TriOps.eff hd fun a w ha sat ro => by
    obtain ⟨H1, H2, e1, e2⟩ := sa.h
    subst e1
    subst hpd
    have hw : ∀ b o, Rx R (H1 ++ T :: H2) b o → w.heap[b]? = some o := fun b o h => by
      rcases h with h | h
      · exact (ro b o h).1
      · exact sat.2 _ h
    have hfu := run_firstCells (P := P) hu hw
    rcases hv.h with ⟨h1, h2, h3⟩ | ⟨b', off', c, cap', h1, h2, h3, h4, h5, h6⟩
    · cases h1
    · cases h1
      subst h2
      have hb : w.heap[b]? = some (.cells c E (0, 0)) := sat.2 (b, _) (by simp)
      have hl2 := flatMap_length hu.len
      have hm2 : (lo + ys.length) * sz ≤ cap * sz := Nat.mul_le_mul_right _ hcap
      have hm3 : (lo + ys.length) * sz = lo * sz + ys.length * sz := Nat.add_mul _ _ _
      have hone' : ∀ c ∈ ys.flatMap enc, Go.Proofs.YtconfddhmnipjaaGreat.oneCell c = true := fun c hc => by
        obtain ⟨y, hy, hcy⟩ := List.mem_flatMap.1 hc
        exact hu.one y hy c hcy
      have hst := run_storeCells (P := P) (b := b) (off := off + lo * sz) (E := E) (ys.flatMap enc) 0 c.toList w (by simpa using hb) hone' (by rw [hl2]; have hcl : c.toList.length = c.size := Array.length_toList; omega)
      rw [Nat.add_zero] at hst
      have hos := os_put hv hu.len hu.one hlo hcap h6 h5 h4 n hnl hncap
      refine ⟨.int .i64 (ys.length : Nat), setO w b (.cells (setL c.toList (off + lo * sz) (ys.flatMap enc)).toArray E (0, 0)), upd [(b, .cells (setL c.toList (off + lo * sz) (ys.flatMap enc)).toArray E (0, 0))], ?_, by rw [e2]; exact (setO_seg (o' := _) sat).1, by rw [e2]; exact (setO_seg (o' := _) sat).2, hn _ hos⟩
      have hfu2 : (Builtin.firstCells sz ys.length (.slice ps sl sc)).run P w = .ok (ys.flatMap enc).toArray w := by
        cases ps with
        | none => exact hfu
        | some a => exact hfu
      simp [execOp, resolve, ha.eval hx, ha.eval hy, invoke, builtin, Builtin.copy_, run_underlying ua.h, s.h, Builtin.lenOf, hk, hfu2, hst, goInt]
/-- 'append(s[:lo], x...)' where there is room: in place. -/
theorem TriOps.appendIn {d : Nat} {x y : Operand} {ta tb tb' E sz cap n : Nat} {b off : Nat} {u : Value} {enc : α → List Value} {xs ys : List α} (lo : Nat) (hv : OS E sz enc (.slice (some ⟨b, off, none⟩) xs.length cap) xs T) (hu : RS (Rx R H) sz enc u ys) [sa : SegAt H T upd] [ua : Und P ta (.slice E)] [ub : Und P tb (.slice tb')] [s : Sz P E sz]
    (hlo : lo ≤ xs.length) (hcap : lo + ys.length ≤ cap) (hnl : (xs.take lo ++ ys ++ xs.drop (lo + ys.length)).length = n) (hncap : n ≤ cap)
    (hx : ev env x = some (.slice (some ⟨b, off, none⟩) lo cap)) (hy : ev env y = some u) (hn : ∀ T', OS E sz enc (.slice (some ⟨b, off, none⟩) n cap) (xs.take lo ++ ys ++ xs.drop (lo + ys.length)) T' → TriOps false P N R ops l ((d, .slice (some ⟨b, off, none⟩) (lo + ys.length) cap) :: env) (upd T') K) (hd : Nat.blt d N = true := by rfl) :
    TriOps false P N R ops (⟨some d, .call ⟨.builtin .append, #[x, y], #[ta, tb]⟩, ty, pos, af, none⟩ :: l) env H K :=
  TriOps.eff hd fun a w ha sat ro => by
    obtain ⟨H1, H2, e1, e2⟩ := sa.h
    subst e1
    have hw : ∀ b o, Rx R (H1 ++ T :: H2) b o → w.heap[b]? = some o := fun b o h => by
      rcases h with h | h
      · exact (ro b o h).1
      · exact sat.2 _ h
    have hfu := run_firstCells (P := P) hu hw
    have hlu := run_lenOf (P := P) (w := w) hu
    rcases hv.h with ⟨h1, h2, h3⟩ | ⟨b', off', c, cap', h1, h2, h3, h4, h5, h6⟩
    · cases h1
    · cases h1
      subst h2
      have hb : w.heap[b]? = some (.cells c E (0, 0)) := sat.2 (b, _) (by simp)
      have hl2 := flatMap_length hu.len
      have hm2 : (lo + ys.length) * sz ≤ cap * sz := Nat.mul_le_mul_right _ hcap
      have hm3 : (lo + ys.length) * sz = lo * sz + ys.length * sz := Nat.add_mul _ _ _
      have hone' : ∀ c ∈ ys.flatMap enc, Go.Proofs.YtconfddhmnipjaaGreat.oneCell c = true := fun c hc => by
        obtain ⟨y, hy, hcy⟩ := List.mem_flatMap.1 hc
        exact hu.one y hy c hcy
      have hst := run_storeCells (P := P) (b := b) (off := off + lo * sz) (E := E) (ys.flatMap enc) 0 c.toList w (by simpa using hb) hone' (by rw [hl2]; have hcl : c.toList.length = c.size := Array.length_toList; omega)
      rw [Nat.add_zero] at hst
      have hos := os_put hv hu.len hu.one hlo hcap h6 h5 h4 n hnl hncap
      refine ⟨.slice (some ⟨b, off, none⟩) (lo + ys.length) cap, setO w b (.cells (setL c.toList (off + lo * sz) (ys.flatMap enc)).toArray E (0, 0)), upd [(b, .cells (setL c.toList (off + lo * sz) (ys.flatMap enc)).toArray E (0, 0))], ?_, by rw [e2]; exact (setO_seg (o' := _) sat).1, by rw [e2]; exact (setO_seg (o' := _) sat).2, hn _ hos⟩
      have hrun : (Builtin.append_ #[ta, tb] ty #[.slice (some ⟨b, off, none⟩) lo cap, u]).run P w = .ok (.slice (some ⟨b, off, none⟩) (lo + ys.length) cap) (setO w b (.cells (setL c.toList (off + lo * sz) (ys.flatMap enc)).toArray E (0, 0))) := by
        simp only [Builtin.append_]
        simp only [List.getElem?_toArray, List.getElem?_cons_zero, List.getElem?_cons_succ, Sem.run_bind, run_underlying ua.h, run_underlying ub.h, Result.andThen_ok, s.h, Sem.run_pure, Bool.false_eq_true, if_false, hlu, if_pos hcap, Bool.not_false, if_true, hfu, add_mk, hst]
      simp [execOp, resolve, ha.eval hx, ha.eval hy, invoke, builtin, hrun]
theorem zeros_get {zs : List Value} {m k : Nat} (hk : k < m * zs.length) : (Builtin.zeroCells zs.toArray m)[k]? = zs[k % zs.length]? := by
  have hs : 0 < zs.length := by
    rcases Nat.eq_zero_or_pos zs.length with h | h
    · rw [h] at hk; simp at hk
    · exact h
  have h1 : k % zs.length < zs.length := Nat.mod_lt _ hs
  unfold Builtin.zeroCells
  rw [Array.getElem?_map, Array.getElem?_range, if_pos (by simpa using hk)]
  simp [h1]
theorem rep_get {enc : α → List Value} {z0 : α} : ∀ {m k : Nat}, k < m * (enc z0).length → ((List.replicate m z0).flatMap enc)[k]? = (enc z0)[k % (enc z0).length]?
  | 0, k, h => by simp at h
  | m + 1, k, h => by
    rw [List.replicate_succ, List.flatMap_cons, List.getElem?_append]
    split
    · rename_i h1
      rw [Nat.mod_eq_of_lt h1]
    · rename_i h1
      rw [rep_get (by rw [Nat.add_mul] at h; omega)]
      congr 1
      have h2 : k = (k - (enc z0).length) + (enc z0).length := by omega
      rw [h2, Nat.add_sub_cancel, Nat.add_mod_right]
/-- 'append(s, zeros)' where there is no room: anew; what there was stays. -/
theorem run_appendZ {P : Program} {H : Segs} {E sz bytes cap m : Nat} {p : Option Addr} {enc : α → List Value} {xs : List α} {w : World} {ta tb t : TypeId} {z : Value} {z0 : α}
    (hv : RS (sg H.flatten) sz enc (.slice p xs.length cap) xs) (ua : Und P ta (.slice E)) (ub : Und P tb (.int .i64)) (s : Sz P E sz) (by_ : By P E bytes) (zr : Zr P E z) (hz : z.cells = (enc z0).toArray) (hzl : (enc z0).length = sz) (hzo : ∀ u ∈ enc z0, Go.Proofs.YtconfddhmnipjaaGreat.oneCell u = true) (hs0 : 0 < sz) (hm0 : 0 < m) (hb0 : 0 < bytes) (hb : (xs.length + m) * bytes ≤ 2 ^ 47) (hcap : ¬ xs.length + m ≤ cap)
    (sat : Sat w H) :
    ∃ v' w' T', (Builtin.append_ #[ta, tb] t #[.slice p xs.length cap, .int .i64 (m : Nat)]).run P w = .ok v' w' ∧ OS E sz enc v' (xs ++ List.replicate m z0) T' ∧ Frame w H w' (T' :: H) ∧ Sat w' (T' :: H) := by
  have hneed : xs.length + m ≤ 2 ^ 47 := Nat.le_trans (Nat.le_mul_of_pos_right _ hb0) hb
  have hlen : ∀ x ∈ xs ++ List.replicate m z0, (enc x).length = sz := fun x hx => (List.mem_append.1 hx).elim (hv.len x) fun h => by rw [(List.mem_replicate.1 h).2]; exact hzl
  have hone : ∀ x ∈ xs ++ List.replicate m z0, ∀ c ∈ enc x, Go.Proofs.YtconfddhmnipjaaGreat.oneCell c = true := fun x hx => (List.mem_append.1 hx).elim (hv.one x) fun h => by rw [(List.mem_replicate.1 h).2]; exact hzo
  obtain ⟨i, hi, hib⟩ := by_.h w
  have hcut : ∃ q, xs.length + m ≤ q ∧ q ≤ maxLen ∧ q = Question.cut (.appendCap (xs.length + m) cap E) (w.tape w.drawn (.appendCap (xs.length + m) cap E)) := by
    refine ⟨_, ?_, ?_, rfl⟩
    · simp only [Question.cut]; omega
    · simp only [Question.cut]
      have : w.tape w.drawn (.appendCap (xs.length + m) cap E) % (2 ^ 63 - (xs.length + m)) < 2 ^ 63 - (xs.length + m) := Nat.mod_lt _ (by omega)
      unfold maxLen; omega
  obtain ⟨q, hq1, hq2, hq3⟩ := hcut
  have hfv : (Builtin.firstCells sz xs.length (.slice p xs.length cap)).run P { w with drawn := w.drawn + 1 } = .ok (xs.flatMap enc).toArray { w with drawn := w.drawn + 1 } := run_firstCells (P := P) hv fun b o h => sat.2 (b, o) h
  have hmax : IntKind.i64.max = 9223372036854775807 := by decide
  have hwrap : IntKind.i64.wrap (m : Int) = (m : Int) := by
    simp [IntKind.wrap, IntKind.bits, IntKind.signed]
    omega
  have hn1 : ¬ ((xs.length + m : Nat) : Int) > IntKind.i64.max := by omega
  have hn2 : ¬ Builtin.nextslicecap (xs.length + m) cap * bytes > 2 ^ 48 := by
    have h1 := nextslicecap_le (need := xs.length + m) (old := cap) (by omega)
    have h2 := Nat.mul_le_mul_right bytes h1
    rw [Nat.mul_assoc] at h2
    omega
  have hn3 : ¬ ((m : Int) * (bytes : Int) > 2 ^ 48) := by
    have h3 : m * bytes ≤ (xs.length + m) * bytes := Nat.mul_le_mul_right _ (by omega)
    have h4 : ((m * bytes : Nat) : Int) = (m : Int) * (bytes : Int) := by simp
    omega
  have hn4 : ¬ (m : Int) < 0 := by omega
  have hn5 : ¬ m * sz = 0 := by
    have := Nat.mul_pos hm0 hs0
    omega
  have har : ∀ n, (askRoom n).run P { w with drawn := w.drawn + 1 } = .ok () { w with drawn := w.drawn + 1 } := fun n => by
    unfold askRoom; split <;> rfl
  obtain ⟨i', hi', hib'⟩ := by_.h { w with drawn := w.drawn + 1 }
  have hch : (choose (.appendCap (xs.length + m) cap E)).run P w = .ok q { w with drawn := w.drawn + 1 } := by
    rw [hq3]
    simp [choose, Sem.run, Question.forced]
  have has : (asInt (.int .i64 (m : Nat))).run P w = .ok (m : Int) w := rfl
  have hrun : (Builtin.append_ #[ta, tb] t #[.slice p xs.length cap, .int .i64 (m : Nat)]).run P w = .ok (.slice (some ⟨w.heap.size, 0, none⟩) (xs.length + m) q)
      (World.alloc { w with drawn := w.drawn + 1 } (.cells ((xs.flatMap enc).toArray ++ Builtin.zeroCells z.cells m ++ Builtin.zeroCells z.cells (q - (xs.length + m))) E)) := by
    simp only [Builtin.append_]
    simp only [List.getElem?_toArray, List.getElem?_cons_zero, List.getElem?_cons_succ, Sem.run_bind, run_underlying ua.h, run_underlying ub.h, Result.andThen_ok, s.h, Sem.run_pure]
    simp only [if_true, has, Sem.run_pure, Result.andThen_ok, hwrap, if_neg hn4, hi, hib, if_neg hn3, Int.toNat_natCast, if_neg hcap, true_or, and_true, if_neg hn1, if_neg hn2, hch, hi', hib', har, hfv, Bool.not_true, Bool.false_eq_true, if_false, if_neg hn5, zr.h, newRow_run, Sem.run_bind]
  generalize hC : (xs.flatMap enc).toArray ++ Builtin.zeroCells z.cells m ++ Builtin.zeroCells z.cells (q - (xs.length + m)) = C at hrun
  have hzs : z.cells.size = sz := by rw [hz]; simpa using hzl
  have hsize : 0 + q * sz ≤ C.size := by
    have h1 := flatMap_length hv.len
    rw [← hC]
    simp only [Array.size_append, List.size_toArray, h1, zeroCells_size, hzs]
    rw [← Nat.add_mul, ← Nat.add_mul, Nat.zero_add]
    exact Nat.mul_le_mul_right _ (by omega)
  have hrow : Row C 0 ((xs ++ List.replicate m z0).flatMap enc) := by
    intro k hk
    rw [← hC]
    have h1 := flatMap_length hv.len
    have h2 : ((List.replicate m z0).flatMap enc).length = m * sz := by
      have := flatMap_length (enc := enc) (xs := List.replicate m z0) (sz := sz) fun x hx => by rw [(List.mem_replicate.1 hx).2]; exact hzl
      simpa using this
    rw [List.flatMap_append, List.length_append, h1, h2] at hk
    rw [Nat.zero_add, Array.getElem?_append_left (by simp only [Array.size_append, List.size_toArray, h1, zeroCells_size, hzs]; exact hk), List.flatMap_append]
    by_cases h3 : k < xs.length * sz
    · rw [Array.getElem?_append_left (by rw [List.size_toArray, h1]; exact h3), List.getElem?_toArray, List.getElem?_append_left (by rw [h1]; exact h3)]
    · rw [Array.getElem?_append_right (by rw [List.size_toArray, h1]; omega), List.getElem?_append_right (by rw [h1]; omega), List.size_toArray, h1, hz, zeros_get (by rw [hzl]; omega), rep_get (by rw [hzl]; omega)]
  exact ⟨_, _, [(w.heap.size, .cells C E (0, 0))], hrun, ⟨hlen, hone, .inr ⟨w.heap.size, 0, C, q, by simp, rfl, by simpa using hq1, hq2, hsize, hrow⟩⟩,
    (Frame.drew w H (w.drawn + 1)).trans (Frame.alloc { w with drawn := w.drawn + 1 } H (.cells C E (0, 0))), Sat.alloc (w := { w with drawn := w.drawn + 1 }) (sat.drew _) _⟩
theorem TriOps.appendZ {d : Nat} {x y : Operand} {ta tb E sz bytes cap m : Nat} {p : Option Addr} {enc : α → List Value} {xs : List α} {z : Value} (z0 : α) (hv : OS E sz enc (.slice p xs.length cap) xs T) [sa : SegAt H T upd] [ua : Und P ta (.slice E)] [ub : Und P tb (.int .i64)] [s : Sz P E sz] [by_ : By P E bytes] [zr : Zr P E z]
    (hm0 : 0 < m) (hb : (xs.length + m) * bytes ≤ 2 ^ 47) (hcap : ¬ xs.length + m ≤ cap) (hzo : ∀ u ∈ enc z0, Go.Proofs.YtconfddhmnipjaaGreat.oneCell u = true) (hn : ∀ v' T', OS E sz enc v' (xs ++ List.replicate m z0) T' → TriOps false P N R ops l ((d, v') :: env) (T' :: H) K)
    (hx : ev env x = some (.slice p xs.length cap)) (hy : ev env y = some (.int .i64 (m : Nat))) (hz : z.cells = (enc z0).toArray := by rfl) (hzl : (enc z0).length = sz := by rfl) (hs0 : 0 < sz := by decide) (hb0 : 0 < bytes := by decide) (hd : Nat.blt d N = true := by rfl) :
    TriOps false P N R ops (⟨some d, .call ⟨.builtin .append, #[x, y], #[ta, tb]⟩, ty, pos, af, none⟩ :: l) env H K :=
  TriOps.eff hd fun a w ha sat ro => by
    obtain ⟨H1, H2, h1, h2⟩ := sa.h
    obtain ⟨v', w', T', hr, ho, hf, hs⟩ := run_appendZ (t := ty) (z0 := z0) (H := H) (hv.rs fun p hp => by subst h1; show _ ∈ _; simp [hp]) ua ub s by_ zr hz hzl hzo hs0 hm0 hb0 hb hcap sat
    refine ⟨v', w', T' :: H, ?_, hf, hs, hn v' T' ho⟩
    simp [execOp, resolve, ha.eval hx, ha.eval hy, invoke, builtin, hr]
theorem Quiet.sliceM {x o1 o2 o3 : Operand} {t e : TypeId} {sz n cap : Nat} {p : Option Addr} {j1 j2 j3 : IntKind} (lo hi m : Nat) [ut : Und P t (.slice e)] [s : Sz P e sz] (h1 : ev env o1 = some (.int j1 (lo : Nat))) (h2 : ev env o2 = some (.int j2 (hi : Nat))) (h3 : ev env o3 = some (.int j3 (m : Nat))) (g1 : lo ≤ hi) (g2 : hi ≤ m) (g3 : m ≤ cap) (hx : ev env x = some (.slice p n cap) := by rfl) :
    Quiet P R env H (.slice t x (some o1) (some o2) (some o3)) ty (.slice (if m = lo then p else p.map (·.add (lo * sz))) (hi - lo) (m - lo)) := fun a w d pos af g ha _ _ => by
  have b1 : ∀ {x : Operand} {k : IntKind} {y n : Nat} {code : BoundsCode}, ev env x = some (.int k n) → n ≤ y → (Instr.sliceBound (a.eval x) y code).run P w = .ok n w := fun hx hn => run_sliceBound (ha.eval hx) hn
  simp only [execOp, ha.eval hx, Option.map_some]
  unfold Instr.sliceAt
  simp only [Sem.run_bind, run_underlying ut.h, Result.andThen_ok]
  unfold Instr.slice
  simp only [Sem.run_bind, run_underlying ut.h, Result.andThen_ok]
  unfold Instr.sliceBounds
  simp [s.h, b1 h1 g1, b1 h2 g2, b1 h3 g3]
theorem Quiet.capV {x : Operand} {t e : TypeId} {p : Option Addr} {n c : Nat} [ut : Und P t (.slice e)] (hx : ev env x = some (.slice p n c) := by rfl) : Quiet P R env H (.call ⟨.builtin .cap, #[x], #[t]⟩) ty (.int .i64 (c : Nat)) := fun a w d pos af g ha _ _ => by
  simp [execOp, resolve, ha.eval hx, invoke, builtin, Builtin.cap_, goInt, run_underlying ut.h]
theorem pieceV_some {sz lo hi b off cap : Nat} (h : cap ≠ lo) : pieceV sz lo hi (some ⟨b, off, none⟩) cap = .slice (some ⟨b, off + lo * sz, none⟩) (hi - lo) (cap - lo) := by
  unfold pieceV
  rw [if_neg h, Option.map_some, add_mk]
theorem pieceV_zero {sz hi b off cap : Nat} : pieceV sz 0 hi (some ⟨b, off, none⟩) cap = .slice (some ⟨b, off, none⟩) hi cap := by
  by_cases h : cap = 0
  · subst h; simp [pieceV]
  · rw [pieceV_some h]; simp
theorem OS.tailRS {R' : Rds} {E sz cap b off : Nat} {enc : α → List Value} {xs : List α} (h : OS E sz enc (.slice (some ⟨b, off, none⟩) xs.length cap) xs T) (hR : ∀ p ∈ T, R' p.1 p.2) (i : Nat) (hi : i ≤ xs.length) : RS R' sz enc (.slice (some ⟨b, off + i * sz, none⟩) (xs.drop i).length (cap - i)) (xs.drop i) := by
  refine ⟨fun x hx => h.len x (List.mem_of_mem_drop hx), fun x hx => h.one x (List.mem_of_mem_drop hx), ?_⟩
  rcases h.h with ⟨h1, _, _⟩ | ⟨b', off', c, cap', h1, h2, h3, h4, h5, h6⟩
  · cases h1
  · cases h1
    subst h2
    refine ⟨_, cap - i, rfl, by rw [List.length_drop]; omega, by omega, .inr ⟨b, off + i * sz, c, E, (0, 0), rfl, hR (b, _) (by simp), ?_⟩⟩
    have := h6.piece h.len i (xs.length - i)
    rwa [List.take_of_length_le (by rw [List.length_drop]; exact Nat.le_refl _)] at this
/-- The library's look whether two slices share memory, at slices in two blocks. -/
theorem Quiet.overlaps {F : FuncId} {fn : Func} {tS tR e ta tb : TypeId} {sz : Nat} {x y : Operand} {bq b o1 o2 la ca lb cb E1 E2 : Nat} {c1 c2 : Array Value} {fr : Nat × Nat} (hf : P.funcs[F]? = some fn) (hname : (fn.name == "runtime.NumGoroutine") = false) (hbd : fn.body.isNone = true) (hnx : Extern.findNext fn = none) (he : Extern.find fn = some (Extern.SlicesOverlaps.overlaps #[tS, tS] #[tR])) (ht : Und P tS (.slice e)) (hs : Sz P e sz)
    (hq : R bq (.cells c1 E1 (0, 0))) (hb : (b, .cells c2 E2 fr) ∈ H.flatten) (hc : c2.size ≠ 0) (hx : ev env x = some (.slice (some ⟨bq, o1, none⟩) la ca)) (hy : ev env y = some (.slice (some ⟨b, o2, none⟩) lb cb)) :
    Quiet P R env H (.call ⟨.value (.func F), #[x, y], #[ta, tb]⟩) ty (.bool false) := fun a w d pos af g ha sat ro => by
  obtain ⟨h1, h2⟩ := ro _ _ hq
  have h3 := sat.2 _ hb
  have hne : bq ≠ b := fun e => h2 _ hb e.symm
  have hr := run_callFunc_extern hf hname hbd hnx he #[.slice (some ⟨bq, o1, none⟩) la ca, .slice (some ⟨b, o2, none⟩) lb cb] w
  rw [Lib.run_overlaps_apart w tS tR e ht.h sz hs.h ⟨bq, o1, none⟩ ⟨b, o2, none⟩ la ca lb cb hne E1 E2 c1.size c2.size (by simp [World.shape?, h1]) (by simp [World.shape?, h3]) hc (by simp [World.frozen?, h1]) (by simp [World.frozen?, h1])] at hr
  have h4 := ha.evalsA (xs := [x, y]) (vs := [.slice (some ⟨bq, o1, none⟩) la ca, .slice (some ⟨b, o2, none⟩) lb cb]) (by simp [evs, hx, hy])
  simp only [execOp, resolve, h4, Act.eval, Deferred.ofValue]
  simp [invoke, hr]
end
end Go.Proofs.YtconfddhmnipjaaGreat
