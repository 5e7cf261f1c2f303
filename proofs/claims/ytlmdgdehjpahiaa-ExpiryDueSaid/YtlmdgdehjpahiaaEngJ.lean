/- The engine, part 17: blocks of one segment by their numbers; over any program, no condition. -/
import Derived.Test.YtlmdgdehjpahiaaEngH
set_option linter.unusedVariables false
namespace Go.Proofs.Ytlmdgdehjpahiaa
theorem HLe.trans {A B C : Segs} (h : HLe A B) (h' : HLe B C) : HLe A C := by
  obtain ⟨G, h⟩ := h
  obtain ⟨G', h'⟩ := h'
  refine ⟨G' ++ G, h.trans ?_⟩
  rw [← List.append_assoc]
  exact h'.append_right G
/-- One block of a segment anew. -/
def upB (T : Seg) (b : Nat) (o : Obj) : Seg := T.map fun p => if p.1 = b then (b, o) else p
theorem upB_get {T : Seg} {b : Nat} {o : Obj} (j : Nat) : (upB T b o)[j]? = T[j]?.map fun p => if p.1 = b then (b, o) else p := by simp [upB]
theorem upB_perm {T T' : Seg} {b : Nat} {o : Obj} (h : T.Perm T') : (upB T b o).Perm (upB T' b o) := h.map _
theorem upB_ids {T : Seg} {b : Nat} {o : Obj} : (upB T b o).map (·.1) = T.map (·.1) := by
  simp only [upB, List.map_map]
  refine List.map_congr_left fun p _ => ?_
  simp only [Function.comp]
  split
  · rename_i h; exact h.symm
  · rfl
theorem upB_old {T : Seg} {b : Nat} {o : Obj} (h : ∀ p ∈ T, p.1 ≠ b) : upB T b o = T := by
  unfold upB
  conv => rhs; rw [← List.map_id T]
  exact List.map_congr_left fun p hp => by simp [h p hp]
theorem upB_mid {T1 T2 : Seg} {b : Nat} {o o' : Obj} (hn : ((T1 ++ (b, o) :: T2).map (·.1)).Nodup) : upB (T1 ++ (b, o) :: T2) b o' = T1 ++ (b, o') :: T2 := by
  simp only [List.map_append, List.map_cons, List.nodup_append, List.nodup_cons] at hn
  obtain ⟨_, ⟨h2, _⟩, h3⟩ := hn
  have e1 : upB T1 b o' = T1 := upB_old fun p hp he => h3 p.1 (List.mem_map_of_mem hp) b (by simp) he
  have e2 : upB T2 b o' = T2 := upB_old fun p hp he => h2 (he ▸ List.mem_map_of_mem hp)
  have : upB (T1 ++ (b, o) :: T2) b o' = upB T1 b o' ++ (b, o') :: upB T2 b o' := by simp [upB]
  rw [this, e1, e2]
theorem upB_comm {T : Seg} {b b' : Nat} {o o' : Obj} (h : b ≠ b' ∨ o = o') : upB (upB T b o) b' o' = upB (upB T b' o') b o := by
  simp only [upB, List.map_map]
  refine List.map_congr_left fun p _ => ?_
  simp only [Function.comp]
  by_cases h1 : p.1 = b
  · by_cases h2 : p.1 = b'
    · rcases h with h | h
      · exact absurd (h1.symm.trans h2) h
      · subst h; subst h1; subst h2; simp
    · have : b ≠ b' := fun e => h2 (h1.trans e)
      simp [h1, this]
  · by_cases h2 : p.1 = b'
    · have : b' ≠ b := fun e => h1 (h2.trans e)
      simp [h2, this]
    · simp [h1, h2]
theorem RS.litB {α : Type} {R : Rds} {b n E sz : Nat} {cs : List Value} {fr : Nat × Nat} {enc : α → List Value} {xs : List α} (hb : R b (.cells cs.toArray E fr)) (he : xs.flatMap enc = cs) (hl : ∀ x ∈ xs, (enc x).length = sz) (ho : ∀ x ∈ xs, ∀ u ∈ enc x, Go.Proofs.Ytlmdgdehjpahiaa.oneCell u = true) (hn : xs.length = n := by rfl) (hm : Nat.ble n 9223372036854775807 = true := by rfl) :
    RS R sz enc (.slice (some ⟨b, 0, none⟩) n n) xs :=
  ⟨hl, ho, _, n, by rw [hn], by omega, by have := Nat.le_of_ble_eq_true hm; unfold maxLen; omega, .inr ⟨b, 0, _, E, fr, rfl, hb, fun k hk => by subst he; simp⟩⟩
theorem RS.lits {α : Type} {R : Rds} {H : Segs} {b n E sz : Nat} {cs : List Value} {fr : Nat × Nat} {enc : α → List Value} {xs : List α} (he : xs.flatMap enc = cs) (hl : ∀ x ∈ xs, (enc x).length = sz) (ho : ∀ x ∈ xs, ∀ u ∈ enc x, Go.Proofs.Ytlmdgdehjpahiaa.oneCell u = true) (hn : xs.length = n := by rfl) (hm : Nat.ble n 9223372036854775807 = true := by rfl) :
    RS (Rx R ([(b, .cells cs.toArray E fr)] :: H)) sz enc (.slice (some ⟨b, 0, none⟩) n n) xs := RS.litB (E := E) (fr := fr) (.inr (by simp)) he hl ho hn hm
theorem upB_mem {T : Seg} {b b' : Nat} {o o' : Obj} (h : (b', o') ∈ T) (hn : b' ≠ b) : (b', o') ∈ upB T b o := List.mem_map.2 ⟨_, h, by simp [hn]⟩
theorem upB_self {T : Seg} {b : Nat} {o o' : Obj} (h : (b, o') ∈ T) : (b, o) ∈ upB T b o := List.mem_map.2 ⟨_, h, by simp⟩
def idx {α : Type} : Nat → List α → List (Nat × α)
  | _, [] => []
  | i, x :: l => (i, x) :: idx (i + 1) l
theorem fillL_one {places : List (Nat × Nat)} {zs : List Value} {i off : Nat} {v : Value} {r : List (Nat × Value)} (hp : places[i]? = some (off, 1)) (hv : oneCell v = true) (hl : off + 1 ≤ zs.length) : fillL places zs ((i, v) :: r) = fillL places (setL zs off [v]) r := by
  have h2 : Nat.ble (off + 1) zs.length = true := Nat.ble_eq_true_of_le hl
  simp only [fillL, hp]
  cases v <;> first | (cases hv; done) | simp [h2]
theorem fillL_agg {places : List (Nat × Nat)} {zs cs : List Value} {i off : Nat} {r : List (Nat × Value)} (hp : places[i]? = some (off, cs.length)) (hl : off + cs.length ≤ zs.length) : fillL places zs ((i, .agg cs.toArray) :: r) = fillL places (setL zs off cs) r := by
  have h2 : Nat.ble (off + cs.length) zs.length = true := Nat.ble_eq_true_of_le hl
  simp [fillL, hp, h2]
theorem fillL_seq1' {n : Nat} : ∀ (vs zs : List Value) (i : Nat), i + vs.length = n → zs.length = n → (∀ v ∈ vs, oneCell v = true) → fillL ((List.range n).map fun i => (i * 1, 1)) zs (idx i vs) = some (zs.take i ++ vs)
  | [], zs, i, h, hz, _ => by
    simp only [idx, fillL, List.append_nil]
    rw [List.take_of_length_le (by simp at h; omega)]
  | v :: vs, zs, i, h, hz, ho => by
    simp only [List.length_cons] at h
    have hp : ((List.range n).map fun i => (i * 1, 1))[i]? = some (i * 1, 1) := by
      rw [List.getElem?_map, List.getElem?_range (by omega)]; rfl
    simp only [idx]
    rw [fillL_one hp (ho v (by simp)) (by omega), fillL_seq1' vs _ (i + 1) (by omega) (by rw [setL_length (by simp; omega)]; exact hz) fun u hu => ho u (by simp [hu])]
    simp only [setL, Nat.mul_one, List.append_assoc]
    rw [List.take_append, List.take_of_length_le (by simp; omega)]
    have e1 : i + 1 - (zs.take i).length = 1 := by rw [List.length_take]; omega
    rw [e1]; simp
theorem fillL_seq1 {n : Nat} {vs zs : List Value} (hn : vs.length = n) (hz : zs.length = n) (ho : ∀ v ∈ vs, oneCell v = true) : fillL ((List.range n).map fun i => (i * 1, 1)) zs (idx 0 vs) = some vs := by
  rw [fillL_seq1' vs zs 0 (by omega) hz ho]; simp
theorem fillL_seqA' {n k : Nat} : ∀ (css : List (List Value)) (zs : List Value) (i : Nat), i + css.length = n → zs.length = n * k → (∀ cs ∈ css, cs.length = k) → fillL ((List.range n).map fun i => (i * k, k)) zs (idx i (css.map fun cs => .agg cs.toArray)) = some (zs.take (i * k) ++ css.flatten)
  | [], zs, i, h, hz, _ => by
    simp only [List.length_nil, Nat.add_zero] at h
    simp only [List.map_nil, idx, fillL, List.flatten_nil, List.append_nil]
    rw [List.take_of_length_le (by rw [hz, h]; omega)]
  | cs :: css, zs, i, h, hz, ho => by
    simp only [List.length_cons] at h
    have hk := ho cs (by simp)
    have hlt : i < n := by omega
    have hm : (i + 1) * k ≤ n * k := Nat.mul_le_mul_right k hlt
    rw [Nat.succ_mul] at hm
    have hp : ((List.range n).map fun i => (i * k, k))[i]? = some (i * k, cs.length) := by
      rw [List.getElem?_map, List.getElem?_range hlt, hk]; rfl
    simp only [List.map_cons, idx]
    rw [fillL_agg hp (by omega), fillL_seqA' css _ (i + 1) (by omega) (by rw [setL_length (by omega)]; exact hz) fun u hu => ho u (by simp [hu])]
    simp only [setL, List.append_assoc, List.flatten_cons]
    rw [List.take_append, List.take_of_length_le (by rw [List.length_take, Nat.succ_mul]; omega)]
    have e1 : (i + 1) * k - (zs.take (i * k)).length = cs.length := by rw [List.length_take, Nat.succ_mul]; omega
    rw [e1]; simp
theorem fillL_seqA {n k : Nat} {css : List (List Value)} {zs : List Value} (hn : css.length = n) (hz : zs.length = n * k) (ho : ∀ cs ∈ css, cs.length = k) : fillL ((List.range n).map fun i => (i * k, k)) zs (idx 0 (css.map fun cs => .agg cs.toArray)) = some css.flatten := by
  rw [fillL_seqA' css zs 0 (by omega) hz ho]; simp
section
variable {P : Program} {N : Nat} {R R' : Rds} {ops : Array Oper} {l : List Oper} {env : Env} {H : Segs} {K : Env → Segs → Prop} {Q : Exit → Env → Segs → Prop} {T : Seg} {upd : Seg → Segs} {ty : TypeId} {pos : String} {af : Array Edge} {m : Bool}
/-- All owned blocks are different. -/
theorem TriOps.nodup (h : (H.flatten.map (·.1)).Nodup → TriOps m P N R ops l env H K) : TriOps m P N R ops l env H K := fun Q' w0 H0 hQ a w s => h s.sat.1 Q' w0 H0 hQ a w s
theorem Tri.nodup {c : Code} (h : (H.flatten.map (·.1)).Nodup → Tri P N R c env H Q) : Tri P N R c env H Q := fun Q' w0 H0 hQ a w s => h s.sat.1 Q' w0 H0 hQ a w s
theorem Spec.nodup {f : FuncId} {args : List Value} {Post : Value → Segs → Prop} (h : (H.flatten.map (·.1)).Nodup → Spec P f args R H Post) : Spec P f args R H Post := fun w hs hr => h hs.1 w hs hr
theorem RA.nodup {Ho : Segs} {Ms done : List Nat} (h : (H.flatten.map (·.1)).Nodup → RA P N R ops Ho Ms done env H K) : RA P N R ops Ho Ms done env H K := fun Q' w0 H0 hQ hc a w s hh => h s.sat.1 Q' w0 H0 hQ hc a w s hh
theorem take_nil (H : Segs) : take [] H = [] := rfl
theorem rest_nil (H : Segs) : rest [] H = H := rfl
/-- What only reads leaves what is owned. -/
theorem Spec.keep {f : FuncId} {args : List Value} {Post : Value → Prop} (h : Spec P f args (Rx R H) [] fun v H' => Post v ∧ H' = []) : Spec P f args R H fun v H' => Post v ∧ H' = H := fun w hs hr => by
  obtain ⟨s1, s2, s3⟩ := sat_split (is := []) hs
  refine (h w s1 (RO.split (is := []) hs hr)).mono fun e w' ⟨v, H', he, ⟨hp, hH⟩, hs', hf⟩ => ?_
  subst hH
  obtain ⟨j1, j2⟩ := sat_join (is := []) hs hs' hf
  exact ⟨v, H, he, ⟨hp, rfl⟩, j1, j2⟩
theorem ISpec.keep {t : TypeId} {v r : Value} {name : String} {vs : List Value} {f : FuncId} {Post : Value → Prop} (hm : MthAt P (Rx R [T]) t v name f r) [e : Ent P f] (h : Spec P f (r :: vs) (Rx R [T]) [] fun v H' => Post v ∧ H' = []) : ISpec P t v name vs R T fun u T' => Post u ∧ T' = T :=
  ⟨f, r, hm, e, h.keep.mono fun u H' ⟨h1, h2⟩ => ⟨T, h2, h1, rfl⟩⟩
theorem PS.of {b : Nat} {vs : List Value} {E : TypeId} {fr : Nat × Nat} (h : (b, .cells vs.toArray E fr) ∈ T) : PS T (.pointer (some ⟨b, 0, none⟩)) vs := ⟨PC.of h⟩
/-- A store into a block of a segment. -/
theorem TriOps.storeB {t : TypeId} {x y : Operand} {v : Value} {vs : List Value} {b off E : Nat} (hm : (b, .cells vs.toArray E (0, 0)) ∈ T) [sa : SegAt H T upd] [sz : Sz P t 1] (hn : TriOps false P N R ops l env (upd (upB T b (.cells (setL vs off [v]).toArray E (0, 0)))) K)
    (hl : off + 1 ≤ vs.length := by first | decide | exact Nat.le_of_ble_eq_true rfl) (hx : ev env x = some (.pointer (some ⟨b, off, none⟩)) := by rfl) (hy : ev env y = some v := by rfl) (ho : oneCell v = true := by rfl) :
    TriOps false P N R ops (⟨none, .store t x y, ty, pos, af, none⟩ :: l) env H K := by
  refine TriOps.nodup fun hnd => ?_
  obtain ⟨T1, T2, hT⟩ := List.append_of_mem hm
  obtain ⟨H1, H2, rfl, hu⟩ := sa.h
  have hndT : (T.map (·.1)).Nodup := by
    simp only [List.flatten_append, List.flatten_cons, List.map_append, List.nodup_append] at hnd
    exact hnd.2.1.1
  subst hT
  rw [upB_mid hndT] at hn
  have wr : Wr (H1 ++ (T1 ++ (b, .cells vs.toArray E (0, 0)) :: T2) :: H2) (.pointer (some ⟨b, off, none⟩)) vs off (fun vs' => upd (T1 ++ (b, .cells vs'.toArray E (0, 0)) :: T2)) := ⟨b, E, H1, H2, T1, T2, rfl, rfl, fun vs' => hu _⟩
  exact TriOps.store_gen hx hy (cells_one ho) rfl (wr := wr) (by simpa using ho) hl hn
/-- A slice written out, of elements of one cell. -/
theorem TriOps.buildSliceN1 {d : Nat} {T E n : Nat} {z : Value} {xs : List (Nat × Operand)} (vs : List Value) [ut : Und P T (.slice E)] [sz : Sz P E 1] [zr : Zr P E z]
    (hn : ∀ b, TriOps false P N R ops l ((d, .slice (some ⟨b, 0, none⟩) n n) :: env) ([(b, .cells vs.toArray E (0, 0))] :: H) K)
    (hx : evp env xs = some (idx 0 vs) := by rfl) (hl : vs.length = n := by rfl) (ho : ∀ v ∈ vs, Go.Proofs.Ytlmdgdehjpahiaa.oneCell v = true := by simp [Go.Proofs.Ytlmdgdehjpahiaa.oneCell]) (hs : Nat.ble (n * 1) (2 ^ 24) = true := by rfl) (hk : Nat.beq (n * 1) 0 = false := by rfl) (hp : (idx 0 vs).all (fun p => Nat.blt p.1 n) = true := by rfl) (hd : Nat.blt d N = true := by rfl) :
    TriOps false P N R ops (⟨some d, .buildSlice T n xs.toArray, ty, pos, af, none⟩ :: l) env H K :=
  TriOps.buildSlice (z := z) (zs := ((Array.range (n * 1)).map (z.cells[· % z.cells.size]!)).toList) (parts := idx 0 vs) hs hk rfl hx (fillL_seq1 hl (by simp) ho) hn hd hp
/-- A slice written out, of elements of several cells. -/
theorem TriOps.buildSliceNA {d : Nat} {T E n k : Nat} {z : Value} {xs : List (Nat × Operand)} (css : List (List Value)) [ut : Und P T (.slice E)] [sz : Sz P E k] [zr : Zr P E z]
    (hn : ∀ b, TriOps false P N R ops l ((d, .slice (some ⟨b, 0, none⟩) n n) :: env) ([(b, .cells css.flatten.toArray E (0, 0))] :: H) K)
    (hx : evp env xs = some (idx 0 (css.map fun cs => .agg cs.toArray)) := by rfl) (hl : css.length = n := by rfl) (ho : ∀ cs ∈ css, cs.length = k := by simp) (hs : Nat.ble (n * k) (2 ^ 24) = true := by rfl) (hk : Nat.beq (n * k) 0 = false := by rfl) (hp : (idx 0 (css.map fun cs => Value.agg cs.toArray)).all (fun p => Nat.blt p.1 n) = true := by rfl) (hd : Nat.blt d N = true := by rfl) :
    TriOps false P N R ops (⟨some d, .buildSlice T n xs.toArray, ty, pos, af, none⟩ :: l) env H K :=
  TriOps.buildSlice (z := z) (zs := ((Array.range (n * k)).map (z.cells[· % z.cells.size]!)).toList) (parts := idx 0 (css.map fun cs => .agg cs.toArray)) hs hk rfl hx (fillL_seqA hl (by simp) ho) hn hd hp
/-- What is read of what is owned. -/
theorem Spec.lend {f : FuncId} {args : List Value} {Post : Value → Segs → Prop} (is : List Nat) (h : Spec P f args (Rx R (rest is H)) (take is H) Post) : Spec P f args R H fun v H' => ∃ H1, H' = H1 ++ rest is H ∧ Post v H1 := fun w hs hr => by
  obtain ⟨s1, s2, s3⟩ := sat_split (is := is) hs
  refine (h w s1 (RO.split hs hr)).mono fun e w' ⟨v, H', he, hp, hs', hf⟩ => ?_
  obtain ⟨j1, j2⟩ := sat_join hs hs' hf
  exact ⟨v, _, he, ⟨H', rfl, hp⟩, j1, j2⟩
theorem Quiet.assertC {x : Operand} {xt t : TypeId} {v : Value} {d0 : TypeDesc} [ut : Und P t d0] (hd : (match d0 with | .interface _ => false | _ => true) = true := by rfl) (hx : ev env x = some (.iface t v) := by rfl) : Quiet P R env H (.typeAssert x xt t false) ty v := fun a w d pos af g ha _ _ => by
  cases d0 <;> first | (cases hd; done) | simp [execOp, ha.eval hx, Instr.typeAssert, run_underlying ut.h]
/-- All that is owned behind it, as one segment. -/
theorem Spec.flat {f : FuncId} {args : List Value} {Post : Value → Segs → Prop} (h : Spec P f args R H fun v H' => ∃ H1 T', H' = H1 ∧ H1.flatten.Perm T' ∧ Post v [T']) : Spec P f args R H Post := fun w hs hr =>
  (h w hs hr).mono fun e w' ⟨v, H', he, ⟨H1, T', e1, hp, hq⟩, hs', hf⟩ => by
    subst e1
    have hh : HLe H' [T'] := ⟨[], by simpa using hp⟩
    exact ⟨v, [T'], he, hq, hh.sat hs', hf.trans (hh.frame w')⟩
theorem TriOps.sub {H' : Segs} (hh : HLe H H') (h : TriOps m P N R ops l env H' K) : TriOps m P N R ops l env H K := fun Q' w0 H0 hQ a w s => h Q' w0 H0 hQ a w (s.le (EnvLe.refl env) hh)
/-- Some segments as one, ahead of the others. -/
theorem HLe.merge (is : List Nat) (H : Segs) : HLe H ((take is H).flatten :: rest is H) := ⟨[], by simpa using take_perm is H⟩
theorem TriOps.merge (is : List Nat) (h : TriOps m P N R ops l env ((take is H).flatten :: rest is H) K) : TriOps m P N R ops l env H K := h.sub (HLe.merge is H)
theorem HLe.ofPerm {H H' : Segs} (h : H.flatten.Perm H'.flatten) : HLe H H' := ⟨[], by simpa using h⟩
theorem Spec.permIn {H' : Segs} {f : FuncId} {args : List Value} {Post : Value → Segs → Prop} (hp : H.flatten.Perm H'.flatten) (s : Spec P f args R H' Post) : Spec P f args R H Post := fun w hs hr => by
  have hh : HLe H H' := HLe.ofPerm hp
  refine (s w (hh.sat hs) (hr.frame (hh.frame w))).mono fun e w' ⟨v, H1, he, hq, hs', hf⟩ => ⟨v, H1, he, hq, hs', (hh.frame w).trans hf⟩
theorem run_sliceAtS {t : TypeId} {s : ByteArray} {lo hi : Nat} {xl xh : Option Operand} {a : Act} {w : World} (ha : EnvOK a env) [ut : Und P t .string] (h1 : optN env xl 0 lo) (h2 : optN env xh s.size hi) (h3 : lo ≤ hi) (h4 : hi ≤ s.size) :
    (Instr.sliceAt t (.string s) (xl.map a.eval) (xh.map a.eval) none).run P w = .ok (.string (s.extract lo hi)) w := by
  have b1 : ∀ {x : Operand} {k : IntKind} {y n : Nat} {code : BoundsCode}, ev env x = some (.int k n) → n ≤ y → (Instr.sliceBound (a.eval x) y code).run P w = .ok n w := fun hx hn => run_sliceBound (ha.eval hx) hn
  unfold Instr.sliceAt
  simp only [Sem.run_bind, run_underlying ut.h, Result.andThen_ok]
  unfold Instr.slice
  simp only [Sem.run_bind, run_underlying ut.h, Result.andThen_ok]
  unfold Instr.sliceBounds
  cases xl with
  | none =>
    simp only [optN] at h1
    subst h1
    cases xh with
    | none => simp only [optN] at h2; subst h2; simp
    | some o => obtain ⟨k, hk⟩ := h2; simp [b1 hk h4]
  | some q =>
    obtain ⟨k1, hk1⟩ := h1
    cases xh with
    | none => simp only [optN] at h2; subst h2; simp [b1 hk1 h3]
    | some o => obtain ⟨k, hk⟩ := h2; simp [b1 hk h4, b1 hk1 h3]
theorem Quiet.sliceStr {x : Operand} {xl xh : Option Operand} {t : TypeId} {s : ByteArray} (lo hi : Nat) [ut : Und P t .string] (h1 : optN env xl 0 lo) (h2 : optN env xh s.size hi) (h3 : lo ≤ hi) (h4 : hi ≤ s.size) (hx : ev env x = some (.string s) := by rfl) :
    Quiet P R env H (.slice t x xl xh none) ty (.string (s.extract lo hi)) := fun a w d pos af g ha _ _ => by
  have := run_sliceAtS (P := P) (w := w) (s := s) ha h1 h2 h3 h4 (t := t)
  simp only [execOp, ha.eval hx, Option.map_none]
  rw [Sem.run_bind, this]
  rfl
/-- A call of a function value that only reads. -/
theorem TriOps.callRV {d t : Nat} {f : FuncId} {first captured : List Value} [e : Ent P f] {xs : List Operand} {ats : Array TypeId} {vs : List Value} {Post : Value → Prop}
    (hs : Spec P f (first ++ vs ++ captured) (Rx R H) [] fun v H' => Post v ∧ H' = []) (hn : ∀ v, Post v → TriOps false P N R ops l ((d, v) :: env) H K)
    (ht : Env.get? env t = some (.func (.func f) first.toArray captured.toArray) := by rfl) (hxs : evs env xs = some vs := by rfl) (hd : Nat.blt d N = true := by rfl) :
    TriOps false P N R ops (⟨some d, .call ⟨.value (.tmp t), xs.toArray, ats⟩, ty, pos, af, none⟩ :: l) env H K :=
  TriOps.callV [] (first := first) (captured := captured) ht hs (fun v H' hp => by obtain ⟨h1, rfl⟩ := hp; exact hn v h1) hxs hd
theorem yielded_undef {a : Act} {j t : Nat} (he : EnvOK a env) (hj : gdst ops j = some t) (hv : Env.get? env t = some undef) : yielded ops a.tmps j = none := by
  unfold gdst at hj
  have := he t _ hv
  simp [yielded, hj, this, undef]
/-- An operation whose guard was not worked out is not done. -/
theorem TriOps.gfU {j t d : Nat} {want : Bool} {op : Op} (hv : Env.get? env t = some undef) (hn : TriOps m P N R ops l ((d, undef) :: env) H K) (hj : gdst ops j = some t := by rfl) (hd : Nat.blt d N = true := by rfl) :
    TriOps m P N R ops (⟨some d, op, ty, pos, af, some (j, want)⟩ :: l) env H K := fun Q' w0 H0 hQ a w s => by
  have hw : ¬ Region.wanted ⟨some d, op, ty, pos, af, some (j, want)⟩ (yielded ops a.tmps) = true := by
    simp [Region.wanted, yielded_undef s.env hj hv]
  have h := hn Q' w0 H0 hQ _ w (s.put undef hd)
  cases m
  · simp only [wpList]
    rw [if_neg hw]
    exact h
  · simp only [wpStill]
    rw [if_neg hw]
    exact h
theorem TriOps.gfU0 {j t : Nat} {want : Bool} {op : Op} (hv : Env.get? env t = some undef) (hn : TriOps m P N R ops l env H K) (hj : gdst ops j = some t := by rfl) :
    TriOps m P N R ops (⟨none, op, ty, pos, af, some (j, want)⟩ :: l) env H K := fun Q' w0 H0 hQ a w s => by
  have hw : ¬ Region.wanted ⟨none, op, ty, pos, af, some (j, want)⟩ (yielded ops a.tmps) = true := by
    simp [Region.wanted, yielded_undef s.env hj hv]
  have h := hn Q' w0 H0 hQ _ w s
  cases m
  · simp only [wpList]
    rw [if_neg hw]
    exact h
  · simp only [wpStill]
    rw [if_neg hw]
    exact h
theorem TriOps.sliceR {d : Nat} {x : Operand} {xl xh : Option Operand} {t e : TypeId} {sz : Nat} {α : Type} {enc : α → List Value} {v : Value} {xs : List α} (lo hi : Nat) (h : RS R' sz enc v xs) [ut : Und P t (.slice e)] [s : Sz P e sz] (h1 : optN env xl 0 lo) (h2 : optN env xh xs.length hi) (h3 : lo ≤ hi) (h4 : hi ≤ xs.length)
    (hn : ∀ v', RS R' sz enc v' ((xs.drop lo).take (hi - lo)) → TriOps m P N R ops l ((d, v') :: env) H K) (hx : ev env x = some v := by rfl) (hd : Nat.blt d N = true := by rfl) :
    TriOps m P N R ops (⟨some d, .slice t x xl xh none, ty, pos, af, none⟩ :: l) env H K := by
  obtain ⟨v', g1, g2⟩ := Quiet.sliceR (P := P) (R := R) (H := H) (ty := ty) (t := t) lo hi h h1 h2 h3 h4 hx
  exact TriOps.q g2 (hn v' g1) hd
theorem Quiet.le {env' : Env} {op : Op} {v : Value} {H' : Segs} (h : Quiet P R env' [] op ty v) (he : EnvLe env env') : Quiet P R env H op ty v := fun a w d pos af g ha s r =>
  h a w d pos af g (ha.le he) ⟨by simp, by simp⟩ fun b o hb => ⟨(r b o hb).1, by simp⟩
end
end Go.Proofs.Ytlmdgdehjpahiaa
