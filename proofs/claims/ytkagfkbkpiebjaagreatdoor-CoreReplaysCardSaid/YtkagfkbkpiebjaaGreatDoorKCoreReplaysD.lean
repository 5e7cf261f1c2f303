/- What the law 'CoreReplays' uses of this prover's engine, facts and walks. No condition. -/
import Derived.Lib.Overlaps
import Derived.Test.YtkagfkbkpiebjaaGreatDoorKCoreReplaysB
set_option linter.unusedVariables false
namespace Go.Proofs.YtkagfkbkpiebjaaGreatDoor
theorem row_put {c : Array Value} {off sz cap lo : Nat} {α : Type} {enc : α → List Value} {xs ys : List α} (hr : Row c off (xs.flatMap enc)) (hx : ∀ x ∈ xs, (enc x).length = sz) (hy : ∀ y ∈ ys, (enc y).length = sz) (hlo : lo ≤ xs.length) (hcap : lo + ys.length ≤ cap) (hc : off + cap * sz ≤ c.size) :
  Row (setL c.toList (off + lo * sz) (ys.flatMap enc)).toArray off ((xs.take lo ++ ys ++ xs.drop (lo + ys.length)).flatMap enc) := by
 intro k hk
 have hl1 := flatMap_length hx
 have hl2 := flatMap_length hy
 rw [List.flatMap_append, List.flatMap_append, flatMap_take lo hx, flatMap_drop (lo + ys.length) hx] at hk ⊢
 have hm1 : lo * sz ≤ xs.length * sz := Nat.mul_le_mul_right _ hlo
 have hm2 : (lo + ys.length) * sz ≤ cap * sz := Nat.mul_le_mul_right _ hcap
 have hm3 : (lo + ys.length) * sz = lo * sz + ys.length * sz := Nat.add_mul _ _ _
 have ht : ((xs.flatMap enc).take (lo * sz)).length = lo * sz := by rw [List.length_take, hl1]; omega
 rw [List.getElem?_toArray, setL_eq]
 have hct : (c.toList.take (off + lo * sz)).length = off + lo * sz := by rw [List.length_take, Array.length_toList]; omega
 simp only [List.getElem?_append, List.length_append, hct, ht, hl2]
 by_cases h1 : k < lo * sz
 ·rw [if_pos (by omega), if_pos (by omega), if_pos (by omega), if_pos h1, List.getElem?_take_of_lt (by omega), List.getElem?_take_of_lt h1, Array.getElem?_toList]
  exact hr k (by rw [hl1]; omega)
 ·by_cases h2 : k < lo * sz + ys.length * sz
  ·rw [if_pos (by omega), if_neg (by omega), if_pos (by omega), if_neg h1]
   congr 1
   omega
  ·have hk2 : k < xs.length * sz := by
    simp only [List.length_append, ht, hl2, List.length_drop, hl1] at hk
    omega
   rw [if_neg (by omega), if_neg (by omega), List.getElem?_drop, List.getElem?_drop, Array.getElem?_toList]
   have h3 := hr k (by rw [hl1]; exact hk2)
   have i1 : off + lo * sz + ys.length * sz + (off + k - (off + lo * sz + ys.length * sz)) = off + k := by omega
   have i2 : (lo + ys.length) * sz + (k - (lo * sz + ys.length * sz)) = k := by omega
   rw [i1, i2]
   exact h3
theorem os_put {E sz b off cap lo : Nat} {c : Array Value} {α : Type} {enc : α → List Value} {xs ys : List α} (h : OS E sz enc (.slice (some ⟨b, off, none⟩) xs.length cap) xs [(b, .cells c E (0, 0))]) (hy : ∀ y ∈ ys, (enc y).length = sz) (hyo : ∀ y ∈ ys, ∀ u ∈ enc y, Go.Proofs.YtkagfkbkpiebjaaGreatDoor.oneCell u = true) (hlo : lo ≤ xs.length) (hcap : lo + ys.length ≤ cap)
  (hr : Row c off (xs.flatMap enc)) (hc : off + cap * sz ≤ c.size) (hm : cap ≤ maxLen) (n : Nat) (hn : (xs.take lo ++ ys ++ xs.drop (lo + ys.length)).length = n) (hncap : n ≤ cap) :
  OS E sz enc (.slice (some ⟨b, off, none⟩) n cap) (xs.take lo ++ ys ++ xs.drop (lo + ys.length)) [(b, .cells (setL c.toList (off + lo * sz) (ys.flatMap enc)).toArray E (0, 0))] := by
 have hl2 := flatMap_length hy
 have hm2 : (lo + ys.length) * sz ≤ cap * sz := Nat.mul_le_mul_right _ hcap
 have hm3 : (lo + ys.length) * sz = lo * sz + ys.length * sz := Nat.add_mul _ _ _
 refine ⟨fun x hx => ?_, fun x hx => ?_, .inr ⟨b, off, _, cap, by rw [hn], rfl, by rw [hn]; exact hncap, hm, ?_, row_put hr h.len hy hlo hcap hc⟩⟩
 ·rcases List.mem_append.1 hx with hx | hx
  ·rcases List.mem_append.1 hx with hx | hx
   ·exact h.len x (List.mem_of_mem_take hx)
   ·exact hy x hx
  ·exact h.len x (List.mem_of_mem_drop hx)
 ·rcases List.mem_append.1 hx with hx | hx
  ·rcases List.mem_append.1 hx with hx | hx
   ·exact h.one x (List.mem_of_mem_take hx)
   ·exact hyo x hx
  ·exact h.one x (List.mem_of_mem_drop hx)
 ·have hcl : c.toList.length = c.size := Array.length_toList
  rw [List.size_toArray, setL_length (by rw [hl2]; omega), hcl]; exact hc
section
variable {P : Program} {N : Nat} {R : Rds} {ops : Array Oper} {l : List Oper} {env : Env} {H : Segs} {K : Env → Segs → Prop} {T : Seg} {upd : Seg → Segs} {ty : TypeId} {pos : String} {af : Array Edge} {α : Type}
theorem TriOps.copyO {d : Nat} {x y : Operand} {ta tb E sz cap sl sc kc dl dc lo n : Nat} {b off : Nat} {pd ps : Option Addr} {enc : α → List Value} {xs ys : List α} (hv : OS E sz enc (.slice (some ⟨b, off, none⟩) xs.length cap) xs T) (hu : RS (Rx R H) sz enc (.slice ps ys.length kc) ys) [sa : SegAt H T upd] [ua : Und P ta (.slice E)] [s : Sz P E sz]
  (hpd : pd = some ⟨b, off + lo * sz, none⟩) (hk : Nat.min sl dl = ys.length) (hlo : lo ≤ xs.length) (hcap : lo + ys.length ≤ cap) (hnl : (xs.take lo ++ ys ++ xs.drop (lo + ys.length)).length = n) (hncap : n ≤ cap)
  (hx : ev env x = some (.slice pd dl dc)) (hy : ev env y = some (.slice ps sl sc)) (hn : ∀ T', OS E sz enc (.slice (some ⟨b, off, none⟩) n cap) (xs.take lo ++ ys ++ xs.drop (lo + ys.length)) T' → TriOps false P N R ops l ((d, .int .i64 (ys.length : Nat)) :: env) (upd T') K) (hd : Nat.blt d N = true := by rfl) :
  TriOps false P N R ops (⟨some d, .call ⟨.builtin .copy, #[x, y], #[ta, tb]⟩, ty, pos, af, none⟩ :: l) env H K :=
 TriOps.eff hd fun a w ha sat ro => by
  obtain ⟨H1, H2, e1, e2⟩ := sa.h
  subst e1
  subst hpd
  have hw : ∀ b o, Rx R (H1 ++ T :: H2) b o → w.heap[b]? = some o := fun b o h => by
   rcases h with h | h
   ·exact (ro b o h).1
   ·exact sat.2 _ h
  have hfu := run_firstCells (P := P) hu hw
  rcases hv.h with ⟨h1, h2, h3⟩ | ⟨b', off', c, cap', h1, h2, h3, h4, h5, h6⟩
  ·cases h1
  ·cases h1
   subst h2
   have hb : w.heap[b]? = some (.cells c E (0, 0)) := sat.2 (b, _) (by simp)
   have hl2 := flatMap_length hu.len
   have hm2 : (lo + ys.length) * sz ≤ cap * sz := Nat.mul_le_mul_right _ hcap
   have hm3 : (lo + ys.length) * sz = lo * sz + ys.length * sz := Nat.add_mul _ _ _
   have hone' : ∀ c ∈ ys.flatMap enc, Go.Proofs.YtkagfkbkpiebjaaGreatDoor.oneCell c = true := fun c hc => by
    obtain ⟨y, hy, hcy⟩ := List.mem_flatMap.1 hc
    exact hu.one y hy c hcy
   have hst := run_storeCells (P := P) (b := b) (off := off + lo * sz) (E := E) (ys.flatMap enc) 0 c.toList w (by simpa using hb) hone' (by rw [hl2]; have hcl : c.toList.length = c.size := Array.length_toList; omega)
   rw [Nat.add_zero] at hst
   have hos := os_put hv hu.len hu.one hlo hcap h6 h5 h4 n hnl hncap
   refine ⟨.int .i64 (ys.length : Nat), setO w b (.cells (setL c.toList (off + lo * sz) (ys.flatMap enc)).toArray E (0, 0)), upd [(b, .cells (setL c.toList (off + lo * sz) (ys.flatMap enc)).toArray E (0, 0))], ?_, by rw [e2]; exact (setO_seg (o' := _) sat).1, by rw [e2]; exact (setO_seg (o' := _) sat).2, hn _ hos⟩
   have hfu2 : (Builtin.firstCells sz ys.length (.slice ps sl sc)).run P w = .ok (ys.flatMap enc).toArray w := by
    cases ps with
    | none => exact hfu
    | some a => exact hfu
   simp [execOp, resolve, ha.eval hx, ha.eval hy, invoke, builtin, Builtin.copy_, run_underlying ua.h, s.h, Builtin.lenOf, hk, hfu2, hst, goInt]
theorem pieceV_some {sz lo hi b off cap : Nat} (h : cap ≠ lo) : pieceV sz lo hi (some ⟨b, off, none⟩) cap = .slice (some ⟨b, off + lo * sz, none⟩) (hi - lo) (cap - lo) := by
 unfold pieceV
 rw [if_neg h, Option.map_some, add_mk]
theorem OS.tailRS {R' : Rds} {E sz cap b off : Nat} {enc : α → List Value} {xs : List α} (h : OS E sz enc (.slice (some ⟨b, off, none⟩) xs.length cap) xs T) (hR : ∀ p ∈ T, R' p.1 p.2) (i : Nat) (hi : i ≤ xs.length) : RS R' sz enc (.slice (some ⟨b, off + i * sz, none⟩) (xs.drop i).length (cap - i)) (xs.drop i) := by
 refine ⟨fun x hx => h.len x (List.mem_of_mem_drop hx), fun x hx => h.one x (List.mem_of_mem_drop hx), ?_⟩
 rcases h.h with ⟨h1, _, _⟩ | ⟨b', off', c, cap', h1, h2, h3, h4, h5, h6⟩
 ·cases h1
 ·cases h1
  subst h2
  refine ⟨_, cap - i, rfl, by rw [List.length_drop]; omega, by omega, .inr ⟨b, off + i * sz, c, E, (0, 0), rfl, hR (b, _) (by simp), ?_⟩⟩
  have := h6.piece h.len i (xs.length - i)
  rwa [List.take_of_length_le (by rw [List.length_drop]; exact Nat.le_refl _)] at this
end
end Go.Proofs.YtkagfkbkpiebjaaGreatDoor
set_option linter.unusedVariables false
namespace Go.Proofs.YtkagfkbkpiebjaaGreatDoor
theorem wrap32 (z : Int) : IntKind.u32.wrap z = ((BitVec.ofInt 32 z).toNat : Int) := by
 simp only [IntKind.wrap, IntKind.bits, IntKind.signed, BitVec.toNat_ofInt]
 simp
 omega
theorem wrap8 (z : Int) : IntKind.u8.wrap z = ((BitVec.ofInt 8 z).toNat : Int) := by
 simp only [IntKind.wrap, IntKind.bits, IntKind.signed, BitVec.toNat_ofInt]
 simp
 omega
theorem ofI32 (x : BitVec 32) : BitVec.ofInt 32 (x.toNat : Int) = x := by
 apply BitVec.eq_of_toNat_eq
 simp
section
variable {P : Program} {R : Rds} {env : Env} {H : Segs} {ty : TypeId} {x y : Operand} {t u : TypeId} {a b : BitVec 32}
theorem Quiet.toW {op : Op} {z : Int} (h : Quiet P R env H op ty (.int .u32 (IntKind.u32.wrap z))) (c : BitVec 32) (e : BitVec.ofInt 32 z = c) : Quiet P R env H op ty (.int .u32 (c.toNat : Int)) := by
 subst e
 rw [wrap32] at h
 exact h
theorem Quiet.addW (hx : ev env x = some (.int .u32 (a.toNat : Int))) (hy : ev env y = some (.int .u32 (b.toNat : Int))) : Quiet P R env H (.binOp .add t x y u) ty (.int .u32 ((a + b).toNat : Int)) :=
 (Quiet.add hx hy).toW _ (by
  apply BitVec.eq_of_toNat_eq
  simp [BitVec.toNat_ofInt, BitVec.toNat_add]
  omega)
theorem Quiet.andW (hx : ev env x = some (.int .u32 (a.toNat : Int))) (hy : ev env y = some (.int .u32 (b.toNat : Int))) : Quiet P R env H (.binOp .and t x y u) ty (.int .u32 ((a &&& b).toNat : Int)) :=
 (Quiet.andI hx hy).toW _ (by
  simp only [IntKind.bits, ofI32]
  rfl)
theorem Quiet.orW (hx : ev env x = some (.int .u32 (a.toNat : Int))) (hy : ev env y = some (.int .u32 (b.toNat : Int))) : Quiet P R env H (.binOp .or t x y u) ty (.int .u32 ((a ||| b).toNat : Int)) :=
 (Quiet.orI hx hy).toW _ (by
  simp only [IntKind.bits, ofI32]
  rfl)
theorem Quiet.xorW (hx : ev env x = some (.int .u32 (a.toNat : Int))) (hy : ev env y = some (.int .u32 (b.toNat : Int))) : Quiet P R env H (.binOp .xor t x y u) ty (.int .u32 ((a ^^^ b).toNat : Int)) :=
 (Quiet.xorI hx hy).toW _ (by
  simp only [IntKind.bits, ofI32]
  rfl)
theorem Quiet.shlW {k2 : IntKind} {n : Nat} (hx : ev env x = some (.int .u32 (a.toNat : Int))) (hy : ev env y = some (.int k2 (n : Int))) (hn : n ≤ 32) : Quiet P R env H (.binOp .shl t x y u) ty (.int .u32 ((a <<< n).toNat : Int)) :=
 (Quiet.shlI hx hy (by omega)).toW _ (by
  apply BitVec.eq_of_toNat_eq
  have h : min ((n : Int)).toNat IntKind.u32.bits = n := by simp only [IntKind.bits]; omega
  have h2 : (a.toNat : Int) * 2 ^ n = ((a.toNat * 2 ^ n : Nat) : Int) := by simp
  rw [h, h2, BitVec.ofInt_natCast, BitVec.toNat_ofNat, BitVec.toNat_shiftLeft, Nat.shiftLeft_eq])
theorem Quiet.shrW {k2 : IntKind} {n : Nat} (hx : ev env x = some (.int .u32 (a.toNat : Int))) (hy : ev env y = some (.int k2 (n : Int))) (hn : n ≤ 32) : Quiet P R env H (.binOp .shr t x y u) ty (.int .u32 ((a >>> n).toNat : Int)) := by
 have h := Quiet.shrI (P := P) (R := R) (H := H) (ty := ty) (t := t) (u := u) hx hy (by omega)
 have h2 : min ((n : Int)).toNat IntKind.u32.bits = n := by simp only [IntKind.bits]; omega
 have h3 : ((a >>> n).toNat : Int) = (a.toNat : Int).fdiv (2 ^ min ((n : Int)).toNat IntKind.u32.bits) := by
  rw [h2, Int.fdiv_eq_ediv_of_nonneg _ (Int.le_of_lt (Int.pow_pos (by decide)))]
  simp [Nat.shiftRight_eq_div_pow]
 rw [h3]
 exact h
theorem Quiet.wide {c : UInt8} {ds : TypeDesc} {dst : TypeId} (hx : ev env x = some (.int .u8 (c.toNat : Int))) [us : Und P t ds] [ud : Und P dst (.int .u32)] : Quiet P R env H (.convert t dst x) ty (.int .u32 ((c.toBitVec.setWidth 32).toNat : Int)) :=
 (Quiet.convI hx).toW _ (by
  apply BitVec.eq_of_toNat_eq
  simp)
theorem Quiet.narrow {ds : TypeDesc} {dst : TypeId} (hx : ev env x = some (.int .u32 (a.toNat : Int))) [us : Und P t ds] [ud : Und P dst (.int .u8)] : Quiet P R env H (.convert t dst x) ty (.int .u8 ((UInt8.ofBitVec (a.setWidth 8)).toNat : Int)) := by
 have h := Quiet.convI (P := P) (R := R) (H := H) (ty := ty) (t := t) (dst := dst) (k' := .u8) hx
 rw [wrap8] at h
 have e : (BitVec.ofInt 8 (a.toNat : Int)).toNat = (UInt8.ofBitVec (a.setWidth 8)).toNat := by
  simp
 rw [e] at h
 exact h
end
end Go.Proofs.YtkagfkbkpiebjaaGreatDoor
set_option linter.unusedVariables false
namespace Go.Proofs.YtkagfkbkpiebjaaGreatDoor
theorem drop_at {α : Type} {l : List α} {i : Nat} {x : α} (h : l[i]? = some x) : l.drop i = x :: l.drop (i + 1) := by
 obtain ⟨h1, h2⟩ := List.getElem?_eq_some_iff.1 h
 rw [← h2]; exact List.drop_eq_getElem_cons h1
theorem setL_set {vs : List Value} {i : Nat} {v : Value} (h : i < vs.length) : setL vs i [v] = vs.set i v := by
 rw [setL_eq, List.set_eq_take_append_cons_drop, if_pos h]
 simp
section
variable {P : Program} {R : Rds} {env : Env} {H : Segs} {ty : TypeId} {x y : Operand} {t u : TypeId} {a : BitVec 32}
theorem Quiet.indexArr {t e : TypeId} {n sz : Nat} {p : Value} {vs : List Value} {k : IntKind} {j : Int} (i : Nat) (hi : i < n) (hx : ev env x = some p) (hy : ev env y = some (.int k j)) (hj : j = (i : Int)) [ut : Und P t (.array n e)] [s : Sz P e sz] [rc : RC R H p vs] :
  Quiet P R env H (.indexAddr t x y) ty (addP p (i * sz)) := fun a w d pos af g ha _ _ => by
 obtain ⟨b, o, c, E, fr, h1, _, _⟩ := rc.h.h
 subst h1; subst hj
 have h1 : (0 : Int) ≤ i ∧ (i : Int) < n := by omega
 simp [execOp, ha.eval hx, ha.eval hy, Instr.indexAt, asIntOf, run_underlying ut.h, Instr.sureAddr, h1, hi, s.h, addP]
theorem Quiet.indexArr1 {t e : TypeId} {n : Nat} {p : Value} {vs : List Value} {k : IntKind} {j : Int} (i : Nat) (hi : i < n) (hx : ev env x = some p) (hy : ev env y = some (.int k j)) (hj : j = (i : Int)) [ut : Und P t (.array n e)] [s : Sz P e 1] [rc : RC R H p vs] :
  Quiet P R env H (.indexAddr t x y) ty (addP p i) := by
 have := Quiet.indexArr (P := P) (R := R) (env := env) (H := H) (ty := ty) (t := t) i hi hx hy hj
 rw [Nat.mul_one] at this
 exact this
theorem Quiet.indexV {t e : TypeId} {n : Nat} {cs : List Value} {v : Value} {k : IntKind} {j : Int} (i : Nat) (hu : cs[i]? = some v) (hi : i < n) (hx : ev env x = some (.agg cs.toArray)) (hy : ev env y = some (.int k j)) (hj : j = (i : Int)) [ut : Und P t (.array n e)] [s : Sz P e 1] [ag : Agg P e false] :
  Quiet P R env H (.index t x y) ty v := fun a w d pos af g ha _ _ => by
 subst hj
 have h1 : (0 : Int) ≤ i ∧ (i : Int) < n := by omega
 simp [execOp, ha.eval hx, ha.eval hy, Instr.index, asIntOf, run_underlying ut.h, h1, hi, s.h, part, ag.h, hu]
theorem Quiet.bldA {t e : TypeId} {n : Nat} {zero out : List Value} {xs : List (Nat × Operand)} {parts : List (Nat × Value)} [ut : Und P t (.array n e)] [s : Sz P e 1] [zr : Zr P t (.agg zero.toArray)]
  (hx : evp env xs = some parts := by rfl) (hf : fillL ((List.range n).map fun i => (i, 1)) zero parts = some out := by rfl) (hp : (parts.all fun x => Nat.blt x.1 n) = true := by rfl) : Quiet P R env H (.build t xs.toArray) ty (.agg out.toArray) := fun a w d pos af g ha _ _ => by
 have h4 := fill_of_fillL parts zero hf
 have h5 : xs.toArray.map (fun x => (x.1, a.eval x.2)) = parts.toArray := by rw [List.map_toArray, ha.evalp hx]
 have h6 : (execOp a.eval ⟨d, .build t xs.toArray, ty, pos, af, g⟩) = (do pure (.value (← Instr.build t parts.toArray))) := by
  show (do pure (Next.value (← Instr.build t (xs.toArray.map fun x : Nat × Operand => (x.1, a.eval x.2))))) = _
  rw [h5]
 have h7 : Instr.fill (fun i => some (i * 1, 1)) zero.toArray parts = some out.toArray := by
  rw [← h4]
  refine fill_congr parts (fun x hxp => ?_) _
  have := List.all_eq_true.1 hp x hxp
  have hlt : x.1 < n := of_decide_eq_true (by simpa [Nat.blt_eq] using this)
  rw [List.getElem?_map, List.getElem?_range hlt]
  simp
 rw [h6]
 simp only [Instr.build, Sem.run_bind, zr.h, Result.andThen_ok, run_underlying ut.h, s.h, Value.cells, h7]
 rfl
theorem Quiet.complW (hx : ev env x = some (.int .u32 (a.toNat : Int))) : Quiet P R env H (.unOp .xor t x) ty (.int .u32 ((~~~a).toNat : Int)) := fun c w d pos af g ha _ _ => by
 have e : IntKind.u32.wrap ((BitVec.ofInt IntKind.u32.bits IntKind.u32.max ^^^ BitVec.ofInt IntKind.u32.bits (a.toNat : Int)).toNat : Int) = ((~~~a).toNat : Int) := by
  have h0 : IntKind.u32.max = 4294967295 := by decide
  have h1 : BitVec.ofInt 32 4294967295 = BitVec.allOnes 32 := by decide
  have h3 : (BitVec.ofInt IntKind.u32.bits IntKind.u32.max ^^^ BitVec.ofInt IntKind.u32.bits (a.toNat : Int)).toNat = (~~~a).toNat := by
   rw [h0]
   show (BitVec.ofInt 32 4294967295 ^^^ BitVec.ofInt 32 (a.toNat : Int)).toNat = _
   rw [ofI32, h1, BitVec.allOnes_xor]
  rw [h3, wrap32, ofI32]
 simp only [execOp, ha.eval hx, Op.unary, Op.intBits, IntKind.signed, Bool.false_eq_true, if_false, e]
 rfl
theorem Quiet.sliceArr {xl xh : Option Operand} {t e : TypeId} {n sz b off : Nat} (lo hi : Nat) (hx : ev env x = some (.pointer (some ⟨b, off, none⟩))) [ut : Und P t (.array n e)] [s : Sz P e sz] (h1 : optN env xl 0 lo) (h2 : optN env xh n hi) (h3 : lo ≤ hi) (h4 : hi ≤ n) (h5 : lo < n) :
  Quiet P R env H (.slice t x xl xh none) ty (.slice (some ⟨b, off + lo * sz, none⟩) (hi - lo) (n - lo)) := fun a w d pos af g ha _ _ => by
 have b1 : ∀ {x : Operand} {k : IntKind} {y n : Nat} {code : BoundsCode}, ev env x = some (.int k n) → n ≤ y → (Instr.sliceBound (a.eval x) y code).run P w = .ok n w := fun hx hn => run_sliceBound (ha.eval hx) hn
 have hne : ¬ n = lo := by omega
 have key : (Instr.sliceAt t (.pointer (some ⟨b, off, none⟩)) (xl.map a.eval) (xh.map a.eval) none).run P w = .ok (.slice (some ⟨b, off + lo * sz, none⟩) (hi - lo) (n - lo)) w := by
  unfold Instr.sliceAt
  simp only [Sem.run_bind, run_underlying ut.h, Result.andThen_ok, Instr.sureAddr]
  unfold Instr.sliceBounds
  cases xl with
  | none =>
   simp only [optN] at h1
   subst h1
   cases xh with
   | none => simp only [optN] at h2; subst h2; simp [s.h, hne, add_mk]
   | some o => obtain ⟨k, hk⟩ := h2; simp [s.h, b1 hk h4, hne, add_mk]
  | some o =>
   obtain ⟨k, hk⟩ := h1
   cases xh with
   | none => simp only [optN] at h2; subst h2; simp [s.h, b1 hk h3, hne, add_mk]
   | some o' => obtain ⟨k', hk'⟩ := h2; simp [s.h, b1 hk h3, b1 hk' h4, hne, add_mk]
 simp only [execOp, ha.eval hx, Option.map_none]
 rw [Sem.run_bind, key]
 rfl
end
section
variable {P : Program} {N : Nat} {R : Rds} {ops : Array Oper} {l : List Oper} {env : Env} {H : Segs} {K : Env → Segs → Prop} {T : Seg} {upd : Seg → Segs} {ty : TypeId} {pos : String} {af : Array Edge} {α : Type}
theorem RS.blk {R : Rds} {b E lo n cap : Nat} {vs : List Value} {fr : Nat × Nat} (hb : R b (.cells vs.toArray E fr)) (ho : ∀ u ∈ vs, Go.Proofs.YtkagfkbkpiebjaaGreatDoor.oneCell u = true) (hl : lo + n ≤ vs.length) (hc : n ≤ cap) (hm : cap ≤ maxLen) : RS R 1 (fun v : Value => [v]) (.slice (some ⟨b, lo, none⟩) n cap) ((vs.drop lo).take n) := by
 have hn : ((vs.drop lo).take n).length = n := by rw [List.length_take, List.length_drop]; omega
 have hfm : ∀ l : List Value, l.flatMap (fun v => [v]) = l := fun l => by induction l with | nil => rfl | cons a l ih => simp [ih]
 refine ⟨fun _ _ => rfl, fun v hv u hu => ?_, _, cap, by rw [hn], by omega, hm, .inr ⟨b, lo, _, E, fr, rfl, hb, ?_⟩⟩
 ·simp only [List.mem_singleton] at hu
  subst hu
  exact ho _ (List.mem_of_mem_drop (List.mem_of_mem_take hv))
 ·rw [hfm]
  intro k hk
  rw [List.getElem?_take_of_lt (by omega), List.getElem?_drop, List.getElem?_toArray]
theorem TriOps.copyB {d : Nat} {x y : Operand} {ta tb e sl sc kc dl dc lo b E : Nat} {ps : Option Addr} {vs ys : List Value} (hu : RS (Rx R H) 1 (fun v : Value => [v]) (.slice ps ys.length kc) ys) [sa : SegAt H [(b, .cells vs.toArray E (0, 0))] upd] [ua : Und P ta (.slice e)] [s : Sz P e 1]
  (hx : ev env x = some (.slice (some ⟨b, lo, none⟩) dl dc)) (hy : ev env y = some (.slice ps sl sc)) (hk : Nat.min sl dl = ys.length) (hl : lo + ys.length ≤ vs.length)
  (hn : TriOps false P N R ops l ((d, .int .i64 (ys.length : Nat)) :: env) (upd [(b, .cells (setL vs lo ys).toArray E (0, 0))]) K) (hd : Nat.blt d N = true := by rfl) :
  TriOps false P N R ops (⟨some d, .call ⟨.builtin .copy, #[x, y], #[ta, tb]⟩, ty, pos, af, none⟩ :: l) env H K :=
 TriOps.eff hd fun a w ha sat ro => by
  obtain ⟨H1, H2, e1, e2⟩ := sa.h
  subst e1
  have hw : ∀ b' o, Rx R (H1 ++ [(b, .cells vs.toArray E (0, 0))] :: H2) b' o → w.heap[b']? = some o := fun b' o h => by
   rcases h with h | h
   ·exact (ro b' o h).1
   ·exact sat.2 _ h
  have hfm : ∀ l : List Value, l.flatMap (fun v => [v]) = l := fun l => by induction l with | nil => rfl | cons a l ih => simp [ih]
  have hfu := run_firstCells (P := P) hu hw
  rw [hfm] at hfu
  have hb : w.heap[b]? = some (.cells vs.toArray E (0, 0)) := sat.2 (b, _) (by simp)
  have hone' : ∀ c ∈ ys, Go.Proofs.YtkagfkbkpiebjaaGreatDoor.oneCell c = true := fun c hc => hu.one c hc c (by simp)
  have hst := run_storeCells (P := P) (b := b) (off := lo) (E := E) ys 0 vs w hb hone' (by omega)
  rw [Nat.add_zero] at hst
  refine ⟨.int .i64 (ys.length : Nat), setO w b (.cells (setL vs lo ys).toArray E (0, 0)), upd [(b, .cells (setL vs lo ys).toArray E (0, 0))], ?_, by rw [e2]; exact (setO_seg (o' := _) sat).1, by rw [e2]; exact (setO_seg (o' := _) sat).2, hn⟩
  have hfu2 : (Builtin.firstCells 1 ys.length (.slice ps sl sc)).run P w = .ok ys.toArray w := by
   cases ps with
   | none => exact hfu
   | some a => exact hfu
  simp [execOp, resolve, ha.eval hx, ha.eval hy, invoke, builtin, Builtin.copy_, run_underlying ua.h, s.h, Builtin.lenOf, hk, hfu2, hst, goInt]
theorem TriOps.makeSlice {d : Nat} {t e : TypeId} {x y : Operand} {k bytes : Nat} {zv : Value} {enc : α → List Value} (n : Nat) (z : α) [ut : Und P t (.slice e)] [s : Sz P e k] [by_ : By P e bytes] [zr : Zr P e zv] (hz : zv.cells = (enc z).toArray) (hlz : (enc z).length = k) (hk : 0 < k) (ho : ∀ u ∈ enc z, Go.Proofs.YtkagfkbkpiebjaaGreatDoor.oneCell u = true)
  (hx : ev env x = some (.int .i64 (n : Nat))) (hy : ev env y = some (.int .i64 (n : Nat))) (hm : bytes * n ≤ 2 ^ 48) (hm2 : n ≤ 9223372036854775807)
  (hn : ∀ b T, OS e k enc (.slice (some ⟨b, 0, none⟩) n n) (List.replicate n z) T → TriOps false P N R ops l ((d, .slice (some ⟨b, 0, none⟩) n n) :: env) (T :: H) K) (hd : Nat.blt d N = true := by rfl) :
  TriOps false P N R ops (⟨some d, .makeSlice t x y, ty, pos, af, none⟩ :: l) env H K :=
 TriOps.eff hd fun a w ha sat ro => by
  obtain ⟨i, hi, hib⟩ := by_.h w
  have hw : IntKind.i64.wrap (n : Int) = n := IntWalk.i64_in _ (by omega)
  have har : ∀ m, (askRoom m).run P w = .ok () w := fun m => by unfold askRoom; split <;> rfl
  have hzc : (zv.cells).size = k := by rw [hz]; simpa using hlz
  have hb2 : ¬ ((i.bytes : Int) * (n : Int) > 2 ^ 48) := by
   rw [hib]
   have : ((bytes * n : Nat) : Int) ≤ ((2 ^ 48 : Nat) : Int) := Int.ofNat_le.2 hm
   rw [Int.natCast_mul] at this
   omega
  have hrow : ∃ c : Array Value, ((Array.range (n * k)).map (fun j => (if n * k = 0 then #[] else zv.cells)[j % (if n * k = 0 then #[] else zv.cells).size]!)) = c ∧ c.size = n * k ∧ Row c 0 ((List.replicate n z).flatMap enc) := by
   refine ⟨_, rfl, by simp, ?_⟩
   intro j hj
   have hfl : ∀ m : Nat, ((List.replicate m z).flatMap enc).length = m * k := fun m => by
    rw [flatMap_length (sz := k) (fun x hx => by rw [List.eq_of_mem_replicate hx]; exact hlz), List.length_replicate]
   rw [hfl] at hj
   have hne : ¬ n * k = 0 := by omega
   have hget : ∀ m j : Nat, j < m * k → ((List.replicate m z).flatMap enc)[j]? = (enc z)[j % k]? := by
    intro m
    induction m with
    | zero => intro j hj; omega
    | succ m ih =>
     intro j hj
     rw [List.replicate_succ, List.flatMap_cons]
     by_cases h : j < k
     ·rw [List.getElem?_append_left (by omega), Nat.mod_eq_of_lt h]
     ·rw [List.getElem?_append_right (by omega), hlz, ih (j - k) (by rw [Nat.add_mul, Nat.one_mul] at hj; omega), Nat.mod_eq_sub_mod (a := j) (b := k) (by omega)]
   rw [hget n j hj, Nat.zero_add]
   simp only [if_neg hne]
   have hjk : j % k < k := Nat.mod_lt _ hk
   rw [Array.getElem?_map, Array.getElem?_range, if_pos hj, Option.map_some, hzc]
   have h1 : zv.cells[j % k]! = (enc z)[j % k]'(by omega) := by
    rw [hz]
    simp [getElem!_pos, hlz, hjk]
   rw [h1, List.getElem?_eq_getElem (by omega)]
  obtain ⟨c, hc, hcs, hcr⟩ := hrow
  have hrun : (Instr.makeSlice t (.int .i64 (n : Nat)) (.int .i64 (n : Nat))).run P w = .ok (.slice (some ⟨w.heap.size, 0, none⟩) n n) (w.alloc (.cells c e)) := by
   simp only [Instr.makeSlice, Sem.run_bind, run_underlying ut.h, Result.andThen_ok, asInt, asIntOf, Sem.run_pure, hi, hw]
   have c1 : decide ((i.bytes : Int) * (n : Int) > 2 ^ 48) = false := decide_eq_false hb2
   have c2 : decide ((n : Int) > (n : Int)) = false := decide_eq_false (by omega)
   have c3 : decide ((n : Int) < 0) = false := decide_eq_false (by omega)
   simp only [c1, c2, c3, Bool.or_false, Bool.false_eq_true, if_false, Int.toNat_natCast]
   simp only [Sem.run_bind, har, s.h, Result.andThen_ok]
   by_cases h0 : n * k = 0
   ·simp only [if_pos h0] at hc ⊢
    simp only [Sem.run_bind, Sem.run_pure, Result.andThen_ok, hc, newRow_run]
   ·simp only [if_neg h0] at hc ⊢
    simp only [Sem.run_bind, Sem.run_pure, Result.andThen_ok, zr.h, hc, newRow_run]
  refine ⟨.slice (some ⟨w.heap.size, 0, none⟩) n n, w.alloc (.cells c e), [(w.heap.size, .cells c e (0, 0))] :: H, ?_, Frame.alloc w H _, Sat.alloc sat _, hn _ _ ?_⟩
  ·simp [execOp, ha.eval hx, ha.eval hy, hrun]
  ·refine ⟨fun x hx => by rw [List.eq_of_mem_replicate hx]; exact hlz, fun x hx => by rw [List.eq_of_mem_replicate hx]; exact ho, .inr ⟨w.heap.size, 0, c, n, by rw [List.length_replicate], rfl, by rw [List.length_replicate]; exact Nat.le_refl _, by unfold maxLen; omega, by rw [hcs]; omega, hcr⟩⟩
end
end Go.Proofs.YtkagfkbkpiebjaaGreatDoor
