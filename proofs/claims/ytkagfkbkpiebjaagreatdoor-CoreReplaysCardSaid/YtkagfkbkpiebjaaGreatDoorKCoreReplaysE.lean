/- What the law 'CoreReplays' uses of this prover's engine, facts and walks. No condition. -/
import Derived.Laws.AppendOwn
import Derived.Lib.Builder
import Derived.Lib.ConvBytes
import Derived.Lib.UnsafeStr
import Derived.Test.YtkagfkbkpiebjaaGreatDoorKCoreReplaysD
set_option linter.unusedVariables false
namespace Go.Proofs.YtkagfkbkpiebjaaGreatDoor
def encU (c : UInt8) : List Value := [.int .u8 (c.toNat : Int)]
theorem flat_encU (l : List UInt8) : l.flatMap encU = l.map fun b => Value.int .u8 (b.toNat : Int) := by
 induction l with
 | nil => rfl
 | cons x l ih => rw [List.flatMap_cons, ih]; rfl
section
variable {P : Program} {N : Nat} {R : Rds} {ops : Array Oper} {env : Env} {H : Segs} {K : Env → Segs → Prop} {l : List Oper} {m : Bool} {ty : TypeId} {pos : String} {af : Array Edge} {T : Seg} {upd : Seg → Segs}
theorem Quiet.toUnsafe {src dst t : TypeId} {x : Operand} {b off E : Nat} {c : Array Value} {fr : Nat × Nat} (hb : (b, Obj.cells c E fr) ∈ H.flatten) (ho : off < c.size) [us : Und P src (.pointer t)] [ud : Und P dst .unsafePointer] (hi : (P.info? t).map (fun j => decide (j.size ≠ 0)) = some true)
  (hx : ev env x = some (.pointer (some ⟨b, off, none⟩))) : Quiet P R env H (.convert src dst x) ty (.pointer (some ⟨b, off, none⟩)) := fun a w d pos af g ha sat _ => by
 obtain ⟨j, hj, hz⟩ := Option.map_eq_some_iff.1 hi
 have h3 := sat.2 _ hb
 have h4 := Lib.run_to_unsafe (P := P) w (src := src) (dst := dst) (e := E) (cells := c.size) ⟨b, off, none⟩ us.h ud.h hj (by simpa using hz) (by simp [World.shape?, h3]) ho
 simp [execOp, ha.eval hx, h4]
theorem Quiet.fromUnsafe {src dst t : TypeId} {x : Operand} {b off E n : Nat} {c : Array Value} {fr : Nat × Nat} (hb : (b, Obj.cells c E fr) ∈ H.flatten) (hn : c.size = n) [us : Und P src .unsafePointer] [ud : Und P dst (.pointer t)] (hi : (P.info? t).isSome = true) (hlies : liesAt P P.depth E (n / P.cellsOf E) off t 1 = true)
  (hx : ev env x = some (.pointer (some ⟨b, off, none⟩))) : Quiet P R env H (.convert src dst x) ty (.pointer (some ⟨b, off, none⟩)) := fun a w d pos af g ha sat _ => by
 obtain ⟨j, hj⟩ := Option.isSome_iff_exists.1 hi
 have h3 := sat.2 _ hb
 have h4 := Lib.run_from_unsafe (P := P) w (src := src) (dst := dst) (e := E) (cells := n) ⟨b, off, none⟩ us.h ud.h hj (by simp [World.shape?, h3, hn]) hlies
 simp [execOp, ha.eval hx, h4]
theorem Quiet.noEscape {F : FuncId} {fn : Func} {ta : TypeId} {x : Operand} {v : Value} (hf : P.funcs[F]? = some fn) (hname : (fn.name == "runtime.NumGoroutine") = false) (hbd : fn.body.isNone = true) (hnx : Extern.findNext fn = none) (he : Extern.find fn = some Extern.AbiNoEscape.same)
  (hx : ev env x = some v) : Quiet P R env H (.call ⟨.value (.func F), #[x], #[ta]⟩) ty v := fun a w d pos af g ha sat ro => by
 have hr := run_callFunc_extern hf hname hbd hnx he #[v] w
 rw [Lib.run_noEscape] at hr
 have h4 := ha.evalsA (xs := [x]) (vs := [v]) (by simp [evs, hx])
 simp only [execOp, resolve, h4, Act.eval, Deferred.ofValue]
 simp [invoke, hr]
theorem Quiet.nePtr {t te u : TypeId} {x y : Operand} {p : Addr} (hx : ev env x = some (.pointer (some p))) (hy : ev env y = some (.pointer (some p))) [ut : Und P t (.pointer te)] (hi : (P.info? te).isSome = true) : Quiet P R env H (.binOp .neq t x y u) ty (.bool false) := fun a w d pos af g ha _ _ => by
 obtain ⟨j, hj⟩ := Option.isSome_iff_exists.1 hi
 refine run_neqOp (op := .move x) (ha.eval hx) (ha.eval hy) (eqGuard_other rfl) rfl (r := true) ?_
 have h : ∀ d : Nat, (Op.equalIn (d + 1) t (.pointer (some p)) (.pointer (some p))).run P w = .ok true w := fun d => by
  simp [Op.equalIn, run_underlying ut.h, sizeOf, typeInfo, hj, run_sameAddr_same]
 exact h 9999
theorem Quiet.sliceData {x : Operand} {t : TypeId} {p : Addr} {n c : Nat} (hc : c ≠ 0) (hx : ev env x = some (.slice (some p) n c)) : Quiet P R env H (.call ⟨.builtin .unsafeSliceData, #[x], #[t]⟩) ty (.pointer (some p)) := fun a w d pos af g ha _ _ => by
 simp [execOp, resolve, ha.eval hx, invoke, builtin, Lib.run_unsafeSliceData_row w _ _ p n c hc]
theorem Quiet.sliceDataN {x : Operand} {t : TypeId} {n c : Nat} (hx : ev env x = some (.slice none n c)) : Quiet P R env H (.call ⟨.builtin .unsafeSliceData, #[x], #[t]⟩) ty (.pointer none) := fun a w d pos af g ha _ _ => by
 simp [execOp, resolve, ha.eval hx, invoke, builtin, Lib.run_unsafeSliceData_nil w]
theorem Quiet.unsafeStrN {x y : Operand} {t u : TypeId} {p : Option Addr} (hx : ev env x = some (.pointer p)) (hy : ev env y = some (.int .i64 0)) : Quiet P R env H (.call ⟨.builtin .unsafeString, #[x, y], #[t, u]⟩) ty (.string ⟨#[]⟩) := fun a w d pos af g ha _ _ => by
 have h := Lib.run_unsafeString_none (P := P) w t u ty p
 simp [execOp, resolve, ha.eval hx, ha.eval hy, invoke, builtin, h]
 rfl
theorem TriOps.strBytes {d : Nat} {src dst e : TypeId} {x : Operand} {s : ByteArray} {us : TypeDesc} [u1 : Und P src us] [u2 : Und P dst (.slice e)] [u3 : Und P e (.int .u8)] (hs : s.size ≤ maxLen)
  (hn : ∀ v T', RS (sg T') 1 encU v s.data.toList → TriOps false P N R ops l ((d, v) :: env) (T' :: H) K) (hx : ev env x = some (.string s) := by rfl) (hd : Nat.blt d N = true := by rfl) :
  TriOps false P N R ops (⟨some d, .convert src dst x, ty, pos, af, none⟩ :: l) env H K :=
 TriOps.eff hd fun a w ha sat ro => by
  have h1 := Lib.run_convert_string_bytes (P := P) w src dst e s u1.h u2.h u3.h
  have hnew := Lib.bytesWorld_at_new w e s
  have hfr : Frame w H (Lib.bytesWorld w e s) ([(w.heap.size, .cells (Lib.bytesCells w e s) e ((Lib.bytesCells w e s).size, (Lib.bytesCells w e s).size + 1))] :: H) :=
   ⟨by rw [Lib.bytesWorld_size]; omega, fun b hb _ => Lib.bytesWorld_at_old w e s b hb, fun p hp => by
    rw [List.flatten_cons, List.mem_append] at hp
    rcases hp with hp | hp
    ·rw [List.mem_singleton] at hp; subst hp; exact .inr (Nat.le_refl _)
    ·exact .inl ⟨p, hp, rfl⟩, by simp [Lib.bytesWorld, World.freeze, World.alloc, World.drew, -World.alloc_eq, -World.drew_eq], by simp [Lib.bytesWorld, World.freeze, World.alloc, World.drew, -World.alloc_eq, -World.drew_eq], by simp [Lib.bytesWorld, World.freeze, World.alloc, World.drew, -World.alloc_eq, -World.drew_eq]⟩
  have hsat : Sat (Lib.bytesWorld w e s) ([(w.heap.size, .cells (Lib.bytesCells w e s) e ((Lib.bytesCells w e s).size, (Lib.bytesCells w e s).size + 1))] :: H) := by
   refine ⟨?_, fun p hp => ?_⟩
   ·rw [List.flatten_cons, List.map_append, List.nodup_append]
    refine ⟨by simp, sat.1, fun x hx y hy => ?_⟩
    simp only [List.map_cons, List.map_nil, List.mem_singleton] at hx
    obtain ⟨q, hq, rfl⟩ := List.mem_map.1 hy
    have := lt_of_some (sat.2 q hq)
    omega
   ·rw [List.flatten_cons, List.mem_append] at hp
    rcases hp with hp | hp
    ·rw [List.mem_singleton] at hp; subst hp; exact hnew
    ·rw [Lib.bytesWorld_at_old w e s _ (lt_of_some (sat.2 p hp))]; exact sat.2 p hp
  refine ⟨.slice (some ⟨w.heap.size, 0, none⟩) s.size (grownCap w s.size 0 e), Lib.bytesWorld w e s, _, ?_, hfr, hsat, hn _ _ ?_⟩
  ·simp [execOp, ha.eval hx, h1]
  ·have hlen : s.data.toList.length = s.size := by simp
   refine ⟨fun _ _ => rfl, fun c _ u hu => by simp only [encU, List.mem_singleton] at hu; subst hu; rfl, some ⟨w.heap.size, 0, none⟩, grownCap w s.size 0 e, by rw [hlen], by rw [hlen]; exact grownCap_ge w _ _ _, grownCap_le_maxLen w _ _ _ hs, .inr ⟨w.heap.size, 0, _, _, _, rfl, List.mem_singleton.2 rfl, ?_⟩⟩
   intro k hk
   rw [flat_encU] at hk ⊢
   rw [List.length_map] at hk
   unfold Lib.bytesCells
   rw [Nat.zero_add, Array.getElem?_append_left (by simpa using hk)]
   simp
theorem liesAt_row {e : TypeId} (hc : P.cellsOf e = 1) {count off n : Nat} (hn : off + n ≤ count) : liesAt P P.depth e count off e n = true := by
 have hd : P.depth = (2 * (P.types.size + Made.depth) + 1) + 1 := rfl
 rw [hd]
 simp only [liesAt, Bool.or_eq_true]
 left
 rw [hd]
 simp [rowAt, hc, hn, sameLayout, Nat.mod_one]
theorem TriOps.unsafeStr {d : Nat} {x y : Operand} {ta tb E b off : Nat} {c : Array Value} {xs : List UInt8} [sa : SegAt H [(b, .cells c E (0, 0))] upd] (h0 : xs ≠ []) (hr : Row c off (xs.flatMap encU)) (hl : off + xs.length ≤ c.size) (hc : P.cellsOf E = 1) (hm : xs.length ≤ 9223372036854775807) [ut : Und P ta (.pointer E)]
  (hx : ev env x = some (.pointer (some ⟨b, off, none⟩))) (hy : ev env y = some (.int .i64 (xs.length : Nat))) (hn : ∀ fr, TriOps false P N R ops l ((d, .string ⟨xs.toArray⟩) :: env) (upd [(b, .cells c E fr)]) K) (hd : Nat.blt d N = true := by rfl) :
  TriOps false P N R ops (⟨some d, .call ⟨.builtin .unsafeString, #[x, y], #[ta, tb]⟩, ty, pos, af, none⟩ :: l) env H K :=
 TriOps.eff hd fun a w ha sat ro => by
  obtain ⟨H1, H2, e1, e2⟩ := sa.h
  subst e1
  have hb : w.heap[b]? = some (.cells c E (0, 0)) := sat.2 (b, _) (by simp)
  have hl0 : xs.length ≠ 0 := by simpa using h0
  have hcell : ∀ j x, xs[j]? = some x → w.cell? ((⟨b, off, none⟩ : Addr).add j) = some (.int .u8 x.toNat) := fun j x hj => by
   have hjl := (List.getElem?_eq_some_iff.1 hj).1
   have := hr j (by rw [flat_encU, List.length_map]; exact hjl)
   rw [flat_encU, List.getElem?_map, hj] at this
   rw [add_mk]
   simpa [World.cell?, hb] using this
  have hlb := Lib.run_loadBytes (P := P) w xs ⟨b, off, none⟩ .empty hcell
  have hlies := liesAt_row (P := P) hc (count := c.size / P.cellsOf E) (off := off) (n := xs.length) (by rw [hc, Nat.div_one]; exact hl)
  have h63' : ¬ (9223372036854775807 : Int) < (xs.length : Int) := by omega
  have hmax : IntKind.i64.max = 9223372036854775807 := rfl
  have hneg : ¬ (xs.length : Int) < 0 := by omega
  have hsh : w.shape? b = some (E, c.size) := by simp [World.shape?, hb]
  have hwf : w.freeze ⟨b, off, none⟩ xs.length = setO w b (.cells c E (off, off + xs.length)) := by
   unfold World.freeze setO
   rw [if_neg hl0]
   congr 1
   apply Array.ext_getElem?
   intro i
   obtain ⟨hlt, hbe⟩ := Array.getElem?_eq_some_iff.1 hb
   rw [Array.getElem?_modify, Array.getElem?_setIfInBounds]
   by_cases hi : b = i
   ·subst hi
    simp [hlt, hbe]
   ·simp [hi]
  have hrun : (Builtin.unsafeString_ #[ta, tb] ty #[.pointer (some ⟨b, off, none⟩), .int .i64 (xs.length : Nat)]).run P w = .ok (.string ⟨xs.toArray⟩) (w.freeze ⟨b, off, none⟩ xs.length) := by
   refine (show Sem.run P (asInt (.int .i64 (xs.length : Nat)) >>= _) w = _ from ?_)
   simp [asInt, asIntOf, hmax, h63', hneg, hl0, variablesAt, hsh, elemOf, run_underlying ut.h, hlies, hlb]
  refine ⟨_, setO w b (.cells c E (off, off + xs.length)), upd [(b, .cells c E (off, off + xs.length))], ?_, by rw [e2]; exact (setO_seg (o' := _) sat).1, by rw [e2]; exact (setO_seg (o' := _) sat).2, hn _⟩
  rw [← hwf]
  simp [execOp, resolve, ha.eval hx, ha.eval hy, invoke, builtin, hrun]
end
end Go.Proofs.YtkagfkbkpiebjaaGreatDoor
set_option linter.unusedVariables false
namespace Go.Proofs.YtkagfkbkpiebjaaGreatDoor
abbrev M64 : Nat := 18446744073709551616
theorem wrapU (n : Nat) : IntKind.u64.wrap (n : Int) = ((n % M64 : Nat) : Int) := by
 simp [IntKind.wrap, IntKind.bits, IntKind.signed]
theorem wrapU_in {n : Nat} (h : n < M64) : IntKind.u64.wrap (n : Int) = (n : Int) := by rw [wrapU, Nat.mod_eq_of_lt h]
theorem OS.lits {α : Type} {b n E sz : Nat} {cs : List Value} {enc : α → List Value} {xs : List α} (he : xs.flatMap enc = cs) (hl : ∀ x ∈ xs, (enc x).length = sz) (ho : ∀ x ∈ xs, ∀ u ∈ enc x, Go.Proofs.YtkagfkbkpiebjaaGreatDoor.oneCell u = true) (hn : xs.length = n := by rfl) (hm : Nat.ble n 9223372036854775807 = true := by rfl) : OS E sz enc (.slice (some ⟨b, 0, none⟩) n n) xs [(b, .cells cs.toArray E (0, 0))] :=
 ⟨hl, ho, .inr ⟨b, 0, _, n, by rw [hn], rfl, by omega, by have := Nat.le_of_ble_eq_true hm; unfold maxLen; omega, by subst he; rw [List.size_toArray, flatMap_length hl, hn]; omega, fun k hk => by subst he; simp⟩⟩
section
variable {P : Program} {R : Rds} {env : Env} {H : Segs} {x y : Operand} {t u ty : TypeId} {a b n : Nat} {k2 : IntKind}
theorem Quiet.shlU (hx : ev env x = some (.int .u64 (a : Nat))) (hy : ev env y = some (.int k2 (n : Nat))) (hn : n ≤ 64) : Quiet P R env H (.binOp .shl t x y u) ty (.int .u64 ((a * 2 ^ n % M64 : Nat))) := by
 have h := Quiet.shlI (P := P) (R := R) (H := H) (t := t) (u := u) (ty := ty) hx hy (by omega)
 rw [show min ((n : Int)).toNat IntKind.u64.bits = n by simp only [IntKind.bits]; omega, show ((a : Int) * 2 ^ n) = ((a * 2 ^ n : Nat) : Int) by simp, wrapU] at h
 exact h
theorem Quiet.shrU (hx : ev env x = some (.int .u64 (a : Nat))) (hy : ev env y = some (.int k2 (n : Nat))) (hn : n ≤ 64) : Quiet P R env H (.binOp .shr t x y u) ty (.int .u64 ((a / 2 ^ n : Nat))) := by
 have h := Quiet.shrI (P := P) (R := R) (H := H) (t := t) (u := u) (ty := ty) hx hy (by omega)
 have hd : (a : Int).fdiv (2 ^ n) = ((a / 2 ^ n : Nat) : Int) := by
  rw [Int.fdiv_eq_ediv_of_nonneg _ (Int.le_of_lt (Int.pow_pos (by decide)))]
  simp
 rw [show min ((n : Int)).toNat IntKind.u64.bits = n by simp only [IntKind.bits]; omega, hd] at h
 exact h
theorem Quiet.orU (hx : ev env x = some (.int .u64 (a : Nat))) (hy : ev env y = some (.int .u64 (b : Nat))) (ha : a < M64) (hb : b < M64) : Quiet P R env H (.binOp .or t x y u) ty (.int .u64 ((a ||| b : Nat))) := by
 have h := Quiet.orI (P := P) (R := R) (H := H) (t := t) (u := u) (ty := ty) hx hy
 have hlt : a ||| b < 2 ^ 64 := Nat.or_lt_two_pow (by unfold M64 at ha; omega) (by unfold M64 at hb; omega)
 rw [show (BitVec.ofInt IntKind.u64.bits (a : Int) ||| BitVec.ofInt IntKind.u64.bits (b : Int)).toNat = a ||| b by
  rw [BitVec.ofInt_natCast, BitVec.ofInt_natCast, BitVec.toNat_or, BitVec.toNat_ofNat, BitVec.toNat_ofNat, Nat.mod_eq_of_lt (by simpa [IntKind.bits] using ha), Nat.mod_eq_of_lt (by simpa [IntKind.bits] using hb)], wrapU_in (by unfold M64; omega)] at h
 exact h
theorem Quiet.andU (hx : ev env x = some (.int .u64 (a : Nat))) (hy : ev env y = some (.int .u64 (b : Nat))) (ha : a < M64) (hb : b < M64) : Quiet P R env H (.binOp .and t x y u) ty (.int .u64 ((a &&& b : Nat))) := by
 have h := Quiet.andI (P := P) (R := R) (H := H) (t := t) (u := u) (ty := ty) hx hy
 have hlt : a &&& b ≤ a := Nat.and_le_left
 rw [show (BitVec.ofInt IntKind.u64.bits (a : Int) &&& BitVec.ofInt IntKind.u64.bits (b : Int)).toNat = a &&& b by
  rw [BitVec.ofInt_natCast, BitVec.ofInt_natCast, BitVec.toNat_and, BitVec.toNat_ofNat, BitVec.toNat_ofNat, Nat.mod_eq_of_lt (by simpa [IntKind.bits] using ha), Nat.mod_eq_of_lt (by simpa [IntKind.bits] using hb)], wrapU_in (by omega)] at h
 exact h
theorem Quiet.toU {k : IntKind} {ds : TypeDesc} {dst : TypeId} (hx : ev env x = some (.int k (a : Nat))) (ha : a < M64) [us : Und P t ds] [ud : Und P dst (.int .u64)] : Quiet P R env H (.convert t dst x) ty (.int .u64 (a : Nat)) := by
 have h := Quiet.convI (P := P) (R := R) (H := H) (ty := ty) (t := t) (dst := dst) (k' := .u64) hx
 rw [wrapU_in ha] at h
 exact h
theorem Quiet.to8 {k : IntKind} {ds : TypeDesc} {dst : TypeId} (hx : ev env x = some (.int k (a : Nat))) [us : Und P t ds] [ud : Und P dst (.int .u8)] : Quiet P R env H (.convert t dst x) ty (.int .u8 ((UInt8.ofNat a).toNat : Int)) := by
 have h := Quiet.convI (P := P) (R := R) (H := H) (ty := ty) (t := t) (dst := dst) (k' := .u8) hx
 rw [wrap8, BitVec.ofInt_natCast] at h
 simpa using h
theorem Quiet.addS {p q : ByteArray} (h : p.size + q.size ≤ 9223372036854775807) (hx : ev env x = some (.string p)) (hy : ev env y = some (.string q)) : Quiet P R env H (.binOp .add t x y u) ty (.string (p ++ q)) := fun a w d pos af g ha _ _ => by
 have hmax : IntKind.i64.max = 9223372036854775807 := rfl
 have h' : ¬ (9223372036854775807 : Int) < ((p.size : Int) + (q.size : Int)) := by omega
 simp [execOp, ha.eval hx, ha.eval hy, eqGuard, binOp, Op.stringOp, hmax, h']
end
theorem bs_app (a b : List UInt8) : (⟨a.toArray⟩ : ByteArray) ++ ⟨b.toArray⟩ = ⟨(a ++ b).toArray⟩ := by
 apply ByteArray.ext
 simp
theorem or_low {a b k : Nat} (h : b < 2 ^ k) : a * 2 ^ k ||| b = a * 2 ^ k + b := by
 rw [Nat.mul_comm, Nat.two_pow_add_eq_or_of_lt h]
end Go.Proofs.YtkagfkbkpiebjaaGreatDoor
set_option linter.unusedVariables false
set_option linter.unusedSimpArgs false
set_option maxRecDepth 4000
namespace Go.Proofs.YtkagfkbkpiebjaaGreatDoor
abbrev W32 := BitVec 32
def rotr (x : W32) (n : Nat) : W32 := x <<< (32 - n) ||| x >>> n
def wv (l : List W32) : List Value := l.map fun x => Value.int .u32 (x.toNat : Int)
theorem wv_len {l : List W32} : (wv l).length = l.length := List.length_map ..
theorem wv_one {l : List W32} : ∀ u ∈ wv l, oneCell u = true := fun u hu => by
 obtain ⟨x, _, rfl⟩ := List.mem_map.1 hu
 rfl
instance wv_ones {l : List W32} : Ones (wv l) := ⟨wv_one⟩
theorem wv_get {l : List W32} {i : Nat} {x : W32} (h : l[i]? = some x) : (wv l)[i]? = some (.int .u32 (x.toNat : Int)) := by
 unfold wv
 rw [List.getElem?_map, h]; rfl
theorem wv_put {l : List W32} {i k : Nat} {x : W32} (hk : k = i) (h : i < l.length) : setL (wv l) k [.int .u32 (x.toNat : Int)] = wv (l.set i x) := by
 subst hk
 rw [setL_set (by rw [wv_len]; exact h)]
 unfold wv
 rw [List.map_set]
structure Hst where
 a : W32
 b : W32
 c : W32
 d : W32
 e : W32
 f : W32
 g : W32
 h : W32
def Hst.toL (s : Hst) : List W32 := [s.a, s.b, s.c, s.d, s.e, s.f, s.g, s.h]
def ks : List W32 := [0x428a2f98, 0x71374491, 0xb5c0fbcf, 0xe9b5dba5, 0x3956c25b, 0x59f111f1, 0x923f82a4, 0xab1c5ed5, 0xd807aa98, 0x12835b01, 0x243185be, 0x550c7dc3, 0x72be5d74, 0x80deb1fe, 0x9bdc06a7, 0xc19bf174, 0xe49b69c1, 0xefbe4786, 0x0fc19dc6, 0x240ca1cc, 0x2de92c6f, 0x4a7484aa, 0x5cb0a9dc, 0x76f988da, 0x983e5152, 0xa831c66d, 0xb00327c8, 0xbf597fc7, 0xc6e00bf3, 0xd5a79147, 0x06ca6351, 0x14292967, 0x27b70a85, 0x2e1b2138, 0x4d2c6dfc, 0x53380d13, 0x650a7354, 0x766a0abb, 0x81c2c92e, 0x92722c85, 0xa2bfe8a1, 0xa81a664b, 0xc24b8b70, 0xc76c51a3, 0xd192e819, 0xd6990624, 0xf40e3585, 0x106aa070, 0x19a4c116, 0x1e376c08, 0x2748774c, 0x34b0bcb5, 0x391c0cb3, 0x4ed8aa4a, 0x5b9cca4f, 0x682e6ff3, 0x748f82ee, 0x78a5636f, 0x84c87814, 0x8cc70208, 0x90befffa, 0xa4506ceb, 0xbef9a3f7, 0xc67178f2]
def H0 : Hst := ⟨0x6a09e667, 0xbb67ae85, 0x3c6ef372, 0xa54ff53a, 0x510e527f, 0x9b05688c, 0x1f83d9ab, 0x5be0cd19⟩
def smA (v : W32) : W32 := (rotr v 7 ^^^ rotr v 18) ^^^ v >>> 3
def smB (x : W32) : W32 := (rotr x 17 ^^^ rotr x 19) ^^^ x >>> 10
def tt (s : Hst) (k w : W32) : W32 := ((s.h + ((rotr s.e 6 ^^^ rotr s.e 11) ^^^ rotr s.e 25)) + ((s.e &&& s.f) ^^^ (~~~s.e &&& s.g))) + k + w
def uu (s : Hst) : W32 := ((rotr s.a 2 ^^^ rotr s.a 13) ^^^ rotr s.a 22) + (((s.a &&& s.b) ^^^ (s.a &&& s.c)) ^^^ (s.b &&& s.c))
def rnd (s : Hst) (k w : W32) : Hst := ⟨tt s k w + uu s, s.a, s.b, s.c, s.d + tt s k w, s.e, s.f, s.g⟩
def wide (c : UInt8) : W32 := c.toBitVec.setWidth 32
def word4 (b0 b1 b2 b3 : UInt8) : W32 := ((wide b0 <<< 24 ||| wide b1 <<< 16) ||| wide b2 <<< 8) ||| wide b3
def wnext (b : List UInt8) (l : List W32) : W32 :=
 if l.length < 16 then word4 (b.getD (4 * l.length) 0) (b.getD (4 * l.length + 1) 0) (b.getD (4 * l.length + 2) 0) (b.getD (4 * l.length + 3) 0)
 else ((l.getD (l.length - 16) 0 + smA (l.getD (l.length - 15) 0)) + l.getD (l.length - 7) 0) + smB (l.getD (l.length - 2) 0)
def sched (b : List UInt8) : Nat → List W32
 | 0 => []
 | i + 1 => sched b i ++ [wnext b (sched b i)]
theorem sched_len {b : List UInt8} : ∀ i, (sched b i).length = i
 | 0 => rfl
 | i + 1 => by simp [sched, sched_len i]
def arr (b : List UInt8) (i : Nat) : List W32 := sched b i ++ List.replicate (64 - i) 0#32
theorem arr_len {b : List UInt8} {i : Nat} (h : i ≤ 64) : (arr b i).length = 64 := by simp [arr, sched_len]; omega
theorem arr_put {b : List UInt8} {i : Nat} (h : i < 64) : (arr b i).set i (wnext b (sched b i)) = arr b (i + 1) := by
 unfold arr
 rw [List.set_append_right _ _ (by rw [sched_len]; exact Nat.le_refl _), sched_len, Nat.sub_self, show 64 - i = (64 - (i + 1)) + 1 by omega, List.replicate_succ, List.set_cons_zero]
 simp [sched]
theorem arr_get {b : List UInt8} {i j : Nat} (h : j < i) : (arr b i)[j]? = some ((sched b i).getD j 0) := by
 unfold arr
 rw [List.getElem?_append_left (by rw [sched_len]; exact h), List.getD_eq_getElem?_getD, List.getElem?_eq_getElem (by rw [sched_len]; exact h)]
 rfl
theorem arr_full {b : List UInt8} : arr b 64 = sched b 64 := by simp [arr]
theorem sched_get {b : List UInt8} {i j : Nat} (h : j < i) : (sched b i)[j]? = some ((sched b i).getD j 0) := by
 rw [List.getD_eq_getElem?_getD, List.getElem?_eq_getElem (by rw [sched_len]; exact h)]
 rfl
def rounds (w : List W32) (s : Hst) : Nat → Hst
 | 0 => s
 | i + 1 => rnd (rounds w s i) (ks.getD i 0) (w.getD i 0)
def stAdd (s x : Hst) : Hst := ⟨s.a + x.a, s.b + x.b, s.c + x.c, s.d + x.d, s.e + x.e, s.f + x.f, s.g + x.g, s.h + x.h⟩
def comp (s : Hst) (b : List UInt8) : Hst := stAdd s (rounds (sched b 64) s 64)
theorem wnext_take {b : List UInt8} {l : List W32} : wnext (b.take 64) l = wnext b l := by
 have hg : ∀ j, j < 64 → (b.take 64).getD j 0 = b.getD j 0 := fun j hj => by
  rw [List.getD_eq_getElem?_getD, List.getD_eq_getElem?_getD, List.getElem?_take_of_lt hj]
 unfold wnext
 by_cases h : l.length < 16
 ·rw [if_pos h, if_pos h, hg _ (by omega), hg _ (by omega), hg _ (by omega), hg _ (by omega)]
 ·rw [if_neg h, if_neg h]
theorem sched_succ {b : List UInt8} {i : Nat} : sched b (i + 1) = sched b i ++ [wnext b (sched b i)] := rfl
theorem sched_take {b : List UInt8} (i : Nat) : sched (b.take 64) i = sched b i := by
 induction i with
 | zero => rfl
 | succ i ih => rw [sched_succ, sched_succ, ih, wnext_take]
theorem comp_take {s : Hst} {b : List UInt8} : comp s (b.take 64) = comp s b := by unfold comp; rw [sched_take]
theorem comp_append {s : Hst} {b m : List UInt8} (h : 64 ≤ b.length) : comp s (b ++ m) = comp s b := by
 rw [← comp_take, List.take_append_of_le_length h, comp_take]
def blocks (s : Hst) (l : List UInt8) : Hst := if h : 64 ≤ l.length then blocks (comp s l) (l.drop 64) else s
termination_by l.length
decreasing_by rw [List.length_drop]; omega
def left64 (l : List UInt8) : List UInt8 := if h : 64 ≤ l.length then left64 (l.drop 64) else l
termination_by l.length
decreasing_by rw [List.length_drop]; omega
theorem blocks_big {s : Hst} {l : List UInt8} (h : 64 ≤ l.length) : blocks s l = blocks (comp s l) (l.drop 64) := by rw [blocks, dif_pos h]
theorem blocks_small {s : Hst} {l : List UInt8} (h : ¬ 64 ≤ l.length) : blocks s l = s := by rw [blocks, dif_neg h]
theorem left64_big {l : List UInt8} (h : 64 ≤ l.length) : left64 l = left64 (l.drop 64) := by rw [left64, dif_pos h]
theorem left64_small {l : List UInt8} (h : ¬ 64 ≤ l.length) : left64 l = l := by rw [left64, dif_neg h]
theorem blocks_app {m : List UInt8} : ∀ (n : Nat) (l : List UInt8) (s : Hst), l.length = n → blocks s (l ++ m) = blocks (blocks s l) (left64 l ++ m) := by
 intro n
 induction n using Nat.strongRecOn with
 | _ n ih =>
  intro l s hn
  by_cases h : 64 ≤ l.length
  ·rw [blocks_big (l := l ++ m) (by rw [List.length_append]; omega), comp_append h, List.drop_append_of_le_length h, ih _ (by rw [List.length_drop]; omega) (l.drop 64) _ rfl, blocks_big (l := l) h, left64_big h]
  ·rw [blocks_small (l := l) h, left64_small h]
theorem left64_len : ∀ (n : Nat) (l : List UInt8), l.length = n → (left64 l).length < 64 := by
 intro n
 induction n using Nat.strongRecOn with
 | _ n ih =>
  intro l hn
  by_cases h : 64 ≤ l.length
  ·rw [left64_big h]; exact ih _ (by rw [List.length_drop]; omega) (l.drop 64) rfl
  ·rw [left64_small h]; omega
def lenB (n k : Nat) : UInt8 := UInt8.ofNat (n * 8 / 2 ^ (56 - 8 * k))
def padL (n : Nat) : List UInt8 := 128 :: List.replicate ((119 - n % 64) % 64) 0 ++ [lenB n 0, lenB n 1, lenB n 2, lenB n 3, lenB n 4, lenB n 5, lenB n 6, lenB n 7]
def byteOf (x : W32) (k : Nat) : UInt8 := UInt8.ofBitVec ((x >>> k).setWidth 8)
def bytes4 (x : W32) : List UInt8 := [byteOf x 24, byteOf x 16, byteOf x 8, byteOf x 0]
def stBytes (s : Hst) : List UInt8 := s.toL.flatMap bytes4
def shaOf (l : List UInt8) : List UInt8 := stBytes (blocks H0 (l ++ padL l.length))
end Go.Proofs.YtkagfkbkpiebjaaGreatDoor
