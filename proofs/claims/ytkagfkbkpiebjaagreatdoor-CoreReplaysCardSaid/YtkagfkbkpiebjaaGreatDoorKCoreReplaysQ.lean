/- What the law 'CoreReplays' uses of this prover's engine, facts and walks. No condition. -/
import Derived.LoopIn
import Derived.LoopNIn
import Derived.OwnWalkIn
import Derived.RangeFuncBox
import Derived.RangeFuncLeaves
import Derived.Shelf.Abstract
import Derived.Shelf.SlIter.Collect
import Derived.TacticsInMore
import Derived.WalkKit
import Derived.Test.YtkagfkbkpiebjaaGreatDoorKCoreReplaysL
import Derived.Test.YtkagfkbkpiebjaaGreatDoorKCoreReplaysN
set_option linter.unusedVariables false
set_option maxRecDepth 4000
namespace Go.Proofs.YtkagfkbkpiebjaaGreatDoor
open Go.RowKit Go.Shelf
attribute [local go_sem] Oper.semAt_some
def seqRen : Ren where
 f := fun n => if n = 11 then 273 else n
 t := fun n => if n = 0 then 0 else if n = 24 then 28 else if n = 26 then 9 else if n = 28 then 205 else if n = 33 then 148 else n
 g := fun n => n
theorem seqLays : SlLaysZ.n11 Tryz.prog seqRen where
 mixed := mixed
 f11 := ⟨"slices.AppendSeq[[]string,string]", by decide, by kernel_rfl⟩
 t0 := Tryz.underlying0
 a0 := Tryz.isAgg0
 z0 := Tryz.sizeOf0
 v0 := Tryz.zeroValue0
 t24 := Tryz.underlying28
 a24 := Tryz.isAgg28
 z24 := Tryz.sizeOf28
 v24 := Tryz.zeroValue28
 t26 := Tryz.underlying9
 a26 := Tryz.isAgg9
 z26 := Tryz.sizeOf9
 v26 := Tryz.zeroValue9
 t28 := Tryz.underlying205
 a28 := Tryz.isAgg205
 z28 := Tryz.sizeOf205
 v28 := Tryz.zeroValue205
 i26 := by kernel_rfl
def SeqB (P : Program) (F : Fence) (n : Nat) (g : Nat) (lb : Array Value) (xs : List (List UInt8)) (N : Nat) (w : World) : Prop :=
 ∀ (l : Nat) (J : List (List UInt8) → World → Prop) (W : World), Below w.heap.size w W → AbidesFrom W.heap.size J → (∀ ss W1, J ss W1 → Below w.heap.size w W1) →
  (∀ pre x W1, J pre W1 → pre.length < N → YieldAt F (n - 1) P l #[encStr x] W1 fun e W' => e = .returned (.bool true) ∧ J (pre ++ [x]) W' ∧ KeepsWalks W1 W') →
  J [] W →
  CallsIn F n P g (#[.func (.yield l) #[] #[]] ++ lb) W fun e W' => (∃ v, e = .returned v) ∧ J xs W'
set_option maxRecDepth 100000 in
set_option maxHeartbeats 2000000 in
theorem seqAppend {P : Program} {ρ : Ren} (L : SlLaysZ.n11 P ρ) (F : Fence) (n : Nat) (h11 : F.fn (ρ.f 11)) (hro : F.round = none) (hn : 2 ≤ n) (g : Nat) (lb : Array Value) (hFg : F.fn g) (eg : ∀ args w, (callFunc g args).run P w = .ok (.enter g args) w)
  (xs : List (List UInt8)) (N : Nat) (hN : N ≤ maxLen) (hNb : N * 16 ≤ 140737488355328) (w : World) (hseq : SeqB P F (n - 1) g lb xs N w) :
  CallsIn F n P (ρ.f 11) #[.slice none 0 0, .func (.func g) #[] lb] w fun e w' => ∃ v : Value, e = .returned v ∧ w'.ownsRow w.heap.size (ρ.t 26) 1 v xs.length (xs.map encStr) ∧ Below w.heap.size w w' := by
 have h1 : 1 ≤ n := by omega
 have mixed := L.mixed; have t0 := L.t0; have a0 := L.a0; have z0 := L.z0; have v0 := L.v0; have t24 := L.t24; have a24 := L.a24; have z24 := L.z24; have v24 := L.v24; have t26 := L.t26; have a26 := L.a26; have z26 := L.z26; have v26 := L.v26; have t28 := L.t28; have a28 := L.a28; have z28 := L.z28; have v28 := L.v28
 have hne : ρ.t 24 ≠ ρ.t 26 := fun e => by have h := L.t24; rw [e, L.t26] at h; cases h
 have u0 := run_underlying L.t0; have u24 := run_underlying L.t24; have u26 := run_underlying L.t26; have u28 := run_underlying L.t28
 obtain ⟨_, _, FG⟩ := L.f11
 refine callsIn_of_wp_marks FG rfl h11 ?_ hro
 simp only [SlBodyZ.n11_ntmps ρ, List.size_toArray, List.length_cons, List.length_nil, Nat.reduceAdd, Nat.reduceSub, Array.replicate_succ, Array.replicate_zero, List.push_toArray, List.append_toArray, List.nil_append, List.cons_append]
 gi_wp2
 refine wpIn_rangeFunc ?_
 intro fn hfn
 rw [hro]
 obtain ⟨W0, hW0⟩ : ∃ W0, w.alloc (.cells #[.slice none 0 0] (ρ.t 24)) = W0 := ⟨_, rfl⟩
 have hs0 : W0.heap.size = w.heap.size + 1 := by rw [← hW0]; simp
 have hv0 : W0.heap[w.heap.size]? = some (.cells #[.slice none 0 0] (ρ.t 24) (0, 0)) := by rw [← hW0]; exact World.alloc_heap_new w _
 have hb0 : Below w.heap.size w W0 := by rw [← hW0]; exact (Below.refl _ w).alloc (Nat.le_refl _) _
 rw [hW0]
 obtain ⟨W1, hW1⟩ : ∃ W1, (W0.alloc (.deferred (some []))).alloc (.loop (AnyZ.apRec ρ fn (.func (.func g) #[] lb) w.heap.size W0.heap.size .ready none)) = W1 := ⟨_, rfl⟩
 have hold : ∀ k, k < W0.heap.size → W1.heap[k]? = W0.heap[k]? := fun k hk => by
  rw [← hW1]; exact (Below.heap_alloc _ _ k (by simp; omega)).trans (Below.heap_alloc _ _ k hk)
 have hb1 : Below w.heap.size w W1 := by rw [← hW1]; exact (hb0.alloc hb0.size _).alloc (by have := hb0.size; simp; omega) _
 have hs1 : W1.heap.size = W0.heap.size + 2 := by rw [← hW1]; simp
 have hM : AnyZ.ApAt ρ w fn (.func (.func g) #[] lb) w.heap.size (W0.heap.size + 1) W0.heap.size [] W1 :=
  ⟨⟨_, (hold w.heap.size (by omega)).trans hv0, ⟨rfl, .inl ⟨rfl, rfl⟩⟩, by simp⟩,
   by rw [← hW1]; have := World.alloc_heap_new (W0.alloc (.deferred (some []))) (.loop (AnyZ.apRec ρ fn (.func (.func g) #[] lb) w.heap.size W0.heap.size .ready none)); rwa [World.size_alloc] at this,
   by rw [← hW1]; exact (Below.heap_alloc _ _ _ (by simp)).trans (World.alloc_heap_new W0 _), hb1⟩
 refine ⟨W0.heap.size + 1, [{ target := .collected W0.heap.size, args := #[] }], W1, { target := .fn (.func g) lb, args := #[.func (.yield (W0.heap.size + 1)) #[] #[]] }, W1, g,
  #[.func (.yield (W0.heap.size + 1)) #[] #[]] ++ lb, W1, ?_, ?_, ?_, ?_, fun _ => h1, ?_⟩
 ·rw [← hW1]; exact run_enterLoop_outer _ _ _ _ _
 ·simp [resolve, go_sem]
 ·intro f' hf'; simp [Target.leads] at hf'; subst hf'; exact hFg
 ·simp [invoke, go_sem, eg]
 ·refine (hseq (W0.heap.size + 1) (AnyZ.ApAt ρ w fn (.func (.func g) #[] lb) w.heap.size (W0.heap.size + 1) W0.heap.size) W1 hb1 (AnyZ.ap_abides ρ _ _ _ _ _ _ _ hb1.size) (fun ss W1 h => h.below)
   (fun pre x W hJ hl => AnyZ.apYield { L with } F (n - 1 - 1) w fn hfn _ w.heap.size (W0.heap.size + 1) W0.heap.size (by omega) (by omega) (by omega) (Nat.le_refl _) (by omega) N hN hNb pre x W hJ hl) hM).mono ?_
  rintro e W2 ⟨⟨v0, rfl⟩, h2⟩
  obtain ⟨v, hv, hrow, hnil⟩ := h2.box
  have hend := run_endLoop (P := P) h2.L (by simp [AnyZ.apRec])
  obtain ⟨W3, hW3⟩ : ∃ W3, W2.putObj (W0.heap.size + 1) (.loop { AnyZ.apRec ρ fn (.func (.func g) #[] lb) w.heap.size W0.heap.size .ready none with state := .exhausted }) = W3 := ⟨_, rfl⟩
  rw [hW3] at hend
  have hg3 : W2.grownBy W3 (some (W0.heap.size + 1)) := by rw [← hW3]; exact grownBy_putObj_a _ _ _
  have hv3 : W3.heap[w.heap.size]? = some (.cells #[v] (ρ.t 24) (0, 0)) := by rw [← hW3]; exact (World.putObj_heap_other (by omega)).trans hv
  have hK3 : W3.heap[W0.heap.size]? = some (.deferred (some [])) := by rw [← hW3]; exact (World.putObj_heap_other (by omega)).trans h2.K
  have hrow3 := hrow.kept hg3 (ownsRow_ne_a hrow h2.L (fun cur e => by first | cases e | exact hne (Obj.cells.inj e).2.1))
  have hb3 : Below w.heap.size w W3 := h2.below.grown hg3 h2.below.size (fun k e => by cases e; omega)
  obtain ⟨hc3, hf3⟩ := cell_of_box_a hv3
  clear hW3
  refine ⟨none, W3, hend, ?_⟩
  gi_wp2
  rw [← hs0]
  refine ⟨by simp, .inl ⟨_, _, rfl, run_takeDeferred hK3, ?_⟩⟩
  exact ⟨_, results_tmp rfl _ _ _, v, rfl, hrow3.kept (grownBy_putObj_a _ _ _) (ownsRow_ne_a hrow3 hK3 (fun cur e => by first | cases e | exact hne (Obj.cells.inj e).2.1)), hb3.grown (grownBy_putObj_a _ _ _) hb3.size (fun k e => by cases e; omega)⟩
def upto {α : Type} (f : Nat → α) (k : Nat) : List α := (List.range k).map f
theorem upto_succ {α : Type} (f : Nat → α) (k : Nat) : upto f (k + 1) = upto f k ++ [f k] := by simp [upto, List.range_succ]
theorem upto_length {α : Type} (f : Nat → α) (k : Nat) : (upto f k).length = k := by simp [upto]
theorem upto_all (zs : List (List UInt8)) : upto (fun j => zs[j]?.getD []) zs.length = zs := by
 apply List.ext_getElem
 ·simp [upto]
 ·intro i h1 h2
  simp [upto, h2]
set_option maxRecDepth 100000 in
set_option maxHeartbeats 2000000 in
theorem seqValsL (F : Fence) (n : Nat) (hF : F.fn 225) (hro : F.round = none) (hn : 1 ≤ n) (Bs b off len cap : Nat) (zs : List (List UInt8)) (hreach : len * 16 ≤ 140737488351232) (w : World) (hb : b < w.heap.size) (hB : Bs < w.heap.size)
  (hBs : w.cell? ⟨Bs, 0, none⟩ = some (.slice (some ⟨b, off, none⟩) len cap)) (hc : ∀ j, j < len → w.cell? ⟨b, off + j, none⟩ = some (encStr (zs[j]?.getD []))) :
  SeqB Tryz.prog F n 225 #[.pointer (some ⟨Bs, 0, none⟩)] (upto (fun j => zs[j]?.getD []) len) len w := fun l J W hW hJ hJB hY h0 => by
 have hBs' := (hW.cell (p := ⟨Bs, 0, none⟩) hB).trans hBs
 refine callsIn_of_wp Tryz.func225 rfl hF ?_ hro
 simp only [Tryz.ntmps225, List.size_toArray, List.length_cons, List.length_nil, Nat.reduceAdd, Nat.reduceSub, Array.replicate_succ, Array.replicate_zero, List.push_toArray, List.append_toArray, List.nil_append, List.cons_append]
 gi_wp2
 gi_loopw [7] (fun i wr => ∃ k : Nat, k ≤ len ∧ i = .int .i64 k ∧ J (upto (fun j => zs[j]?.getD []) k) wr)
  (fun i _ => len - (intOf i).toNat)
 case atStart => exact ⟨0, Nat.zero_le _, rfl, h0⟩
 case round =>
  obtain ⟨k, hk, rfl, hJs⟩ := hrel
  have hcx : k < len → wr.cell? ⟨b, off + k, none⟩ = some (encStr (zs[k]?.getD [])) := fun h => ((hJB _ _ hJs).cell (p := ⟨b, off + k, none⟩) hb).trans (hc k (by omega))
  by_cases hlt : k < len
  ·obtain ⟨fn, tmps, assign, body, hy, hR⟩ := hY _ (zs[k]?.getD []) wr hJs (by rw [upto_length]; exact hlt)
   have hcx' := hcx hlt
   gi_wp2
   refine hR.mono ?_
   rintro e W3 ⟨rfl, hJ3, hk3⟩
   gi_wp2
   go_roundw
   case rel => exact ⟨k + 1, by omega, by simp, by rw [upto_succ]; exact hJ3⟩
   case measure => simp [intOf]; omega
  ·obtain rfl : k = len := by omega
   gi_wp2
   go_end0
   exact ⟨⟨_, rfl⟩, hJs⟩
theorem seqVals (F : Fence) (n : Nat) (hF : F.fn 225) (hro : F.round = none) (hn : 1 ≤ n) (Bs b off cap : Nat) (zs : List (List UInt8)) (hreach : zs.length * 16 ≤ 140737488351232) (w : World) (hb : b < w.heap.size) (hB : Bs < w.heap.size)
  (hBs : w.cell? ⟨Bs, 0, none⟩ = some (.slice (some ⟨b, off, none⟩) zs.length cap)) (hc : ∀ j, j < zs.length → w.cell? ⟨b, off + j, none⟩ = some (encStr (zs[j]?.getD []))) :
  SeqB Tryz.prog F n 225 #[.pointer (some ⟨Bs, 0, none⟩)] zs zs.length w := by
 have h := seqValsL F n hF hro hn Bs b off zs.length cap zs hreach w hb hB hBs hc
 rwa [upto_all] at h
set_option maxRecDepth 100000 in
set_option maxHeartbeats 2000000 in
theorem seqVals0 (F : Fence) (n : Nat) (hF : F.fn 225) (hro : F.round = none) (Bs cap : Nat) (p : Option Addr) (w : World) (hB : Bs < w.heap.size) (hBs : w.cell? ⟨Bs, 0, none⟩ = some (.slice p 0 cap)) :
  SeqB Tryz.prog F n 225 #[.pointer (some ⟨Bs, 0, none⟩)] [] 0 w := fun l J W hW hJ hJB hY h0 => by
 have hBs' := (hW.cell (p := ⟨Bs, 0, none⟩) hB).trans hBs
 refine callsIn_of_wp Tryz.func225 rfl hF ?_ hro
 simp only [Tryz.ntmps225, List.size_toArray, List.length_cons, List.length_nil, Nat.reduceAdd, Nat.reduceSub, Array.replicate_succ, Array.replicate_zero, List.push_toArray, List.append_toArray, List.nil_append, List.cons_append]
 gi_wp2
 gi_loopw [7] (fun i wr => i = .int .i64 0 ∧ J [] wr) (fun _ _ => 0)
 case atStart => exact ⟨rfl, h0⟩
 case round =>
  obtain ⟨rfl, hJs⟩ := hrel
  gi_wp2
  go_end0
  exact ⟨⟨_, rfl⟩, hJs⟩
theorem encStr_bytes (s : ByteArray) : encStr s.data.toList = .string s := by
 unfold encStr
 rw [Array.toArray_toList]
theorem flat_encBytes : ∀ l : List ByteArray, l.flatMap encS = (l.map fun s : ByteArray => s.data.toList).map encStr
 | [] => rfl
 | x :: l => by
  rw [List.flatMap_cons, flat_encBytes l, List.map_cons, List.map_cons, encStr_bytes]
  rfl
theorem seqApp_spec (sv : Value) (l : List ByteArray) (hl : l.length ≤ 1000000) (b : Nat) (R : Rds) (h : RS R 1 encS sv l) [pc : PC R (.pointer (some ⟨b, 0, none⟩)) [sv]] :
  Spec Tryz.prog 273 [.slice none 0 0, .func (.func 225) #[] #[.pointer (some ⟨b, 0, none⟩)]] R [] fun u H' => ∃ T, H' = [T] ∧ OS 9 1 encS u l T := by
 intro w hsat hro
 have hwr : ∀ b o, R b o → w.heap[b]? = some o := fun b o hb => (hro b o hb).1
 obtain ⟨b1, off1, c1, E1, fr1, hp1, hR1, hc1⟩ := pc.h
 simp only [Value.pointer.injEq, Option.some.injEq, Addr.mk.injEq, and_true] at hp1
 obtain ⟨rfl, rfl⟩ := hp1
 have hh1 := hwr _ _ hR1
 have hBs : w.cell? ⟨b, 0, none⟩ = some sv := by
  have := hc1 0 (by simp)
  simp only [Nat.add_zero, List.getElem_cons_zero] at this
  simp [World.cell?, hh1, this]
 have hBlt := lt_of_some hh1
 obtain ⟨p, cap, rfl, hcap, hmax, hrow⟩ := h.h
 have hseq : SeqB Tryz.prog Fence.wide 3 225 #[.pointer (some ⟨b, 0, none⟩)] (l.map fun s => s.data.toList) (l.map fun s : ByteArray => s.data.toList).length w := by
  rcases hrow with rfl | ⟨b2, off2, c2, E2, fr2, rfl, hR2, hrw⟩
  ·exact seqVals0 Fence.wide 3 trivial rfl b cap p w hBlt hBs
  ·have hh2 := hwr _ _ hR2
   refine seqVals Fence.wide 3 trivial rfl (by omega) b b2 off2 cap _ (by simp; omega) w (lt_of_some hh2) hBlt (by simpa using hBs) fun j hj => ?_
   simp only [List.length_map] at hj
   have h3 := hrw j (by rw [flatMap_length (sz := 1) h.len]; omega)
   have h4 := flatMap_get (enc := encS) (sz := 1) (xs := l) (i := j) h.len (List.getElem?_eq_getElem hj) 0 (by omega)
   simp only [Nat.mul_one, Nat.add_zero] at h4
   rw [h4] at h3
   simp only [World.cell?, hh2, List.getElem?_map, List.getElem?_eq_getElem hj, Option.map_some, Option.getD_some, encStr_bytes]
   simpa [encS] using h3
 have hcall := callsIn_wide.1 (seqAppend seqLays Fence.wide 4 trivial rfl (by omega) 225 #[.pointer (some ⟨b, 0, none⟩)] trivial (fun args w => (inferInstance : Ent Tryz.prog 225).h args w) _ _ (by simp; unfold maxLen; omega) (by simp; omega) w hseq)
 refine hcall.mono ?_
 rintro e w' ⟨v, rfl, ⟨_, hown⟩, hbl⟩
 rcases hown with ⟨rfl, h0⟩ | ⟨g, cp, cur, rfl, hg, hgb, h1, h2, h3, h4⟩
 ·obtain rfl : l = [] := by simpa using h0
  exact ⟨_, [[]], rfl, ⟨[], rfl, OS.nil⟩, ⟨by simp, by simp⟩, ⟨hbl.size, fun b hb _ => hbl.block b hb, by simp, hbl.os, hbl.output, hbl.tape⟩⟩
 ·refine ⟨_, [[(g, .cells cur 9 (0, 0))]], rfl, ⟨_, rfl, fun x _ => rfl, fun x _ u hu => ?_, .inr ⟨g, 0, cur, cp, by simp, rfl, by simpa using h1, h2, by omega, ?_⟩⟩, ⟨by simp, fun p hp => by
   simp only [List.flatten_cons, List.flatten_nil, List.append_nil, List.mem_singleton] at hp
   subst hp
   exact hgb⟩, ⟨hbl.size, fun b hb _ => hbl.block b hb, ?_, hbl.os, hbl.output, hbl.tape⟩⟩
  ·simp only [encS, List.mem_singleton] at hu
   subst hu
   rfl
  ·intro k hk
   have e := flat_encBytes l
   rw [e, ← h4, Nat.zero_add]
   rw [e, ← h4] at hk
   rw [List.getElem?_take_of_lt (by rw [List.length_take] at hk; omega), Array.getElem?_toList]
  ·intro p hp
   simp only [List.flatten_cons, List.flatten_nil, List.append_nil, List.mem_singleton] at hp
   subst hp
   exact .inr hg
theorem scollect_spec (sv : Value) (l : List ByteArray) (hl : l.length ≤ 1000000) (b : Nat) (R : Rds) (h : RS R 1 encS sv l) [pc : PC R (.pointer (some ⟨b, 0, none⟩)) [sv]] :
  Spec Tryz.prog 224 [.func (.func 225) #[] #[.pointer (some ⟨b, 0, none⟩)]] R [] fun u H' => ∃ T, H' = [T] ∧ OS 9 1 encS u l T := by
 refine Spec.body Tryz.func224 rfl Tryz.results224 Tryz.ntmps224 rfl ?_
 refine .sr<|.ag rfl<|.z<|.mo rfl ?_
 refine .callN (seqApp_spec sv l hl b _ h.rx) (fun u T hO => ?_)
 have io := hO.oneCell
 refine .ag rfl<|.zn ?_
 refine .ret (retQ_r _ (.one (.tmp rfl)) (.one [0] _) ?_)
 ·exact ⟨_, rfl, by simpa [take] using hO⟩
end Go.Proofs.YtkagfkbkpiebjaaGreatDoor
