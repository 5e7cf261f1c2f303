/- Expiry's tree: entries in a heap, each of which knows its place; the methods that the heap calls. No condition. -/
import Derived.Test.YtkepgbimlolemaaBase
import Derived.Test.YtkepgbimlolemaaHeap
import Derived.Test.YtkepgbimlolemaaMot3
set_option linter.unusedVariables false
namespace Go.Proofs.Ytkepgbimlolemaa

structure XE where
  b : Nat
  key : ByteArray
  at_ : Int
def XE.cells (e : XE) (i : Nat) : List Value := [.string e.key, .int .i64 e.at_, .int .i64 i]
def XE.obj (e : XE) (i : Nat) : Obj := .cells (e.cells i).toArray 156 (0, 0)
abbrev XE.ptr (e : XE) : Value := .pointer (some ⟨e.b, 0, none⟩)
def encP (e : XE) : List Value := [e.ptr]
def entSeg (L : List XE) : Seg := L.zipIdx.map fun p => (p.1.b, p.1.obj p.2)
def ecmp (e f : XE) : Int := orI [icmp e.at_ f.at_, scmp e.key f.key]
def elt (e f : XE) : Bool := decide (ecmp e f < 0)

theorem entSeg_get (L : List XE) (j : Nat) : (entSeg L)[j]? = L[j]?.map fun e => (e.b, e.obj j) := by
  simp [entSeg, List.getElem?_zipIdx]
  cases L[j]? <;> rfl
theorem entSeg_length (L : List XE) : (entSeg L).length = L.length := by simp [entSeg]
theorem entSeg_mem {L : List XE} {i : Nat} {e : XE} (h : L[i]? = some e) : (e.b, e.obj i) ∈ entSeg L := by
  refine List.mem_of_getElem? (i := i) ?_
  rw [entSeg_get, h]; rfl
theorem entSeg_ids (L : List XE) : (entSeg L).map (·.1) = L.map (·.b) := by
  apply List.ext_getElem?
  intro j
  rw [List.getElem?_map, entSeg_get, List.getElem?_map]
  cases L[j]? <;> rfl
/-- The tree's memory: its field, its places, its entries. -/
def TI (q : Nat) (vm : Value) (L : List XE) (T : Seg) : Prop := ∃ vt Tt Te, T = (q, .cells [vt, vm].toArray 148 (0, 0)) :: (Tt ++ Te) ∧ OS 157 1 encP vt L Tt ∧ Te.Perm (entSeg L) ∧ L.length ≤ 1000000000

theorem ecmp_spec (e f : XE) (i k : Nat) (R : Rds) (he : R e.b (e.obj i)) (hf : R f.b (f.obj k)) : Spec Try.prog 197 [e.ptr, f.ptr] R [] fun v H' => v = .int .i64 (ecmp e f) ∧ H' = [] := by
  have p1 : PC R (.pointer (some ⟨e.b, 0, none⟩)) (e.cells i) := PC.of he
  have p2 : PC R (.pointer (some ⟨f.b, 0, none⟩)) (f.cells k) := PC.of hf
  refine Spec.body Try.func197 rfl Try.results197 Try.ntmps197 rfl ?_
  refine .seq ?_
  refine .region ?_
  refine TriOps.q .assign ?_
  refine .nil ?_
  refine seqQ_n ?_
  refine .seq ?_
  refine .region_all [] mixed ?_
  refine RA.takeO 0 rfl .move (by kernel_rfl) ?_
  refine RA.takeO 1 rfl (.nilCheck rfl) (by kernel_rfl) ?_
  refine RA.takeO 2 rfl (.fieldAddr rfl) (by kernel_rfl) ?_
  refine RA.takeO 3 rfl (.load1 rfl) (by kernel_rfl) ?_
  refine RA.takeO 4 rfl .move (by kernel_rfl) ?_
  refine RA.takeO 5 rfl (.nilCheck rfl) (by kernel_rfl) ?_
  refine RA.takeO 6 rfl (.fieldAddr rfl) (by kernel_rfl) ?_
  refine RA.takeO 7 rfl (.load1 rfl) (by kernel_rfl) ?_
  refine RA.takeO 9 rfl .move (by kernel_rfl) ?_
  refine RA.takeO 10 rfl (.nilCheck rfl) (by kernel_rfl) ?_
  refine RA.takeO 11 rfl (.fieldAddr rfl) (by kernel_rfl) ?_
  refine RA.takeO 12 rfl (.load1 rfl) (by kernel_rfl) ?_
  refine RA.takeO 13 rfl .move (by kernel_rfl) ?_
  refine RA.takeO 14 rfl (.nilCheck rfl) (by kernel_rfl) ?_
  refine RA.takeO 15 rfl (.fieldAddr rfl) (by kernel_rfl) ?_
  refine RA.takeO 16 rfl (.load1 rfl) (by kernel_rfl) ?_
  refine RA.step 8 rfl (by kernel_rfl) rfl ?_
  refine TriOps.callR (compare64_spec e.at_ f.at_ _) (fun v hv => ?_)
  subst hv
  refine .nil (Next.sub ?_)
  refine RA.step 17 rfl (by kernel_rfl) rfl ?_
  refine TriOps.callR (compare_spec e.key f.key _) (fun v hv => ?_)
  subst hv
  refine .nil (Next.sub ?_)
  refine RA.step 18 rfl (by kernel_rfl) rfl ?_
  refine TriOps.buildSliceN1 [_, _] (fun b23 => ?_)
  refine .nil (Next.sub ?_)
  refine RA.step 19 rfl (by kernel_rfl) rfl ?_
  refine TriOps.callR (or_spec _ [icmp e.at_ f.at_, scmp e.key f.key] _ (RS.lits rfl (by simp [encI]) (by simp [encI, oneCell]))) (fun v hv => ?_)
  subst hv
  refine .nil (Next.sub ?_)
  refine RA.takeO 20 rfl .assign (by kernel_rfl) ?_
  refine RA.nil (by kernel_rfl) ?_
  refine seqQ_n ?_
  refine .ret (retQ_r _ (.one (.tmp rfl)) (.none _) ?_)
  exact ⟨rfl, rfl⟩
theorem tlen_spec (vt : Value) (L : List XE) (R : Rds) (h : RS R 1 encP vt L) : Spec Try.prog 194 [vt] R [] fun v H' => v = .int .i64 L.length ∧ H' = [] := by
  refine Spec.body Try.func194 rfl Try.results194 Try.ntmps194 rfl ?_
  refine .seq ?_
  refine .region ?_
  refine TriOps.q .assign ?_
  refine .nil ?_
  refine seqQ_n ?_
  refine .seq ?_
  refine .region ?_
  refine TriOps.q .move ?_
  refine TriOps.q (.lenR h) ?_
  refine TriOps.q .assign ?_
  refine .nil ?_
  refine seqQ_n ?_
  refine .ret (retQ_r _ (.one (.tmp rfl)) (.none _) ?_)
  exact ⟨rfl, rfl⟩
theorem tless_spec (vt : Value) (L : List XE) (R : Rds) (h : RS R 1 encP vt L) (i k : Nat) (e f : XE) (he : L[i]? = some e) (hf : L[k]? = some f) (hr1 : R e.b (e.obj i)) (hr2 : R f.b (f.obj k)) :
    Spec Try.prog 195 [vt, .int .i64 i, .int .i64 k] R [] fun v H' => v = .bool (elt e f) ∧ H' = [] := by
  refine Spec.body Try.func195 rfl Try.results195 Try.ntmps195 rfl ?_
  refine .seq ?_
  refine .region ?_
  refine TriOps.q .assign ?_
  refine .nil ?_
  refine seqQ_n ?_
  refine .seq ?_
  refine .region_tail 8 mixed (by kernel_rfl) ?_
  conv => arg 6; dsimp only [List.take]
  refine TriOps.q .move ?_
  refine TriOps.q .move ?_
  refine TriOps.indexR i h he (fun p1 => ?_)
  refine TriOps.q (.load1 rfl) ?_
  refine TriOps.q .move ?_
  refine TriOps.q .move ?_
  refine TriOps.indexR k h hf (fun p2 => ?_)
  refine TriOps.q (.load1 rfl) ?_
  refine .nil ?_
  refine TriOps.callR (ecmp_spec e f i k _ (.inl hr1) (.inl hr2)) (fun v hv => ?_)
  subst hv
  refine TriOps.q .lss ?_
  refine TriOps.q .assign ?_
  refine .nil ?_
  refine seqQ_n ?_
  refine .ret (retQ_r _ (.one (.tmp rfl)) (.none _) ?_)
  exact ⟨rfl, rfl⟩
theorem ent_inj {L : List XE} (hn : (L.map (·.b)).Nodup) {i k : Nat} {x y : XE} (hx : L[i]? = some x) (hy : L[k]? = some y) (he : x.b = y.b) : i = k := by
  obtain ⟨hi, rfl⟩ := List.getElem?_eq_some_iff.1 hx
  obtain ⟨hk, rfl⟩ := List.getElem?_eq_some_iff.1 hy
  exact (List.getElem_inj (xs := L.map fun e : XE => e.b) (i := i) (j := k) (h₀ := by simpa using hi) (h₁ := by simpa using hk) hn).1 (by simpa using he)
theorem ent_swap {L : List XE} {Te : Seg} (hE : Te.Perm (entSeg L)) (hn : (L.map (·.b)).Nodup) {i k : Nat} {x y : XE} (hx : L[i]? = some x) (hy : L[k]? = some y) :
    (upB (upB Te y.b (y.obj i)) x.b (x.obj k)).Perm (entSeg (swp L i k)) := by
  have hi := (List.getElem?_eq_some_iff.1 hx).1
  have hk := (List.getElem?_eq_some_iff.1 hy).1
  refine (upB_perm (upB_perm hE)).trans ?_
  have hx2 : (swp L i k)[k]? = some x := by rw [swp_get hi hk, if_pos rfl, hx]
  have hy2 : (swp L i k)[i]? = some y := by
    rw [swp_get hi hk]
    split
    · rename_i e; subst e; rw [hx] at hy; cases hy; exact hx
    · rw [if_pos rfl, hy]
  have key : upB (upB (entSeg L) y.b (y.obj i)) x.b (x.obj k) = swp (entSeg (swp L i k)) i k := by
    apply List.ext_getElem?
    intro j
    rw [upB_get, upB_get, entSeg_get, swp_get (by rw [entSeg_length, swp_length]; exact hi) (by rw [entSeg_length, swp_length]; exact hk)]
    simp only [entSeg_get]
    by_cases h1 : j = k
    · subst h1
      rw [if_pos rfl, hy2, hy]
      simp only [Option.map_some, if_true, Option.some.injEq]
      split
      · rename_i e
        have := ent_inj hn hy hx e
        subst this
        rw [hx] at hy; cases hy; rfl
      · rfl
    · rw [if_neg h1]
      by_cases h2 : j = i
      · subst h2
        rw [if_pos rfl, hx2, hx]
        have : x.b ≠ y.b := fun e => h1 (ent_inj hn hx hy e)
        simp [this]
      · rw [if_neg h2, swp_get hi hk, if_neg h1, if_neg h2]
        cases he : L[j]? with
        | none => rfl
        | some e =>
          have e1 : e.b ≠ y.b := fun h => h1 (ent_inj hn he hy h)
          have e2 : e.b ≠ x.b := fun h => h2 (ent_inj hn he hx h)
          simp [e1, e2]
  rw [key]
  exact swp_perm
theorem tswap_spec (vt : Value) (L : List XE) (Tt Te : Seg) (R : Rds) (h : OS 157 1 encP vt L Tt) (hE : Te.Perm (entSeg L)) (i k : Nat) (hi : i < L.length) (hk : k < L.length) :
    Spec Try.prog 196 [vt, .int .i64 i, .int .i64 k] R [Tt, Te] fun v H' => ∃ Tt' Te', H' = [Tt', Te'] ∧ OS 157 1 encP vt (swp L i k) Tt' ∧ Te'.Perm (entSeg (swp L i k)) := by
  refine Spec.nodup fun hnd => ?_
  have hn : (L.map (·.b)).Nodup := by
    rw [← entSeg_ids, ← (hE.map (·.1)).nodup_iff]
    simp only [List.flatten_cons, List.flatten_nil, List.append_nil, List.map_append, List.nodup_append] at hnd
    exact hnd.2.1
  obtain ⟨x, hx⟩ : ∃ x, L[i]? = some x := ⟨_, List.getElem?_eq_getElem hi⟩
  obtain ⟨y, hy⟩ : ∃ y, L[k]? = some y := ⟨_, List.getElem?_eq_getElem hk⟩
  obtain ⟨_, hx'⟩ : ∃ u, (L.set k x)[i]? = some u := ⟨_, List.getElem?_eq_getElem (by simpa using hi)⟩
  obtain ⟨_, hy'⟩ : ∃ u, (L.set i y)[k]? = some u := ⟨_, List.getElem?_eq_getElem (by simpa using hk)⟩
  have i1 := h.oneCell
  refine Spec.body Try.func196 rfl Try.results196 Try.ntmps196 rfl ?_
  refine .seq ?_
  refine .region_all [13, 15] mixed ?_
  refine RA.takeO 0 rfl .move (by kernel_rfl) ?_
  refine RA.takeO 1 rfl .move (by kernel_rfl) ?_
  refine RA.take 2 rfl .move (by kernel_rfl) ?_
  refine RA.take 3 rfl .move (by kernel_rfl) ?_
  refine RA.takeO 4 rfl .move (by kernel_rfl) ?_
  refine RA.takeO 5 rfl .move (by kernel_rfl) ?_
  refine RA.indexO 6 rfl k h hy rfl rfl rfl (by kernel_rfl) (fun p1 => ?_)
  refine RA.takeO 7 rfl (.load1 rfl) (by kernel_rfl) ?_
  refine RA.takeO 8 rfl .move (by kernel_rfl) ?_
  refine RA.takeO 9 rfl .move (by kernel_rfl) ?_
  refine RA.indexO 10 rfl i h hx rfl rfl rfl (by kernel_rfl) (fun p2 => ?_)
  refine RA.takeO 11 rfl (.load1 rfl) (by kernel_rfl) ?_
  refine RA.indexO 12 rfl i h hx rfl rfl rfl (by kernel_rfl) (fun p3 => ?_)
  refine RA.step 13 rfl (by kernel_rfl) rfl ?_
  first
    | refine TriOps.storeO1 i h15 hx' y (fun Tt2 h13 => ?_)
    | refine TriOps.storeO1 i h hx y (fun Tt1 h13 => ?_)
  refine .nil (Next.mod rfl ?_)
  refine RA.indexO 14 rfl k h hy rfl rfl rfl (by kernel_rfl) (fun p4 => ?_)
  refine RA.step 15 rfl (by kernel_rfl) rfl ?_
  first
    | refine TriOps.storeO1 k h13 hy' x (fun Tt2 h15 => ?_)
    | refine TriOps.storeO1 k h hy x (fun Tt1 h15 => ?_)
  refine .nil (Next.mod rfl ?_)
  refine RA.nil (by kernel_rfl) ?_
  have hx2 : (swp L i k)[k]? = some x := by rw [swp_get hi hk, if_pos rfl, hx]
  have hy2 : (swp L i k)[i]? = some y := by
    rw [swp_get hi hk]
    split
    · rename_i e; subst e; rw [hx] at hy; cases hy; exact hx
    · rw [if_pos rfl, hy]
  rw [← swp_eq hx hy] at h15
  have mx := hE.mem_iff.2 (entSeg_mem hx)
  have my := hE.mem_iff.2 (entSeg_mem hy)
  have px : PS Te (.pointer (some ⟨x.b, 0, none⟩)) (x.cells i) := PS.of mx
  have py : PS Te (.pointer (some ⟨y.b, 0, none⟩)) (y.cells k) := PS.of my
  refine seqQ_n ?_
  refine .region_all [12, 15] mixed ?_
  refine RA.takeO 0 rfl .move (by kernel_rfl) ?_
  refine RA.takeO 1 rfl .move (by kernel_rfl) ?_
  refine RA.indexO 2 rfl i h15 hy2 rfl rfl rfl (by kernel_rfl) (fun p5 => ?_)
  refine RA.takeO 3 rfl (.load1 rfl) (by kernel_rfl) ?_
  refine RA.takeO 4 rfl .move (by kernel_rfl) ?_
  refine RA.takeO 5 rfl .move (by kernel_rfl) ?_
  refine RA.indexO 6 rfl k h15 hx2 rfl rfl rfl (by kernel_rfl) (fun p6 => ?_)
  refine RA.takeO 7 rfl (.load1 rfl) (by kernel_rfl) ?_
  refine RA.takeO 8 rfl .move (by kernel_rfl) ?_
  refine RA.take 9 rfl .move (by kernel_rfl) ?_
  refine RA.takeO 10 rfl (.nilCheck rfl) (by kernel_rfl) ?_
  refine RA.takeO 11 rfl (.fieldAddr rfl) (by kernel_rfl) ?_
  refine RA.step 12 rfl (by kernel_rfl) rfl ?_
  refine TriOps.storeB (vs := y.cells k) (off := 2) my ?_
  rw [show Obj.cells (setL (y.cells k) 2 [.int .i64 (i : Nat)]).toArray 156 (0, 0) = y.obj i from rfl]
  refine .nil (Next.mod rfl ?_)
  refine RA.take 13 rfl (.nilCheckA rfl) (by kernel_rfl) ?_
  refine RA.take 14 rfl (.fieldAddrA rfl) (by kernel_rfl) ?_
  refine RA.step 15 rfl (by kernel_rfl) rfl ?_
  have mx2 : (x.b, x.obj i) ∈ upB Te y.b (y.obj i) := by
    by_cases e : x.b = y.b
    · have hik := ent_inj hn hx hy e
      subst hik
      rw [hx] at hy; cases hy
      exact upB_self mx
    · exact upB_mem mx e
  refine TriOps.storeB (vs := x.cells i) (off := 2) mx2 ?_
  rw [show Obj.cells (setL (x.cells i) 2 [.int .i64 (k : Nat)]).toArray 156 (0, 0) = x.obj k from rfl]
  refine .nil (Next.mod rfl ?_)
  refine RA.nil (by kernel_rfl) ?_
  refine retQ_n _ .none (HLe.refl _) ?_
  exact ⟨Tt2, _, rfl, h15, ent_swap hE hn hx hy⟩
end Go.Proofs.Ytkepgbimlolemaa
