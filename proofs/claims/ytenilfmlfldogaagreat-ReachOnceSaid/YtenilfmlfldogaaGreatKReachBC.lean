/- What the law 'ReachB' uses. No condition. -/
import Derived.ChangeArms
import Derived.Deep.Slices
import Derived.ReadAgain
import Derived.Test.YtenilfmlfldogaaGreatKReachBB
set_option linter.unusedVariables false
namespace Go.Proofs.YtenilfmlfldogaaGreat
section
open Go.ChangeShapes Go.WideShapes Go.Deep
def Rw (W : World) : Rds := λ b o => W.heap[b]? = some o
section
variable {H : Type} {enc : TypeId × Value -> H} {P : Program} {W W' : World}
class ShT (P : Program) (t : TypeId) (ks : outParam (List CK)) : Prop where
 n : P.cellsOf t = ks.length
 h : ∀ {H : Type} (enc : TypeId × Value -> H) (w : World) (base : Nat) (sp : Nat -> Bool) (held : Bool) (f : Nat) (cs : List Value) x, DataW.trod enc P w base sp held f t cs = some x -> HasK ks cs
theorem ShT.int {t : TypeId} {k : IntKind} (u : Und P t (.int k)) (hn : P.cellsOf t = 1) : ShT P t [.i k] := ⟨hn, λ enc w base sp held f cs x hx => by
 obtain ⟨n, rfl, _, _⟩ := DataW.trod_int u.h hx
 exact ⟨rfl, trivial⟩⟩
theorem ShT.str {t : TypeId} (u : Und P t .string) (hn : P.cellsOf t = 1) : ShT P t [.s] := ⟨hn, λ enc w base sp held f cs x hx => by
 cases f with
 | zero => simp [DataW.trod] at hx
 | succ f =>
  unfold DataW.trod at hx
  rw [u.h] at hx
  split at hx <;> simp_all [HasK, ckOf]⟩
theorem ShT.bool {t : TypeId} (u : Und P t .bool) (hn : P.cellsOf t = 1) : ShT P t [.b] := ⟨hn, λ enc w base sp held f cs x hx => by
 cases f with
 | zero => simp [DataW.trod] at hx
 | succ f =>
  unfold DataW.trod at hx
  rw [u.h] at hx
  split at hx <;> simp_all [HasK, ckOf]⟩
structure ShFs (P : Program) (off : Nat) (fs : List Field) (ks : List CK) : Prop where
 h : ∀ {H : Type} (enc : TypeId × Value -> H) (w : World) (base : Nat) (sp : Nat -> Bool) (held : Bool) (cs : List Value), off + ks.length = cs.length ->
  (∀ f ∈ fs, ∃ n x, DataW.trod enc P w base sp held n f.type ((cs.drop f.offset).take (P.cellsOf f.type)) = some x) -> HasK ks (cs.drop off)
theorem ShT.struct {t : TypeId} {fs : Array Field} {ks : List CK} (u : P.underlying t = some (.struct fs)) (hn : P.cellsOf t = ks.length) (h : ShFs P 0 fs.toList ks) : ShT P t ks := ⟨hn, λ enc w base sp held f cs x hx => by
 obtain ⟨xs, n, _, _, hl, hlen, hf⟩ := DataW.trod_struct u hx
 have := h.h enc w base sp held cs (by rw [hl, hn]; simp) λ g hg => by
  obtain ⟨i, hi, he⟩ := List.mem_iff_getElem.1 hg
  have hi' : i < fs.size := by simpa using hi
  have h1 := hf i g (by rw [Array.getElem?_eq_getElem hi']; simpa using he)
  rw [gge (by omega)] at h1
  exact ⟨n, _, h1⟩
 simpa using this⟩
def w_at {α : Type} (W : World) (a : Addr) (sz i : Nat) (z : α) (en : α -> List Value) : Prop := (en z).length = sz /\ (∀ u ∈ en z, oneCell u = true) /\ ∀ j, j < sz -> W.cell? (a.add (i * sz + j)) = (en z)[j]?
theorem list_of {α : Type} (p : Nat -> α -> Prop) : ∀ n, (∀ i, i < n -> ∃ z, p i z) -> ∃ xs : List α, n = xs.length /\ ∀ i x, xs[i]? = some x -> p i x
 | 0, _ => ⟨[], rfl, by simp⟩
 | n + 1, h => by
  obtain ⟨xs, h1, h2⟩ := list_of p n λ i hi => h i (by omega)
  obtain ⟨z, hz⟩ := h n (by omega)
  refine ⟨xs ++ [z], by simp [<- h1], λ i x hx => ?_⟩
  rcases Nat.lt_trichotomy i xs.length with hi | hi | hi
  ·rw [List.getElem?_append_left hi] at hx; exact h2 i x hx
  ·subst hi; simp at hx; subst hx; rw [<- h1]; exact hz
  ·rw [List.getElem?_eq_none (by simp; omega)] at hx; cases hx
theorem RS.ofTrod {α : Type} {t e sz : Nat} {en : α -> List Value} {v : Value} {d : DataW H} {ps : List MemPlace} {r : Reach} {b0 : Nat} (ht : P.underlying t = some (.slice e)) (hc : P.cellsOf e = sz) (hsz : 0 < sz) (hval : Value.okWide P W r b0 t v)
  (h : DataW.Trod enc P W 0 (λ _ => true) true t v d ps) (hd : ∀ n cs x, DataW.trod enc P W 0 (λ _ => true) true n e cs = some x -> cs.length = sz /\ (∀ u ∈ cs, Go.Proofs.YtenilfmlfldogaaGreat.oneCell u = true) /\ ∃ z, en z = cs) : ∃ xs, RS (Rw W) sz en v xs := by
 obtain ⟨p, len, cap, rfl⟩ := okWide_slice ht hval
 obtain ⟨f, hf⟩ := h
 have hcells : (Value.slice p len cap).cells.toList = [.slice p len cap] := rfl
 rw [hcells] at hf
 rcases open_slice ht hf with ⟨h1, _⟩ | ⟨a, len', cap', m, n, D, Pl, h1, _, h3, h4, h5, _, hx⟩
 ·simp only [List.cons.injEq, Value.slice.injEq, and_true] at h1
  obtain ⟨rfl, rfl, rfl⟩ := h1
  exact ⟨[], by simp, by simp, none, 0, rfl, by simp, by simp [maxLen], .inl rfl⟩
 ·simp only [List.cons.injEq, Value.slice.injEq, and_true] at h1
  obtain ⟨rfl, rfl, rfl⟩ := h1
  simp only [if_true] at h5
  subst h5
  rw [hc] at hx
  have hz : ∀ i, i < len -> ∃ z, w_at W a sz i z en := λ i hi => by
   obtain ⟨cs', h6, h7⟩ := hx i (by omega)
   obtain ⟨g1, g2, z, g3⟩ := hd n cs' _ h7
   obtain ⟨_, _, h8⟩ := World.cells?_some h6
   exact ⟨z, by rw [g3]; exact g1, by rw [g3]; exact g2, λ j hj => by rw [g3, <- h8 j hj, add_add]⟩
  obtain ⟨xs, hxs1, hxs2⟩ := list_of (λ i z => w_at W a sz i z en) len hz
  subst hxs1
  have hw : ∀ (i : Nat) (x : α), xs[i]? = some x -> w_at W a sz i x en := hxs2
  have hmem : ∀ x ∈ xs, ∃ i, w_at W a sz i x en := λ x hx => by
   obtain ⟨i, hi⟩ := List.mem_iff_getElem?.1 hx
   exact ⟨i, hw i x hi⟩
  refine ⟨xs, λ x hx => (hmem x hx).elim λ _ h => h.1, λ x hx => (hmem x hx).elim λ _ h => h.2.1, some a, _, rfl, h3, h4, ?_⟩
  cases xs with
  | nil => exact .inl rfl
  | cons x0 xs =>
   right
   have h0 := (hw 0 x0 rfl).2.2 0 hsz
   have hlen0 := (hw 0 x0 rfl).1
   simp only [Nat.zero_mul, Nat.zero_add] at h0
   have hadd0 : a.add 0 = a := by simp [Addr.add]
   rw [hadd0] at h0
   unfold World.cell? at h0
   cases hb : W.heap[a.block]? with
   | none => rw [hb] at h0; simp at h0; rw [h0] at hlen0; simp at hlen0; omega
   | some o =>
    rw [hb] at h0
    cases o with
    | cells c E fr =>
     simp only at h0
     have hsp : a.spot = none := by
      cases hs : a.spot with
      | none => rfl
      | some q => rw [hs] at h0; simp at h0; rw [h0] at hlen0; simp at hlen0; omega
     have ha : a = ⟨a.block, a.off, none⟩ := by cases a; simp at hsp ⊢; exact hsp
     refine ⟨a.block, a.off, c, E, fr, by rw [<- ha], hb, λ k hk => ?_⟩
     have hl : ((x0 :: xs).flatMap en).length = (x0 :: xs).length * sz := flatMap_length λ x hx => (hmem x hx).elim λ _ h => h.1
     rw [hl] at hk
     have hi : k / sz < (x0 :: xs).length := Nat.div_lt_of_lt_mul (by rw [Nat.mul_comm]; exact hk)
     obtain ⟨x, hxk⟩ := exg hi
     have hj : k % sz < sz := Nat.mod_lt _ hsz
     have h9 := (hw _ x hxk).2.2 (k % sz) hj
     have hk' : k / sz * sz + k % sz = k := Nat.div_add_mod' k sz
     rw [hk'] at h9
     have h10 := flatMap_get (enc := en) (λ x hx => (hmem x hx).elim λ _ h => h.1) hxk (k % sz) hj
     rw [hk'] at h10
     rw [h10, <- h9]
     have hak : a.add k = ⟨a.block, a.off + k, none⟩ := by rw [ha]; exact add_mk _ _ _
     rw [hak]
     simp [World.cell?, hb]
    | _ => simp at h0; rw [h0] at hlen0; simp at hlen0; omega
theorem frame_same {W W' : World} (f : Frame W [] W' []) {p : MemPlace} (hp : p.block < W.heap.size) : W.sameAt W' p := by
 have h := λ b (hb : b < W.heap.size) => f.keep b hb (by simp)
 cases p with
 | cell b off =>
  have := h b hp
  show W'.cell? ⟨b, off, none⟩ = W.cell? ⟨b, off, none⟩
  unfold World.cell?
  simp only [this]
 | map b => exact h b hp
theorem frame_kept {W W' : World} (f : Frame W [] W' []) (may : MemPlace -> Prop) : W.keptBut W' may := by
 refine ⟨f.os, f.output, λ i hi => ?_⟩
 rw [f.keep i hi (by simp)]
 cases h : W.heap[i]? with
 | none => simp
 | some o => cases o <;> simp
theorem again {W W' : World} (K : Kids P (· < P.types.size)) (hz : ∀ t e, t < P.types.size -> P.underlying t = some (.slice e) -> 0 < P.cellsOf e) (f : Frame W [] W' []) {sp : Nat -> Bool} : ∀ {ts : List TypeId} {vs : List Value} {ds : List (DataW H)} {ps : List MemPlace},
  (∀ t ∈ ts, t < P.types.size) -> DataW.TrodAll enc P W 0 (λ _ => true) true ts vs ds ps -> (∀ p ∈ ps, p.block < W.heap.size) -> (∀ p ∈ ps, sp p.block = true) -> DataW.TrodAll enc P W' 0 sp true ts vs ds ps := by
 intro ts vs ds ps hT h hlt hsp
 refine DataW.TrodAll.respare K hz hT ?_ hsp
 have key : ∀ {ts : List TypeId} {vs : List Value} {ds : List (DataW H)} {ps : List MemPlace}, DataW.TrodAll enc P W 0 (λ _ => true) true ts vs ds ps -> (∀ p ∈ ps, p.block < W.heap.size) -> DataW.TrodAll enc P W' 0 (λ _ => true) true ts vs ds ps := by
  intro ts
  induction ts with
  | nil =>
   intro vs ds ps h _
   obtain ⟨rfl, rfl, rfl⟩ := trodAll_nil h
   exact trodAll_mk0
  | cons t ts ih =>
   intro vs ds ps h hlt
   obtain ⟨v, vs', d, ds', p, q, rfl, rfl, rfl, ⟨n, h1⟩, h2⟩ := trodAll_cons h
   exact ⟨p, q, ⟨n, DataW.trod_carry n _ _ _ h1 λ x hx => frame_same f (hlt x (List.mem_append_left _ hx))⟩, ih h2 λ x hx => hlt x (List.mem_append_right _ hx), rfl⟩
 exact key h hlt
theorem post_law {f : Func} {s : ChangeSpec} {args : Array Value} {v : Value} {ds gs : List (DataW H)} {before : List MemPlace} (K : Kids P (· < P.types.size)) (hz : ∀ t e, t < P.types.size -> P.underlying t = some (.slice e) -> 0 < P.cellsOf e)
  (hT : ∀ t ∈ f.params.toList, t < P.types.size) (hW : DataW.Whole enc P f.params.toList s.vars false W args.toList ds gs before) (hv : s.vars = []) (ha : (s.fn H (ds ++ gs)).args = ds) (hvs : (s.fn H (ds ++ gs)).vars = [])
  (hres : ∀ b sp hd, DataW.TrodAll enc P W' b sp hd f.resultTypes.toList (v.resultList f.resultTypes.size) (s.fn H (ds ++ gs)).results []) (fr : Frame W [] W' []) : s.post enc P f false true false false W args v W' := by
 have hlt := hW.lt
 have hW' := hW
 obtain ⟨p, q, hA, hV, rfl, _, _⟩ := hW
 refine ⟨ds, gs, _, [], p, [], hW', hres _ _ _, ?_, ?_, frame_kept fr _, λ h => by cases h⟩
 ·rw [ha]
  exact again K hz fr hT hA (λ x hx => hlt x (List.mem_append_left _ hx)) λ x hx => by simpa using hlt x (List.mem_append_left _ hx)
 ·rw [hv, hvs]; rfl
end
end
section
open Go.ChangeShapes Go.WideShapes Go.Deep
section
variable {H : Type} {enc : TypeId × Value -> H} {P : Program} {W W' : World}
theorem RS.ofCells {α : Type} {t e sz f : Nat} {en : α -> List Value} {D : α -> Prop} {cs : List Value} {x : DataW H × List MemPlace} (ht : P.underlying t = some (.slice e)) (hc : P.cellsOf e = sz) (hsz : 0 < sz)
  (hf : DataW.trod enc P W 0 (λ _ => true) true f t cs = some x) (hd : ∀ n cs x, DataW.trod enc P W 0 (λ _ => true) true n e cs = some x -> cs.length = sz /\ (∀ u ∈ cs, Go.Proofs.YtenilfmlfldogaaGreat.oneCell u = true) /\ ∃ z, en z = cs /\ D z) :
  ∃ v xs, cs = [v] /\ RS (Rw W) sz en v xs /\ ∀ x ∈ xs, D x := by
 rcases open_slice ht hf with ⟨h1, _⟩ | ⟨a, len, cap, m, n, Dd, Pl, h1, _, h3, h4, h5, _, hx⟩
 ·exact ⟨_, [], h1, ⟨by simp, by simp, none, 0, rfl, by simp, by simp [maxLen], .inl rfl⟩, by simp⟩
 ·simp only [if_true] at h5
  subst h5
  rw [hc] at hx
  have hz : ∀ i, i < len -> ∃ z, w_at W a sz i z en /\ D z := λ i hi => by
   obtain ⟨cs', h6, h7⟩ := hx i (by omega)
   obtain ⟨g1, g2, z, g3, g4⟩ := hd n cs' _ h7
   obtain ⟨_, _, h8⟩ := World.cells?_some h6
   exact ⟨z, ⟨by rw [g3]; exact g1, by rw [g3]; exact g2, λ j hj => by rw [g3, <- h8 j hj, add_add]⟩, g4⟩
  obtain ⟨xs, hxs1, hxs2⟩ := list_of (λ i z => w_at W a sz i z en /\ D z) len hz
  subst hxs1
  have hw : ∀ (i : Nat) (x : α), xs[i]? = some x -> w_at W a sz i x en := λ i x h => (hxs2 i x h).1
  have hD : ∀ x ∈ xs, D x := λ x hx => by
   obtain ⟨i, hi⟩ := List.mem_iff_getElem?.1 hx
   exact (hxs2 i x hi).2
  have hmem : ∀ x ∈ xs, ∃ i, w_at W a sz i x en := λ x hx => by
   obtain ⟨i, hi⟩ := List.mem_iff_getElem?.1 hx
   exact ⟨i, hw i x hi⟩
  refine ⟨_, xs, h1, ⟨λ x hx => (hmem x hx).elim λ _ h => h.1, λ x hx => (hmem x hx).elim λ _ h => h.2.1, some a, _, rfl, h3, h4, ?_⟩, hD⟩
  cases xs with
  | nil => exact .inl rfl
  | cons x0 xs =>
   right
   have h0 := (hw 0 x0 rfl).2.2 0 hsz
   have hlen0 := (hw 0 x0 rfl).1
   simp only [Nat.zero_mul, Nat.zero_add] at h0
   have hadd0 : a.add 0 = a := by simp [Addr.add]
   rw [hadd0] at h0
   unfold World.cell? at h0
   cases hb : W.heap[a.block]? with
   | none => rw [hb] at h0; simp at h0; rw [h0] at hlen0; simp at hlen0; omega
   | some o =>
    rw [hb] at h0
    cases o with
    | cells c E fr =>
     simp only at h0
     have hsp : a.spot = none := by
      cases hs : a.spot with
      | none => rfl
      | some q => rw [hs] at h0; simp at h0; rw [h0] at hlen0; simp at hlen0; omega
     have ha : a = ⟨a.block, a.off, none⟩ := by cases a; simp at hsp ⊢; exact hsp
     refine ⟨a.block, a.off, c, E, fr, by rw [<- ha], hb, λ k hk => ?_⟩
     have hl : ((x0 :: xs).flatMap en).length = (x0 :: xs).length * sz := flatMap_length λ x hx => (hmem x hx).elim λ _ h => h.1
     rw [hl] at hk
     have hi : k / sz < (x0 :: xs).length := Nat.div_lt_of_lt_mul (by rw [Nat.mul_comm]; exact hk)
     obtain ⟨x, hxk⟩ := exg hi
     have hj : k % sz < sz := Nat.mod_lt _ hsz
     have h9 := (hw _ x hxk).2.2 (k % sz) hj
     have hk' : k / sz * sz + k % sz = k := Nat.div_add_mod' k sz
     rw [hk'] at h9
     have h10 := flatMap_get (enc := en) (λ x hx => (hmem x hx).elim λ _ h => h.1) hxk (k % sz) hj
     rw [hk'] at h10
     rw [h10, <- h9]
     have hak : a.add k = ⟨a.block, a.off + k, none⟩ := by rw [ha]; exact add_mk _ _ _
     rw [hak]
     simp [World.cell?, hb]
    | _ => simp at h0; rw [h0] at hlen0; simp at hlen0; omega
theorem cells_of_struct {fs : Array Field} {t : TypeId} {v : Value} {d : DataW H} {ps : List MemPlace} {r : Reach} {b0 : Nat} (ht : P.underlying t = some (.struct fs)) (hval : Value.okWide P W r b0 t v) (h : DataW.Trod enc P W 0 (λ _ => true) true t v d ps) :
  ∃ cs : List Value, v = .agg cs.toArray /\ ∃ f, DataW.trod enc P W 0 (λ _ => true) true f t cs = some (d, ps) := by
 obtain ⟨cs, rfl, hs⟩ := okWide_struct ht hval
 obtain ⟨f, hf⟩ := h
 exact ⟨cs.toList, by simp, f, hf⟩
theorem parts_of {fs : Array Field} {t f : Nat} {cs : List Value} {x : DataW H × List MemPlace} (ht : P.underlying t = some (.struct fs)) (h : DataW.trod enc P W 0 (λ _ => true) true f t cs = some x) :
  cs.length = P.cellsOf t /\ ∀ (i : Nat) (g : Field), fs[i]? = some g -> ∃ n y, DataW.trod enc P W 0 (λ _ => true) true n g.type ((cs.drop g.offset).take (P.cellsOf g.type)) = some y := by
 obtain ⟨xs, n, _, _, hl, hlen, hf⟩ := DataW.trod_struct ht h
 refine ⟨hl, λ i g hg => ?_⟩
 have h1 := hf i g hg
 have hi : i < fs.size := by
  obtain ⟨h, _⟩ := Array.getElem?_eq_some_iff.1 hg
  exact h
 rw [gge (by omega)] at h1
 exact ⟨n, _, h1⟩
end
end
end Go.Proofs.YtenilfmlfldogaaGreat
