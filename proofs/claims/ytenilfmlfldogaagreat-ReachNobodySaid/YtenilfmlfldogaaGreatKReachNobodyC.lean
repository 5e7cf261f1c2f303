/- What the law 'ReachNobody' uses. No condition. -/
import Derived.ChangeArms
import Derived.Deep.Slices
import Derived.ReadAgain
import Derived.Test.YtenilfmlfldogaaGreatKReachNobodyB
set_option linter.unusedVariables false
namespace Go.Proofs.YtenilfmlfldogaaGreat
open Go.ChangeShapes Go.WideShapes Go.Deep
def Rw (W : World) : Rds := λ b o => W.heap[b]? = some o
section
variable {H : Type} {enc : TypeId × Value -> H} {P : Program} {W W' : World}
class ShT (P : Program) (t : TypeId) (ks : outParam (List CK)) : Prop where
 n : P.cellsOf t = ks.length
 h : ∀ {H : Type} (enc : TypeId × Value -> H) (w : World) (base : Nat) (sp : Nat -> Bool) (held : Bool) (f : Nat) (cs : List Value) x, DataW.trod enc P w base sp held f t cs = some x -> HasK ks cs
theorem ShT.str {t : TypeId} (u : Und P t .string) (hn : P.cellsOf t = 1) : ShT P t [.s] := ⟨hn, λ enc w base sp held f cs x hx => by
 cases f with
 | zero => simp [DataW.trod] at hx
 | succ f =>
  unfold DataW.trod at hx
  rw [u.h] at hx
  split at hx <;> simp_all [HasK, ckOf]⟩
theorem ShT.bool {t : TypeId} (u : Und P t .bool) (hn : P.cellsOf t = 1) : ShT P t [.b] := ⟨hn, λ enc w base sp held f cs x hx => by
 cases f with
 | zero => simp [DataW.trod] at hx
 | succ f =>
  unfold DataW.trod at hx
  rw [u.h] at hx
  split at hx <;> simp_all [HasK, ckOf]⟩
structure ShFs (P : Program) (off : Nat) (fs : List Field) (ks : List CK) : Prop where
 h : ∀ {H : Type} (enc : TypeId × Value -> H) (w : World) (base : Nat) (sp : Nat -> Bool) (held : Bool) (cs : List Value), off + ks.length = cs.length ->
  (∀ f ∈ fs, ∃ n x, DataW.trod enc P w base sp held n f.type ((cs.drop f.offset).take (P.cellsOf f.type)) = some x) -> HasK ks (cs.drop off)
theorem ShT.struct {t : TypeId} {fs : Array Field} {ks : List CK} (u : P.underlying t = some (.struct fs)) (hn : P.cellsOf t = ks.length) (h : ShFs P 0 fs.toList ks) : ShT P t ks := ⟨hn, λ enc w base sp held f cs x hx => by
 obtain ⟨xs, n, _, _, hl, hlen, hf⟩ := DataW.trod_struct u hx
 have := h.h enc w base sp held cs (by rw [hl, hn]; simp) λ g hg => by
  obtain ⟨i, hi, he⟩ := List.mem_iff_getElem.1 hg
  have hi' : i < fs.size := by simpa using hi
  have h1 := hf i g (by rw [Array.getElem?_eq_getElem hi']; simpa using he)
  rw [gge (by omega)] at h1
  exact ⟨n, _, h1⟩
 simpa using this⟩
theorem frame_same {W W' : World} (f : Frame W [] W' []) {p : MemPlace} (hp : p.block < W.heap.size) : W.sameAt W' p := by
 have h := λ b (hb : b < W.heap.size) => f.keep b hb (by simp)
 cases p with
 | cell b off =>
  have := h b hp
  show W'.cell? ⟨b, off, none⟩ = W.cell? ⟨b, off, none⟩
  unfold World.cell?
  simp only [this]
 | map b => exact h b hp
theorem frame_kept {W W' : World} (f : Frame W [] W' []) (may : MemPlace -> Prop) : W.keptBut W' may := by
 refine ⟨f.os, f.output, λ i hi => ?_⟩
 rw [f.keep i hi (by simp)]
 cases h : W.heap[i]? with
 | none => simp
 | some o => cases o <;> simp
theorem again {W W' : World} (K : Kids P (· < P.types.size)) (hz : ∀ t e, t < P.types.size -> P.underlying t = some (.slice e) -> 0 < P.cellsOf e) (f : Frame W [] W' []) {sp : Nat -> Bool} : ∀ {ts : List TypeId} {vs : List Value} {ds : List (DataW H)} {ps : List MemPlace},
  (∀ t ∈ ts, t < P.types.size) -> DataW.TrodAll enc P W 0 (λ _ => true) true ts vs ds ps -> (∀ p ∈ ps, p.block < W.heap.size) -> (∀ p ∈ ps, sp p.block = true) -> DataW.TrodAll enc P W' 0 sp true ts vs ds ps := by
 intro ts vs ds ps hT h hlt hsp
 refine DataW.TrodAll.respare K hz hT ?_ hsp
 have key : ∀ {ts : List TypeId} {vs : List Value} {ds : List (DataW H)} {ps : List MemPlace}, DataW.TrodAll enc P W 0 (λ _ => true) true ts vs ds ps -> (∀ p ∈ ps, p.block < W.heap.size) -> DataW.TrodAll enc P W' 0 (λ _ => true) true ts vs ds ps := by
  intro ts
  induction ts with
  | nil =>
   intro vs ds ps h _
   obtain ⟨rfl, rfl, rfl⟩ := trodAll_nil h
   exact trodAll_mk0
  | cons t ts ih =>
   intro vs ds ps h hlt
   obtain ⟨v, vs', d, ds', p, q, rfl, rfl, rfl, ⟨n, h1⟩, h2⟩ := trodAll_cons h
   exact ⟨p, q, ⟨n, DataW.trod_carry n _ _ _ h1 λ x hx => frame_same f (hlt x (List.mem_append_left _ hx))⟩, ih h2 λ x hx => hlt x (List.mem_append_right _ hx), rfl⟩
 exact key h hlt
theorem post_law {f : Func} {s : ChangeSpec} {args : Array Value} {v : Value} {ds gs : List (DataW H)} {before : List MemPlace} (K : Kids P (· < P.types.size)) (hz : ∀ t e, t < P.types.size -> P.underlying t = some (.slice e) -> 0 < P.cellsOf e)
  (hT : ∀ t ∈ f.params.toList, t < P.types.size) (hW : DataW.Whole enc P f.params.toList s.vars false W args.toList ds gs before) (hv : s.vars = []) (ha : (s.fn H (ds ++ gs)).args = ds) (hvs : (s.fn H (ds ++ gs)).vars = [])
  (hres : ∀ b sp hd, DataW.TrodAll enc P W' b sp hd f.resultTypes.toList (v.resultList f.resultTypes.size) (s.fn H (ds ++ gs)).results []) (fr : Frame W [] W' []) : s.post enc P f false true false false W args v W' := by
 have hlt := hW.lt
 have hW' := hW
 obtain ⟨p, q, hA, hV, rfl, _, _⟩ := hW
 refine ⟨ds, gs, _, [], p, [], hW', hres _ _ _, ?_, ?_, frame_kept fr _, λ h => by cases h⟩
 ·rw [ha]
  exact again K hz fr hT hA (λ x hx => hlt x (List.mem_append_left _ hx)) λ x hx => by simpa using hlt x (List.mem_append_left _ hx)
 ·rw [hv, hvs]; rfl
end
end Go.Proofs.YtenilfmlfldogaaGreat
set_option linter.unusedVariables false
namespace Go.Proofs.YtenilfmlfldogaaGreat
open Go.ChangeShapes Go.WideShapes Go.Deep
section
variable {H : Type} {enc : TypeId × Value -> H} {P : Program} {W W' : World}
theorem cells_of_struct {fs : Array Field} {t : TypeId} {v : Value} {d : DataW H} {ps : List MemPlace} {r : Reach} {b0 : Nat} (ht : P.underlying t = some (.struct fs)) (hval : Value.okWide P W r b0 t v) (h : DataW.Trod enc P W 0 (λ _ => true) true t v d ps) :
  ∃ cs : List Value, v = .agg cs.toArray /\ ∃ f, DataW.trod enc P W 0 (λ _ => true) true f t cs = some (d, ps) := by
 obtain ⟨cs, rfl, hs⟩ := okWide_struct ht hval
 obtain ⟨f, hf⟩ := h
 exact ⟨cs.toList, by simp, f, hf⟩
theorem parts_of {fs : Array Field} {t f : Nat} {cs : List Value} {x : DataW H × List MemPlace} (ht : P.underlying t = some (.struct fs)) (h : DataW.trod enc P W 0 (λ _ => true) true f t cs = some x) :
  cs.length = P.cellsOf t /\ ∀ (i : Nat) (g : Field), fs[i]? = some g -> ∃ n y, DataW.trod enc P W 0 (λ _ => true) true n g.type ((cs.drop g.offset).take (P.cellsOf g.type)) = some y := by
 obtain ⟨xs, n, _, _, hl, hlen, hf⟩ := DataW.trod_struct ht h
 refine ⟨hl, λ i g hg => ?_⟩
 have h1 := hf i g hg
 have hi : i < fs.size := by
  obtain ⟨h, _⟩ := Array.getElem?_eq_some_iff.1 hg
  exact h
 rw [gge (by omega)] at h1
 exact ⟨n, _, h1⟩
end
end Go.Proofs.YtenilfmlfldogaaGreat
