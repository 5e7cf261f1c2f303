/- What the law 'ExpandTells' uses. No condition. -/
import Derived.Carry
import Derived.ChangeShapes
import Derived.Test.YtenilfmlfldogaaGreatKExpandTellsP
namespace Go.Proofs.YtenilfmlfldogaaGreat
open Tryz (prog)
section
set_option linter.unusedVariables false
set_option maxRecDepth 4000
open Go.ChangeShapes
theorem trodAll_five {H : Type} {enc : TypeId × Value -> H} {P : Program} {w : World} {base : Nat} {sp : Nat -> Bool} {held : Bool} {t t' t'' t3 t4 : TypeId} {args : Array Value} {ds : List (DataW H)} {ps : List MemPlace} (h : DataW.TrodAll enc P w base sp held [t, t', t'', t3, t4] args.toList ds ps) :
  ∃ v v' v'' v3 v4 d d' d'' d3 d4 p p' p'' p3 p4, args = #[v, v', v'', v3, v4] /\ ds = [d, d', d'', d3, d4] /\ ps = p ++ (p' ++ (p'' ++ (p3 ++ p4))) /\ DataW.Trod enc P w base sp held t v d p /\ DataW.Trod enc P w base sp held t' v' d' p' /\ DataW.Trod enc P w base sp held t'' v'' d'' p'' /\ DataW.Trod enc P w base sp held t3 v3 d3 p3 /\ DataW.Trod enc P w base sp held t4 v4 d4 p4 := by
 obtain ⟨v, r, d, dr, p, pr, e1, rfl, rfl, h1, h⟩ := trodAll_cons h
 obtain ⟨v', r, d', dr, p', pr, rfl, rfl, rfl, h2, h⟩ := trodAll_cons h
 obtain ⟨v'', r, d'', dr, p'', pr, rfl, rfl, rfl, h3, h⟩ := trodAll_cons h
 obtain ⟨v3, r, d3, dr, p3, pr, rfl, rfl, rfl, h4, h⟩ := trodAll_cons h
 obtain ⟨v4, r, d4, dr, p4, pr, rfl, rfl, rfl, h5, h⟩ := trodAll_cons h
 obtain ⟨rfl, rfl, rfl⟩ := trodAll_nil h
 exact ⟨v, v', v'', v3, v4, d, d', d'', d3, d4, p, p', p'', p3, p4, by rw [<- Array.toArray_toList (xs := args), e1], rfl, by simp, h1, h2, h3, h4, h5⟩
theorem ref_sized {H : Type} {enc : TypeId × Value -> H} {W : World} {f : Nat} {cs : List Value} {d : DataW H} {ps : List MemPlace} (h : DataW.trod enc prog W 0 (λ _ => true) true f 30 cs = some (d, ps)) (hz : ∀ n ∈ DataW.weights prog 30 d, n <= reachBytes) : ∃ s i : ByteArray, cs = [.string s, .string i] /\ s.size <= 1000000000000000 /\ i.size <= 1000000000000000 := by
 obtain ⟨s, i, rfl, _, _⟩ := ref_of h
 obtain ⟨xs, n, rfl, hx, hl, hlen, hf⟩ := DataW.trod_struct Tryz.underlying30 h
 have h0 : DataW.trod enc prog W 0 (λ _ => true) true n 9 ((([.string s, .string i] : List Value).drop 0).take (Program.cellsOf prog 9)) = xs[0]? := hf 0 _ rfl
 have h1 : DataW.trod enc prog W 0 (λ _ => true) true n 9 ((([.string s, .string i] : List Value).drop 1).take (Program.cellsOf prog 9)) = xs[1]? := hf 1 _ rfl
 have hc : Program.cellsOf prog 9 = 1 := fT9.n
 rw [hc] at h0 h1
 cases n with
 | zero =>
  simp only [DataW.trod] at h0
  have := hlen
  rw [eq_comm, List.getElem?_eq_none_iff] at h0
  rw [hlen] at h0
  simp at h0
 | succ n =>
  match xs, hlen with
  | [y0, y1], _ =>
   simp only [List.getElem?_cons_zero, List.getElem?_cons_succ] at h0 h1
   obtain ⟨s0, e0, x0, _⟩ := DataW.trod_string fU9.h h0
   obtain ⟨s1, e1, x1, _⟩ := DataW.trod_string fU9.h h1
   simp only [List.drop_zero, List.take_succ_cons, List.take_zero, List.cons.injEq, Value.string.injEq, and_true, List.drop_succ_cons] at e0 e1
   subst e0; subst e1
   subst x0; subst x1
   cases hx
   have hw : DataW.weights prog 30 (H := H) (.agg [.lit (.string s.data.toList), .lit (.string i.data.toList)]) = [s.data.toList.length, i.data.toList.length] := by
    simp [DataW.weights, Tryz.underlying30, DataW.weightsEach]
   have hz' := λ n hn => hz n (by
    show n ∈ DataW.weights prog 30 (H := H) (.agg [.lit (.string s.data.toList), .lit (.string i.data.toList)])
    rw [hw]
    exact hn)
   have z0 := hz' s.data.toList.length (by simp)
   have z1 := hz' i.data.toList.length (by simp)
   have q0 : s.data.toList.length = s.size := by simp
   have q1 : i.data.toList.length = i.size := by simp
   have hr : reachBytes <= 1000000000000000 := by decide
   exact ⟨s, i, rfl, by omega, by omega⟩
theorem str_sized {H : Type} {s : ByteArray} (hz : ∀ n ∈ DataW.weights (H := H) prog 9 (.lit (.string s.data.toList)), n <= reachBytes) : s.size <= 1000000000000000 := by
 have z := hz s.data.toList.length (by simp [DataW.weights])
 have q : s.data.toList.length = s.size := by simp
 have hr : reachBytes <= 1000000000000000 := by decide
 omega
end
end Go.Proofs.YtenilfmlfldogaaGreat
