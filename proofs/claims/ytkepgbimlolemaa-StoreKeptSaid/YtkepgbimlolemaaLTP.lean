/- The library's functions on slices, at one kind of elements. No condition. -/
import Derived.Test.YtkepgbimlolemaaFacts
import Derived.Test.YtkepgbimlolemaaMot5
import Derived.Test.YtkepgbimlolemaaMot3
import Derived.Test.YtkepgbimlolemaaLibP
import Derived.Test.YtkepgbimlolemaaTplA
set_option linter.unusedVariables false
set_option maxRecDepth 4000
namespace Go.Proofs.Ytkepgbimlolemaa
namespace LTP
theorem indexF_spec (f : FuncId) (caps : List Value) [e : Ent Try.prog f] (p : Tpl → Bool) (v : Value) (l : List Tpl) (R : Rds) (h : RS R 7 Tpl.enc v l) (hf : ∀ s ∈ l, ∀ R', (∀ b o, R b o → R' b o) → Spec Try.prog f ((fun t : Tpl => Value.agg t.enc.toArray) s :: caps) R' [] fun u H' => u = .bool (p s) ∧ H' = []) :
    Spec Try.prog 137 [v, .func (.func f) #[] caps.toArray] R [] fun u H' => (∃ k : Int, u = .int .i64 k ∧ ((∃ (i : Nat) (x : Tpl), l[i]? = some x ∧ p x = true ∧ (∀ j y, j < i → l[j]? = some y → p y = false) ∧ k = i) ∨ ((∀ y ∈ l, p y = false) ∧ k = -1))) ∧ H' = [] := by
  have hle := h.le
  refine Spec.body Try.func137 rfl Try.results137 Try.ntmps137 rfl ?_
  refine .seq ?_
  refine .region ?_
  refine TriOps.q .assign ?_
  refine .nil ?_
  refine seqQ_n ?_
  refine .seq ?_
  refine .seq ?_
  refine .region ?_
  refine TriOps.q .move ?_
  refine TriOps.q (.lenR h) ?_
  refine TriOps.q .move ?_
  refine .nil ?_
  refine seqQ_n ?_
  refine .block ?_
  refine .loop (X := Nat) (fun i => i ≤ l.length ∧ ∀ j z, j < i → l[j]? = some z → p z = false) (fun i => [(0, v), (1, .func (.func f) #[] caps.toArray), (7, .int .i64 l.length), (8, .int .i64 (i : Nat))]) (fun _ => []) (fun i => l.length - i) 0 ⟨by omega, by omega⟩ (((((EnvLe.nil _).cons rfl).cons rfl).cons rfl).cons rfl) (HLe.refl _) ?_
  rintro i ⟨hi, hn⟩
  refine .seq ?_
  refine .region ?_
  refine TriOps.q .lss ?_
  refine .nil ?_
  refine seqQ_n ?_
  refine .seq ?_
  refine .cond rfl (fun h1 => ?_) (fun h1 => ?_)
  · skip
    have hlt : i < l.length := by simp at h1; omega
    obtain ⟨z, hz⟩ : ∃ z, l[i]? = some z := ⟨_, List.getElem?_eq_getElem hlt⟩
    have hzm := List.mem_of_getElem? hz
    have hzo := (⟨h.one z hzm⟩ : Ones (Tpl.enc z))
    refine .skip ?_
    refine seqQ_n ?_
    refine .seq ?_
    refine .block ?_
    refine .seq ?_
    refine .region ?_
    refine TriOps.q .move ?_
    refine TriOps.q .assign ?_
    refine .nil ?_
    refine seqQ_n ?_
    refine .seq ?_
    refine .region ?_
    refine TriOps.q .move ?_
    refine TriOps.q .move ?_
    refine TriOps.q .move ?_
    refine TriOps.indexR i h hz (fun pz => ?_)
    refine TriOps.q (.loadA rfl) ?_
    refine TriOps.callRV (first := []) (captured := caps) (vs := [(fun t : Tpl => Value.agg t.enc.toArray) z]) (hf z hzm _ fun b o hb => .inl hb) (fun u hu => ?_)
    subst hu
    refine .nil ?_
    refine seqQ_n ?_
    refine .cond rfl (fun h2 => ?_) (fun h2 => ?_)
    · skip
      refine .seq ?_
      refine .region ?_
      refine TriOps.q .move ?_
      refine TriOps.q .assign ?_
      refine .nil ?_
      refine seqQ_n ?_
      refine .ret (blkQ_r (seqQ_r (loopQ_r (blkQ_r (seqQ_r (retQ_r _ (.one (.tmp rfl)) (.none _) ?_))))))
      exact ⟨⟨_, rfl, .inl ⟨i, z, hz, h2, hn, rfl⟩⟩, rfl⟩
    · skip
      refine .skip ?_
      refine blkQ_n (seqQ_n ?_)
      refine .region ?_
      refine TriOps.q (.inc (n := i) (by omega)) ?_
      refine TriOps.q .move ?_
      refine .nil ?_
      exact loopQ_i (i + 1) ⟨by omega, fun j y hj hy => by
        rcases Nat.lt_or_ge j i with hh | hh
        · exact hn j y hh hy
        · obtain rfl : j = i := by omega
          rw [hz] at hy; cases hy; exact h2⟩ (by omega) (((((EnvLe.nil _).cons rfl).cons rfl).cons rfl).cons rfl) (HLe.refl _)
  · skip
    refine .exit (seqQ_x (loopQ_x (blkQ_x ?_)))
    refine seqQ_n ?_
    refine .seq ?_
    refine .region ?_
    refine TriOps.q .assign ?_
    refine .nil ?_
    refine seqQ_n ?_
    refine .ret (retQ_r _ (.one (.tmp rfl)) (.none _) ?_)
    have he : i = l.length := by simp at h1; omega
    subst he
    refine ⟨⟨_, rfl, .inr ⟨fun y hy => ?_, rfl⟩⟩, rfl⟩
    obtain ⟨j, hj, rfl⟩ := List.mem_iff_getElem.1 hy
    exact hn j _ hj (List.getElem?_eq_getElem hj)
theorem containsF_spec (f : FuncId) (caps : List Value) [e : Ent Try.prog f] (p : Tpl → Bool) (v : Value) (l : List Tpl) (R : Rds) (h : RS R 7 Tpl.enc v l) (hf : ∀ s ∈ l, ∀ R', (∀ b o, R b o → R' b o) → Spec Try.prog f ((fun t : Tpl => Value.agg t.enc.toArray) s :: caps) R' [] fun u H' => u = .bool (p s) ∧ H' = []) :
    Spec Try.prog 97 [v, .func (.func f) #[] caps.toArray] R [] fun u H' => u = .bool (l.any p) ∧ H' = [] := by
  refine Spec.body Try.func97 rfl Try.results97 Try.ntmps97 rfl ?_
  refine .seq ?_
  refine .region ?_
  refine TriOps.q .assign ?_
  refine .nil ?_
  refine seqQ_n ?_
  refine .seq ?_
  refine .region ?_
  refine TriOps.q .move ?_
  refine TriOps.q .move ?_
  refine TriOps.callR (indexF_spec f caps p v l _ h.rx fun s hs R' hR => hf s hs R' fun b o hb => hR b o (.inl hb)) (fun u hu => ?_)
  obtain ⟨k, rfl, hk⟩ := hu
  have hkk : decide (0 ≤ k) = l.any p := by
    rcases hk with ⟨i, x, h1, h2, _, rfl⟩ | ⟨h1, rfl⟩
    · rw [List.any_eq_true.2 ⟨x, List.mem_of_getElem? h1, h2⟩]; simp
    · rw [List.any_eq_false.2 fun y hy => by rw [h1 y hy]; simp]; rfl
  refine TriOps.q .geq ?_
  refine TriOps.q .assign ?_
  refine .nil ?_
  refine seqQ_n ?_
  refine .ret (retQ_r _ (.one (.tmp rfl)) (.none _) ?_)
  exact ⟨by simp only [hkk], rfl⟩
end LTP
end Go.Proofs.Ytkepgbimlolemaa
