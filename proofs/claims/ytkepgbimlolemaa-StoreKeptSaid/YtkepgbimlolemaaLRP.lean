/- The library's functions on slices, at one kind of elements. No condition. -/
import Derived.Test.YtkepgbimlolemaaFacts
import Derived.Test.YtkepgbimlolemaaMot5
import Derived.Test.YtkepgbimlolemaaMot3
import Derived.Test.YtkepgbimlolemaaLibP
import Derived.Test.YtkepgbimlolemaaStoB
set_option linter.unusedVariables false
set_option maxRecDepth 4000
namespace Go.Proofs.Ytkepgbimlolemaa
namespace LRP
theorem clone_spec (v : Value) (xs : List RB) (R : Rds) (h : RS R 1 encRB v xs) (hl : xs.length ≤ 1000000) :
    Spec Try.prog 106 [v] R [] fun v' H' => ∃ T, H' = [T] ∧ OS 133 1 encRB v' xs T := by
  obtain ⟨pr, cap, rfl⟩ := h.val
  have hx : ∀ H, RS (Rx R H) 1 encRB (.slice pr xs.length cap) xs := fun H => h.rx
  refine Spec.segs (H' := [[]]) (by simp) ?_
  refine Spec.body Try.func106 rfl Try.results106 Try.ntmps106 rfl ?_
  refine .seq ?_
  refine .region ?_
  refine TriOps.q .assign ?_
  refine .nil ?_
  refine seqQ_n ?_
  refine .seq ?_
  refine .seq ?_
  refine .region ?_
  refine TriOps.q .move ?_
  refine TriOps.q (.eqNilS rfl rfl) ?_
  refine .nil ?_
  refine seqQ_n ?_
  refine .cond rfl (fun h1 => ?_) (fun h1 => ?_)
  · skip
    refine .seq ?_
    refine .region ?_
    refine TriOps.q .assign ?_
    refine .nil ?_
    refine seqQ_n ?_
    refine .ret (seqQ_r (retQ_r _ (.one (.tmp rfl)) (.one [0] _) ?_))
    obtain rfl : pr = none := by simpa using h1
    have := h.none_nil
    subst this
    exact ⟨[], rfl, OS.nil⟩
  · skip
    refine .skip ?_
    refine seqQ_n ?_
    refine .seq ?_
    refine .region ?_
    refine TriOps.buildSlice0 (fun b5 => ?_)
    refine TriOps.q .move ?_
    refine TriOps.append (OS.empty (enc := encRB) (sz := 1)) (hx _) (by simp; omega) (fun v' T' h3 => ?_)
    refine TriOps.q .assign ?_
    refine .nil ?_
    refine seqQ_n ?_
    refine .ret (retQ_r _ (.one (.tmp rfl)) (.one [0] _) ?_)
    exact ⟨T', by simp [take], by simpa using h3⟩
theorem indexF_spec (f : FuncId) (caps : List Value) [e : Ent Try.prog f] (p : RB → Bool) (v : Value) (l : List RB) (R : Rds) (h : RS R 1 encRB v l) (hf : ∀ s ∈ l, ∀ R', (∀ b o, R b o → R' b o) → Spec Try.prog f ((fun p : RB => Value.pointer (some ⟨p.1, 0, none⟩)) s :: caps) R' [] fun u H' => u = .bool (p s) ∧ H' = []) :
    Spec Try.prog 111 [v, .func (.func f) #[] caps.toArray] R [] fun u H' => (∃ k : Int, u = .int .i64 k ∧ ((∃ (i : Nat) (x : RB), l[i]? = some x ∧ p x = true ∧ (∀ j y, j < i → l[j]? = some y → p y = false) ∧ k = i) ∨ ((∀ y ∈ l, p y = false) ∧ k = -1))) ∧ H' = [] := by
  have hle := h.le
  refine Spec.body Try.func111 rfl Try.results111 Try.ntmps111 rfl ?_
  refine .seq ?_
  refine .region ?_
  refine TriOps.q .assign ?_
  refine .nil ?_
  refine seqQ_n ?_
  refine .seq ?_
  refine .seq ?_
  refine .region ?_
  refine TriOps.q .move ?_
  refine TriOps.q (.lenR h) ?_
  refine TriOps.q .move ?_
  refine .nil ?_
  refine seqQ_n ?_
  refine .block ?_
  refine .loop (X := Nat) (fun i => i ≤ l.length ∧ ∀ j z, j < i → l[j]? = some z → p z = false) (fun i => [(0, v), (1, .func (.func f) #[] caps.toArray), (7, .int .i64 l.length), (8, .int .i64 (i : Nat))]) (fun _ => []) (fun i => l.length - i) 0 ⟨by omega, by omega⟩ (((((EnvLe.nil _).cons rfl).cons rfl).cons rfl).cons rfl) (HLe.refl _) ?_
  rintro i ⟨hi, hn⟩
  refine .seq ?_
  refine .region ?_
  refine TriOps.q .lss ?_
  refine .nil ?_
  refine seqQ_n ?_
  refine .seq ?_
  refine .cond rfl (fun h1 => ?_) (fun h1 => ?_)
  · skip
    have hlt : i < l.length := by simp at h1; omega
    obtain ⟨z, hz⟩ : ∃ z, l[i]? = some z := ⟨_, List.getElem?_eq_getElem hlt⟩
    have hzm := List.mem_of_getElem? hz
    have hzo := (⟨h.one z hzm⟩ : Ones (encRB z))
    refine .skip ?_
    refine seqQ_n ?_
    refine .seq ?_
    refine .block ?_
    refine .seq ?_
    refine .region ?_
    refine TriOps.q .move ?_
    refine TriOps.q .assign ?_
    refine .nil ?_
    refine seqQ_n ?_
    refine .seq ?_
    refine .region ?_
    refine TriOps.q .move ?_
    refine TriOps.q .move ?_
    refine TriOps.q .move ?_
    refine TriOps.indexR i h hz (fun pz => ?_)
    refine TriOps.q (.load1 rfl) ?_
    refine TriOps.callRV (first := []) (captured := caps) (vs := [(fun p : RB => Value.pointer (some ⟨p.1, 0, none⟩)) z]) (hf z hzm _ fun b o hb => .inl hb) (fun u hu => ?_)
    subst hu
    refine .nil ?_
    refine seqQ_n ?_
    refine .cond rfl (fun h2 => ?_) (fun h2 => ?_)
    · skip
      refine .seq ?_
      refine .region ?_
      refine TriOps.q .move ?_
      refine TriOps.q .assign ?_
      refine .nil ?_
      refine seqQ_n ?_
      refine .ret (blkQ_r (seqQ_r (loopQ_r (blkQ_r (seqQ_r (retQ_r _ (.one (.tmp rfl)) (.none _) ?_))))))
      exact ⟨⟨_, rfl, .inl ⟨i, z, hz, h2, hn, rfl⟩⟩, rfl⟩
    · skip
      refine .skip ?_
      refine blkQ_n (seqQ_n ?_)
      refine .region ?_
      refine TriOps.q (.inc (n := i) (by omega)) ?_
      refine TriOps.q .move ?_
      refine .nil ?_
      exact loopQ_i (i + 1) ⟨by omega, fun j y hj hy => by
        rcases Nat.lt_or_ge j i with hh | hh
        · exact hn j y hh hy
        · obtain rfl : j = i := by omega
          rw [hz] at hy; cases hy; exact h2⟩ (by omega) (((((EnvLe.nil _).cons rfl).cons rfl).cons rfl).cons rfl) (HLe.refl _)
  · skip
    refine .exit (seqQ_x (loopQ_x (blkQ_x ?_)))
    refine seqQ_n ?_
    refine .seq ?_
    refine .region ?_
    refine TriOps.q .assign ?_
    refine .nil ?_
    refine seqQ_n ?_
    refine .ret (retQ_r _ (.one (.tmp rfl)) (.none _) ?_)
    have he : i = l.length := by simp at h1; omega
    subst he
    refine ⟨⟨_, rfl, .inr ⟨fun y hy => ?_, rfl⟩⟩, rfl⟩
    obtain ⟨j, hj, rfl⟩ := List.mem_iff_getElem.1 hy
    exact hn j _ hj (List.getElem?_eq_getElem hj)
theorem containsF_spec (f : FuncId) (caps : List Value) [e : Ent Try.prog f] (p : RB → Bool) (v : Value) (l : List RB) (R : Rds) (h : RS R 1 encRB v l) (hf : ∀ s ∈ l, ∀ R', (∀ b o, R b o → R' b o) → Spec Try.prog f ((fun p : RB => Value.pointer (some ⟨p.1, 0, none⟩)) s :: caps) R' [] fun u H' => u = .bool (p s) ∧ H' = []) :
    Spec Try.prog 80 [v, .func (.func f) #[] caps.toArray] R [] fun u H' => u = .bool (l.any p) ∧ H' = [] := by
  refine Spec.body Try.func80 rfl Try.results80 Try.ntmps80 rfl ?_
  refine .seq ?_
  refine .region ?_
  refine TriOps.q .assign ?_
  refine .nil ?_
  refine seqQ_n ?_
  refine .seq ?_
  refine .region ?_
  refine TriOps.q .move ?_
  refine TriOps.q .move ?_
  refine TriOps.callR (indexF_spec f caps p v l _ h.rx fun s hs R' hR => hf s hs R' fun b o hb => hR b o (.inl hb)) (fun u hu => ?_)
  obtain ⟨k, rfl, hk⟩ := hu
  have hkk : decide (0 ≤ k) = l.any p := by
    rcases hk with ⟨i, x, h1, h2, _, rfl⟩ | ⟨h1, rfl⟩
    · rw [List.any_eq_true.2 ⟨x, List.mem_of_getElem? h1, h2⟩]; simp
    · rw [List.any_eq_false.2 fun y hy => by rw [h1 y hy]; simp]; rfl
  refine TriOps.q .geq ?_
  refine TriOps.q .assign ?_
  refine .nil ?_
  refine seqQ_n ?_
  refine .ret (retQ_r _ (.one (.tmp rfl)) (.none _) ?_)
  exact ⟨by simp only [hkk], rfl⟩
theorem delF_spec (f : FuncId) (caps : List Value) [e : Ent Try.prog f] (p : RB → Bool) (v : Value) (xs : List RB) (Tx : Seg) (R : Rds) (h : OS 133 1 encRB v xs Tx) (hf : ∀ s ∈ xs, ∀ R', (∀ b o, R b o → R' b o) → Spec Try.prog f ((fun p : RB => Value.pointer (some ⟨p.1, 0, none⟩)) s :: caps) R' [] fun u H' => u = .bool (p s) ∧ H' = []) :
    Spec Try.prog 105 [v, .func (.func f) #[] caps.toArray] R [Tx] fun v' H' => ∃ Tx', H' = [Tx'] ∧ OS 133 1 encRB v' (xs.filter fun y => !p y) Tx' := by
  obtain ⟨pr, cap, rfl, hcap⟩ := h.shape
  obtain ⟨n, hn⟩ : ∃ n, n = xs.length := ⟨_, rfl⟩
  rw [← hn] at h hcap ⊢
  have hle := h.le
  refine Spec.body Try.func105 rfl Try.results105 Try.ntmps105 rfl ?_
  refine .seq ?_
  refine .region ?_
  refine TriOps.q .assign ?_
  refine .nil ?_
  refine seqQ_n ?_
  refine .seq ?_
  refine .region ?_
  refine TriOps.q .move ?_
  refine TriOps.q .move ?_
  refine TriOps.callR (indexF_spec f caps p _ xs _ (h.rs fun q hq => .inr (by simpa using hq)) fun s hs R' hR => hf s hs R' fun b o hb => hR b o (.inl hb)) (fun v hv => ?_)
  obtain ⟨j, rfl, hj⟩ := hv
  refine TriOps.q .assign ?_
  refine .nil ?_
  refine seqQ_n ?_
  refine .seq ?_
  refine .seq ?_
  refine .region ?_
  refine TriOps.q .move ?_
  refine TriOps.q .eqI ?_
  refine .nil ?_
  refine seqQ_n ?_
  refine .cond rfl (fun h1 => ?_) (fun h1 => ?_)
  · skip
    have hj1 : j = -1 := by simpa using h1
    have hj2 : ∀ y ∈ xs, p y = false := by
      rcases hj with ⟨i, x, _, _, _, h4⟩ | ⟨h1, _⟩
      · omega
      · exact h1
    refine .seq ?_
    refine .region ?_
    refine TriOps.q .move ?_
    refine TriOps.q .assign ?_
    refine .nil ?_
    refine seqQ_n ?_
    refine .ret (seqQ_r (retQ_r _ (.one (.tmp rfl)) (.one [0] _) ?_))
    exact ⟨Tx, by simp [take], by rw [df_none hj2]; exact h⟩
  · skip
    obtain ⟨i0, x0, hx0, hp0, hb0, rfl⟩ : ∃ (i : Nat) (x : RB), xs[i]? = some x ∧ p x = true ∧ (∀ j y, j < i → xs[j]? = some y → p y = false) ∧ j = i := by
      rcases hj with hj | ⟨_, h2⟩
      · exact hj
      · subst h2; simp at h1
    have hi0 : i0 < xs.length := (List.getElem?_eq_some_iff.1 hx0).1
    refine .skip ?_
    refine seqQ_n ?_
    refine .seq ?_
    refine .seq ?_
    refine .region ?_
    refine TriOps.q .move ?_
    refine TriOps.q (.inc (n := i0) (by omega)) ?_
    refine TriOps.q .assign ?_
    refine .nil ?_
    refine seqQ_n ?_
    refine .block ?_
    refine .loop (X := Nat × Nat × List RB × Seg) (fun y => (y.1 ≤ y.2.1 ∧ y.2.1 ≤ n) ∧ (y.2.2.1.length = n ∧ y.2.2.1.take y.1 = (xs.take y.2.1).filter (fun y => !p y) ∧ y.2.2.1.drop y.2.1 = xs.drop y.2.1) ∧ OS 133 1 encRB (.slice pr n cap) y.2.2.1 y.2.2.2) (fun y => [(0, .slice pr n cap), (1, .func (.func f) #[] caps.toArray), (5, .int .i64 (y.1 : Nat)), (6, .int .i64 (y.2.1 : Nat))]) (fun y => [y.2.2.2]) (fun y => n - y.2.1) (i0, i0 + 1, xs, Tx) ⟨⟨by simp, by simp only; omega⟩, ⟨hn.symm, df_first hx0 hp0 hb0, rfl⟩, h⟩ (((((EnvLe.nil _).cons rfl).cons rfl).cons rfl).cons rfl) (HLe.refl _) ?_
    rintro ⟨i, j, ys, Ty⟩ ⟨⟨hij, hjn⟩, ⟨hyl, hyt, hyd⟩, hO⟩
    simp only at hij hjn hyl hyt hyd hO ⊢
    refine .seq ?_
    refine .seq ?_
    refine .region ?_
    refine TriOps.q .move ?_
    refine TriOps.q .move ?_
    refine TriOps.q (.lenO hO) ?_
    refine TriOps.q .lss ?_
    refine .nil ?_
    refine seqQ_n ?_
    refine .cond rfl (fun h2 => ?_) (fun h2 => ?_)
    · skip
      have hlt : j < n := by simp at h2; omega
      obtain ⟨z, hz⟩ : ∃ z, ys[j]? = some z := ⟨_, List.getElem?_eq_getElem (by omega)⟩
      have hzx : xs[j]? = some z := by rw [← df_get hyd]; exact hz
      obtain ⟨u, hu⟩ : ∃ u, ys[i]? = some u := ⟨_, List.getElem?_eq_getElem (by omega)⟩
      have hzo := (⟨hO.one z (List.mem_of_getElem? hz)⟩ : Ones (encRB z))
      refine .skip ?_
      refine seqQ_n ?_
      refine .seq ?_
      refine .block ?_
      refine .seq ?_
      refine .region ?_
      refine TriOps.q .move ?_
      refine TriOps.q .move ?_
      refine TriOps.indexO j hO hz (fun ps => ?_)
      refine TriOps.q (.load1 rfl) ?_
      refine TriOps.q .assign ?_
      refine .nil ?_
      refine seqQ_n ?_
      refine .seq ?_
      refine .region ?_
      refine TriOps.q .move ?_
      refine TriOps.q .move ?_
      refine TriOps.callRV (first := []) (captured := caps) (vs := [(fun p : RB => Value.pointer (some ⟨p.1, 0, none⟩)) z]) (hf z (List.mem_of_getElem? hzx) _ fun b o hb => .inl hb) (fun v' hv => ?_)
      subst hv
      refine TriOps.q .not ?_
      refine .nil ?_
      refine seqQ_n ?_
      refine .cond rfl (fun h3 => ?_) (fun h3 => ?_)
      · skip
        refine .seq ?_
        refine .region ?_
        refine TriOps.q .move ?_
        refine TriOps.q .move ?_
        refine TriOps.q .move ?_
        refine TriOps.indexO i hO hu (fun ps2 => ?_)
        refine TriOps.storeO1 i hO hu z (fun Ty' hO' => ?_)
        refine .nil ?_
        refine seqQ_n ?_
        refine .region ?_
        refine TriOps.q .move ?_
        refine TriOps.q (.inc (n := i) (by omega)) ?_
        refine TriOps.q .assign ?_
        refine .nil ?_
        refine blkQ_n (seqQ_n ?_)
        refine .region ?_
        refine TriOps.q .move ?_
        refine TriOps.q (.inc (n := j) (by omega)) ?_
        refine TriOps.q .assign ?_
        refine .nil ?_
        first
          | exact loopQ_i (i + 1, j + 1, ys.set i z, Ty') ⟨⟨by simp only; omega, by simp only; omega⟩, ⟨by simp [hyl], df_keep hyt hzx (by omega) h3, by simp only; rw [List.drop_set_of_lt (by omega)]; exact df_drop hyd⟩, hO'⟩ (by simp only; omega) (((((EnvLe.nil _).cons rfl).cons rfl).cons rfl).cons rfl) (by first | exact HLe.pick [1] _ | exact HLe.refl _)
          | exact loopQ_i (i, j + 1, ys, Ty) ⟨⟨by simp only; omega, by simp only; omega⟩, ⟨hyl, df_skip hyt hzx h3, df_drop hyd⟩, hO⟩ (by simp only; omega) (((((EnvLe.nil _).cons rfl).cons rfl).cons rfl).cons rfl) (by first | exact HLe.pick [1] _ | exact HLe.refl _)
      · skip
        refine .skip ?_
        refine blkQ_n (seqQ_n ?_)
        refine .region ?_
        refine TriOps.q .move ?_
        refine TriOps.q (.inc (n := j) (by omega)) ?_
        refine TriOps.q .assign ?_
        refine .nil ?_
        first
          | exact loopQ_i (i + 1, j + 1, ys.set i z, Ty') ⟨⟨by simp only; omega, by simp only; omega⟩, ⟨by simp [hyl], df_keep hyt hzx (by omega) h3, by simp only; rw [List.drop_set_of_lt (by omega)]; exact df_drop hyd⟩, hO'⟩ (by simp only; omega) (((((EnvLe.nil _).cons rfl).cons rfl).cons rfl).cons rfl) (by first | exact HLe.pick [1] _ | exact HLe.refl _)
          | exact loopQ_i (i, j + 1, ys, Ty) ⟨⟨by simp only; omega, by simp only; omega⟩, ⟨hyl, df_skip hyt hzx h3, df_drop hyd⟩, hO⟩ (by simp only; omega) (((((EnvLe.nil _).cons rfl).cons rfl).cons rfl).cons rfl) (by first | exact HLe.pick [1] _ | exact HLe.refl _)
    · skip
      refine .exit (seqQ_x (loopQ_x (blkQ_x ?_)))
      refine seqQ_n ?_
      refine .seq ?_
      refine .region ?_
      refine TriOps.q .move ?_
      refine TriOps.q .move ?_
      have hjn' : j = n := by simp at h2; omega
      refine TriOps.q (.sliceE (sz := 1) i n ⟨_, rfl⟩ rfl (by omega) (by omega)) ?_
      refine TriOps.clearTail i hO (by omega) rfl (fun Ty2 hO2 => ?_)
      refine .nil ?_
      refine seqQ_n ?_
      refine .seq ?_
      refine .region ?_
      refine TriOps.q .move ?_
      refine TriOps.q .move ?_
      refine TriOps.q (.sliceE (sz := 1) (n := n) (cap := cap) (p := pr) 0 i rfl ⟨_, rfl⟩ (by omega) (by omega)) ?_
      refine TriOps.q .assign ?_
      refine .nil ?_
      refine seqQ_n ?_
      refine .ret (retQ_r _ (.one (.tmp rfl)) (.one [0] _) ?_)
      refine ⟨Ty2, by simp [take], ?_⟩
      rw [hyt, hjn', hn, List.take_length] at hO2
      exact hO2
end LRP
end Go.Proofs.Ytkepgbimlolemaa
