/- Lists of texts: whether one is among them, whether all are of a kind, whether no two are alike; the library's and the document's ways. No condition. -/
import Derived.Test.YtlmdgdehjpahiaaBase
import Derived.Test.YtlmdgdehjpahiaaMot5
import Derived.Test.YtlmdgdehjpahiaaMot3
set_option linter.unusedVariables false
set_option maxRecDepth 4000
namespace Go.Proofs.Ytlmdgdehjpahiaa

instance decMemS (s : ByteArray) (l : List ByteArray) : Decidable (s ∈ l) := decidable_of_iff (l.any (fun x => decide (x = s)) = true) (by simp)
theorem mem_take_succ {α : Type} {l : List α} {i : Nat} {x : α} (h : l[i]? = some x) (y : α) : y ∈ l.take (i + 1) ↔ y ∈ l.take i ∨ y = x := by
  rw [List.take_add_one, h]; simp
theorem nodup_take_succ {α : Type} {l : List α} {i : Nat} {x : α} (h : l[i]? = some x) : (l.take (i + 1)).Nodup ↔ (l.take i).Nodup ∧ x ∉ l.take i := by
  rw [List.take_add_one, h, List.nodup_append]
  simp only [Option.toList_some, List.nodup_cons, List.not_mem_nil, not_false_eq_true, List.nodup_nil, and_self, true_and, List.mem_singleton]
  constructor
  · rintro ⟨h1, h2⟩
    exact ⟨h1, fun hm => h2 x hm x rfl rfl⟩
  · rintro ⟨h1, h2⟩
    exact ⟨h1, fun a ha b hb => by rw [hb]; exact fun e => h2 (e ▸ ha)⟩
theorem sindex_spec (v : Value) (l : List ByteArray) (s : ByteArray) (R : Rds) (h : RS R 1 encS v l) :
    Spec Try.prog 121 [v, .string s] R [] fun u H' => (∃ k : Int, u = .int .i64 k ∧ (0 ≤ k ↔ s ∈ l)) ∧ H' = [] := by
  have hle := h.le
  refine Spec.body Try.func121 rfl Try.results121 Try.ntmps121 rfl ?_
  refine .seq ?_
  refine .region ?_
  refine TriOps.q .assign ?_
  refine .nil ?_
  refine seqQ_n ?_
  refine .seq ?_
  refine .seq ?_
  refine .region ?_
  refine TriOps.q .move ?_
  refine TriOps.q (.lenR h) ?_
  refine TriOps.q .move ?_
  refine .nil ?_
  refine seqQ_n ?_
  refine .block ?_
  refine .loop (X := Nat) (fun i => i ≤ l.length ∧ s ∉ l.take i) (fun i => [(0, v), (1, .string s), (7, .int .i64 l.length), (8, .int .i64 (i : Nat))]) (fun _ => []) (fun i => l.length - i) 0 ⟨by omega, by simp⟩ (((((EnvLe.nil _).cons rfl).cons rfl).cons rfl).cons rfl) (HLe.refl _) ?_
  rintro i ⟨hi, hn⟩
  refine .seq ?_
  refine .region ?_
  refine TriOps.q .lss ?_
  refine .nil ?_
  refine seqQ_n ?_
  refine .seq ?_
  refine .cond rfl (fun h1 => ?_) (fun h1 => ?_)
  · skip
    have hlt : i < l.length := by simp at h1; omega
    obtain ⟨z, hz⟩ : ∃ z, l[i]? = some z := ⟨_, List.getElem?_eq_getElem hlt⟩
    refine .skip ?_
    refine seqQ_n ?_
    refine .seq ?_
    refine .block ?_
    refine .seq ?_
    refine .region ?_
    refine TriOps.q .move ?_
    refine TriOps.q .assign ?_
    refine .nil ?_
    refine seqQ_n ?_
    refine .seq ?_
    refine .region ?_
    refine TriOps.q .move ?_
    refine TriOps.q .move ?_
    refine TriOps.q .move ?_
    refine TriOps.indexR i h hz (fun pz => ?_)
    refine TriOps.q (.load1 rfl) ?_
    refine TriOps.q .eqS ?_
    refine .nil ?_
    refine seqQ_n ?_
    refine .cond rfl (fun h2 => ?_) (fun h2 => ?_)
    · skip
      refine .seq ?_
      refine .region ?_
      refine TriOps.q .move ?_
      refine TriOps.q .assign ?_
      refine .nil ?_
      refine seqQ_n ?_
      refine .ret (blkQ_r (seqQ_r (loopQ_r (blkQ_r (seqQ_r (retQ_r _ (.one (.tmp rfl)) (.none _) ?_))))))
      have he : s = z := by simpa using h2
      exact ⟨⟨_, rfl, by rw [he]; simp [List.mem_of_getElem? hz]⟩, rfl⟩
    · skip
      refine .skip ?_
      refine blkQ_n (seqQ_n ?_)
      refine .region ?_
      refine TriOps.q (.inc (n := i) (by omega)) ?_
      refine TriOps.q .move ?_
      refine .nil ?_
      exact loopQ_i (i + 1) ⟨by omega, by rw [mem_take_succ hz]; simp at h2; simp [hn, h2]⟩ (by omega) (((((EnvLe.nil _).cons rfl).cons rfl).cons rfl).cons rfl) (HLe.refl _)
  · skip
    refine .exit (seqQ_x (loopQ_x (blkQ_x ?_)))
    refine seqQ_n ?_
    refine .seq ?_
    refine .region ?_
    refine TriOps.q .assign ?_
    refine .nil ?_
    refine seqQ_n ?_
    refine .ret (retQ_r _ (.one (.tmp rfl)) (.none _) ?_)
    have he : i = l.length := by simp at h1; omega
    rw [he, List.take_length] at hn
    exact ⟨⟨_, rfl, by simp [hn]⟩, rfl⟩
theorem scontains_spec (v : Value) (l : List ByteArray) (s : ByteArray) (R : Rds) (h : RS R 1 encS v l) :
    Spec Try.prog 94 [v, .string s] R [] fun u H' => u = .bool (decide (s ∈ l)) ∧ H' = [] := by
  refine Spec.body Try.func94 rfl Try.results94 Try.ntmps94 rfl ?_
  refine .seq ?_
  refine .region ?_
  refine TriOps.q .assign ?_
  refine .nil ?_
  refine seqQ_n ?_
  refine .seq ?_
  refine .region ?_
  refine TriOps.q .move ?_
  refine TriOps.q .move ?_
  refine TriOps.callR (sindex_spec v l s _ h.rx) (fun u hu => ?_)
  obtain ⟨k, rfl, hk⟩ := hu
  refine TriOps.q .geq ?_
  refine TriOps.q .assign ?_
  refine .nil ?_
  refine seqQ_n ?_
  refine .ret (retQ_r _ (.one (.tmp rfl)) (.none _) ?_)
  exact ⟨by simp only [hk], rfl⟩
theorem has_spec (v : Value) (l : List ByteArray) (s : ByteArray) (R : Rds) (h : RS R 1 encS v l) :
    Spec Try.prog 95 [v, .string s] R [] fun u H' => u = .bool (decide (s ∈ l)) ∧ H' = [] := by
  have hle := h.le
  refine Spec.body Try.func95 rfl Try.results95 Try.ntmps95 rfl ?_
  refine .seq ?_
  refine .region ?_
  refine TriOps.q .assign ?_
  refine .nil ?_
  refine seqQ_n ?_
  refine .seq ?_
  refine .seq ?_
  refine .region ?_
  refine TriOps.q .assign ?_
  refine .nil ?_
  refine seqQ_n ?_
  refine .block ?_
  refine .loop (X := Nat) (fun i => i ≤ l.length ∧ s ∉ l.take i) (fun i => [(0, v), (1, .string s), (5, .int .i64 (i : Nat))]) (fun _ => []) (fun i => l.length - i) 0 ⟨by omega, by simp⟩ ((((EnvLe.nil _).cons rfl).cons rfl).cons rfl) (HLe.refl _) ?_
  rintro i ⟨hi, hn⟩
  refine .seq ?_
  refine .seq ?_
  refine .region ?_
  refine TriOps.q .move ?_
  refine TriOps.q .move ?_
  refine TriOps.q (.lenR h) ?_
  refine TriOps.q .lss ?_
  refine .nil ?_
  refine seqQ_n ?_
  refine .cond rfl (fun h1 => ?_) (fun h1 => ?_)
  · skip
    have hlt : i < l.length := by simp at h1; omega
    obtain ⟨z, hz⟩ : ∃ z, l[i]? = some z := ⟨_, List.getElem?_eq_getElem hlt⟩
    refine .skip ?_
    refine seqQ_n ?_
    refine .seq ?_
    refine .block ?_
    refine .seq ?_
    refine .region ?_
    refine TriOps.q .move ?_
    refine TriOps.q .move ?_
    refine TriOps.indexR i h hz (fun pz => ?_)
    refine TriOps.q (.load1 rfl) ?_
    refine TriOps.q .move ?_
    refine TriOps.q .eqS ?_
    refine .nil ?_
    refine seqQ_n ?_
    refine .cond rfl (fun h2 => ?_) (fun h2 => ?_)
    · skip
      refine .seq ?_
      refine .region ?_
      refine TriOps.q .assign ?_
      refine .nil ?_
      refine seqQ_n ?_
      refine .ret (blkQ_r (seqQ_r (loopQ_r (blkQ_r (seqQ_r (retQ_r _ (.one (.tmp rfl)) (.none _) ?_))))))
      have he : z = s := by simpa using h2
      exact ⟨by rw [decide_eq_true (he ▸ List.mem_of_getElem? hz)], rfl⟩
    · skip
      refine .skip ?_
      refine blkQ_n (seqQ_n ?_)
      refine .region ?_
      refine TriOps.q .move ?_
      refine TriOps.q (.inc (n := i) (by omega)) ?_
      refine TriOps.q .assign ?_
      refine .nil ?_
      exact loopQ_i (i + 1) ⟨by omega, by rw [mem_take_succ hz]; simp at h2; simp only [hn, false_or]; exact fun e => h2 e.symm⟩ (by omega) ((((EnvLe.nil _).cons rfl).cons rfl).cons rfl) (HLe.refl _)
  · skip
    refine .exit (seqQ_x (loopQ_x (blkQ_x ?_)))
    refine seqQ_n ?_
    refine .seq ?_
    refine .region ?_
    refine TriOps.q .assign ?_
    refine .nil ?_
    refine seqQ_n ?_
    refine .ret (retQ_r _ (.one (.tmp rfl)) (.none _) ?_)
    have he : i = l.length := by simp at h1; omega
    rw [he, List.take_length] at hn
    exact ⟨by rw [decide_eq_false hn], rfl⟩
theorem take_rs {R : Rds} {v : Value} {l : List ByteArray} (h : RS R 1 encS v l) (i : Nat) : (l.drop 0).take (i - 0) = l.take i := by simp
theorem distinct_spec (v : Value) (l : List ByteArray) (R : Rds) (h : RS R 1 encS v l) :
    Spec Try.prog 70 [v] R [] fun u H' => u = .bool (decide l.Nodup) ∧ H' = [] := by
  have hle := h.le
  refine Spec.body Try.func70 rfl Try.results70 Try.ntmps70 rfl ?_
  refine .seq ?_
  refine .region ?_
  refine TriOps.q .assign ?_
  refine .nil ?_
  refine seqQ_n ?_
  refine .seq ?_
  refine .seq ?_
  refine .region ?_
  refine TriOps.q .move ?_
  refine TriOps.q (.lenR h) ?_
  refine TriOps.q .move ?_
  refine .nil ?_
  refine seqQ_n ?_
  refine .block ?_
  refine .loop (X := Nat) (fun i => i ≤ l.length ∧ (l.take i).Nodup) (fun i => [(0, v), (5, v), (6, .int .i64 l.length), (7, .int .i64 (i : Nat))]) (fun _ => []) (fun i => l.length - i) 0 ⟨by omega, by simp⟩ (((((EnvLe.nil _).cons rfl).cons rfl).cons rfl).cons rfl) (HLe.refl _) ?_
  rintro i ⟨hi, hn⟩
  refine .seq ?_
  refine .region ?_
  refine TriOps.q .lss ?_
  refine .nil ?_
  refine seqQ_n ?_
  refine .seq ?_
  refine .cond rfl (fun h1 => ?_) (fun h1 => ?_)
  · skip
    have hlt : i < l.length := by simp at h1; omega
    obtain ⟨z, hz⟩ : ∃ z, l[i]? = some z := ⟨_, List.getElem?_eq_getElem hlt⟩
    refine .skip ?_
    refine seqQ_n ?_
    refine .seq ?_
    refine .block ?_
    refine .seq ?_
    refine .region ?_
    refine TriOps.q .move ?_
    refine TriOps.indexR i h hz (fun pz => ?_)
    refine TriOps.q (.load1 rfl) ?_
    refine TriOps.q .assign ?_
    refine TriOps.q .assign ?_
    refine .nil ?_
    refine seqQ_n ?_
    refine .seq ?_
    refine .region ?_
    refine TriOps.q .move ?_
    refine TriOps.q .move ?_
    refine TriOps.sliceR 0 i h rfl ⟨_, rfl⟩ (by omega) (by omega) (fun v2 hv2 => ?_)
    rw [List.drop_zero, Nat.sub_zero] at hv2
    refine TriOps.q .move ?_
    refine TriOps.callR (scontains_spec v2 _ z _ hv2.rx) (fun u hu => ?_)
    subst hu
    refine .nil ?_
    refine seqQ_n ?_
    refine .cond rfl (fun h2 => ?_) (fun h2 => ?_)
    · skip
      refine .seq ?_
      refine .region ?_
      refine TriOps.q .assign ?_
      refine .nil ?_
      refine seqQ_n ?_
      refine .ret (blkQ_r (seqQ_r (loopQ_r (blkQ_r (seqQ_r (retQ_r _ (.one (.tmp rfl)) (.none _) ?_))))))
      have hx : z ∈ l.take i := by simpa using h2
      exact ⟨by rw [decide_eq_false (fun hc : l.Nodup => ((nodup_take_succ hz).1 (hc.sublist (List.take_sublist _ _))).2 hx)], rfl⟩
    · skip
      refine .skip ?_
      refine blkQ_n (seqQ_n ?_)
      refine .region ?_
      refine TriOps.q (.inc (n := i) (by omega)) ?_
      refine TriOps.q .move ?_
      refine .nil ?_
      exact loopQ_i (i + 1) ⟨by omega, (nodup_take_succ hz).2 ⟨hn, by simpa using h2⟩⟩ (by omega) (((((EnvLe.nil _).cons rfl).cons rfl).cons rfl).cons rfl) (HLe.refl _)
  · skip
    refine .exit (seqQ_x (loopQ_x (blkQ_x ?_)))
    refine seqQ_n ?_
    refine .seq ?_
    refine .region ?_
    refine TriOps.q .assign ?_
    refine .nil ?_
    refine seqQ_n ?_
    refine .ret (retQ_r _ (.one (.tmp rfl)) (.none _) ?_)
    have he : i = l.length := by simp at h1; omega
    rw [he, List.take_length] at hn
    exact ⟨by rw [decide_eq_true hn], rfl⟩
theorem twice_spec (v : Value) (l : List ByteArray) (R : Rds) (h : RS R 1 encS v l) :
    Spec Try.prog 76 [v] R [] fun u H' => u = .bool (!decide l.Nodup) ∧ H' = [] := by
  have hle := h.le
  refine Spec.body Try.func76 rfl Try.results76 Try.ntmps76 rfl ?_
  refine .seq ?_
  refine .region ?_
  refine TriOps.q .assign ?_
  refine .nil ?_
  refine seqQ_n ?_
  refine .seq ?_
  refine .seq ?_
  refine .region ?_
  refine TriOps.q .assign ?_
  refine .nil ?_
  refine seqQ_n ?_
  refine .block ?_
  refine .loop (X := Nat) (fun i => i ≤ l.length ∧ (l.take i).Nodup) (fun i => [(0, v), (3, .int .i64 (i : Nat))]) (fun _ => []) (fun i => l.length - i) 0 ⟨by omega, by simp⟩ (((EnvLe.nil _).cons rfl).cons rfl) (HLe.refl _) ?_
  rintro i ⟨hi, hn⟩
  refine .seq ?_
  refine .seq ?_
  refine .region ?_
  refine TriOps.q .move ?_
  refine TriOps.q .move ?_
  refine TriOps.q (.lenR h) ?_
  refine TriOps.q .lss ?_
  refine .nil ?_
  refine seqQ_n ?_
  refine .cond rfl (fun h1 => ?_) (fun h1 => ?_)
  · skip
    have hlt : i < l.length := by simp at h1; omega
    obtain ⟨z, hz⟩ : ∃ z, l[i]? = some z := ⟨_, List.getElem?_eq_getElem hlt⟩
    refine .skip ?_
    refine seqQ_n ?_
    refine .seq ?_
    refine .block ?_
    refine .seq ?_
    refine .region_tail 7 mixed (by kernel_rfl) ?_
    conv => arg 6; dsimp only [List.take]
    refine TriOps.q .move ?_
    refine TriOps.q .move ?_
    refine TriOps.sliceR 0 i h rfl ⟨_, rfl⟩ (by omega) (by omega) (fun v2 hv2 => ?_)
    rw [List.drop_zero, Nat.sub_zero] at hv2
    refine TriOps.q .move ?_
    refine TriOps.q .move ?_
    refine TriOps.indexR i h hz (fun pz => ?_)
    refine TriOps.q (.load1 rfl) ?_
    refine .nil ?_
    refine TriOps.callR (has_spec v2 _ z _ hv2.rx) (fun u hu => ?_)
    subst hu
    refine .nil ?_
    refine seqQ_n ?_
    refine .cond rfl (fun h2 => ?_) (fun h2 => ?_)
    · skip
      refine .seq ?_
      refine .region ?_
      refine TriOps.q .assign ?_
      refine .nil ?_
      refine seqQ_n ?_
      refine .ret (blkQ_r (seqQ_r (loopQ_r (blkQ_r (seqQ_r (retQ_r _ (.one (.tmp rfl)) (.none _) ?_))))))
      have hx : z ∈ l.take i := by simpa using h2
      exact ⟨by rw [decide_eq_false (fun hc : l.Nodup => ((nodup_take_succ hz).1 (hc.sublist (List.take_sublist _ _))).2 hx)]; rfl, rfl⟩
    · skip
      refine .skip ?_
      refine blkQ_n (seqQ_n ?_)
      refine .region ?_
      refine TriOps.q .move ?_
      refine TriOps.q (.inc (n := i) (by omega)) ?_
      refine TriOps.q .assign ?_
      refine .nil ?_
      exact loopQ_i (i + 1) ⟨by omega, (nodup_take_succ hz).2 ⟨hn, by simpa using h2⟩⟩ (by omega) (((EnvLe.nil _).cons rfl).cons rfl) (HLe.refl _)
  · skip
    refine .exit (seqQ_x (loopQ_x (blkQ_x ?_)))
    refine seqQ_n ?_
    refine .seq ?_
    refine .region ?_
    refine TriOps.q .assign ?_
    refine .nil ?_
    refine seqQ_n ?_
    refine .ret (retQ_r _ (.one (.tmp rfl)) (.none _) ?_)
    have he : i = l.length := by simp at h1; omega
    rw [he, List.take_length] at hn
    exact ⟨by rw [decide_eq_true hn]; rfl, rfl⟩
theorem sindexF_spec (f : FuncId) (caps : List Value) [e : Ent Try.prog f] (p : ByteArray → Bool) (v : Value) (l : List ByteArray) (R : Rds) (h : RS R 1 encS v l) (hf : ∀ s ∈ l, ∀ R', (∀ b o, R b o → R' b o) → Spec Try.prog f (.string s :: caps) R' [] fun u H' => u = .bool (p s) ∧ H' = []) :
    Spec Try.prog 125 [v, .func (.func f) #[] caps.toArray] R [] fun u H' => (∃ k : Int, u = .int .i64 k ∧ (decide (0 ≤ k) = l.any p)) ∧ H' = [] := by
  have hle := h.le
  refine Spec.body Try.func125 rfl Try.results125 Try.ntmps125 rfl ?_
  refine .seq ?_
  refine .region ?_
  refine TriOps.q .assign ?_
  refine .nil ?_
  refine seqQ_n ?_
  refine .seq ?_
  refine .seq ?_
  refine .region ?_
  refine TriOps.q .move ?_
  refine TriOps.q (.lenR h) ?_
  refine TriOps.q .move ?_
  refine .nil ?_
  refine seqQ_n ?_
  refine .block ?_
  refine .loop (X := Nat) (fun i => i ≤ l.length ∧ (l.take i).any p = false) (fun i => [(0, v), (1, .func (.func f) #[] caps.toArray), (7, .int .i64 l.length), (8, .int .i64 (i : Nat))]) (fun _ => []) (fun i => l.length - i) 0 ⟨by omega, by simp⟩ (((((EnvLe.nil _).cons rfl).cons rfl).cons rfl).cons rfl) (HLe.refl _) ?_
  rintro i ⟨hi, hn⟩
  refine .seq ?_
  refine .region ?_
  refine TriOps.q .lss ?_
  refine .nil ?_
  refine seqQ_n ?_
  refine .seq ?_
  refine .cond rfl (fun h1 => ?_) (fun h1 => ?_)
  · skip
    have hlt : i < l.length := by simp at h1; omega
    obtain ⟨z, hz⟩ : ∃ z, l[i]? = some z := ⟨_, List.getElem?_eq_getElem hlt⟩
    have hzm := List.mem_of_getElem? hz
    have hta : (l.take (i + 1)).any p = ((l.take i).any p || p z) := by rw [List.take_add_one, hz, List.any_append]; simp
    refine .skip ?_
    refine seqQ_n ?_
    refine .seq ?_
    refine .block ?_
    refine .seq ?_
    refine .region ?_
    refine TriOps.q .move ?_
    refine TriOps.q .assign ?_
    refine .nil ?_
    refine seqQ_n ?_
    refine .seq ?_
    refine .region ?_
    refine TriOps.q .move ?_
    refine TriOps.q .move ?_
    refine TriOps.q .move ?_
    refine TriOps.indexR i h hz (fun pz => ?_)
    refine TriOps.q (.load1 rfl) ?_
    refine TriOps.callRV (first := []) (captured := caps) (vs := [.string z]) (hf z hzm _ fun b o hb => .inl hb) (fun u hu => ?_)
    subst hu
    refine .nil ?_
    refine seqQ_n ?_
    refine .cond rfl (fun h2 => ?_) (fun h2 => ?_)
    · skip
      refine .seq ?_
      refine .region ?_
      refine TriOps.q .move ?_
      refine TriOps.q .assign ?_
      refine .nil ?_
      refine seqQ_n ?_
      refine .ret (blkQ_r (seqQ_r (loopQ_r (blkQ_r (seqQ_r (retQ_r _ (.one (.tmp rfl)) (.none _) ?_))))))
      refine ⟨⟨_, rfl, ?_⟩, rfl⟩
      rw [List.any_eq_true.2 ⟨z, hzm, h2⟩]; simp
    · skip
      refine .skip ?_
      refine blkQ_n (seqQ_n ?_)
      refine .region ?_
      refine TriOps.q (.inc (n := i) (by omega)) ?_
      refine TriOps.q .move ?_
      refine .nil ?_
      exact loopQ_i (i + 1) ⟨by omega, by rw [hta, hn, h2]; rfl⟩ (by omega) (((((EnvLe.nil _).cons rfl).cons rfl).cons rfl).cons rfl) (HLe.refl _)
  · skip
    refine .exit (seqQ_x (loopQ_x (blkQ_x ?_)))
    refine seqQ_n ?_
    refine .seq ?_
    refine .region ?_
    refine TriOps.q .assign ?_
    refine .nil ?_
    refine seqQ_n ?_
    refine .ret (retQ_r _ (.one (.tmp rfl)) (.none _) ?_)
    have he : i = l.length := by simp at h1; omega
    rw [he, List.take_length] at hn
    exact ⟨⟨_, rfl, by rw [hn]; rfl⟩, rfl⟩
theorem scontainsF_spec (f : FuncId) (caps : List Value) [e : Ent Try.prog f] (p : ByteArray → Bool) (v : Value) (l : List ByteArray) (R : Rds) (h : RS R 1 encS v l) (hf : ∀ s ∈ l, ∀ R', (∀ b o, R b o → R' b o) → Spec Try.prog f (.string s :: caps) R' [] fun u H' => u = .bool (p s) ∧ H' = []) :
    Spec Try.prog 109 [v, .func (.func f) #[] caps.toArray] R [] fun u H' => u = .bool (l.any p) ∧ H' = [] := by
  refine Spec.body Try.func109 rfl Try.results109 Try.ntmps109 rfl ?_
  refine .seq ?_
  refine .region ?_
  refine TriOps.q .assign ?_
  refine .nil ?_
  refine seqQ_n ?_
  refine .seq ?_
  refine .region ?_
  refine TriOps.q .move ?_
  refine TriOps.q .move ?_
  refine TriOps.callR (sindexF_spec f caps p v l _ h.rx fun s hs R' hR => hf s hs R' fun b o hb => hR b o (.inl hb)) (fun u hu => ?_)
  obtain ⟨k, rfl, hk⟩ := hu
  refine TriOps.q .geq ?_
  refine TriOps.q .assign ?_
  refine .nil ?_
  refine seqQ_n ?_
  refine .ret (retQ_r _ (.one (.tmp rfl)) (.none _) ?_)
  exact ⟨by simp only [hk], rfl⟩
theorem call1_spec (f : FuncId) [e : Ent Try.prog f] (q : ByteArray → Bool) (s : ByteArray) (b : Nat) (R : Rds) (hb : PC R (.pointer (some ⟨b, 0, none⟩)) [.func (.func f) #[] #[]]) (hf : ∀ R', Spec Try.prog f [.string s] R' [] fun u H' => u = .bool (q s) ∧ H' = []) :
    Spec Try.prog 110 [.string s, .pointer (some ⟨b, 0, none⟩)] R [] fun u H' => u = .bool (!q s) ∧ H' = [] := by
  refine Spec.body Try.func110 rfl Try.results110 Try.ntmps110 rfl ?_
  refine .seq ?_
  refine .region ?_
  refine TriOps.q .assign ?_
  refine .nil ?_
  refine seqQ_n ?_
  refine .seq ?_
  refine .region ?_
  refine TriOps.q (.load1 rfl) ?_
  refine TriOps.q .move ?_
  refine TriOps.callRV (first := []) (captured := []) (vs := [.string s]) (hf _) (fun u hu => ?_)
  subst hu
  refine TriOps.q .not ?_
  refine TriOps.q .assign ?_
  refine .nil ?_
  refine seqQ_n ?_
  refine .ret (retQ_r _ (.one (.tmp rfl)) (.none _) ?_)
  exact ⟨rfl, rfl⟩
theorem call_spec (f : FuncId) [e : Ent Try.prog f] (q : ByteArray → Bool) (v : Value) (l : List ByteArray) (R : Rds) (h : RS R 1 encS v l) (hf : ∀ s ∈ l, ∀ R', Spec Try.prog f [.string s] R' [] fun u H' => u = .bool (q s) ∧ H' = []) :
    Spec Try.prog 71 [v, .func (.func f) #[] #[]] R [] fun u H' => u = .bool (l.all q) ∧ H' = [] := by
  refine Spec.body Try.func71 rfl Try.results71 Try.ntmps71 rfl ?_
  refine .seq ?_
  refine .region ?_
  refine TriOps.box1 rfl (fun b3 => ?_)
  refine TriOps.q .assign ?_
  refine .nil ?_
  refine seqQ_n ?_
  refine .seq ?_
  refine .region ?_
  refine TriOps.q .move ?_
  refine TriOps.q .makeFunc ?_
  refine TriOps.callR (scontainsF_spec 110 [.pointer (some ⟨b3, 0, none⟩)] (fun s => !q s) v l _ h.rx fun s hs R' hR => call1_spec f q s b3 R' (PC.of (E := 30) (fr := (0, 0)) (hR _ _ (.inr (by simp)))) (hf s hs)) (fun u hu => ?_)
  subst hu
  refine TriOps.q .not ?_
  refine TriOps.q .assign ?_
  refine .nil ?_
  refine seqQ_n ?_
  refine .ret (retQ_r _ (.one (.tmp rfl)) (.none _) ?_)
  exact ⟨by congr 1; rw [List.all_eq_not_any_not], rfl⟩
end Go.Proofs.Ytlmdgdehjpahiaa
