/- Clients: a registry, what is copied; New, Get, Auth. No condition. -/
import Derived.Test.YtlmdgdehjpahiaaCliB
import Derived.Test.YtlmdgdehjpahiaaMot3
import Derived.Test.YtlmdgdehjpahiaaTxs
set_option linter.unusedVariables false
set_option maxRecDepth 4000
namespace Go.Proofs.Ytlmdgdehjpahiaa

def Cli.few (c : Cli) : Prop := c.uris.length ≤ 1000000 ∧ c.scopes.length ≤ 1000000
def Cli.zero : Cli := ⟨⟨#[]⟩, ⟨#[]⟩, [], []⟩
def CR.zero : CR := ⟨⟨#[]⟩, ⟨#[]⟩, .slice none 0 0, .slice none 0 0⟩
theorem CliR.zero (R : Rds) : CliR R CR.zero Cli.zero := ⟨rfl, rfl, RS.nil', RS.nil'⟩
theorem copied_spec (r : CR) (c : Cli) (R : Rds) (h : CliR R r c) (hf : c.few) : Spec Try.prog 80 [.agg r.cells.toArray] R [] fun v H' => ∃ T, H' = [T] ∧ ∃ r', v = .agg r'.cells.toArray ∧ CliR (sg T) r' c := by
  have io : Ones r.cells := ⟨h.ones⟩
  obtain ⟨rid, rsec, vu, vs⟩ := r
  obtain ⟨e1, e2, hu, hs⟩ := h
  simp only at e1 e2 hu hs
  subst e1; subst e2
  have i1 := hu.oneCell
  have i2 := hs.oneCell
  refine Spec.body Try.func80 rfl Try.results80 Try.ntmps80 rfl ?_
  refine .seq ?_
  refine .region ?_
  refine TriOps.boxA rfl (fun b1 => ?_)
  refine TriOps.allocA (fun b2 => ?_)
  refine .nil ?_
  refine seqQ_n ?_
  refine .seq ?_
  refine .region_all [7, 9] mixed ?_
  refine RA.takeO 0 rfl (.fieldAddr rfl) (by kernel_rfl) ?_
  refine RA.takeO 1 rfl (.load1 rfl) (by kernel_rfl) ?_
  refine RA.takeO 3 rfl (.fieldAddr rfl) (by kernel_rfl) ?_
  refine RA.takeO 4 rfl (.load1 rfl) (by kernel_rfl) ?_
  refine RA.step 2 rfl (by kernel_rfl) rfl ?_
  refine TriOps.callN (sclone_spec vu c.uris _ hu.rx hf.1) (fun v1 T1 hO1 => ?_)
  have i3 := hO1.oneCell
  refine .nil (Next.sub ?_)
  refine RA.takeO 6 rfl (.fieldAddr rfl) (by kernel_rfl) ?_
  refine RA.step 5 rfl (by kernel_rfl) rfl ?_
  refine TriOps.callN (sclone_spec vs c.scopes _ hs.rx hf.2) (fun v2 T2 hO2 => ?_)
  have i4 := hO2.oneCell
  refine .nil (Next.sub ?_)
  refine RA.step 7 rfl (by kernel_rfl) rfl ?_
  refine TriOps.store1 rfl rfl ?_
  refine .nil (Next.mod rfl ?_)
  refine RA.take 8 rfl (.fieldAddrA rfl) (by kernel_rfl) ?_
  refine RA.step 9 rfl (by kernel_rfl) rfl ?_
  refine TriOps.store1 rfl rfl ?_
  refine .nil (Next.mod rfl ?_)
  refine RA.nil (by kernel_rfl) ?_
  refine seqQ_n ?_
  refine .seq ?_
  refine .region ?_
  refine TriOps.q (.loadA rfl) ?_
  refine TriOps.storeA rfl rfl ?_
  refine .nil ?_
  refine seqQ_n ?_
  refine .ret (retQ_r _ (.one (.cellA rfl rfl)) (.one [0, 0] _) ?_)
  exact ⟨T2 ++ T1, by simp [take, dropAt], ⟨c.id, c.secret, v1, v2⟩, rfl, rfl, rfl, hO1.sg.right, hO2.sg.left⟩

/-- A registry: its clients. -/
def RI (g : Nat) (A : List Cli) (T : Seg) : Prop := ∃ vm M Tm Ti, T = (g, .cells [vm].toArray 107 (0, 0)) :: (Tm ++ Ti) ∧ MS (fun s : ByteArray => .string s) (fun p : CR × Cli => .agg p.1.cells.toArray) vm M Tm ∧
  (∀ p ∈ M, p.1 = p.2.2.id ∧ CliR (sg Ti) p.2.1 p.2.2 ∧ p.2.2.few) ∧ (M.map (·.2.2)).Perm A
def cget (id : ByteArray) (A : List Cli) : Option Cli := A.find? fun c => decide (c.id = id)
theorem ri_get {M : List (ByteArray × (CR × Cli))} {Ti : Seg} {A : List Cli} (hn : (M.map (·.1)).Nodup) (hM : ∀ p ∈ M, p.1 = p.2.2.id ∧ CliR (sg Ti) p.2.1 p.2.2 ∧ p.2.2.few) (hA : (M.map (·.2.2)).Perm A) (id : ByteArray) :
    (mget id M = none ∧ cget id A = none ∧ ∀ c ∈ A, c.id ≠ id) ∨ ∃ r c, mget id M = some (r, c) ∧ cget id A = some c ∧ c.id = id ∧ CliR (sg Ti) r c ∧ c.few ∧ c ∈ A := by
  have nA : (A.map (·.id)).Nodup := by
    refine ((hA.map (·.id)).nodup_iff).1 ?_
    rw [List.map_map]
    have : M.map ((fun c : Cli => c.id) ∘ fun p : ByteArray × (CR × Cli) => p.2.2) = M.map (·.1) := List.map_congr_left fun p hp => (hM p hp).1.symm
    rw [this]; exact hn
  cases hm : mget id M with
  | none =>
    have h1 := mget_none.1 hm
    have h2 : ∀ c ∈ A, c.id ≠ id := fun c hc he => by
      obtain ⟨p, hp, rfl⟩ := List.mem_map.1 (hA.mem_iff.2 hc)
      exact h1 (List.mem_map.2 ⟨p, hp, (hM p hp).1.trans he⟩)
    exact .inl ⟨rfl, List.find?_eq_none.2 fun c hc => by simpa using h2 c hc, h2⟩
  | some q =>
    obtain ⟨r, c⟩ := q
    have h1 := mget_some hm
    obtain ⟨h2, h3, h4⟩ := hM _ h1
    have hc : c ∈ A := hA.mem_iff.1 (List.mem_map.2 ⟨_, h1, rfl⟩)
    refine .inr ⟨r, c, rfl, ?_, h2.symm, h3, h4, hc⟩
    cases hf : cget id A with
    | none => exact absurd h2.symm (by have := List.find?_eq_none.1 hf c hc; simpa using this)
    | some c' =>
      have h5 := List.mem_of_find?_eq_some hf
      have h6 : c'.id = id := by simpa using List.find?_some hf
      obtain ⟨i, hi, rfl⟩ := List.mem_iff_getElem.1 h5
      obtain ⟨j, hj, hje⟩ := List.mem_iff_getElem.1 hc
      have : i = j := (List.getElem_inj (xs := A.map fun c : Cli => c.id) (i := i) (j := j) (h₀ := by simpa using hi) (h₁ := by simpa using hj) nA).1 (by simp [h6, hje]; exact h2)
      subst this
      rw [hje]
theorem cnew_spec (R : Rds) : Spec Try.prog 23 [] R [] fun v H' => ∃ T, H' = [T] ∧ ∃ g, v = .pointer (some ⟨g, 0, none⟩) ∧ RI g [] T := by
  refine Spec.body Try.func23 rfl Try.results23 Try.ntmps23 rfl ?_
  refine .seq ?_
  refine .region ?_
  refine TriOps.q .assign ?_
  refine .nil ?_
  refine seqQ_n ?_
  refine .seq ?_
  refine .region ?_
  refine TriOps.makeMap (fun b1 => ?_)
  refine TriOps.q .bld ?_
  refine TriOps.boxA rfl (fun b3 => ?_)
  refine TriOps.q .assign ?_
  refine .nil ?_
  refine seqQ_n ?_
  refine .ret (retQ_r _ (.one (.tmp rfl)) (.one [0, 0] _) ?_)
  exact ⟨_, rfl, _, rfl, .map (some b1), [], _, [], by simp [take, dropAt]; rfl, MS.nil, by simp, .refl _⟩
theorem cok_spec (g b : Nat) (R : Rds) [pc : PC R (.pointer (some ⟨g, 0, none⟩)) [.map (some b)]] : Spec Try.prog 79 [.pointer (some ⟨g, 0, none⟩)] R [] fun v H' => v = .bool true ∧ H' = [] := by
  refine Spec.body Try.func79 rfl Try.results79 Try.ntmps79 rfl ?_
  refine .seq ?_
  refine .region ?_
  refine TriOps.q .assign ?_
  refine .nil ?_
  refine seqQ_n ?_
  refine .seq ?_
  refine .region ?_
  refine TriOps.q .move ?_
  refine TriOps.q (.neNilP rfl rfl) ?_
  refine TriOps.q .move ?_
  refine TriOps.gt rfl ?_
  refine TriOps.q .move ?_
  refine TriOps.gt rfl ?_
  refine TriOps.q (.nilCheck rfl) ?_
  refine TriOps.gt rfl ?_
  refine TriOps.q (.fieldAddr rfl) ?_
  refine TriOps.gt rfl ?_
  refine TriOps.q (.load1 rfl) ?_
  refine TriOps.gt rfl ?_
  refine TriOps.q (.neNilM rfl rfl) ?_
  refine TriOps.q .pickT ?_
  refine TriOps.q .assign ?_
  refine .nil ?_
  refine seqQ_n ?_
  refine .ret (retQ_r _ (.one (.tmp rfl)) (.none _) ?_)
  exact ⟨rfl, rfl⟩
theorem cget_spec (g : Nat) (A : List Cli) (T : Seg) (h : RI g A T) (id : ByteArray) (R : Rds) (hr : ∀ p ∈ T, R p.1 p.2) :
    Spec Try.prog 49 [.pointer (some ⟨g, 0, none⟩), .string id] R [] fun v H' => ∃ T', H' = [T'] ∧ ∃ r', v = .tuple [.agg r'.cells.toArray, .bool (cget id A).isSome].toArray ∧ CliR (sg T') r' ((cget id A).getD Cli.zero) := by
  obtain ⟨vm, M, Tm, Ti, rfl, hM, hI, hA⟩ := h
  obtain ⟨bm, rfl⟩ : ∃ b, vm = .map (some b) := by obtain ⟨b, es, clock, h1, _⟩ := hM; exact ⟨b, h1⟩
  have pq : PC R (.pointer (some ⟨g, 0, none⟩)) [.map (some bm)] := PC.of (E := 107) (fr := (0, 0)) (hr (g, .cells [.map (some bm)].toArray 107 (0, 0)) (by simp))
  have rm : ∀ H', RM (Rx R H') (fun s : ByteArray => .string s) (fun p : CR × Cli => .agg p.1.cells.toArray) (.map (some bm)) M := fun H' => hM.rm fun p hp => .inl (hr p (by simp [hp]))
  have hT : ∀ b o, sg Ti b o → R b o := fun b o hb => hr (b, o) (by have : (b, o) ∈ Ti := hb; simp [this])
  obtain ⟨r0, hr0, hc0, hs0, hf0⟩ : ∃ r0 : CR, ((mget id M).map fun p : CR × Cli => Value.agg p.1.cells.toArray).getD (.agg CR.zero.cells.toArray) = .agg r0.cells.toArray ∧ CliR R r0 ((cget id A).getD Cli.zero) ∧ (mget id M).isSome = (cget id A).isSome ∧ ((cget id A).getD Cli.zero).few := by
    rcases ri_get hM.nd hI hA id with ⟨h1, h2, _⟩ | ⟨r, c, h1, h2, _, h3, h4, _⟩
    · rw [h1, h2]; exact ⟨CR.zero, rfl, CliR.zero R, rfl, by simp [Cli.few, Cli.zero]⟩
    · rw [h1, h2]; exact ⟨r, rfl, h3.mono hT, rfl, h4⟩
  have i0 : Ones r0.cells := ⟨hc0.ones⟩
  refine Spec.body Try.func49 rfl Try.results49 Try.ntmps49 rfl ?_
  refine .seq ?_
  refine .region ?_
  refine TriOps.allocA (fun b4 => ?_)
  refine TriOps.q .assign ?_
  refine .nil ?_
  refine seqQ_n ?_
  refine .seq ?_
  refine .seq ?_
  refine .region ?_
  refine TriOps.q .move ?_
  refine TriOps.callR (cok_spec g bm _) (fun v hv => ?_)
  subst hv
  refine TriOps.q .not ?_
  refine .nil ?_
  refine seqQ_n ?_
  refine .condF ?_
  refine .skip ?_
  refine seqQ_n ?_
  refine .seq ?_
  refine .region ?_
  refine TriOps.q .move ?_
  refine TriOps.q (.nilCheck rfl) ?_
  refine TriOps.q (.fieldAddr rfl) ?_
  refine TriOps.q (.load1 rfl) ?_
  refine TriOps.q .move ?_
  refine TriOps.q (Quiet.cast (v' := .tuple [.agg r0.cells.toArray, .bool (cget id A).isSome].toArray) (.lookup2 (rm _) rfl (show _ = some (Value.string id) from rfl)) (by rw [← hs0, ← hr0]; rfl)) ?_
  refine TriOps.q .move ?_
  refine TriOps.q .extract ?_
  refine TriOps.q .extract ?_
  refine TriOps.allocA (fun b6 => ?_)
  refine TriOps.storeA rfl rfl ?_
  refine TriOps.q .assign ?_
  refine .nil ?_
  refine seqQ_n ?_
  refine .seq ?_
  refine .region ?_
  refine TriOps.q (.loadA rfl) ?_
  refine TriOps.callN (copied_spec r0 _ _ (hc0.mono fun b o hb => .inl hb) hf0) (fun v T1 hv => ?_)
  obtain ⟨r1, rfl, hc1⟩ := hv
  have i1 : Ones r1.cells := ⟨hc1.ones⟩
  refine TriOps.q .move ?_
  refine TriOps.storeA rfl rfl ?_
  refine TriOps.q .assign ?_
  refine .nil ?_
  refine seqQ_n ?_
  refine .ret (retQ_r _ (.two (.cellA rfl rfl) (.tmp rfl)) (.one [0] _) ?_)
  exact ⟨T1, by simp [take, dropAt], r1, rfl, hc1⟩
theorem cauth_spec (g : Nat) (A : List Cli) (T : Seg) (h : RI g A T) (id sec : ByteArray) (R : Rds) (hr : ∀ p ∈ T, R p.1 p.2) :
    Spec Try.prog 25 [.pointer (some ⟨g, 0, none⟩), .string id, .string sec] R [] fun v H' => v = .int .i64 (if (cget id A).map (·.secret) = some sec then 0 else 17) ∧ H' = [] := by
  refine Spec.body Try.func25 rfl Try.results25 Try.ntmps25 rfl ?_
  refine .seq ?_
  refine .region ?_
  refine TriOps.q .assign ?_
  refine .nil ?_
  refine seqQ_n ?_
  refine .seq ?_
  refine .region ?_
  refine TriOps.q .move ?_
  refine TriOps.q .move ?_
  refine TriOps.callN (cget_spec g A T h id _ fun p hp => .inl (hr p hp)) (fun v T1 hv => ?_)
  obtain ⟨r1, rfl, hc1⟩ := hv
  have i1 : Ones r1.cells := ⟨hc1.ones⟩
  refine TriOps.q .move ?_
  refine TriOps.q .extract ?_
  refine TriOps.q .extract ?_
  refine TriOps.allocA (fun b7 => ?_)
  refine TriOps.storeA rfl rfl ?_
  refine TriOps.q .assign ?_
  refine .nil ?_
  refine seqQ_n ?_
  refine .seq ?_
  refine .seq ?_
  refine .region ?_
  refine TriOps.q .move ?_
  refine TriOps.q .not ?_
  refine TriOps.q .move ?_
  refine TriOps.split (t := 17) rfl (fun g2_2 => ?_) (fun g2_2 => ?_)
  · skip
    refine TriOps.gF g2_2 ?_
    refine TriOps.gF g2_2 ?_
    refine TriOps.gF g2_2 ?_
    refine TriOps.gF g2_2 ?_
    refine TriOps.q (.pickTh g2_2) ?_
    refine .nil ?_
    refine seqQ_n ?_
    refine .condT ?_
    refine .seq ?_
    refine .region ?_
    refine TriOps.q .assign ?_
    refine .nil ?_
    refine seqQ_n ?_
    refine .ret (seqQ_r (retQ_r _ (.one (.tmp rfl)) (.none _) ?_))
    refine ⟨?_, rfl⟩
    congr 1
    have he := hc1.secret
    cases hg : cget id A with
    | none => simp_all
    | some c => rw [hg] at he; simp at he; simp_all
  · skip
    refine TriOps.gT g2_2 ?_
    refine TriOps.q (.fieldAddr rfl) ?_
    refine TriOps.gT g2_2 ?_
    refine TriOps.q (.load1 rfl) ?_
    refine TriOps.gT g2_2 ?_
    refine TriOps.q .move ?_
    refine TriOps.gT g2_2 ?_
    refine TriOps.q .neS ?_
    refine TriOps.q (.pickFh g2_2) ?_
    refine .nil ?_
    refine seqQ_n ?_
    refine .cond rfl (fun h1 => ?_) (fun h1 => ?_)
    · skip
      refine .seq ?_
      refine .region ?_
      refine TriOps.q .assign ?_
      refine .nil ?_
      refine seqQ_n ?_
      refine .ret (seqQ_r (retQ_r _ (.one (.tmp rfl)) (.none _) ?_))
      refine ⟨?_, rfl⟩
      congr 1
      have he := hc1.secret
      cases hg : cget id A with
      | none => simp_all
      | some c => rw [hg] at he; simp at he; simp_all
    · skip
      refine .skip ?_
      refine seqQ_n ?_
      refine .seq ?_
      refine .region ?_
      refine TriOps.q .assign ?_
      refine .nil ?_
      refine seqQ_n ?_
      refine .ret (retQ_r _ (.one (.tmp rfl)) (.none _) ?_)
      refine ⟨?_, rfl⟩
      congr 1
      have he := hc1.secret
      cases hg : cget id A with
      | none => simp_all
      | some c => rw [hg] at he; simp at he; simp_all
end Go.Proofs.Ytlmdgdehjpahiaa
