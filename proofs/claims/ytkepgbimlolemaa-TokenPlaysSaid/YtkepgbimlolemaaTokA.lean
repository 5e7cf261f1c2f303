/- Tokens: what they are; a copy; a vault: New, Family, Last, which tokens may be, put. No condition. -/
import Derived.Test.YtkepgbimlolemaaExpE
import Derived.Test.YtkepgbimlolemaaTxs
import Derived.Test.YtkepgbimlolemaaPoke
import Derived.Test.YtkepgbimlolemaaKw
set_option linter.unusedVariables false
set_option maxRecDepth 4000
namespace Go.Proofs.Ytkepgbimlolemaa
structure Tok where
  text : ByteArray
  kind : Int
  client : ByteArray
  user : ByteArray
  scopes : List ByteArray
  family : Int
  expires : Int
  rev : Int
  used : Bool
abbrev TP : Type := Value × Tok
def encT (p : TP) : List Value := [.string p.2.text, .int .i64 p.2.kind, .string p.2.client, .string p.2.user, p.1, .int .i64 p.2.family, .int .i64 p.2.expires, .int .u64 p.2.rev, .bool p.2.used]
def TokR (R : Rds) (p : TP) : Prop := RS R 1 encS p.1 p.2.scopes
theorem TokR.mono {R R' : Rds} {p : TP} (h : TokR R p) (hr : ∀ b o, R b o → R' b o) : TokR R' p := RS.mono h hr
theorem TokR.ones {R : Rds} {p : TP} (h : TokR R p) : ∀ u ∈ encT p, oneCell u = true := by
  have h1 := h.oneCell.h
  intro u hu
  simp only [encT, List.mem_cons, List.not_mem_nil, or_false] at hu
  rcases hu with rfl | rfl | rfl | rfl | rfl | rfl | rfl | rfl | rfl <;> first | rfl | assumption
def Tok.few (t : Tok) : Prop := t.scopes.length ≤ 1000000
def Tok.zero : Tok := ⟨⟨#[]⟩, 0, ⟨#[]⟩, ⟨#[]⟩, [], 0, 0, 0, false⟩
def tz : TP := (.slice none 0 0, Tok.zero)
theorem TokR.zero (R : Rds) : TokR R tz := RS.nil'
theorem tcopied_spec (w : Value) (t : Tok) (R : Rds) (h : TokR R (w, t)) (hf : t.few) : Spec Try.prog 53 [.agg (encT (w, t)).toArray] R [] fun v H' => ∃ T, H' = [T] ∧ ∃ w', v = .agg (encT (w', t)).toArray ∧ TokR (sg0 T) (w', t) := by
  have io : Ones (encT (w, t)) := ⟨h.ones⟩
  have i1 : One w := h.oneCell
  have hs : RS R 1 encS w t.scopes := h
  refine Spec.body Try.func53 rfl Try.results53 Try.ntmps53 rfl ?_
  refine .seq ?_
  refine .region ?_
  refine TriOps.boxA rfl (fun b1 => ?_)
  refine TriOps.allocA (fun b2 => ?_)
  refine .nil ?_
  refine seqQ_n ?_
  refine .seq ?_
  refine .region ?_
  refine TriOps.q (.fieldAddr rfl) ?_
  refine TriOps.q (.load1 rfl) ?_
  refine TriOps.callN (sclone_spec w t.scopes _ hs.rx hf) (fun v1 T1 hO1 => ?_)
  have i3 := hO1.oneCell
  refine TriOps.q (.fieldAddr rfl) ?_
  refine TriOps.store1 rfl rfl ?_
  refine .nil ?_
  refine seqQ_n ?_
  refine .seq ?_
  refine .region ?_
  refine TriOps.q (.loadA rfl) ?_
  refine TriOps.storeA rfl rfl ?_
  refine .nil ?_
  refine seqQ_n ?_
  refine .ret (retQ_r _ (.one (.cellA rfl rfl)) (.one [0] _) ?_)
  exact ⟨T1, by simp [take], v1, rfl, hO1.sg0⟩
/-- A vault: its tokens by their texts, the last family; what the tokens lead to lies in Td. -/
def VJ (g : Nat) (A : List (ByteArray × Tok)) (last : Int) (Td T0 : Seg) : Prop := ∃ vm M q Tm Tq, T0 = (g, .cells [vm, .pointer (some ⟨q, 0, none⟩), .int .i64 last].toArray 65 (0, 0)) :: (Tm ++ Tq) ∧
  MS (fun s : ByteArray => .string s) (fun p : TP => .agg (encT p).toArray) vm M Tm ∧ (∀ p ∈ M, p.1 = p.2.2.text ∧ TokR (sg0 Td) p.2 ∧ p.2.2.few) ∧ (kmap (fun p : TP => p.2) M).Perm A ∧ QI q (kmap (fun t : Tok => t.expires) A) Tq
def VI (g : Nat) (A : List (ByteArray × Tok)) (last : Int) (T : Seg) : Prop := ∃ Td T0, T = T0 ++ Td ∧ VJ g A last Td T0
theorem vi_nd {M : List (ByteArray × TP)} {A : List (ByteArray × Tok)} (hn : (M.map (·.1)).Nodup) (hA : (kmap (fun p : TP => p.2) M).Perm A) : (A.map (·.1)).Nodup := ((hA.map (·.1)).nodup_iff).1 (by rw [kmap_keys]; exact hn)
theorem vi_get {M : List (ByteArray × TP)} {A : List (ByteArray × Tok)} {Td : Seg} (hn : (M.map (·.1)).Nodup) (hI : ∀ p ∈ M, p.1 = p.2.2.text ∧ TokR (sg0 Td) p.2 ∧ p.2.2.few) (hA : (kmap (fun p : TP => p.2) M).Perm A) (k : ByteArray) :
    ∃ w t, ((mget k M).map fun p : TP => Value.agg (encT p).toArray).getD (.agg (encT tz).toArray) = .agg (encT (w, t)).toArray ∧ TokR (sg0 Td) (w, t) ∧ t.few ∧ (mget k M).isSome = (mget k A).isSome ∧ (mget k A).getD Tok.zero = t ∧ (∀ u, mget k A = some u → u = t ∧ t.text = k ∧ mget k M = some (w, t)) := by
  have hg : mget k A = (mget k M).map (·.2) := by rw [← mget_perm hA (by rw [kmap_keys]; exact hn), kmap_get]
  cases hm : mget k M with
  | none => rw [hm] at hg; rw [hg]; exact ⟨_, _, rfl, TokR.zero _, by simp [Tok.few, Tok.zero], rfl, rfl, fun u hu => by cases hu⟩
  | some p =>
    obtain ⟨w, t⟩ := p
    rw [hm] at hg; rw [hg]
    obtain ⟨h1, h2, h3⟩ := hI _ (mget_some hm)
    exact ⟨w, t, rfl, h2, h3, rfl, rfl, fun u hu => by cases hu; exact ⟨rfl, h1.symm, rfl⟩⟩
theorem VI.keys {g : Nat} {A : List (ByteArray × Tok)} {last : Int} {T : Seg} (h : VI g A last T) : ∀ p ∈ A, p.1 = p.2.text := by
  obtain ⟨Td, _, rfl, vm, M, q, Tm, Tq, rfl, hM, hI, hA, hQ⟩ := h
  intro p hp
  obtain ⟨x, hx, rfl⟩ := mem_kmap (hA.mem_iff.2 hp)
  exact (hI x hx).1
theorem VI.nd {g : Nat} {A : List (ByteArray × Tok)} {last : Int} {T : Seg} (h : VI g A last T) : (A.map (·.1)).Nodup := by
  obtain ⟨Td, _, rfl, vm, M, q, Tm, Tq, rfl, hM, hI, hA, hQ⟩ := h
  exact vi_nd hM.nd hA
theorem VI.perm {g : Nat} {A B : List (ByteArray × Tok)} {last : Int} {T : Seg} (h : VI g A last T) (hp : A.Perm B) : VI g B last T := by
  obtain ⟨Td, _, rfl, vm, M, q, Tm, Tq, rfl, hM, hI, hA, hQ⟩ := h
  exact ⟨Td, _, rfl, vm, M, q, Tm, Tq, rfl, hM, hI, hA.trans hp, hQ.perm (kmap_perm hp)⟩
theorem vnew_spec (R : Rds) : Spec Try.prog 10 [] R [] fun v H' => ∃ T, H' = [T] ∧ ∃ g, v = .pointer (some ⟨g, 0, none⟩) ∧ VI g [] 0 T := by
  refine Spec.body Try.func10 rfl Try.results10 Try.ntmps10 rfl ?_
  refine .seq ?_
  refine .region ?_
  refine TriOps.q .assign ?_
  refine .nil ?_
  refine seqQ_n ?_
  refine .seq ?_
  refine .region ?_
  refine TriOps.makeMap (fun b1 => ?_)
  refine TriOps.callN (qnew_spec _) (fun u T0 hu => ?_)
  obtain ⟨q, rfl, hq⟩ := hu
  refine TriOps.q .bld ?_
  refine TriOps.boxA rfl (fun b4 => ?_)
  refine TriOps.q .assign ?_
  refine .nil ?_
  refine seqQ_n ?_
  refine .ret (retQ_r _ (.one (.tmp rfl)) ((HLe.pick [0, 1, 0] _).trans (HLe.ofPerm (H' := [(b4, .cells [.map (some b1), .pointer (some ⟨q, 0, none⟩), .int .i64 0].toArray 65 (0, 0)) :: ([(b1, .map #[] 0)] ++ T0) ++ []]) (by simp [take, dropAt]; exact .refl _))) ?_)
  exact ⟨_, rfl, _, rfl, [], _, rfl, .map (some b1), [], q, _, T0, rfl, MS.nil, by simp, .refl _, hq⟩
theorem vok_spec (g b : Nat) (x y : Value) (R : Rds) [pc : PC R (.pointer (some ⟨g, 0, none⟩)) [.map (some b), x, y]] : Spec Try.prog 50 [.pointer (some ⟨g, 0, none⟩)] R [] fun v H' => v = .bool true ∧ H' = [] := by
  refine Spec.body Try.func50 rfl Try.results50 Try.ntmps50 rfl ?_
  refine .seq ?_
  refine .region ?_
  refine TriOps.q .assign ?_
  refine .nil ?_
  refine seqQ_n ?_
  refine .seq ?_
  refine .region ?_
  refine TriOps.q .move ?_
  refine TriOps.q (.neNilP rfl rfl) ?_
  refine TriOps.q .move ?_
  refine TriOps.gt rfl ?_
  refine TriOps.q .move ?_
  refine TriOps.gt rfl ?_
  refine TriOps.q (.nilCheck rfl) ?_
  refine TriOps.gt rfl ?_
  refine TriOps.q (.fieldAddr rfl) ?_
  refine TriOps.gt rfl ?_
  refine TriOps.q (.load1 rfl) ?_
  refine TriOps.gt rfl ?_
  refine TriOps.q (.neNilM rfl rfl) ?_
  refine TriOps.q .pickT ?_
  refine TriOps.q .assign ?_
  refine .nil ?_
  refine seqQ_n ?_
  refine .ret (retQ_r _ (.one (.tmp rfl)) (.none _) ?_)
  exact ⟨rfl, rfl⟩
theorem vfamily_spec (g : Nat) (A : List (ByteArray × Tok)) (last : Int) (T : Seg) (h : VI g A last T) (h0 : 0 ≤ last) (h1 : last ≤ 4611686018427387904) (R : Rds) :
    Spec Try.prog 11 [.pointer (some ⟨g, 0, none⟩)] R [T] fun v H' => ∃ T', H' = [T'] ∧ v = .int .i64 (last + 1) ∧ VI g A (last + 1) T' := by
  obtain ⟨Td, _, rfl, vm, M, q, Tm, Tq, rfl, hM, hI, hA, hQ⟩ := h
  obtain ⟨bm, rfl⟩ : ∃ b, vm = .map (some b) := by obtain ⟨b, es, clock, h1, _⟩ := hM; exact ⟨b, h1⟩
  refine Spec.segs (H' := [[(g, .cells [.map (some bm), .pointer (some ⟨q, 0, none⟩), .int .i64 last].toArray 65 (0, 0))], Tm ++ (Tq ++ Td)]) (by simp) ?_
  refine Spec.body Try.func11 rfl Try.results11 Try.ntmps11 rfl ?_
  refine .seq ?_
  refine .region ?_
  refine TriOps.q .assign ?_
  refine .nil ?_
  refine seqQ_n ?_
  refine .seq ?_
  refine .seq ?_
  refine .region ?_
  refine TriOps.q .move ?_
  refine TriOps.callR (vok_spec g bm _ _ _) (fun v hv => ?_)
  subst hv
  refine TriOps.q .not ?_
  refine .nil ?_
  refine seqQ_n ?_
  refine .condF ?_
  refine .skip ?_
  refine seqQ_n ?_
  refine .seq ?_
  refine .region ?_
  refine TriOps.q .move ?_
  refine TriOps.q (.nilCheck rfl) ?_
  refine TriOps.q (.fieldAddr rfl) ?_
  refine TriOps.q (.load1 rfl) ?_
  refine TriOps.q (.i64 (last + 1) .add ⟨by omega, by omega, by omega⟩) ?_
  refine TriOps.q (.nilCheck rfl) ?_
  refine TriOps.q (.fieldAddr rfl) ?_
  refine TriOps.store1 rfl rfl ?_
  refine .nil ?_
  refine seqQ_n ?_
  refine .seq ?_
  refine .region ?_
  refine TriOps.q .move ?_
  refine TriOps.q (.nilCheck rfl) ?_
  refine TriOps.q (.fieldAddr rfl) ?_
  refine TriOps.q (.load1 rfl) ?_
  refine TriOps.q .assign ?_
  refine .nil ?_
  refine seqQ_n ?_
  refine .ret (retQ_r _ (.one (.tmp rfl)) (.one [0, 0] _) ?_)
  exact ⟨((g, .cells [.map (some bm), .pointer (some ⟨q, 0, none⟩), .int .i64 (last + 1)].toArray 65 (0, 0)) :: (Tm ++ Tq)) ++ Td, by simp [take, dropAt]; rfl, rfl, Td, _, rfl, _, M, q, Tm, Tq, rfl, hM, hI, hA, hQ⟩
theorem vlast_spec (g : Nat) (A : List (ByteArray × Tok)) (last : Int) (T : Seg) (h : VI g A last T) (R : Rds) (hr : ∀ p ∈ T, R p.1 p.2) :
    Spec Try.prog 33 [.pointer (some ⟨g, 0, none⟩)] R [] fun v H' => v = .int .i64 last ∧ H' = [] := by
  obtain ⟨Td, _, rfl, vm, M, q, Tm, Tq, rfl, hM, hI, hA, hQ⟩ := h
  obtain ⟨bm, rfl⟩ : ∃ b, vm = .map (some b) := by obtain ⟨b, es, clock, h1, _⟩ := hM; exact ⟨b, h1⟩
  have pq : PC R (.pointer (some ⟨g, 0, none⟩)) [.map (some bm), .pointer (some ⟨q, 0, none⟩), .int .i64 last] := PC.of (E := 65) (fr := (0, 0)) (hr (g, .cells [.map (some bm), .pointer (some ⟨q, 0, none⟩), .int .i64 last].toArray 65 (0, 0)) (by simp))
  refine Spec.body Try.func33 rfl Try.results33 Try.ntmps33 rfl ?_
  refine .seq ?_
  refine .region ?_
  refine TriOps.q .assign ?_
  refine .nil ?_
  refine seqQ_n ?_
  refine .seq ?_
  refine .seq ?_
  refine .region ?_
  refine TriOps.q .move ?_
  refine TriOps.callR (vok_spec g bm _ _ _) (fun v hv => ?_)
  subst hv
  refine TriOps.q .not ?_
  refine .nil ?_
  refine seqQ_n ?_
  refine .condF ?_
  refine .skip ?_
  refine seqQ_n ?_
  refine .seq ?_
  refine .region ?_
  refine TriOps.q .move ?_
  refine TriOps.q (.nilCheck rfl) ?_
  refine TriOps.q (.fieldAddr rfl) ?_
  refine TriOps.q (.load1 rfl) ?_
  refine TriOps.q .assign ?_
  refine .nil ?_
  refine seqQ_n ?_
  refine .ret (retQ_r _ (.one (.tmp rfl)) (.none _) ?_)
  exact ⟨rfl, rfl⟩
def rightB (t : Tok) (last : Int) : Bool := (t.kind == 1 || t.kind == 2) && decide (1 ≤ t.family) && decide (t.family ≤ last)
theorem vright_spec (g : Nat) (x y : Value) (last : Int) (w : Value) (t : Tok) (R : Rds) (ho : One w) [pc : PC R (.pointer (some ⟨g, 0, none⟩)) [x, y, .int .i64 last]] :
    Spec Try.prog 51 [.pointer (some ⟨g, 0, none⟩), .agg (encT (w, t)).toArray] R [] fun v H' => v = .bool (rightB t last) ∧ H' = [] := by
  have io : Ones (encT (w, t)) := ⟨by
    have h1 := ho.h
    intro u hu
    simp only [encT, List.mem_cons, List.not_mem_nil, or_false] at hu
    rcases hu with rfl | rfl | rfl | rfl | rfl | rfl | rfl | rfl | rfl <;> first | rfl | assumption⟩
  refine Spec.body Try.func51 rfl Try.results51 Try.ntmps51 rfl ?_
  refine .seq ?_
  refine .region ?_
  refine TriOps.boxA rfl (fun b3 => ?_)
  refine TriOps.q .assign ?_
  refine .nil ?_
  refine seqQ_n ?_
  refine .seq ?_
  refine .region_still mixed (by kernel_rfl) ?_
  refine TriOps.q (.fieldAddr rfl) ?_
  refine TriOps.q (.load1 rfl) ?_
  refine TriOps.q .eqI ?_
  refine TriOps.q .move ?_
  refine TriOps.split (t := 8) rfl (fun g1_3 => ?_) (fun g1_3 => ?_)
  · skip
    refine TriOps.gF g1_3 ?_
    refine TriOps.gF g1_3 ?_
    refine TriOps.gF g1_3 ?_
    refine TriOps.q (.pickTh g1_3) ?_
    refine TriOps.q .move ?_
    refine TriOps.gt rfl ?_
    refine TriOps.q (.fieldAddr rfl) ?_
    refine TriOps.gt rfl ?_
    refine TriOps.q (.load1 rfl) ?_
    refine TriOps.gt rfl ?_
    refine TriOps.q .geq ?_
    refine TriOps.q .pickT ?_
    refine TriOps.q .move ?_
    refine TriOps.split (t := 18) rfl (fun g1_13 => ?_) (fun g1_13 => ?_)
    · skip
      refine TriOps.gT g1_13 ?_
      refine TriOps.q (.fieldAddr rfl) ?_
      refine TriOps.gT g1_13 ?_
      refine TriOps.q (.load1 rfl) ?_
      refine TriOps.gT g1_13 ?_
      refine TriOps.q .move ?_
      refine TriOps.gT g1_13 ?_
      refine TriOps.q (.nilCheck rfl) ?_
      refine TriOps.gT g1_13 ?_
      refine TriOps.q (.fieldAddr rfl) ?_
      refine TriOps.gT g1_13 ?_
      refine TriOps.q (.load1 rfl) ?_
      refine TriOps.gT g1_13 ?_
      refine TriOps.q .leq ?_
      refine TriOps.q (.pickTh g1_13) ?_
      refine TriOps.q .assign ?_
      refine .nil ?_
      refine seqQ_n ?_
      refine .ret (retQ_r _ (.one (.tmp rfl)) (.none _) ?_)
      refine ⟨congrArg _ ?_, rfl⟩
      unfold rightB
      simp_all <;> omega
    · skip
      refine TriOps.gF g1_13 ?_
      refine TriOps.gF g1_13 ?_
      refine TriOps.gF g1_13 ?_
      refine TriOps.gF g1_13 ?_
      refine TriOps.gF g1_13 ?_
      refine TriOps.gF g1_13 ?_
      refine TriOps.gF g1_13 ?_
      refine TriOps.q (.pickFh g1_13) ?_
      refine TriOps.q .assign ?_
      refine .nil ?_
      refine seqQ_n ?_
      refine .ret (retQ_r _ (.one (.tmp rfl)) (.none _) ?_)
      refine ⟨congrArg _ ?_, rfl⟩
      unfold rightB
      simp_all <;> omega
  · skip
    refine TriOps.gT g1_3 ?_
    refine TriOps.q (.fieldAddr rfl) ?_
    refine TriOps.gT g1_3 ?_
    refine TriOps.q (.load1 rfl) ?_
    refine TriOps.gT g1_3 ?_
    refine TriOps.q .eqI ?_
    refine TriOps.q (.pickFh g1_3) ?_
    refine TriOps.q .move ?_
    refine TriOps.split (t := 13) rfl (fun g1_8 => ?_) (fun g1_8 => ?_)
    · skip
      refine TriOps.gT g1_8 ?_
      refine TriOps.q (.fieldAddr rfl) ?_
      refine TriOps.gT g1_8 ?_
      refine TriOps.q (.load1 rfl) ?_
      refine TriOps.gT g1_8 ?_
      refine TriOps.q .geq ?_
      refine TriOps.q (.pickTh g1_8) ?_
      refine TriOps.q .move ?_
      refine TriOps.split (t := 18) rfl (fun g1_13 => ?_) (fun g1_13 => ?_)
      · skip
        refine TriOps.gT g1_13 ?_
        refine TriOps.q (.fieldAddr rfl) ?_
        refine TriOps.gT g1_13 ?_
        refine TriOps.q (.load1 rfl) ?_
        refine TriOps.gT g1_13 ?_
        refine TriOps.q .move ?_
        refine TriOps.gT g1_13 ?_
        refine TriOps.q (.nilCheck rfl) ?_
        refine TriOps.gT g1_13 ?_
        refine TriOps.q (.fieldAddr rfl) ?_
        refine TriOps.gT g1_13 ?_
        refine TriOps.q (.load1 rfl) ?_
        refine TriOps.gT g1_13 ?_
        refine TriOps.q .leq ?_
        refine TriOps.q (.pickTh g1_13) ?_
        refine TriOps.q .assign ?_
        refine .nil ?_
        refine seqQ_n ?_
        refine .ret (retQ_r _ (.one (.tmp rfl)) (.none _) ?_)
        refine ⟨congrArg _ ?_, rfl⟩
        unfold rightB
        simp_all <;> omega
      · skip
        refine TriOps.gF g1_13 ?_
        refine TriOps.gF g1_13 ?_
        refine TriOps.gF g1_13 ?_
        refine TriOps.gF g1_13 ?_
        refine TriOps.gF g1_13 ?_
        refine TriOps.gF g1_13 ?_
        refine TriOps.gF g1_13 ?_
        refine TriOps.q (.pickFh g1_13) ?_
        refine TriOps.q .assign ?_
        refine .nil ?_
        refine seqQ_n ?_
        refine .ret (retQ_r _ (.one (.tmp rfl)) (.none _) ?_)
        refine ⟨congrArg _ ?_, rfl⟩
        unfold rightB
        simp_all <;> omega
    · skip
      refine TriOps.gF g1_8 ?_
      refine TriOps.gF g1_8 ?_
      refine TriOps.gF g1_8 ?_
      refine TriOps.q (.pickFh g1_8) ?_
      refine TriOps.q .move ?_
      refine TriOps.gf rfl rfl ?_
      refine TriOps.gf rfl rfl ?_
      refine TriOps.gf rfl rfl ?_
      refine TriOps.gf rfl rfl ?_
      refine TriOps.gf rfl rfl ?_
      refine TriOps.gf rfl rfl ?_
      refine TriOps.gf rfl rfl ?_
      refine TriOps.q .pickF ?_
      refine TriOps.q .assign ?_
      refine .nil ?_
      refine seqQ_n ?_
      refine .ret (retQ_r _ (.one (.tmp rfl)) (.none _) ?_)
      refine ⟨congrArg _ ?_, rfl⟩
      unfold rightB
      simp_all <;> omega
theorem vput_spec (g : Nat) (A : List (ByteArray × Tok)) (last : Int) (T : Seg) (h : VI g A last T) (w : Value) (t : Tok) (R : Rds) (ht : TokR R (w, t)) (hf : t.few) (hl : A.length < 1000000000) :
    Spec Try.prog 52 [.pointer (some ⟨g, 0, none⟩), .agg (encT (w, t)).toArray] R [T] fun v H' => ∃ T', H' = [T'] ∧ v = .tuple #[] ∧ VI g (kset t.text t A) last T' := by
  obtain ⟨Td, _, rfl, vm, M, q, Tm, Tq, rfl, hM, hI, hA, hQ⟩ := h
  obtain ⟨bm, rfl⟩ : ∃ b, vm = .map (some b) := by obtain ⟨b, es, clock, h1, _⟩ := hM; exact ⟨b, h1⟩
  have io : Ones (encT (w, t)) := ⟨ht.ones⟩
  refine Spec.segs (H' := [[(g, .cells [.map (some bm), .pointer (some ⟨q, 0, none⟩), .int .i64 last].toArray 65 (0, 0))], Tm, Tq, Td]) (by simp) ?_
  refine Spec.body Try.func52 rfl Try.results52 Try.ntmps52 rfl ?_
  refine .seq ?_
  refine .region ?_
  refine TriOps.boxA rfl (fun b3 => ?_)
  refine .nil ?_
  refine seqQ_n ?_
  refine .seq ?_
  refine .region_all [8] mixed ?_
  refine RA.takeO 0 rfl .move (by kernel_rfl) ?_
  refine RA.takeO 1 rfl (.nilCheck rfl) (by kernel_rfl) ?_
  refine RA.takeO 2 rfl (.fieldAddr rfl) (by kernel_rfl) ?_
  refine RA.takeO 3 rfl (.load1 rfl) (by kernel_rfl) ?_
  refine RA.takeO 4 rfl (.fieldAddr rfl) (by kernel_rfl) ?_
  refine RA.takeO 5 rfl (.load1 rfl) (by kernel_rfl) ?_
  refine RA.takeO 6 rfl (.loadA rfl) (by kernel_rfl) ?_
  refine RA.step 7 rfl (by kernel_rfl) rfl ?_
  refine TriOps.callN (tcopied_spec w t _ (ht.mono fun b o hb => .inl hb) hf) (fun v T1 hv => ?_)
  obtain ⟨w1, rfl, hc1⟩ := hv
  have i1 : Ones (encT (w1, t)) := ⟨hc1.ones⟩
  refine .nil (Next.sub ?_)
  refine RA.step 8 rfl (by kernel_rfl) rfl ?_
  refine TriOps.update (u := ((w1, t) : TP)) hM rfl (show _ = some (Value.string t.text) from rfl) rfl (fun Tm2 hM2 _ => ?_)
  refine .nil (Next.mod rfl ?_)
  refine RA.nil (by kernel_rfl) ?_
  refine seqQ_n ?_
  refine .region_tail 8 mixed (by kernel_rfl) ?_
  conv => arg 6; dsimp only [List.take]
  refine TriOps.q .move ?_
  refine TriOps.q (.nilCheck rfl) ?_
  refine TriOps.q (.fieldAddr rfl) ?_
  refine TriOps.q (.load1 rfl) ?_
  refine TriOps.q (.fieldAddr rfl) ?_
  refine TriOps.q (.load1 rfl) ?_
  refine TriOps.q (.fieldAddr rfl) ?_
  refine TriOps.q (.load1 rfl) ?_
  refine .nil ?_
  refine TriOps.callM (qset_spec q _ Tq hQ t.text t.expires (by rw [kmap_length]; omega) _) (fun v Tq2 hv => ?_)
  obtain ⟨rfl, hQ2⟩ := hv
  refine .nil ?_
  refine retQ_n _ .none (.one [2, 2, 2, 2, 0] _) ?_
  refine ⟨((g, .cells [.map (some bm), .pointer (some ⟨q, 0, none⟩), .int .i64 last].toArray 65 (0, 0)) :: (Tm2 ++ Tq2)) ++ (Td ++ T1), by simp [take, dropAt], rfl, Td ++ T1, _, rfl, _, _, q, Tm2, Tq2, rfl, hM2, fun p hp => ?_, ?_, by rw [kmap_set]; exact hQ2⟩
  · rcases mset_mem hM.nd hp with hp | rfl
    · obtain ⟨q1, q2, q3⟩ := hI p hp
      exact ⟨q1, q2.mono fun b o hb => sg0_left hb, q3⟩
    · exact ⟨rfl, hc1.mono fun b o hb => sg0_right hb, hf⟩
  · exact (kmap_perm (mset_perm hM.nd)).trans (by rw [kmap_set]; exact kset_perm hA)
end Go.Proofs.Ytkepgbimlolemaa
