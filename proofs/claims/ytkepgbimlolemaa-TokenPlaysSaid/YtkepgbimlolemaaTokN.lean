/- Tokens: the document's vault: Find, Put, Cut, Rotate, Revoke, Drop, Sweep, beside the program's. No condition. -/
import Derived.Test.YtkepgbimlolemaaTokI
import Derived.Test.YtkepgbimlolemaaTokM
import Derived.Test.YtkepgbimlolemaaIns
set_option linter.unusedVariables false
set_option maxRecDepth 4000
namespace Go.Proofs.Ytkepgbimlolemaa
def RTV (x : Nat) (ps : List TP) (last : Int) (T : Seg) : Prop := ∃ vt Tt, T = (x, .cells [vt, .int .i64 last].toArray 49 (0, 0)) :: Tt ∧ OS 26 9 encT vt ps Tt ∧ ps.length ≤ 1000
/-- Both vaults, side by side. -/
structure BothT (A : List (ByteArray × Tok)) (ps : List TP) : Prop where
  pm : (kv (toks ps)).Perm A
  asc : (toks ps).Pairwise fun c d => sLt c.text d.text = true
theorem kv_nd {L : List Tok} (h : L.Pairwise fun c d => sLt c.text d.text = true) : ((kv L).map (·.1)).Nodup := by
  unfold kv; rw [List.map_map]; exact asc_nodup (fun t : Tok => t.text) h
theorem BothT.get {A : List (ByteArray × Tok)} {ps : List TP} (h : BothT A ps) (k : ByteArray) : mget k (kv (toks ps)) = mget k A := mget_perm h.pm (kv_nd h.asc)
theorem BothT.len {A : List (ByteArray × Tok)} {ps : List TP} (h : BothT A ps) : A.length = ps.length := by have := h.pm.length_eq; simpa [kv] using this.symm
theorem kv_filter {L : List Tok} {q : Tok → Bool} : (kv L).filter (fun x => q x.2) = kv (L.filter q) := by unfold kv; rw [List.filter_map]; rfl
theorem toks_filter {ps : List TP} {q : Tok → Bool} : toks (ps.filter fun p => q p.2) = (toks ps).filter q := by unfold toks; rw [List.filter_map]; rfl
theorem BothT.filter {A : List (ByteArray × Tok)} {ps : List TP} (h : BothT A ps) (q : Tok → Bool) : BothT (A.filter fun x => q x.2) (ps.filter fun p => q p.2) := by
  refine ⟨?_, ?_⟩
  · rw [toks_filter, ← kv_filter]; exact h.pm.filter _
  · rw [toks_filter]; exact h.asc.filter _
theorem kv_get {L : List Tok} {k : ByteArray} {t : Tok} (h : mget k (kv L) = some t) : t ∈ L ∧ t.text = k := by
  have := mget_some h
  obtain ⟨u, hu, he⟩ := List.mem_map.1 this
  cases he; exact ⟨hu, rfl⟩
theorem BothT.add {A : List (ByteArray × Tok)} {ps : List TP} (h : BothT A ps) {w : Value} {t : Tok} (hno : mget t.text A = none) : BothT (kset t.text t A) (gins (ltc tcmp) (w, t) ps) := by
  refine ⟨?_, ?_⟩
  · have h1 : (gins (ltc tcmp) ((w, t) : TP) ps).Perm ((w, t) :: ps) := gins_perm
    have h2 : (kv (toks (gins (ltc tcmp) ((w, t) : TP) ps))).Perm ((t.text, t) :: kv (toks ps)) := (h1.map (fun p : TP => p.2)).map fun u : Tok => (u.text, u)
    refine h2.trans ?_
    unfold kset
    rw [kdel_none (mget_none.1 hno)]
    exact (h.pm.cons _).trans (List.perm_append_singleton _ _).symm
  · have h3 : (gins (ltc tcmp) ((w, t) : TP) ps).Pairwise fun p q => ltc tcmp p q = true := by
      refine gins_strict tcmp_so.tr ?_ fun q hq => ?_
      · have := h.asc
        rw [toks, List.pairwise_map] at this
        exact this.imp fun {a b} hab => by rw [ltc_tcmp]; exact hab
      · rw [ltc_tcmp, ltc_tcmp]
        simp only
        cases h1 : sLt t.text q.2.text with
        | true => exact .inl rfl
        | false =>
          right
          cases h2 : sLt q.2.text t.text with
          | true => rfl
          | false =>
            have he := sLt_conn h1 h2
            have : (t.text, q.2) ∈ A := h.pm.mem_iff.1 (by rw [he]; exact List.mem_map.2 ⟨q.2, List.mem_map.2 ⟨q, hq, rfl⟩, rfl⟩)
            exact absurd (List.mem_map.2 ⟨_, this, rfl⟩) (mget_none.1 hno)
    rw [toks, List.pairwise_map]
    exact h3.imp fun {a b} hab => by rw [ltc_tcmp] at hab; exact hab
theorem set_parts {α : Type} {ps : List α} {i : Nat} {z : α} (hi : ps[i]? = some z) : ∃ X Y, ps = X ++ z :: Y ∧ ∀ u, ps.set i u = X ++ u :: Y := by
  have hlt := (List.getElem?_eq_some_iff.1 hi).1
  refine ⟨ps.take i, ps.drop (i + 1), ?_, fun u => by rw [List.set_eq_take_append_cons_drop, if_pos hlt]⟩
  have h1 := List.take_append_drop i ps
  rw [List.drop_eq_getElem_cons hlt, (List.getElem?_eq_some_iff.1 hi).2] at h1
  exact h1.symm
theorem BothT.set {A : List (ByteArray × Tok)} {ps : List TP} (h : BothT A ps) {i : Nat} {w w' : Value} {t u : Tok} (hi : ps[i]? = some (w, t)) (hu : u.text = t.text) : BothT (kset t.text u A) (ps.set i (w', u)) := by
  obtain ⟨X, Y, e, e2⟩ := set_parts hi
  rw [e2]
  clear e2 hi
  subst e
  refine ⟨?_, ?_⟩
  · have hn := kv_nd h.asc
    refine List.Perm.trans ?_ (kset_perm h.pm)
    have e3 : kv (toks (X ++ (w, t) :: Y)) = kv (toks X) ++ (t.text, t) :: kv (toks Y) := by simp [kv]
    have e4 : kv (toks (X ++ (w', u) :: Y)) = kv (toks X) ++ (t.text, u) :: kv (toks Y) := by simp [kv, hu]
    rw [e3] at hn ⊢
    rw [e4]
    exact kset_mid hn
  · have h1 := h.asc
    rw [toks, List.pairwise_map] at h1 ⊢
    rw [List.pairwise_append, List.pairwise_cons] at h1 ⊢
    obtain ⟨a1, ⟨a2, a3⟩, a4⟩ := h1
    refine ⟨a1, ⟨fun p hp => by simp only [hu]; exact a2 p hp, a3⟩, fun p hp q hq => ?_⟩
    rcases List.mem_cons.1 hq with rfl | hq
    · simp only [hu]; exact a4 p hp (w, t) (by simp)
    · exact a4 p hp q (List.mem_cons_of_mem _ hq)
def FindT (k : ByteArray) (ps : List TP) (z : Int) : Prop := (z = -1 ∧ mget k (kv (toks ps)) = none) ∨ ∃ (i : Nat) (w : Value) (t : Tok), z = (i : Int) ∧ ps[i]? = some (w, t) ∧ t.text = k ∧ mget k (kv (toks ps)) = some t
theorem rtfind_spec (x : Nat) (vt : Value) (last : Int) (ps : List TP) (k : ByteArray) (R : Rds) [px : PC R (.pointer (some ⟨x, 0, none⟩)) [vt, .int .i64 last]] (hs : RS R 9 encT vt ps) (hc : ∀ p ∈ ps, TokR R p) :
    Spec Try.prog 31 [.pointer (some ⟨x, 0, none⟩), .string k] R [] fun u H' => (∃ z, u = .int .i64 z ∧ FindT k ps z) ∧ H' = [] := by
  have i1 := hs.oneCell
  have hle := hs.le
  refine Spec.body Try.func31 rfl Try.results31 Try.ntmps31 rfl ?_
  refine .seq ?_
  refine .region ?_
  refine TriOps.q .assign ?_
  refine .nil ?_
  refine seqQ_n ?_
  refine .seq ?_
  refine .seq ?_
  refine .region ?_
  refine TriOps.q .assign ?_
  refine .nil ?_
  refine seqQ_n ?_
  refine .block ?_
  refine .loop (X := Nat) (fun i => i ≤ ps.length ∧ mget k (kv (toks (ps.take i))) = none) (fun i => [(0, .pointer (some ⟨x, 0, none⟩)), (1, .string k), (5, .int .i64 (i : Nat))]) (fun _ => []) (fun i => ps.length - i) 0 ⟨by omega, rfl⟩ ((((EnvLe.nil _).cons rfl).cons rfl).cons rfl) (HLe.refl _) ?_
  rintro i ⟨hi, hn⟩
  refine .seq ?_
  refine .seq ?_
  refine .region ?_
  refine TriOps.q .move ?_
  refine TriOps.q .move ?_
  refine TriOps.q (.nilCheck rfl) ?_
  refine TriOps.q (.fieldAddr rfl) ?_
  refine TriOps.q (.load1 rfl) ?_
  refine TriOps.q (.lenR hs) ?_
  refine TriOps.q .lss ?_
  refine .nil ?_
  refine seqQ_n ?_
  refine .cond rfl (fun h1 => ?_) (fun h1 => ?_)
  · skip
    have hlt : i < ps.length := by have := of_decide_eq_true h1; omega
    obtain ⟨⟨w, t⟩, hz⟩ : ∃ z, ps[i]? = some z := ⟨_, List.getElem?_eq_getElem hlt⟩
    have cz := hc _ (List.mem_of_getElem? hz)
    have iz : Ones (encT (w, t)) := ⟨cz.ones⟩
    have htk : kv (toks (ps.take (i + 1))) = kv (toks (ps.take i)) ++ [(t.text, t)] := by rw [List.take_add_one, hz]; simp [kv]
    refine .skip ?_
    refine seqQ_n ?_
    refine .seq ?_
    refine .block ?_
    refine .seq ?_
    refine .region ?_
    refine TriOps.q .move ?_
    refine TriOps.q (.nilCheck rfl) ?_
    refine TriOps.q (.fieldAddr rfl) ?_
    refine TriOps.q (.load1 rfl) ?_
    refine TriOps.q .move ?_
    refine TriOps.indexR i hs hz (fun p20 => ?_)
    refine TriOps.q (.fieldAddr rfl) ?_
    refine TriOps.q (.load1 rfl) ?_
    refine TriOps.q .move ?_
    refine TriOps.q .eqS ?_
    refine .nil ?_
    refine seqQ_n ?_
    refine .cond rfl (fun h2 => ?_) (fun h2 => ?_)
    · skip
      refine .seq ?_
      refine .region ?_
      refine TriOps.q .move ?_
      refine TriOps.q .assign ?_
      refine .nil ?_
      refine seqQ_n ?_
      refine .ret (blkQ_r (seqQ_r (loopQ_r (blkQ_r (seqQ_r (retQ_r _ (.one (.tmp rfl)) (.none _) ?_))))))
      have he : t.text = k := of_decide_eq_true h2
      refine ⟨⟨_, rfl, .inr ⟨i, w, t, rfl, hz, he, ?_⟩⟩, rfl⟩
      have e : ps = ps.take (i + 1) ++ ps.drop (i + 1) := (List.take_append_drop _ _).symm
      have e2 : kv (toks ps) = kv (toks (ps.take (i + 1))) ++ kv (toks (ps.drop (i + 1))) := by
        conv => lhs; rw [e]
        simp [kv]
      rw [e2, mget_append, htk, mget_append, hn]
      simp [mget, he]
    · skip
      refine .skip ?_
      refine blkQ_n (seqQ_n ?_)
      refine .region ?_
      refine TriOps.q .move ?_
      refine TriOps.q (.i64 ((i + 1 : Nat) : Int) .add ⟨by omega, by omega, by omega⟩) ?_
      refine TriOps.q .assign ?_
      refine .nil ?_
      exact loopQ_i (i + 1) ⟨by omega, by
        have h2' : ¬ t.text = k := of_decide_eq_false h2
        rw [htk, mget_append, hn]
        simp only [mget, if_neg (fun e : k = t.text => h2' e.symm)]; rfl⟩ (by omega) ((((EnvLe.nil _).cons rfl).cons rfl).cons rfl) (HLe.refl _)
  · skip
    refine .exit (seqQ_x (loopQ_x (blkQ_x ?_)))
    refine seqQ_n ?_
    refine .seq ?_
    refine .region ?_
    refine TriOps.q .assign ?_
    refine .nil ?_
    refine seqQ_n ?_
    refine .ret (retQ_r _ (.one (.tmp rfl)) (.none _) ?_)
    have hi2 : i = ps.length := by have := of_decide_eq_false h1; omega
    rw [hi2, List.take_length] at hn
    exact ⟨⟨_, rfl, .inl ⟨rfl, hn⟩⟩, rfl⟩
theorem FindT.neg {k : ByteArray} {ps : List TP} {z : Int} (h : FindT k ps z) (h0 : z < 0) : mget k (kv (toks ps)) = none := by
  rcases h with ⟨_, h1⟩ | ⟨i, w, t, h1, _⟩
  · exact h1
  · omega
theorem FindT.pos {k : ByteArray} {ps : List TP} {z : Int} (h : FindT k ps z) (h0 : ¬ z < 0) : ∃ (i : Nat) (w : Value) (t : Tok), z = (i : Int) ∧ ps[i]? = some (w, t) ∧ t.text = k ∧ mget k (kv (toks ps)) = some t := by
  rcases h with ⟨h1, _⟩ | h1
  · omega
  · exact h1
theorem filter_take {ps : List TP} {i : Nat} {z : TP} (q : Tok → Bool) (hz : ps[i]? = some z) : ((ps.take (i + 1)).filter fun p => q p.2) = ((ps.take i).filter fun p => q p.2) ++ if q z.2 then [z] else [] := by
  rw [List.take_add_one, hz, List.filter_append, Option.toList_some, List.filter_cons, List.filter_nil]
theorem rcut_spec (x : Nat) (ps : List TP) (last : Int) (T : Seg) (h : RTV x ps last T) (A : List (ByteArray × Tok)) (hB : BothT A ps) (fam : Int) (R : Rds) (hc : ∀ p ∈ ps, TokR R p) :
    Spec Try.prog 28 [.pointer (some ⟨x, 0, none⟩), .int .i64 fam] R [T] fun u H' => ∃ T', H' = [T'] ∧ u = .int .i64 ((A.filter fun y => y.2.family == fam).length : Nat) ∧ RTV x (ps.filter fun p => !(p.2.family == fam)) last T' := by
  obtain ⟨vt, Tt, rfl, hO, hl⟩ := h
  have i1 := hO.oneCell
  have hle := hO.le
  refine Spec.segs (H' := [[(x, .cells [vt, .int .i64 last].toArray 49 (0, 0))], Tt, []]) (by simp) ?_
  refine Spec.body Try.func28 rfl Try.results28 Try.ntmps28 rfl ?_
  refine .seq ?_
  refine .region ?_
  refine TriOps.q .assign ?_
  refine .nil ?_
  refine seqQ_n ?_
  refine .seq ?_
  refine .region ?_
  refine TriOps.q .assign ?_
  refine .nil ?_
  refine seqQ_n ?_
  refine .seq ?_
  refine .seq ?_
  refine .region ?_
  refine TriOps.q .assign ?_
  refine .nil ?_
  refine seqQ_n ?_
  refine .block ?_
  refine .loop (X := Nat × Value × Seg) (fun y => y.1 ≤ ps.length ∧ OS 26 9 encT y.2.1 ((ps.take y.1).filter fun p => !(p.2.family == fam)) y.2.2) (fun y => [(0, .pointer (some ⟨x, 0, none⟩)), (1, .int .i64 fam), (5, y.2.1), (6, .int .i64 (y.1 : Nat))]) (fun y => [[(x, .cells [vt, .int .i64 last].toArray 49 (0, 0))], Tt, y.2.2]) (fun y => ps.length - y.1) (0, .slice none 0 0, []) ⟨by omega, OS.nil⟩ (((((EnvLe.nil _).cons rfl).cons rfl).cons rfl).cons rfl) (HLe.refl _) ?_
  rintro ⟨i, vo, To⟩ ⟨hi, hOo⟩
  simp only at hi hOo ⊢
  have i4 := hOo.oneCell
  have hol : ((ps.take i).filter fun p => !(p.2.family == fam)).length ≤ i := Nat.le_trans (List.length_filter_le _ _) (by simp; omega)
  refine .seq ?_
  refine .seq ?_
  refine .region ?_
  refine TriOps.q .move ?_
  refine TriOps.q .move ?_
  refine TriOps.q (.nilCheck rfl) ?_
  refine TriOps.q (.fieldAddr rfl) ?_
  refine TriOps.q (.load1 rfl) ?_
  refine TriOps.q (.lenO hO) ?_
  refine TriOps.q .lss ?_
  refine .nil ?_
  refine seqQ_n ?_
  refine .cond rfl (fun h1 => ?_) (fun h1 => ?_)
  · skip
    have hlt : i < ps.length := by have := of_decide_eq_true h1; omega
    obtain ⟨⟨w, t⟩, hz⟩ : ∃ z, ps[i]? = some z := ⟨_, List.getElem?_eq_getElem hlt⟩
    have cz := hc _ (List.mem_of_getElem? hz)
    have iz : Ones (encT (w, t)) := ⟨cz.ones⟩
    have hft := filter_take (fun u : Tok => !(u.family == fam)) hz
    refine .skip ?_
    refine seqQ_n ?_
    refine .seq ?_
    refine .block ?_
    refine .seq ?_
    refine .region ?_
    refine TriOps.q .move ?_
    refine TriOps.q (.nilCheck rfl) ?_
    refine TriOps.q (.fieldAddr rfl) ?_
    refine TriOps.q (.load1 rfl) ?_
    refine TriOps.q .move ?_
    refine TriOps.indexO i hO hz (fun p22 => ?_)
    refine TriOps.q (.fieldAddr rfl) ?_
    refine TriOps.q (.load1 rfl) ?_
    refine TriOps.q .move ?_
    refine TriOps.q .neI ?_
    refine .nil ?_
    refine seqQ_n ?_
    refine .cond rfl (fun h2 => ?_) (fun h2 => ?_)
    · skip
      have h2' : (!(t.family == fam)) = true := h2
      simp only [h2', if_true] at hft
      refine .region ?_
      refine TriOps.q .move ?_
      refine TriOps.q .move ?_
      refine TriOps.q (.nilCheck rfl) ?_
      refine TriOps.q (.fieldAddr rfl) ?_
      refine TriOps.q (.load1 rfl) ?_
      refine TriOps.q .move ?_
      refine TriOps.indexO i hO hz (fun p33 => ?_)
      refine TriOps.q (.loadA rfl) ?_
      refine TriOps.buildSlice1A (fun b35 => ?_)
      refine TriOps.append hOo (RS.lits (xs := [((w, t) : TP)]) rfl (by simp [encT]) (by have := cz.ones; simpa using this)) (by simp; omega) (fun v5 T5 hO5 => ?_)
      rw [← hft] at hO5
      refine TriOps.q .assign ?_
      refine .nil ?_
      refine blkQ_n (seqQ_n ?_)
      refine .region ?_
      refine TriOps.q .move ?_
      refine TriOps.q (.i64 ((i + 1 : Nat) : Int) .add ⟨by omega, by omega, by omega⟩) ?_
      refine TriOps.q .assign ?_
      refine .nil ?_
      first
        | exact loopQ_i (i + 1, v5, T5) ⟨by simp only; omega, hO5⟩ (by simp only; omega) (((((EnvLe.nil _).cons rfl).cons rfl).cons rfl).cons rfl) (HLe.pick [1, 1, 1] _)
        | exact loopQ_i (i + 1, vo, To) ⟨by simp only; omega, by simp only; rw [hft]; exact hOo⟩ (by simp only; omega) (((((EnvLe.nil _).cons rfl).cons rfl).cons rfl).cons rfl) (HLe.refl _)
    · skip
      have h2' : (!(t.family == fam)) = false := h2
      simp only [h2', Bool.false_eq_true, if_false, List.append_nil] at hft
      refine .skip ?_
      refine blkQ_n (seqQ_n ?_)
      refine .region ?_
      refine TriOps.q .move ?_
      refine TriOps.q (.i64 ((i + 1 : Nat) : Int) .add ⟨by omega, by omega, by omega⟩) ?_
      refine TriOps.q .assign ?_
      refine .nil ?_
      first
        | exact loopQ_i (i + 1, v5, T5) ⟨by simp only; omega, hO5⟩ (by simp only; omega) (((((EnvLe.nil _).cons rfl).cons rfl).cons rfl).cons rfl) (HLe.pick [1, 1, 1] _)
        | exact loopQ_i (i + 1, vo, To) ⟨by simp only; omega, by simp only; rw [hft]; exact hOo⟩ (by simp only; omega) (((((EnvLe.nil _).cons rfl).cons rfl).cons rfl).cons rfl) (HLe.refl _)
  · skip
    have hin : i = ps.length := by have := of_decide_eq_false h1; omega
    rw [hin, List.take_length] at hOo hol
    have hcount : (A.filter fun y => y.2.family == fam).length + (ps.filter fun p => !(p.2.family == fam)).length = ps.length := by
      have h3 := (hB.filter fun u => u.family == fam).len
      have h4 := filter_parts (fun p : TP => p.2.family == fam) ps
      omega
    refine .exit (seqQ_x (loopQ_x (blkQ_x ?_)))
    refine seqQ_n ?_
    refine .seq ?_
    refine .region ?_
    refine TriOps.q .move ?_
    refine TriOps.q (.nilCheck rfl) ?_
    refine TriOps.q (.fieldAddr rfl) ?_
    refine TriOps.q (.load1 rfl) ?_
    refine TriOps.q (.lenO hO) ?_
    refine TriOps.q .move ?_
    refine TriOps.q (.lenO hOo) ?_
    refine TriOps.q (.i64 (((A.filter fun y => y.2.family == fam).length : Nat) : Int) .sub ⟨by omega, by omega, by omega⟩) ?_
    refine TriOps.q .assign ?_
    refine .nil ?_
    refine seqQ_n ?_
    refine .seq ?_
    refine .region ?_
    refine TriOps.q .move ?_
    refine TriOps.q .move ?_
    refine TriOps.q (.nilCheck rfl) ?_
    refine TriOps.q (.fieldAddr rfl) ?_
    refine TriOps.store1 rfl rfl ?_
    refine .nil ?_
    refine seqQ_n ?_
    refine .seq ?_
    refine .region ?_
    refine TriOps.q .move ?_
    refine TriOps.q .assign ?_
    refine .nil ?_
    refine seqQ_n ?_
    refine .ret (retQ_r _ (.one (.tmp rfl)) ((HLe.pick [0, 1] _).trans (HLe.ofPerm (H' := [(x, .cells [vo, .int .i64 last].toArray 49 (0, 0)) :: To]) (by simp [take, dropAt, setL]))) ?_)
    exact ⟨_, rfl, rfl, vo, To, rfl, hOo, by omega⟩
theorem rdrop_spec (x : Nat) (ps : List TP) (last : Int) (T : Seg) (h : RTV x ps last T) (client user : ByteArray) (R : Rds) (hc : ∀ p ∈ ps, TokR R p) :
    Spec Try.prog 29 [.pointer (some ⟨x, 0, none⟩), .string client, .string user] R [T] fun u H' => ∃ T', H' = [T'] ∧ u = .tuple #[] ∧ RTV x (ps.filter fun p => !tdropB client user p.2) last T' := by
  obtain ⟨vt, Tt, rfl, hO, hl⟩ := h
  have i1 := hO.oneCell
  have hle := hO.le
  refine Spec.segs (H' := [[(x, .cells [vt, .int .i64 last].toArray 49 (0, 0))], Tt, []]) (by simp) ?_
  refine Spec.body Try.func29 rfl Try.results29 Try.ntmps29 rfl ?_
  refine .seq ?_
  refine .region ?_
  refine TriOps.q .assign ?_
  refine .nil ?_
  refine seqQ_n ?_
  refine .seq ?_
  refine .seq ?_
  refine .region ?_
  refine TriOps.q .assign ?_
  refine .nil ?_
  refine seqQ_n ?_
  refine .block ?_
  refine .loop (X := Nat × Value × Seg) (fun y => y.1 ≤ ps.length ∧ OS 26 9 encT y.2.1 ((ps.take y.1).filter fun p => !tdropB client user p.2) y.2.2) (fun y => [(0, .pointer (some ⟨x, 0, none⟩)), (1, .string client), (2, .string user), (6, y.2.1), (7, .int .i64 (y.1 : Nat))]) (fun y => [[(x, .cells [vt, .int .i64 last].toArray 49 (0, 0))], Tt, y.2.2]) (fun y => ps.length - y.1) (0, .slice none 0 0, []) ⟨by omega, OS.nil⟩ ((((((EnvLe.nil _).cons rfl).cons rfl).cons rfl).cons rfl).cons rfl) (HLe.refl _) ?_
  rintro ⟨i, vo, To⟩ ⟨hi, hOo⟩
  simp only at hi hOo ⊢
  have i4 := hOo.oneCell
  have hol : ((ps.take i).filter fun p => !tdropB client user p.2).length ≤ i := Nat.le_trans (List.length_filter_le _ _) (by simp; omega)
  refine .seq ?_
  refine .seq ?_
  refine .region ?_
  refine TriOps.q .move ?_
  refine TriOps.q .move ?_
  refine TriOps.q (.nilCheck rfl) ?_
  refine TriOps.q (.fieldAddr rfl) ?_
  refine TriOps.q (.load1 rfl) ?_
  refine TriOps.q (.lenO hO) ?_
  refine TriOps.q .lss ?_
  refine .nil ?_
  refine seqQ_n ?_
  refine .cond rfl (fun h1 => ?_) (fun h1 => ?_)
  · skip
    have hlt : i < ps.length := by have := of_decide_eq_true h1; omega
    obtain ⟨⟨w, t⟩, hz⟩ : ∃ z, ps[i]? = some z := ⟨_, List.getElem?_eq_getElem hlt⟩
    have cz := hc _ (List.mem_of_getElem? hz)
    have iz : Ones (encT (w, t)) := ⟨cz.ones⟩
    have hft := filter_take (fun u : Tok => !tdropB client user u) hz
    refine .skip ?_
    refine seqQ_n ?_
    refine .seq ?_
    refine .block ?_
    refine .seq ?_
    refine .region ?_
    refine TriOps.q .move ?_
    refine TriOps.q (.nilCheck rfl) ?_
    refine TriOps.q (.fieldAddr rfl) ?_
    refine TriOps.q (.load1 rfl) ?_
    refine TriOps.q .move ?_
    refine TriOps.indexO i hO hz (fun p23 => ?_)
    refine TriOps.q (.loadA rfl) ?_
    refine TriOps.allocA (fun b8 => ?_)
    refine TriOps.storeA rfl rfl ?_
    refine .nil ?_
    refine seqQ_n ?_
    refine .seq ?_
    refine .region ?_
    refine TriOps.q (.fieldAddr rfl) ?_
    refine TriOps.q (.load1 rfl) ?_
    refine TriOps.q .move ?_
    refine TriOps.q .neS ?_
    refine TriOps.q .move ?_
    refine TriOps.split (t := 29) rfl (fun g5_4 => ?_) (fun g5_4 => ?_)
    · skip
      refine TriOps.gF g5_4 ?_
      refine TriOps.gF g5_4 ?_
      refine TriOps.gF g5_4 ?_
      refine TriOps.gfU rfl ?_
      refine TriOps.gfU rfl ?_
      refine TriOps.gfU rfl ?_
      refine TriOps.gfU rfl ?_
      refine TriOps.gF g5_4 ?_
      refine TriOps.q (.pickTh g5_4) ?_
      refine .nil ?_
      refine seqQ_n ?_
      refine .condT ?_
      have h2' : (!tdropB client user t) = true := by
        unfold tdropB
        first
          | (have a1 : ¬ t.client = client := by simpa using g5_4
             simp [a1]; done)
          | (have a1 : ¬ user = ⟨#[]⟩ := by simpa using g5_7
             have a2 : ¬ user = t.user := fun e => by
               have h9 : ¬ t.user = user := by simpa using h2
               exact h9 e.symm
             simp [a1, a2])
      simp only [h2', if_true] at hft
      refine .region ?_
      refine TriOps.q .move ?_
      refine TriOps.q (.loadA rfl) ?_
      refine TriOps.buildSlice1A (fun b41 => ?_)
      refine TriOps.append hOo (RS.lits (xs := [((w, t) : TP)]) rfl (by simp [encT]) (by have := cz.ones; simpa using this)) (by simp; omega) (fun v5 T5 hO5 => ?_)
      rw [← hft] at hO5
      refine TriOps.q .assign ?_
      refine .nil ?_
      refine blkQ_n (seqQ_n ?_)
      refine .region ?_
      refine TriOps.q .move ?_
      refine TriOps.q (.i64 ((i + 1 : Nat) : Int) .add ⟨by omega, by omega, by omega⟩) ?_
      refine TriOps.q .assign ?_
      refine .nil ?_
      first
        | exact loopQ_i (i + 1, v5, T5) ⟨by simp only; omega, hO5⟩ (by simp only; omega) ((((((EnvLe.nil _).cons rfl).cons rfl).cons rfl).cons rfl).cons rfl) (HLe.pick [2, 2, 2] _)
        | exact loopQ_i (i + 1, vo, To) ⟨by simp only; omega, by simp only; rw [hft]; exact hOo⟩ (by simp only; omega) ((((((EnvLe.nil _).cons rfl).cons rfl).cons rfl).cons rfl).cons rfl) (HLe.pick [1, 1, 1] _)
    · skip
      refine TriOps.gT g5_4 ?_
      refine TriOps.q .move ?_
      refine TriOps.gT g5_4 ?_
      refine TriOps.q .neS ?_
      refine TriOps.gT g5_4 ?_
      refine TriOps.q .move ?_
      refine TriOps.split (t := 32) rfl (fun g5_7 => ?_) (fun g5_7 => ?_)
      · skip
        refine TriOps.gT g5_7 ?_
        refine TriOps.q (.fieldAddr rfl) ?_
        refine TriOps.gT g5_7 ?_
        refine TriOps.q (.load1 rfl) ?_
        refine TriOps.gT g5_7 ?_
        refine TriOps.q .move ?_
        refine TriOps.gT g5_7 ?_
        refine TriOps.q .neS ?_
        refine TriOps.gT g5_4 ?_
        refine TriOps.q (.pickTh g5_7) ?_
        refine TriOps.q (.pickFh g5_4) ?_
        refine .nil ?_
        refine seqQ_n ?_
        refine .cond rfl (fun h2 => ?_) (fun h2 => ?_)
        · skip
          have h2' : (!tdropB client user t) = true := by
            unfold tdropB
            first
              | (have a1 : ¬ t.client = client := by simpa using g5_4
                 simp [a1]; done)
              | (have a1 : ¬ user = ⟨#[]⟩ := by simpa using g5_7
                 have a2 : ¬ user = t.user := fun e => by
                   have h9 : ¬ t.user = user := by simpa using h2
                   exact h9 e.symm
                 simp [a1, a2])
          simp only [h2', if_true] at hft
          refine .region ?_
          refine TriOps.q .move ?_
          refine TriOps.q (.loadA rfl) ?_
          refine TriOps.buildSlice1A (fun b41 => ?_)
          refine TriOps.append hOo (RS.lits (xs := [((w, t) : TP)]) rfl (by simp [encT]) (by have := cz.ones; simpa using this)) (by simp; omega) (fun v5 T5 hO5 => ?_)
          rw [← hft] at hO5
          refine TriOps.q .assign ?_
          refine .nil ?_
          refine blkQ_n (seqQ_n ?_)
          refine .region ?_
          refine TriOps.q .move ?_
          refine TriOps.q (.i64 ((i + 1 : Nat) : Int) .add ⟨by omega, by omega, by omega⟩) ?_
          refine TriOps.q .assign ?_
          refine .nil ?_
          first
            | exact loopQ_i (i + 1, v5, T5) ⟨by simp only; omega, hO5⟩ (by simp only; omega) ((((((EnvLe.nil _).cons rfl).cons rfl).cons rfl).cons rfl).cons rfl) (HLe.pick [2, 2, 2] _)
            | exact loopQ_i (i + 1, vo, To) ⟨by simp only; omega, by simp only; rw [hft]; exact hOo⟩ (by simp only; omega) ((((((EnvLe.nil _).cons rfl).cons rfl).cons rfl).cons rfl).cons rfl) (HLe.pick [1, 1, 1] _)
        · skip
          have h2' : (!tdropB client user t) = false := by
            have a1 : t.client = client := by simpa using g5_4
            have a2 : user = ⟨#[]⟩ ∨ user = t.user := by
              first
                | exact .inl (by simpa using g5_7)
                | (have h9 : t.user = user := by simpa using h2
                   exact .inr h9.symm)
            unfold tdropB
            rcases a2 with a2 | a2 <;> simp [a1, a2]
          simp only [h2', Bool.false_eq_true, if_false, List.append_nil] at hft
          refine .skip ?_
          refine blkQ_n (seqQ_n ?_)
          refine .region ?_
          refine TriOps.q .move ?_
          refine TriOps.q (.i64 ((i + 1 : Nat) : Int) .add ⟨by omega, by omega, by omega⟩) ?_
          refine TriOps.q .assign ?_
          refine .nil ?_
          first
            | exact loopQ_i (i + 1, v5, T5) ⟨by simp only; omega, hO5⟩ (by simp only; omega) ((((((EnvLe.nil _).cons rfl).cons rfl).cons rfl).cons rfl).cons rfl) (HLe.pick [2, 2, 2] _)
            | exact loopQ_i (i + 1, vo, To) ⟨by simp only; omega, by simp only; rw [hft]; exact hOo⟩ (by simp only; omega) ((((((EnvLe.nil _).cons rfl).cons rfl).cons rfl).cons rfl).cons rfl) (HLe.pick [1, 1, 1] _)
      · skip
        refine TriOps.gF g5_7 ?_
        refine TriOps.gF g5_7 ?_
        refine TriOps.gF g5_7 ?_
        refine TriOps.gF g5_7 ?_
        refine TriOps.gT g5_4 ?_
        refine TriOps.q (.pickFh g5_7) ?_
        refine TriOps.q (.pickFh g5_4) ?_
        refine .nil ?_
        refine seqQ_n ?_
        refine .condF ?_
        have h2' : (!tdropB client user t) = false := by
          have a1 : t.client = client := by simpa using g5_4
          have a2 : user = ⟨#[]⟩ ∨ user = t.user := by
            first
              | exact .inl (by simpa using g5_7)
              | (have h9 : t.user = user := by simpa using h2
                 exact .inr h9.symm)
          unfold tdropB
          rcases a2 with a2 | a2 <;> simp [a1, a2]
        simp only [h2', Bool.false_eq_true, if_false, List.append_nil] at hft
        refine .skip ?_
        refine blkQ_n (seqQ_n ?_)
        refine .region ?_
        refine TriOps.q .move ?_
        refine TriOps.q (.i64 ((i + 1 : Nat) : Int) .add ⟨by omega, by omega, by omega⟩) ?_
        refine TriOps.q .assign ?_
        refine .nil ?_
        first
          | exact loopQ_i (i + 1, v5, T5) ⟨by simp only; omega, hO5⟩ (by simp only; omega) ((((((EnvLe.nil _).cons rfl).cons rfl).cons rfl).cons rfl).cons rfl) (HLe.pick [2, 2, 2] _)
          | exact loopQ_i (i + 1, vo, To) ⟨by simp only; omega, by simp only; rw [hft]; exact hOo⟩ (by simp only; omega) ((((((EnvLe.nil _).cons rfl).cons rfl).cons rfl).cons rfl).cons rfl) (HLe.pick [1, 1, 1] _)
  · skip
    have hin : i = ps.length := by have := of_decide_eq_false h1; omega
    rw [hin, List.take_length] at hOo hol
    refine .exit (seqQ_x (loopQ_x (blkQ_x ?_)))
    refine seqQ_n ?_
    refine .region ?_
    refine TriOps.q .move ?_
    refine TriOps.q .move ?_
    refine TriOps.q (.nilCheck rfl) ?_
    refine TriOps.q (.fieldAddr rfl) ?_
    refine TriOps.store1 rfl rfl ?_
    refine .nil ?_
    refine retQ_n _ .none ((HLe.pick [0, 1] _).trans (HLe.ofPerm (H' := [(x, .cells [vo, .int .i64 last].toArray 49 (0, 0)) :: To]) (by simp [take, dropAt, setL]))) ?_
    exact ⟨_, rfl, rfl, vo, To, rfl, hOo, by omega⟩
theorem rsweep_spec (x : Nat) (ps : List TP) (last : Int) (T : Seg) (h : RTV x ps last T) (now : Int) (R : Rds) (hc : ∀ p ∈ ps, TokR R p) :
    Spec Try.prog 30 [.pointer (some ⟨x, 0, none⟩), .int .i64 now] R [T] fun u H' => ∃ T', H' = [T'] ∧ u = .tuple #[] ∧ RTV x (ps.filter fun p => decide (now < p.2.expires)) last T' := by
  obtain ⟨vt, Tt, rfl, hO, hl⟩ := h
  have i1 := hO.oneCell
  have hle := hO.le
  refine Spec.segs (H' := [[(x, .cells [vt, .int .i64 last].toArray 49 (0, 0))], Tt, []]) (by simp) ?_
  refine Spec.body Try.func30 rfl Try.results30 Try.ntmps30 rfl ?_
  refine .seq ?_
  refine .region ?_
  refine TriOps.q .assign ?_
  refine .nil ?_
  refine seqQ_n ?_
  refine .seq ?_
  refine .seq ?_
  refine .region ?_
  refine TriOps.q .assign ?_
  refine .nil ?_
  refine seqQ_n ?_
  refine .block ?_
  refine .loop (X := Nat × Value × Seg) (fun y => y.1 ≤ ps.length ∧ OS 26 9 encT y.2.1 ((ps.take y.1).filter fun p => decide (now < p.2.expires)) y.2.2) (fun y => [(0, .pointer (some ⟨x, 0, none⟩)), (1, .int .i64 now), (4, y.2.1), (5, .int .i64 (y.1 : Nat))]) (fun y => [[(x, .cells [vt, .int .i64 last].toArray 49 (0, 0))], Tt, y.2.2]) (fun y => ps.length - y.1) (0, .slice none 0 0, []) ⟨by omega, OS.nil⟩ (((((EnvLe.nil _).cons rfl).cons rfl).cons rfl).cons rfl) (HLe.refl _) ?_
  rintro ⟨i, vo, To⟩ ⟨hi, hOo⟩
  simp only at hi hOo ⊢
  have i4 := hOo.oneCell
  have hol : ((ps.take i).filter fun p => decide (now < p.2.expires)).length ≤ i := Nat.le_trans (List.length_filter_le _ _) (by simp; omega)
  refine .seq ?_
  refine .seq ?_
  refine .region ?_
  refine TriOps.q .move ?_
  refine TriOps.q .move ?_
  refine TriOps.q (.nilCheck rfl) ?_
  refine TriOps.q (.fieldAddr rfl) ?_
  refine TriOps.q (.load1 rfl) ?_
  refine TriOps.q (.lenO hO) ?_
  refine TriOps.q .lss ?_
  refine .nil ?_
  refine seqQ_n ?_
  refine .cond rfl (fun h1 => ?_) (fun h1 => ?_)
  · skip
    have hlt : i < ps.length := by have := of_decide_eq_true h1; omega
    obtain ⟨⟨w, t⟩, hz⟩ : ∃ z, ps[i]? = some z := ⟨_, List.getElem?_eq_getElem hlt⟩
    have cz := hc _ (List.mem_of_getElem? hz)
    have iz : Ones (encT (w, t)) := ⟨cz.ones⟩
    have hft := filter_take (fun u : Tok => decide (now < u.expires)) hz
    refine .skip ?_
    refine seqQ_n ?_
    refine .seq ?_
    refine .block ?_
    refine .seq ?_
    refine .region ?_
    refine TriOps.q .move ?_
    refine TriOps.q (.nilCheck rfl) ?_
    refine TriOps.q (.fieldAddr rfl) ?_
    refine TriOps.q (.load1 rfl) ?_
    refine TriOps.q .move ?_
    refine TriOps.indexO i hO hz (fun p20 => ?_)
    refine TriOps.q (.fieldAddr rfl) ?_
    refine TriOps.q (.load1 rfl) ?_
    refine TriOps.q .move ?_
    refine TriOps.q .gtr ?_
    refine .nil ?_
    refine seqQ_n ?_
    refine .cond rfl (fun h2 => ?_) (fun h2 => ?_)
    · skip
      have h2' : decide (now < t.expires) = true := h2
      simp only [h2', if_true] at hft
      refine .region ?_
      refine TriOps.q .move ?_
      refine TriOps.q .move ?_
      refine TriOps.q (.nilCheck rfl) ?_
      refine TriOps.q (.fieldAddr rfl) ?_
      refine TriOps.q (.load1 rfl) ?_
      refine TriOps.q .move ?_
      refine TriOps.indexO i hO hz (fun p31 => ?_)
      refine TriOps.q (.loadA rfl) ?_
      refine TriOps.buildSlice1A (fun b33 => ?_)
      refine TriOps.append hOo (RS.lits (xs := [((w, t) : TP)]) rfl (by simp [encT]) (by have := cz.ones; simpa using this)) (by simp; omega) (fun v5 T5 hO5 => ?_)
      rw [← hft] at hO5
      refine TriOps.q .assign ?_
      refine .nil ?_
      refine blkQ_n (seqQ_n ?_)
      refine .region ?_
      refine TriOps.q .move ?_
      refine TriOps.q (.i64 ((i + 1 : Nat) : Int) .add ⟨by omega, by omega, by omega⟩) ?_
      refine TriOps.q .assign ?_
      refine .nil ?_
      first
        | exact loopQ_i (i + 1, v5, T5) ⟨by simp only; omega, hO5⟩ (by simp only; omega) (((((EnvLe.nil _).cons rfl).cons rfl).cons rfl).cons rfl) (HLe.pick [1, 1, 1] _)
        | exact loopQ_i (i + 1, vo, To) ⟨by simp only; omega, by simp only; rw [hft]; exact hOo⟩ (by simp only; omega) (((((EnvLe.nil _).cons rfl).cons rfl).cons rfl).cons rfl) (HLe.refl _)
    · skip
      have h2' : decide (now < t.expires) = false := h2
      simp only [h2', Bool.false_eq_true, if_false, List.append_nil] at hft
      refine .skip ?_
      refine blkQ_n (seqQ_n ?_)
      refine .region ?_
      refine TriOps.q .move ?_
      refine TriOps.q (.i64 ((i + 1 : Nat) : Int) .add ⟨by omega, by omega, by omega⟩) ?_
      refine TriOps.q .assign ?_
      refine .nil ?_
      first
        | exact loopQ_i (i + 1, v5, T5) ⟨by simp only; omega, hO5⟩ (by simp only; omega) (((((EnvLe.nil _).cons rfl).cons rfl).cons rfl).cons rfl) (HLe.pick [1, 1, 1] _)
        | exact loopQ_i (i + 1, vo, To) ⟨by simp only; omega, by simp only; rw [hft]; exact hOo⟩ (by simp only; omega) (((((EnvLe.nil _).cons rfl).cons rfl).cons rfl).cons rfl) (HLe.refl _)
  · skip
    have hin : i = ps.length := by have := of_decide_eq_false h1; omega
    rw [hin, List.take_length] at hOo hol
    refine .exit (seqQ_x (loopQ_x (blkQ_x ?_)))
    refine seqQ_n ?_
    refine .region ?_
    refine TriOps.q .move ?_
    refine TriOps.q .move ?_
    refine TriOps.q (.nilCheck rfl) ?_
    refine TriOps.q (.fieldAddr rfl) ?_
    refine TriOps.store1 rfl rfl ?_
    refine .nil ?_
    refine retQ_n _ .none ((HLe.pick [0, 1] _).trans (HLe.ofPerm (H' := [(x, .cells [vo, .int .i64 last].toArray 49 (0, 0)) :: To]) (by simp [take, dropAt, setL]))) ?_
    exact ⟨_, rfl, rfl, vo, To, rfl, hOo, by omega⟩
end Go.Proofs.Ytkepgbimlolemaa
