/- The reference's queue: Drop, Set, Due, Keys. No condition. -/
import Derived.Test.YtlmdgdehjpahiaaExpQ
set_option linter.unusedVariables false
set_option maxRecDepth 4000
namespace Go.Proofs.Ytlmdgdehjpahiaa

def encKA (p : KA) : List Value := [.string p.1, .int .i64 p.2]
instance encKA_ones (p : KA) : Ones (encKA p) := ⟨by simp [encKA, oneCell]⟩
def RQ (q : Nat) (L : List KA) (T : Seg) : Prop := ∃ vt Tt, T = (q, .cells [vt].toArray 50 (0, 0)) :: Tt ∧ OS 59 2 encKA vt L Tt ∧ L.length ≤ 1000000

theorem rkeys_spec (q : Nat) (L : List KA) (T : Seg) (h : RQ q L T) (R : Rds) (hr : ∀ p ∈ T, R p.1 p.2) :
    Spec Try.prog 35 [.pointer (some ⟨q, 0, none⟩)] R [] fun v H' => ∃ To, H' = [To] ∧ OS 9 1 encS v (L.map (·.1)) To := by
  obtain ⟨vt, Tt, rfl, hO, hl⟩ := h
  have pq : PC R (.pointer (some ⟨q, 0, none⟩)) [vt] := PC.of (E := 50) (fr := (0, 0)) (hr (q, .cells [vt].toArray 50 (0, 0)) (by simp))
  have hs : RS R 2 encKA vt L := hO.rs fun p hp => hr p (by simp [hp])
  have i1 := hO.oneCell
  refine Spec.segs (H' := [[]]) (by simp) ?_
  refine Spec.body Try.func35 rfl Try.results35 Try.ntmps35 rfl ?_
  refine .seq ?_
  refine .region ?_
  refine TriOps.q .assign ?_
  refine .nil ?_
  refine seqQ_n ?_
  refine .seq ?_
  refine .region ?_
  refine TriOps.q .assign ?_
  refine .nil ?_
  refine seqQ_n ?_
  refine .seq ?_
  refine .seq ?_
  refine .region ?_
  refine TriOps.q .assign ?_
  refine .nil ?_
  refine seqQ_n ?_
  refine .block ?_
  refine .loop (X := Nat × Value × Seg) (fun y => y.1 ≤ L.length ∧ OS 9 1 encS y.2.1 ((L.take y.1).map (·.1)) y.2.2) (fun y => [(0, .pointer (some ⟨q, 0, none⟩)), (3, y.2.1), (4, .int .i64 (y.1 : Nat))]) (fun y => [y.2.2]) (fun y => L.length - y.1) (0, .slice none 0 0, []) ⟨Nat.zero_le _, OS.nil⟩ ((((EnvLe.nil _).cons rfl).cons rfl).cons rfl) (HLe.refl _) ?_
  rintro ⟨k, vo, To⟩ ⟨hk, hO4⟩
  simp only at hk hO4 ⊢
  have i4 := hO4.oneCell
  refine .seq ?_
  refine .seq ?_
  refine .region ?_
  refine TriOps.q .move ?_
  refine TriOps.q .move ?_
  refine TriOps.q (.nilCheck rfl) ?_
  refine TriOps.q (.fieldAddr rfl) ?_
  refine TriOps.q (.load1 rfl) ?_
  refine TriOps.q (.lenR hs) ?_
  refine TriOps.q .lss ?_
  refine .nil ?_
  refine seqQ_n ?_
  refine .cond rfl (fun h1 => ?_) (fun h1 => ?_)
  · skip
    have hk2 : k < L.length := by have := of_decide_eq_true h1; omega
    obtain ⟨x, hx⟩ : ∃ x, L[k]? = some x := ⟨_, List.getElem?_eq_getElem hk2⟩
    refine .skip ?_
    refine seqQ_n ?_
    refine .seq ?_
    refine .block ?_
    refine .region ?_
    refine TriOps.q .move ?_
    refine TriOps.q .move ?_
    refine TriOps.q (.nilCheck rfl) ?_
    refine TriOps.q (.fieldAddr rfl) ?_
    refine TriOps.q (.load1 rfl) ?_
    refine TriOps.q .move ?_
    refine TriOps.indexR k hs hx (fun px => ?_)
    refine TriOps.q (.fieldAddr rfl) ?_
    refine TriOps.q (.load1 rfl) ?_
    refine TriOps.buildSlice11 (fun b23 => ?_)
    refine TriOps.append hO4 (RS.lits (xs := [x.1]) rfl (by simp [encS]) (by simp [encS, oneCell])) (by simp; omega) (fun v5 T5 hO5 => ?_)
    refine TriOps.q .assign ?_
    refine .nil ?_
    refine blkQ_n (seqQ_n ?_)
    refine .region ?_
    refine TriOps.q .move ?_
    refine TriOps.q (.i64 ((k + 1 : Nat) : Int) .add ⟨by omega, by omega, by omega⟩) ?_
    refine TriOps.q .assign ?_
    refine .nil ?_
    exact loopQ_i (k + 1, v5, T5) ⟨hk2, by
      rw [List.take_add_one, hx, List.map_append]
      exact hO5⟩ (by simp only; omega) ((((EnvLe.nil _).cons rfl).cons rfl).cons rfl) (HLe.pick [1] _)
  · skip
    refine .exit (seqQ_x (loopQ_x (blkQ_x ?_)))
    refine seqQ_n ?_
    refine .seq ?_
    refine .region ?_
    refine TriOps.q .move ?_
    refine TriOps.q .assign ?_
    refine .nil ?_
    refine seqQ_n ?_
    refine .ret (retQ_r _ (.one (.tmp rfl)) (HLe.refl _) ?_)
    have hk3 : k = L.length := by have := of_decide_eq_false h1; omega
    subst hk3
    rw [List.take_length] at hO4
    exact ⟨To, rfl, hO4⟩
theorem kdel_take {key : ByteArray} {L : List KA} {i : Nat} {x : KA} (hx : L[i]? = some x) : kdel key (L.take (i + 1)) = kdel key (L.take i) ++ if x.1 = key then [] else [x] := by
  rw [List.take_add_one, hx]
  unfold kdel
  rw [List.filter_append]
  congr 1
  by_cases hk : x.1 = key
  · simp [hk]
  · simp [hk]
theorem mget_take {key : ByteArray} {L : List KA} {i : Nat} {x : KA} (hx : L[i]? = some x) : (mget key (L.take (i + 1))).isSome = ((mget key (L.take i)).isSome || decide (x.1 = key)) := by
  rw [List.take_add_one, hx, mget_append]
  obtain ⟨k, a⟩ := x
  by_cases hk : k = key
  · simp [mget, hk]
  · have hk' : ¬ key = k := fun e => hk e.symm
    simp [mget, hk, hk']
theorem rdrop_spec (q : Nat) (L : List KA) (T : Seg) (h : RQ q L T) (key : ByteArray) (R : Rds) :
    Spec Try.prog 30 [.pointer (some ⟨q, 0, none⟩), .string key] R [T] fun v H' => ∃ T', H' = [T'] ∧ v = .bool (mget key L).isSome ∧ RQ q (kdel key L) T' := by
  obtain ⟨vt, Tt, rfl, hO, hl⟩ := h
  have i1 := hO.oneCell
  refine Spec.segs (H' := [[(q, .cells [vt].toArray 50 (0, 0))], Tt, []]) (by simp) ?_
  have pq : PS [(q, .cells [vt].toArray 50 (0, 0))] (.pointer (some ⟨q, 0, none⟩)) [vt] := PS.of (E := 50) (fr := (0, 0)) (by simp)
  refine Spec.body Try.func30 rfl Try.results30 Try.ntmps30 rfl ?_
  refine .seq ?_
  refine .region ?_
  refine TriOps.q .assign ?_
  refine .nil ?_
  refine seqQ_n ?_
  refine .seq ?_
  refine .region ?_
  refine TriOps.q .assign ?_
  refine .nil ?_
  refine seqQ_n ?_
  refine .seq ?_
  refine .region ?_
  refine TriOps.q .assign ?_
  refine .nil ?_
  refine seqQ_n ?_
  refine .seq ?_
  refine .seq ?_
  refine .region ?_
  refine TriOps.q .assign ?_
  refine .nil ?_
  refine seqQ_n ?_
  refine .block ?_
  refine .loop (X := Nat × Value × Seg) (fun y => y.1 ≤ L.length ∧ OS 59 2 encKA y.2.1 (kdel key (L.take y.1)) y.2.2) (fun y => [(0, .pointer (some ⟨q, 0, none⟩)), (1, .string key), (5, y.2.1), (6, .bool (mget key (L.take y.1)).isSome), (7, .int .i64 (y.1 : Nat))]) (fun y => [[(q, .cells [vt].toArray 50 (0, 0))], Tt, y.2.2]) (fun y => L.length - y.1) (0, .slice none 0 0, []) ⟨Nat.zero_le _, OS.nil⟩ ((((((EnvLe.nil _).cons rfl).cons rfl).cons rfl).cons rfl).cons rfl) (HLe.refl _) ?_
  rintro ⟨k, vo, To⟩ ⟨hk, hO4⟩
  simp only at hk hO4 ⊢
  have i4 := hO4.oneCell
  have hle4 : (kdel key (L.take k)).length ≤ k := Nat.le_trans kdel_length (by simp; omega)
  refine .seq ?_
  refine .seq ?_
  refine .region ?_
  refine TriOps.q .move ?_
  refine TriOps.q .move ?_
  refine TriOps.q (.nilCheck rfl) ?_
  refine TriOps.q (.fieldAddr rfl) ?_
  refine TriOps.q (.load1 rfl) ?_
  refine TriOps.q (.lenO hO) ?_
  refine TriOps.q .lss ?_
  refine .nil ?_
  refine seqQ_n ?_
  refine .cond rfl (fun h1 => ?_) (fun h1 => ?_)
  · skip
    have hk2 : k < L.length := by have := of_decide_eq_true h1; omega
    obtain ⟨x, hx⟩ : ∃ x, L[k]? = some x := ⟨_, List.getElem?_eq_getElem hk2⟩
    have hd := kdel_take (key := key) hx
    have hg := mget_take (key := key) hx
    refine .skip ?_
    refine seqQ_n ?_
    refine .seq ?_
    refine .block ?_
    refine .seq ?_
    refine .region ?_
    refine TriOps.q .move ?_
    refine TriOps.q (.nilCheck rfl) ?_
    refine TriOps.q (.fieldAddr rfl) ?_
    refine TriOps.q (.load1 rfl) ?_
    refine TriOps.q .move ?_
    refine TriOps.indexO k hO hx (fun p22 => ?_)
    refine TriOps.q (.fieldAddr rfl) ?_
    refine TriOps.q (.load1 rfl) ?_
    refine TriOps.q .move ?_
    refine TriOps.q .eqS ?_
    refine .nil ?_
    refine seqQ_n ?_
    refine .cond rfl (fun h2 => ?_) (fun h2 => ?_)
    · skip
      have hxk : x.1 = key := of_decide_eq_true h2
      rw [if_pos hxk, List.append_nil] at hd
      rw [decide_eq_true hxk, Bool.or_true] at hg
      refine .region ?_
      refine TriOps.q .assign ?_
      refine .nil ?_
      refine blkQ_n (seqQ_n ?_)
      refine .region ?_
      refine TriOps.q .move ?_
      refine TriOps.q (.i64 ((k + 1 : Nat) : Int) .add ⟨by omega, by omega, by omega⟩) ?_
      refine TriOps.q .assign ?_
      refine .nil ?_
      first
        | exact loopQ_i (k + 1, v5, T5) ⟨hk2, by simp only; rw [hd]; exact hO5⟩ (by simp only; omega) (by simp only; rw [hg]; exact (((((EnvLe.nil _).cons rfl).cons rfl).cons rfl).cons rfl).cons rfl) (HLe.pick [1, 1, 1] _)
        | exact loopQ_i (k + 1, vo, To) ⟨hk2, by simp only; rw [hd]; exact hO4⟩ (by simp only; omega) (by simp only; rw [hg]; exact (((((EnvLe.nil _).cons rfl).cons rfl).cons rfl).cons rfl).cons rfl) (HLe.refl _)
    · skip
      have hxk : ¬ x.1 = key := of_decide_eq_false h2
      rw [if_neg hxk] at hd
      rw [decide_eq_false hxk, Bool.or_false] at hg
      refine .region ?_
      refine TriOps.q .move ?_
      refine TriOps.q .move ?_
      refine TriOps.q (.nilCheck rfl) ?_
      refine TriOps.q (.fieldAddr rfl) ?_
      refine TriOps.q (.load1 rfl) ?_
      refine TriOps.q .move ?_
      refine TriOps.indexO k hO hx (fun p33 => ?_)
      refine TriOps.q (.loadA rfl) ?_
      refine TriOps.buildSlice1A (fun b35 => ?_)
      refine TriOps.append hO4 (RS.lits (xs := [x]) rfl (by simp [encKA]) (by simp [encKA, oneCell])) (by simp; omega) (fun v5 T5 hO5 => ?_)
      refine TriOps.q .assign ?_
      refine .nil ?_
      refine blkQ_n (seqQ_n ?_)
      refine .region ?_
      refine TriOps.q .move ?_
      refine TriOps.q (.i64 ((k + 1 : Nat) : Int) .add ⟨by omega, by omega, by omega⟩) ?_
      refine TriOps.q .assign ?_
      refine .nil ?_
      first
        | exact loopQ_i (k + 1, v5, T5) ⟨hk2, by simp only; rw [hd]; exact hO5⟩ (by simp only; omega) (by simp only; rw [hg]; exact (((((EnvLe.nil _).cons rfl).cons rfl).cons rfl).cons rfl).cons rfl) (HLe.pick [1, 1, 1] _)
        | exact loopQ_i (k + 1, vo, To) ⟨hk2, by simp only; rw [hd]; exact hO4⟩ (by simp only; omega) (by simp only; rw [hg]; exact (((((EnvLe.nil _).cons rfl).cons rfl).cons rfl).cons rfl).cons rfl) (HLe.refl _)
  · skip
    have hk3 : k = L.length := by have := of_decide_eq_false h1; omega
    subst hk3
    rw [List.take_length] at hO4 ⊢
    refine .exit (seqQ_x (loopQ_x (blkQ_x ?_)))
    refine seqQ_n ?_
    refine .seq ?_
    refine .region ?_
    refine TriOps.q .move ?_
    refine TriOps.q .move ?_
    refine TriOps.q (.nilCheck rfl) ?_
    refine TriOps.q (.fieldAddr rfl) ?_
    refine TriOps.store1 rfl rfl ?_
    refine .nil ?_
    refine seqQ_n ?_
    refine .seq ?_
    refine .region ?_
    refine TriOps.q .move ?_
    refine TriOps.q .assign ?_
    refine .nil ?_
    refine seqQ_n ?_
    refine .ret (retQ_r _ (.one (.tmp rfl)) ((HLe.pick [0, 1] _).trans (HLe.ofPerm (H' := [(q, .cells [vo].toArray 50 (0, 0)) :: To]) (by simp [take, dropAt, setL]))) ?_)
    exact ⟨_, rfl, rfl, vo, To, rfl, hO4, Nat.le_trans kdel_length hl⟩

theorem kins_take {p x : KA} {L : List KA} {i : Nat} (hx : L[i]? = some x) : (L.take (i + 1)).any (kaLt p) = ((L.take i).any (kaLt p) || kaLt p x) ∧
    ((L.take i).any (kaLt p) = true → kins p (L.take (i + 1)) = kins p (L.take i) ++ [x]) ∧
    ((L.take i).any (kaLt p) = false → kaLt p x = true → kins p (L.take (i + 1)) = L.take i ++ [p] ++ [x]) := by
  rw [List.take_add_one, hx]
  refine ⟨by simp, fun h => kins_any h, fun h h' => ?_⟩
  show kins p (L.take i ++ [x]) = _
  rw [kins_none h]
  simp [kins, h']
theorem kins_end {p : KA} {L : List KA} (h : L.any (kaLt p) = false) : kins p L = L ++ [p] := by
  have := kins_none (Y := []) h
  simpa [kins] using this
/-- What has been laid so far. -/
def kpre (p : KA) (X : List KA) : List KA := if X.any (kaLt p) then kins p X else X
theorem kins_len {p : KA} {L : List KA} : (kins p L).length = L.length + 1 := by
  simpa using (kins_perm (p := p) (L := L)).length_eq
theorem kpre_len {p : KA} {X : List KA} : (kpre p X).length ≤ X.length + 1 := by
  unfold kpre
  split
  · rw [kins_len]; omega
  · omega
def kmid (p : KA) (X : List KA) (x : KA) : List KA := kpre p X ++ if !X.any (kaLt p) && kaLt p x then [p] else []
theorem kmid_next {p x : KA} {L : List KA} {i : Nat} (hx : L[i]? = some x) : kmid p (L.take i) x ++ [x] = kpre p (L.take (i + 1)) := by
  obtain ⟨e1, e2, e3⟩ := kins_take (p := p) hx
  unfold kmid kpre
  rw [e1]
  cases h : (L.take i).any (kaLt p) with
  | true => simp [e2 h]
  | false =>
    cases h' : kaLt p x with
    | true => simp [e3 h h']
    | false => rw [List.take_add_one, hx]; simp
theorem kaLt_of1 {k r : ByteArray} {a b : Int} (h : a < b) : kaLt (k, a) (r, b) = true := by simp [kaLt, h]
theorem kaLt_of2 {k r : ByteArray} {a b : Int} (h : ¬ a < b) (h' : a = b) : kaLt (k, a) (r, b) = sLt k r := by simp [kaLt, h']
theorem kaLt_of3 {k r : ByteArray} {a b : Int} (h : ¬ a < b) (h' : ¬ a = b) : kaLt (k, a) (r, b) = false := by simp [kaLt, h, h']
theorem kmid_put {p x : KA} {L : List KA} {i : Nat} (hx : L[i]? = some x) (ha : (!(L.take i).any (kaLt p)) = true) (hp : kaLt p x = true) : kmid p (L.take i) x = kpre p (L.take i) ++ [p] ∧ (L.take (i + 1)).any (kaLt p) = true := by
  refine ⟨?_, by rw [(kins_take hx).1, hp, Bool.or_true]⟩
  unfold kmid
  rw [ha, hp]; rfl
theorem kmid_not {p x : KA} {L : List KA} {i : Nat} (hx : L[i]? = some x) (hp : (!(L.take i).any (kaLt p)) = false ∨ kaLt p x = false) : kmid p (L.take i) x = kpre p (L.take i) ∧ (L.take (i + 1)).any (kaLt p) = (L.take i).any (kaLt p) := by
  rw [(kins_take hx).1]
  unfold kmid
  rcases hp with h | h
  · have h2 : (L.take i).any (kaLt p) = true := by simpa using h
    simp [h2]
  · simp [h]
theorem rset_spec (q : Nat) (L : List KA) (T : Seg) (h : RQ q L T) (key : ByteArray) (a : Int) (hl0 : L.length < 1000000) (R : Rds) :
    Spec Try.prog 29 [.pointer (some ⟨q, 0, none⟩), .string key, .int .i64 a] R [T] fun v H' => ∃ T', H' = [T'] ∧ v = .tuple #[] ∧ RQ q (kins (key, a) (kdel key L)) T' := by
  have hk0 := kdel_length (k := key) (A := L)
  obtain ⟨M, hM⟩ : ∃ M, M = kdel key L := ⟨_, rfl⟩
  refine Spec.body Try.func29 rfl Try.results29 Try.ntmps29 rfl ?_
  refine .seq ?_
  refine .region ?_
  refine TriOps.q .move ?_
  refine TriOps.q .move ?_
  refine TriOps.callM (rdrop_spec q L T h key _) (fun v T1 hv => ?_)
  obtain ⟨rfl, hQ⟩ := hv
  rw [← hM] at hQ hk0 ⊢
  obtain ⟨vt, Tt, rfl, hO, hl⟩ := hQ
  have i1 := hO.oneCell
  have pq : PS [(q, .cells [vt].toArray 50 (0, 0))] (.pointer (some ⟨q, 0, none⟩)) [vt] := PS.of (E := 50) (fr := (0, 0)) (by simp)
  refine TriOps.sub (H' := [[(q, .cells [vt].toArray 50 (0, 0))], Tt, []]) (HLe.ofPerm (by simp)) ?_
  refine .nil ?_
  refine seqQ_n ?_
  refine .seq ?_
  refine .region ?_
  refine TriOps.q .assign ?_
  refine .nil ?_
  refine seqQ_n ?_
  refine .seq ?_
  refine .region ?_
  refine TriOps.q .assign ?_
  refine .nil ?_
  refine seqQ_n ?_
  refine .seq ?_
  refine .seq ?_
  refine .region ?_
  refine TriOps.q .assign ?_
  refine .nil ?_
  refine seqQ_n ?_
  refine .block ?_
  refine .loop (X := Nat × Value × Seg) (fun y => y.1 ≤ M.length ∧ OS 59 2 encKA y.2.1 (kpre (key, a) (M.take y.1)) y.2.2) (fun y => [(0, .pointer (some ⟨q, 0, none⟩)), (1, .string key), (2, .int .i64 a), (6, y.2.1), (7, .bool ((M.take y.1).any (kaLt (key, a)))), (8, .int .i64 (y.1 : Nat))]) (fun y => [[(q, .cells [vt].toArray 50 (0, 0))], Tt, y.2.2]) (fun y => M.length - y.1) (0, .slice none 0 0, []) ⟨Nat.zero_le _, OS.nil⟩ (((((((EnvLe.nil _).cons rfl).cons rfl).cons rfl).cons rfl).cons rfl).cons rfl) (HLe.refl _) ?_
  rintro ⟨k, vo, To⟩ ⟨hk, hO4⟩
  simp only at hk hO4 ⊢
  have i4 := hO4.oneCell
  have hle4 := kpre_len (p := (key, a)) (X := M.take k)
  rw [List.length_take, Nat.min_eq_left hk] at hle4
  refine .seq ?_
  refine .seq ?_
  refine .region ?_
  refine TriOps.q .move ?_
  refine TriOps.q .move ?_
  refine TriOps.q (.nilCheck rfl) ?_
  refine TriOps.q (.fieldAddr rfl) ?_
  refine TriOps.q (.load1 rfl) ?_
  refine TriOps.q (.lenO hO) ?_
  refine TriOps.q .lss ?_
  refine .nil ?_
  refine seqQ_n ?_
  refine .cond rfl (fun h1 => ?_) (fun h1 => ?_)
  · skip
    have hk2 : k < M.length := by have := of_decide_eq_true h1; omega
    obtain ⟨x, hx⟩ : ∃ x, M[k]? = some x := ⟨_, List.getElem?_eq_getElem hk2⟩
    obtain ⟨e1, e2, e3⟩ := kins_take (p := (key, a)) hx
    have e4 := kmid_next (p := (key, a)) hx
    obtain ⟨xk, xa⟩ := x
    refine .skip ?_
    refine seqQ_n ?_
    refine .seq ?_
    refine .block ?_
    refine .seq ?_
    refine .region ?_
    refine TriOps.q .move ?_
    refine TriOps.q (.nilCheck rfl) ?_
    refine TriOps.q (.fieldAddr rfl) ?_
    refine TriOps.q (.load1 rfl) ?_
    refine TriOps.q .move ?_
    refine TriOps.indexO k hO hx (fun p27 => ?_)
    refine TriOps.q (.loadA rfl) ?_
    refine TriOps.allocA (fun b9 => ?_)
    refine TriOps.storeA rfl rfl ?_
    refine .nil ?_
    refine seqQ_n ?_
    refine .seq ?_
    refine Tri.cut (X := Value × Seg) (fun z => OS 59 2 encKA z.1 (kmid (key, a) (M.take k) (xk, xa)) z.2) (fun z => [(0, .pointer (some ⟨q, 0, none⟩)), (1, .string key), (2, .int .i64 a), (6, z.1), (7, .bool ((M.take (k + 1)).any (kaLt (key, a)))), (8, .int .i64 (k : Nat)), (9, .pointer (some ⟨b9, 0, none⟩))]) (fun z => [[(b9, .cells (encKA (xk, xa)).toArray 59 (0, 0))], [(q, .cells [vt].toArray 50 (0, 0))], Tt, z.2]) ?_ ?_
    · refine .seq ?_
      refine .region ?_
      refine TriOps.q .move ?_
      refine TriOps.q .not ?_
      refine TriOps.q .move ?_
      refine TriOps.split (t := 31) rfl (fun g7_2 => ?_) (fun g7_2 => ?_)
      · skip
        refine TriOps.gT g7_2 ?_
        refine TriOps.q .move ?_
        refine TriOps.gT g7_2 ?_
        refine TriOps.q (.fieldAddr rfl) ?_
        refine TriOps.gT g7_2 ?_
        refine TriOps.q (.load1 rfl) ?_
        refine TriOps.gT g7_2 ?_
        refine TriOps.q .lss ?_
        refine TriOps.gT g7_2 ?_
        refine TriOps.q .move ?_
        refine TriOps.split (t := 36) rfl (fun g7_7 => ?_) (fun g7_7 => ?_)
        · skip
          have hput := kmid_put hx g7_2 (kaLt_of1 (k := key) (r := xk) (of_decide_eq_true g7_7))
          refine TriOps.gF g7_7 ?_
          refine TriOps.gF g7_7 ?_
          refine TriOps.gF g7_7 ?_
          refine TriOps.gF g7_7 ?_
          refine TriOps.gF g7_7 ?_
          refine TriOps.gfU rfl ?_
          refine TriOps.gfU rfl ?_
          refine TriOps.gfU rfl ?_
          refine TriOps.gfU rfl ?_
          refine TriOps.gF g7_7 ?_
          refine TriOps.gT g7_2 ?_
          refine TriOps.q (.pickTh g7_7) ?_
          refine TriOps.q (.pickTh g7_2) ?_
          refine .nil ?_
          refine seqQ_n ?_
          refine .condT ?_
          first | have hput := kmid_put hx g7_2 ((kaLt_of2 (k := key) (r := xk) (of_decide_eq_false g7_7) (eq_of_beq g7_12)).trans h2) | skip
          refine .seq ?_
          refine .region ?_
          refine TriOps.q .move ?_
          refine TriOps.q .move ?_
          refine TriOps.q .move ?_
          refine TriOps.q .bld ?_
          refine TriOps.buildSlice1A (fun b53 => ?_)
          refine TriOps.append hO4 (RS.lits (xs := [(key, a)]) rfl (by simp [encKA]) (by simp [encKA, oneCell])) (by simp; omega) (fun v5 T5 hO5 => ?_)
          refine TriOps.q .assign ?_
          refine .nil ?_
          refine seqQ_n ?_
          refine .region ?_
          refine TriOps.q .assign ?_
          refine .nil ?_
          first
            | (obtain ⟨hm, hA⟩ := hput
               exact joinQ_n (v5, T5) (by simp only; rw [hm]; exact hO5) (by simp only; rw [hA]; exact (((((((EnvLe.nil _).cons rfl).cons rfl).cons rfl).cons rfl).cons rfl).cons rfl).cons rfl) (HLe.pick [1, 1, 1, 1] _))
            | (obtain ⟨hm, hA⟩ := hnot
               exact joinQ_n (vo, To) (by simp only; rw [hm]; exact hO4) (by simp only; rw [hA]; exact (((((((EnvLe.nil _).cons rfl).cons rfl).cons rfl).cons rfl).cons rfl).cons rfl).cons rfl) (HLe.refl _))
        · skip
          refine TriOps.gT g7_7 ?_
          refine TriOps.q .move ?_
          refine TriOps.gT g7_7 ?_
          refine TriOps.q (.fieldAddr rfl) ?_
          refine TriOps.gT g7_7 ?_
          refine TriOps.q (.load1 rfl) ?_
          refine TriOps.gT g7_7 ?_
          refine TriOps.q .eqI ?_
          refine TriOps.gT g7_7 ?_
          refine TriOps.q .move ?_
          refine TriOps.split (t := 41) rfl (fun g7_12 => ?_) (fun g7_12 => ?_)
          · skip
            refine TriOps.gT g7_12 ?_
            refine TriOps.q .move ?_
            refine TriOps.gT g7_12 ?_
            refine TriOps.q (.fieldAddr rfl) ?_
            refine TriOps.gT g7_12 ?_
            refine TriOps.q (.load1 rfl) ?_
            refine TriOps.gT g7_12 ?_
            refine TriOps.q .ltS ?_
            refine TriOps.gT g7_7 ?_
            refine TriOps.q (.pickTh g7_12) ?_
            refine TriOps.gT g7_2 ?_
            refine TriOps.q (.pickFh g7_7) ?_
            refine TriOps.q (.pickTh g7_2) ?_
            refine .nil ?_
            refine seqQ_n ?_
            refine .cond rfl (fun h2 => ?_) (fun h2 => ?_)
            · skip
              first | have hput := kmid_put hx g7_2 ((kaLt_of2 (k := key) (r := xk) (of_decide_eq_false g7_7) (eq_of_beq g7_12)).trans h2) | skip
              refine .seq ?_
              refine .region ?_
              refine TriOps.q .move ?_
              refine TriOps.q .move ?_
              refine TriOps.q .move ?_
              refine TriOps.q .bld ?_
              refine TriOps.buildSlice1A (fun b53 => ?_)
              refine TriOps.append hO4 (RS.lits (xs := [(key, a)]) rfl (by simp [encKA]) (by simp [encKA, oneCell])) (by simp; omega) (fun v5 T5 hO5 => ?_)
              refine TriOps.q .assign ?_
              refine .nil ?_
              refine seqQ_n ?_
              refine .region ?_
              refine TriOps.q .assign ?_
              refine .nil ?_
              first
                | (obtain ⟨hm, hA⟩ := hput
                   exact joinQ_n (v5, T5) (by simp only; rw [hm]; exact hO5) (by simp only; rw [hA]; exact (((((((EnvLe.nil _).cons rfl).cons rfl).cons rfl).cons rfl).cons rfl).cons rfl).cons rfl) (HLe.pick [1, 1, 1, 1] _))
                | (obtain ⟨hm, hA⟩ := hnot
                   exact joinQ_n (vo, To) (by simp only; rw [hm]; exact hO4) (by simp only; rw [hA]; exact (((((((EnvLe.nil _).cons rfl).cons rfl).cons rfl).cons rfl).cons rfl).cons rfl).cons rfl) (HLe.refl _))
            · skip
              first | have hnot := kmid_not (p := (key, a)) hx (.inr ((kaLt_of2 (k := key) (r := xk) (of_decide_eq_false g7_7) (eq_of_beq g7_12)).trans h2)) | skip
              refine .skip ?_
              first
                | (obtain ⟨hm, hA⟩ := hput
                   exact joinQ_n (v5, T5) (by simp only; rw [hm]; exact hO5) (by simp only; rw [hA]; exact (((((((EnvLe.nil _).cons rfl).cons rfl).cons rfl).cons rfl).cons rfl).cons rfl).cons rfl) (HLe.pick [1, 1, 1, 1] _))
                | (obtain ⟨hm, hA⟩ := hnot
                   exact joinQ_n (vo, To) (by simp only; rw [hm]; exact hO4) (by simp only; rw [hA]; exact (((((((EnvLe.nil _).cons rfl).cons rfl).cons rfl).cons rfl).cons rfl).cons rfl).cons rfl) (HLe.refl _))
          · skip
            have hnot := kmid_not (p := (key, a)) hx (.inr (kaLt_of3 (k := key) (r := xk) (of_decide_eq_false g7_7) (by simpa using g7_12)))
            refine TriOps.gF g7_12 ?_
            refine TriOps.gF g7_12 ?_
            refine TriOps.gF g7_12 ?_
            refine TriOps.gF g7_12 ?_
            refine TriOps.gT g7_7 ?_
            refine TriOps.q (.pickFh g7_12) ?_
            refine TriOps.gT g7_2 ?_
            refine TriOps.q (.pickFh g7_7) ?_
            refine TriOps.q (.pickTh g7_2) ?_
            refine .nil ?_
            refine seqQ_n ?_
            refine .condF ?_
            first | have hnot := kmid_not (p := (key, a)) hx (.inr ((kaLt_of2 (k := key) (r := xk) (of_decide_eq_false g7_7) (eq_of_beq g7_12)).trans h2)) | skip
            refine .skip ?_
            first
              | (obtain ⟨hm, hA⟩ := hput
                 exact joinQ_n (v5, T5) (by simp only; rw [hm]; exact hO5) (by simp only; rw [hA]; exact (((((((EnvLe.nil _).cons rfl).cons rfl).cons rfl).cons rfl).cons rfl).cons rfl).cons rfl) (HLe.pick [1, 1, 1, 1] _))
              | (obtain ⟨hm, hA⟩ := hnot
                 exact joinQ_n (vo, To) (by simp only; rw [hm]; exact hO4) (by simp only; rw [hA]; exact (((((((EnvLe.nil _).cons rfl).cons rfl).cons rfl).cons rfl).cons rfl).cons rfl).cons rfl) (HLe.refl _))
      · skip
        have hnot := kmid_not (p := (key, a)) hx (.inl g7_2)
        refine TriOps.gF g7_2 ?_
        refine TriOps.gF g7_2 ?_
        refine TriOps.gF g7_2 ?_
        refine TriOps.gF g7_2 ?_
        refine TriOps.gF g7_2 ?_
        refine TriOps.gfU rfl ?_
        refine TriOps.gfU rfl ?_
        refine TriOps.gfU rfl ?_
        refine TriOps.gfU rfl ?_
        refine TriOps.gfU rfl ?_
        refine TriOps.gfU rfl ?_
        refine TriOps.gfU rfl ?_
        refine TriOps.gfU rfl ?_
        refine TriOps.gfU rfl ?_
        refine TriOps.gfU rfl ?_
        refine TriOps.gF g7_2 ?_
        refine TriOps.q (.pickFh g7_2) ?_
        refine .nil ?_
        refine seqQ_n ?_
        refine .condF ?_
        first | have hnot := kmid_not (p := (key, a)) hx (.inr ((kaLt_of2 (k := key) (r := xk) (of_decide_eq_false g7_7) (eq_of_beq g7_12)).trans h2)) | skip
        refine .skip ?_
        first
          | (obtain ⟨hm, hA⟩ := hput
             exact joinQ_n (v5, T5) (by simp only; rw [hm]; exact hO5) (by simp only; rw [hA]; exact (((((((EnvLe.nil _).cons rfl).cons rfl).cons rfl).cons rfl).cons rfl).cons rfl).cons rfl) (HLe.pick [1, 1, 1, 1] _))
          | (obtain ⟨hm, hA⟩ := hnot
             exact joinQ_n (vo, To) (by simp only; rw [hm]; exact hO4) (by simp only; rw [hA]; exact (((((((EnvLe.nil _).cons rfl).cons rfl).cons rfl).cons rfl).cons rfl).cons rfl).cons rfl) (HLe.refl _))
    · intro y hy
      obtain ⟨vm, Tm⟩ := y
      have hO6 : OS 59 2 encKA vm (kmid (key, a) (M.take k) (xk, xa)) Tm := hy
      have i6 := hO6.oneCell
      simp only
      refine seqQ_n ?_
      refine .region ?_
      refine TriOps.q .move ?_
      refine TriOps.q (.loadA rfl) ?_
      refine TriOps.buildSlice1A (fun b57 => ?_)
      refine TriOps.append hO6 (RS.lits (xs := [(xk, xa)]) rfl (by simp [encKA]) (by simp [encKA, oneCell])) (by have := kpre_len (p := (key, a)) (X := M.take (k + 1)); rw [← e4] at this; simp at this ⊢; omega) (fun v7 T7 hO7 => ?_)
      rw [e4] at hO7
      refine TriOps.q .assign ?_
      refine .nil ?_
      refine blkQ_n (seqQ_n ?_)
      refine .region ?_
      refine TriOps.q .move ?_
      refine TriOps.q (.i64 ((k + 1 : Nat) : Int) .add ⟨by omega, by omega, by omega⟩) ?_
      refine TriOps.q .assign ?_
      refine .nil ?_
      exact loopQ_i (k + 1, v7, T7) ⟨hk2, hO7⟩ (by simp only; omega) (((((((EnvLe.nil _).cons rfl).cons rfl).cons rfl).cons rfl).cons rfl).cons rfl) (HLe.pick [2, 2, 2] _)
  · skip
    have hk3 : k = M.length := by have := of_decide_eq_false h1; omega
    subst hk3
    rw [List.take_length] at hO4 hle4 ⊢
    refine .exit (seqQ_x (loopQ_x (blkQ_x ?_)))
    refine seqQ_n ?_
    refine .seq ?_
    refine .seq ?_
    refine .region ?_
    refine TriOps.q .move ?_
    refine TriOps.q .not ?_
    refine .nil ?_
    refine seqQ_n ?_
    refine .cond rfl (fun h3 => ?_) (fun h3 => ?_)
    · skip
      refine .region ?_
      refine TriOps.q .move ?_
      refine TriOps.q .move ?_
      refine TriOps.q .move ?_
      refine TriOps.q .bld ?_
      refine TriOps.buildSlice1A (fun b65 => ?_)
      refine TriOps.append hO4 (RS.lits (xs := [(key, a)]) rfl (by simp [encKA]) (by simp [encKA, oneCell])) (by simp; omega) (fun v5 T5 hO5 => ?_)
      have i5 := hO5.oneCell
      refine TriOps.q .assign ?_
      refine .nil ?_
      refine seqQ_n ?_
      refine .region ?_
      refine TriOps.q .move ?_
      refine TriOps.q .move ?_
      refine TriOps.q (.nilCheck rfl) ?_
      refine TriOps.q (.fieldAddr rfl) ?_
      refine TriOps.store1 rfl rfl ?_
      refine .nil ?_
      refine retQ_n _ .none ((HLe.pick [1, 2] _).trans (HLe.ofPerm (H' := [(q, .cells [v5].toArray 50 (0, 0)) :: T5]) (by simp [take, dropAt, setL]))) ?_
      have han : M.any (kaLt (key, a)) = false := by simpa using h3
      refine ⟨_, rfl, rfl, v5, T5, rfl, ?_, by rw [kins_len]; omega⟩
      rw [kins_end han]
      have e0 : kpre (key, a) M = M := by unfold kpre; rw [han]; rfl
      rw [e0] at hO5; exact hO5
    · skip
      refine .skip ?_
      refine seqQ_n ?_
      refine .region ?_
      refine TriOps.q .move ?_
      refine TriOps.q .move ?_
      refine TriOps.q (.nilCheck rfl) ?_
      refine TriOps.q (.fieldAddr rfl) ?_
      refine TriOps.store1 rfl rfl ?_
      refine .nil ?_
      refine retQ_n _ .none ((HLe.pick [0, 1] _).trans (HLe.ofPerm (H' := [(q, .cells [vo].toArray 50 (0, 0)) :: To]) (by simp [take, dropAt, setL]))) ?_
      have han : M.any (kaLt (key, a)) = true := by simpa using h3
      refine ⟨_, rfl, rfl, vo, To, rfl, ?_, by rw [kins_len]; omega⟩
      have e0 : kpre (key, a) M = kins (key, a) M := by unfold kpre; rw [han]; rfl
      rw [e0] at hO4; exact hO4

theorem rdue_spec (q : Nat) (L : List KA) (T : Seg) (h : RQ q L T) (now : Int) (R : Rds) :
    Spec Try.prog 33 [.pointer (some ⟨q, 0, none⟩), .int .i64 now] R [T] fun v H' => ∃ T' To C D, H' = [T', To] ∧ L = C ++ D ∧ OS 9 1 encS v (C.map (·.1)) To ∧ RQ q D T' ∧ (∀ p ∈ C, p.2 ≤ now) ∧ ∀ p, D.head? = some p → now < p.2 := by
  obtain ⟨vt, Tt, rfl, hO, hl⟩ := h
  have i1 := hO.oneCell
  refine Spec.segs (H' := [[(q, .cells [vt].toArray 50 (0, 0))], Tt, []]) (by simp) ?_
  refine Spec.body Try.func33 rfl Try.results33 Try.ntmps33 rfl ?_
  refine .seq ?_
  refine .region ?_
  refine TriOps.q .assign ?_
  refine .nil ?_
  refine seqQ_n ?_
  refine .seq ?_
  refine .region ?_
  refine TriOps.q .assign ?_
  refine .nil ?_
  refine seqQ_n ?_
  refine .seq ?_
  refine .block ?_
  refine .loop (X := List KA × List KA × Value × Seg × Value × Seg) (fun y => L = y.1 ++ y.2.1 ∧ OS 9 1 encS y.2.2.1 (y.1.map (·.1)) y.2.2.2.1 ∧ OS 59 2 encKA y.2.2.2.2.1 y.2.1 y.2.2.2.2.2 ∧ ∀ p ∈ y.1, p.2 ≤ now) (fun y => [(0, .pointer (some ⟨q, 0, none⟩)), (1, .int .i64 now), (5, y.2.2.1)]) (fun y => [[(q, .cells [y.2.2.2.2.1].toArray 50 (0, 0))], y.2.2.2.2.2, y.2.2.2.1]) (fun y => y.2.1.length) ([], L, .slice none 0 0, [], vt, Tt) ⟨rfl, OS.nil, hO, by simp⟩ ((((EnvLe.nil _).cons rfl).cons rfl).cons rfl) (HLe.refl _) ?_
  rintro ⟨C, D, vo, To, wt, Wt⟩ ⟨hCD, hO1, hO2, hC⟩
  simp only at hCD hO1 hO2 hC ⊢
  have i2 := hO1.oneCell
  have i3 := hO2.oneCell
  have pq : PS [(q, .cells [wt].toArray 50 (0, 0))] (.pointer (some ⟨q, 0, none⟩)) [wt] := PS.of (E := 50) (fr := (0, 0)) (by simp)
  have hlen : L.length = C.length + D.length := by rw [hCD]; simp
  refine .seq ?_
  refine .seq ?_
  refine .region ?_
  refine TriOps.q .move ?_
  refine TriOps.q (.nilCheck rfl) ?_
  refine TriOps.q (.fieldAddr rfl) ?_
  refine TriOps.q (.load1 rfl) ?_
  refine TriOps.q (.lenO hO2) ?_
  refine TriOps.q .gtr ?_
  refine TriOps.q .move ?_
  refine TriOps.split (t := 12) rfl (fun g2_6 => ?_) (fun g2_6 => ?_)
  · skip
    obtain ⟨x, D', rfl⟩ : ∃ x D', D = x :: D' := by
      cases D with
      | nil => simp at g2_6
      | cons x D' => exact ⟨x, D', rfl⟩
    have hx : (x :: D')[0]? = some x := rfl
    refine TriOps.gT g2_6 ?_
    refine TriOps.q .move ?_
    refine TriOps.gT g2_6 ?_
    refine TriOps.q (.nilCheck rfl) ?_
    refine TriOps.gT g2_6 ?_
    refine TriOps.q (.fieldAddr rfl) ?_
    refine TriOps.gT g2_6 ?_
    refine TriOps.q (.load1 rfl) ?_
    refine TriOps.gT g2_6 ?_
    refine TriOps.indexO 0 hO2 hx (fun p17 => ?_)
    refine TriOps.gT g2_6 ?_
    refine TriOps.q (.fieldAddr rfl) ?_
    refine TriOps.gT g2_6 ?_
    refine TriOps.q (.load1 rfl) ?_
    refine TriOps.gT g2_6 ?_
    refine TriOps.q .move ?_
    refine TriOps.gT g2_6 ?_
    refine TriOps.q .leq ?_
    refine TriOps.q (.pickTh g2_6) ?_
    refine .nil ?_
    refine seqQ_n ?_
    refine .cond rfl (fun h1 => ?_) (fun h1 => ?_)
    · skip
      refine .skip ?_
      refine seqQ_n ?_
      refine .block ?_
      refine .seq ?_
      refine .region ?_
      refine TriOps.q .move ?_
      refine TriOps.q .move ?_
      refine TriOps.q (.nilCheck rfl) ?_
      refine TriOps.q (.fieldAddr rfl) ?_
      refine TriOps.q (.load1 rfl) ?_
      refine TriOps.indexO 0 hO2 hx (fun p28 => ?_)
      refine TriOps.q (.fieldAddr rfl) ?_
      refine TriOps.q (.load1 rfl) ?_
      refine TriOps.buildSlice11 (fun b31 => ?_)
      refine TriOps.append hO1 (RS.lits (xs := [x.1]) rfl (by simp [encS]) (by simp [encS, oneCell])) (by simp at hlen ⊢; omega) (fun v5 T5 hO5 => ?_)
      have i5 := hO5.oneCell
      refine TriOps.q .assign ?_
      refine .nil ?_
      refine seqQ_n ?_
      refine .region ?_
      refine TriOps.q .move ?_
      refine TriOps.q .move ?_
      refine TriOps.q (.nilCheck rfl) ?_
      refine TriOps.q (.fieldAddr rfl) ?_
      refine TriOps.q (.load1 rfl) ?_
      refine TriOps.sliceO 1 (x :: D').length hO2 ⟨_, rfl⟩ rfl (by simp) (by simp) (fun v6 hO6 => ?_)
      have i6 := hO6.oneCell
      refine TriOps.q (.nilCheck rfl) ?_
      refine TriOps.q (.fieldAddr rfl) ?_
      refine TriOps.store1 rfl rfl ?_
      refine .nil ?_
      refine blkQ_n ?_
      exact loopQ_i (C ++ [x], D', v5, T5, v6, Wt) ⟨by rw [hCD]; simp, by rw [List.map_append]; exact hO5, by simpa using hO6, fun p hp => by
        rcases List.mem_append.1 hp with hp | hp
        · exact hC p hp
        · simp at hp; subst hp; simpa using h1⟩ (by simp) ((((EnvLe.nil _).cons rfl).cons rfl).cons rfl) (HLe.pick [1, 1, 1] _)
    · skip
      refine .exit (seqQ_x (loopQ_x (blkQ_x ?_)))
      refine seqQ_n ?_
      refine .seq ?_
      refine .region ?_
      refine TriOps.q .move ?_
      refine TriOps.q .assign ?_
      refine .nil ?_
      refine seqQ_n ?_
      refine .ret (retQ_r _ (.one (.tmp rfl)) ((HLe.ofPerm (H' := [(q, .cells [wt].toArray 50 (0, 0)) :: Wt, To]) (by simp))) ?_)
      refine ⟨_, To, C, x :: D', rfl, hCD, hO1, ⟨wt, Wt, rfl, hO2, by simp at hlen ⊢; omega⟩, hC, fun p hp => ?_⟩
      cases hp
      simpa using h1
  · skip
    refine TriOps.gF g2_6 ?_
    refine TriOps.gF g2_6 ?_
    refine TriOps.gF g2_6 ?_
    refine TriOps.gF g2_6 ?_
    refine TriOps.gF g2_6 ?_
    refine TriOps.gF g2_6 ?_
    refine TriOps.gF g2_6 ?_
    refine TriOps.gF g2_6 ?_
    refine TriOps.gF g2_6 ?_
    refine TriOps.q (.pickFh g2_6) ?_
    refine .nil ?_
    refine seqQ_n ?_
    refine .condF ?_
    refine .exit (seqQ_x (loopQ_x (blkQ_x ?_)))
    refine seqQ_n ?_
    refine .seq ?_
    refine .region ?_
    refine TriOps.q .move ?_
    refine TriOps.q .assign ?_
    refine .nil ?_
    refine seqQ_n ?_
    refine .ret (retQ_r _ (.one (.tmp rfl)) ((HLe.ofPerm (H' := [(q, .cells [wt].toArray 50 (0, 0)) :: Wt, To]) (by simp))) ?_)
    refine ⟨_, To, C, D, rfl, hCD, hO1, ⟨wt, Wt, rfl, hO2, by omega⟩, hC, fun p hp => ?_⟩
    cases D with
    | nil => cases hp
    | cons x D' => simp at g2_6
end Go.Proofs.Ytlmdgdehjpahiaa
