/- What the law 'CoreNobody' uses of this prover's engine, facts and walks. No condition. -/
import Derived.Test.YtkagfkbkpiebjaaGreatDoorKCoreNobodyH
import Derived.Test.YtkagfkbkpiebjaaGreatDoorKCoreNobodyJ
import Derived.Test.YtkagfkbkpiebjaaGreatDoorKCoreNobodyL
import Derived.Test.YtkagfkbkpiebjaaGreatDoorKCoreNobodyO
set_option linter.unusedVariables false
set_option maxRecDepth 4000
namespace Go.Proofs.YtkagfkbkpiebjaaGreatDoor
theorem oplain_spec (w : Value) (t : Tok) (R : Rds) {R' : Rds} (h : TokR R' (w, t)) : Spec Tryz.prog 26 [.agg (encT (w, t)).toArray] R [] fun v H' => v = .agg (encT (w, t)).toArray ∧ H' = [] := by
  have i1 : Ones (encT (w, t)) := ⟨h.ones⟩
  have hv1 : RS R' 1 encS w t.scopes := h
  obtain ⟨p1, k1, rfl⟩ := hv1.val
  refine Spec.body Tryz.func26 rfl Tryz.results26 Tryz.ntmps26 rfl ?_
  refine .seq (.region ?_)
  refine TriOps.boxA rfl (fun b1 => ?_)
  refine TriOps.allocA (fun b2 => ?_)
  refine .nil (seqQ_n ?_)
  refine .seq (.region ?_)
  refine .q (.fieldAddr rfl) ?_
  refine .q (.load1 rfl) ?_
  refine .q (.fieldAddr rfl) ?_
  refine .q (.load1 rfl) ?_
  refine .q (.fieldAddr rfl) ?_
  refine .q (.load1 rfl) ?_
  refine .q (.fieldAddr rfl) ?_
  refine .q (.load1 rfl) ?_
  refine .q (.fieldAddr rfl) ?_
  refine .q (.load1 rfl) ?_
  refine .q (.fieldAddr rfl) ?_
  refine .q (.load1 rfl) ?_
  refine .q (.fieldAddr rfl) ?_
  refine .q (.load1 rfl) ?_
  refine .q (.fieldAddr rfl) ?_
  refine .q (.load1 rfl) ?_
  refine .q (.fieldAddr rfl) ?_
  refine .q (.load1 rfl) ?_
  refine .q .bld ?_
  refine TriOps.storeA rfl rfl ?_
  refine .nil (seqQ_n ?_)
  refine .ret (retQ_r _ (.one (.cellA rfl rfl)) (.none _) ?_)
  · exact ⟨rfl, rfl⟩
theorem oloadN_spec (pb pv : Nat) (now : Int) (R : Rds) : Spec Tryz.prog 27 [.pointer none, .pointer (some ⟨pb, 0, none⟩), .pointer (some ⟨pv, 0, none⟩), .int .i64 now] R [] fun v H' => v = .tuple [.pointer none, .int .i64 1].toArray ∧ H' = [] := by
  refine Spec.body Tryz.func27 rfl Tryz.results27 Tryz.ntmps27 rfl ?_
  refine .seq (.region ?_)
  refine .q .assign ?_
  refine .q .assign ?_
  refine .nil (seqQ_n ?_)
  refine .seq ?_
  refine .block ?_
  refine .seq (.region ?_)
  refine .q .move ?_
  refine .q (.eqNilA rfl rfl) ?_
  refine .q .move ?_
  refine TriOps.gf rfl rfl ?_
  refine TriOps.gf rfl rfl ?_
  refine .q .pickT ?_
  refine .q .move ?_
  refine TriOps.gf rfl rfl ?_
  refine TriOps.gf rfl rfl ?_
  refine .q .pickT ?_
  refine .q .assign ?_
  refine .nil (seqQ_n ?_)
  refine .condT ?_
  refine .seq (.region ?_)
  refine .q .assign ?_
  refine .q .assign ?_
  refine .nil (seqQ_n ?_)
  refine .ret (blkQ_r (seqQ_r (retQ_r _ (.two (.tmp rfl) (.tmp rfl)) (.none _) ?_)))
  · exact ⟨rfl, rfl⟩
theorem oload_spec (pc pb pv : Nat) (now : Int) (R : Rds) : Spec Tryz.prog 27 [.pointer (some ⟨pc, 0, none⟩), .pointer (some ⟨pb, 0, none⟩), .pointer (some ⟨pv, 0, none⟩), .int .i64 now] R [] fun v H' => ((now < 0 ∨ now > 1125899906842624) ∧ v = .tuple [.pointer none, .int .i64 4].toArray ∧ H' = [[]]) ∨ (0 ≤ now ∧ now ≤ 1125899906842624 ∧ ∃ q, v = .tuple [.pointer (some ⟨q, 0, none⟩), .int .i64 0].toArray ∧ H' = [[(q, .cells [.pointer (some ⟨pc, 0, none⟩), .pointer (some ⟨pb, 0, none⟩), .pointer (some ⟨pv, 0, none⟩), .int .i64 now].toArray 63 (0, 0))]]) := by
  refine Spec.segs (H' := [[]]) (by simp) ?_
  refine Spec.body Tryz.func27 rfl Tryz.results27 Tryz.ntmps27 rfl ?_
  refine .seq (.region ?_)
  refine .q .assign ?_
  refine .q .assign ?_
  refine .nil (seqQ_n ?_)
  refine .seq ?_
  refine .block ?_
  refine .seq (.region ?_)
  refine .q .move ?_
  refine .q (.eqNilA rfl rfl) ?_
  refine .q .move ?_
  refine TriOps.gt rfl ?_
  refine .q .move ?_
  refine TriOps.gt rfl ?_
  refine .q (.eqNilA rfl rfl) ?_
  refine .q .pickF ?_
  refine .q .move ?_
  refine TriOps.gt rfl ?_
  refine .q .move ?_
  refine TriOps.gt rfl ?_
  refine .q (.eqNilA rfl rfl) ?_
  refine .q .pickF ?_
  refine .q .assign ?_
  refine .nil (seqQ_n ?_)
  refine .condF ?_
  refine .seq (.region ?_)
  refine .q .move ?_
  refine .q .lss ?_
  refine .q .move ?_
  refine TriOps.split (t := 24) rfl (fun g3_2 => ?_) (fun g3_2 => ?_)
  refine TriOps.gF g3_2 ?_
  refine TriOps.gF g3_2 ?_
  refine .q (.pickTh g3_2) ?_
  refine .q .assign ?_
  refine .nil (seqQ_n ?_)
  refine .condT ?_
  refine .seq (.region ?_)
  refine .q .assign ?_
  refine .q .assign ?_
  refine .nil (seqQ_n ?_)
  refine .ret (blkQ_r (seqQ_r (retQ_r _ (.two (.tmp rfl) (.tmp rfl)) (.one [0] _) ?_)))
  · refine .inl ⟨?_, rfl, rfl⟩
    first
      | (exact .inl (by simpa using g3_2))
      | (exact .inr (by simpa using h2))
  refine TriOps.gT g3_2 ?_
  refine .q .move ?_
  refine TriOps.gT g3_2 ?_
  refine .q .gtr ?_
  refine .q (.pickFh g3_2) ?_
  refine .q .assign ?_
  refine .nil (seqQ_n ?_)
  refine .cond rfl (fun h2 => ?_) (fun h2 => ?_)
  refine .seq (.region ?_)
  refine .q .assign ?_
  refine .q .assign ?_
  refine .nil (seqQ_n ?_)
  refine .ret (blkQ_r (seqQ_r (retQ_r _ (.two (.tmp rfl) (.tmp rfl)) (.one [0] _) ?_)))
  · refine .inl ⟨?_, rfl, rfl⟩
    first
      | (exact .inl (by simpa using g3_2))
      | (exact .inr (by simpa using h2))
  refine .skip ?_
  refine blkQ_n (seqQ_n ?_)
  refine .seq (.region ?_)
  refine .q .move ?_
  refine .q .move ?_
  refine .q .move ?_
  refine .q .move ?_
  refine .q .bld ?_
  refine TriOps.boxA rfl (fun b33 => ?_)
  refine .q .assign ?_
  refine .q .assign ?_
  refine .nil (seqQ_n ?_)
  refine .ret (retQ_r _ (.two (.tmp rfl) (.tmp rfl)) (.one [0] _) ?_)
  · exact .inr ⟨by simpa using g3_2, by simpa using h2, _, rfl, rfl⟩
end Go.Proofs.YtkagfkbkpiebjaaGreatDoor
set_option linter.unusedVariables false
set_option maxRecDepth 4000
namespace Go.Proofs.YtkagfkbkpiebjaaGreatDoor
/-- A core's block and its three parts'. -/
def CI (q : Nat) (cs : List Cli) (C : List (Who × List ByteArray)) (A : List (ByteArray × Cod)) (V : List (ByteArray × Tok)) (last now : Int) (T : Seg) : Prop :=
  ∃ gc gb gv Tc Tb Tv, T = (q, .cells [.pointer (some ⟨gc, 0, none⟩), .pointer (some ⟨gb, 0, none⟩), .pointer (some ⟨gv, 0, none⟩), .int .i64 now].toArray 63 (0, 0)) :: (Tc ++ (Tb ++ Tv)) ∧ RI gc cs Tc ∧ GI gb C A Tb ∧ VI gv V last Tv
theorem onew_spec (R : Rds) : Spec Tryz.prog 9 [] R [] fun v H' => ∃ T, H' = [T] ∧ ∃ q, v = .pointer (some ⟨q, 0, none⟩) ∧ CI q [] [] [] [] 0 0 T := by
  refine Spec.body Tryz.func9 rfl Tryz.results9 Tryz.ntmps9 rfl ?_
  refine .seq (.region ?_)
  refine .q .assign ?_
  refine .nil (seqQ_n ?_)
  refine .seq (.region ?_)
  refine TriOps.callN (cnew_spec _) (fun u T1 hu => ?_)
  obtain ⟨g1, rfl, h1⟩ := hu
  refine TriOps.callN (gnew_spec _) (fun u T2 hu => ?_)
  obtain ⟨g2, rfl, h2⟩ := hu
  refine TriOps.callN (vnew_spec _) (fun u T3 hu => ?_)
  obtain ⟨g3, rfl, h3⟩ := hu
  refine .q .bld ?_
  refine TriOps.boxA rfl (fun b5 => ?_)
  refine .q .assign ?_
  refine .nil (seqQ_n ?_)
  refine .ret (retQ_r _ (.one (.tmp rfl)) (.one [0, 2, 1, 0] _) ?_)
  · exact ⟨_, rfl, _, rfl, g1, g2, g3, T1, T2, T3, by simp [take, dropAt, setL], h1, h2, h3⟩
end Go.Proofs.YtkagfkbkpiebjaaGreatDoor
set_option linter.unusedVariables false
set_option maxRecDepth 4000
namespace Go.Proofs.YtkagfkbkpiebjaaGreatDoor
theorem ook_spec (q a : Nat) (b c d : Value) (R : Rds) [pc : PC R (.pointer (some ⟨q, 0, none⟩)) [.pointer (some ⟨a, 0, none⟩), b, c, d]] : Spec Tryz.prog 44 [.pointer (some ⟨q, 0, none⟩)] R [] fun v H' => v = .bool true ∧ H' = [] := by
  refine Spec.body Tryz.func44 rfl Tryz.results44 Tryz.ntmps44 rfl ?_
  refine .seq (.region ?_)
  refine .q .assign ?_
  refine .nil (seqQ_n ?_)
  refine .seq (.region ?_)
  refine .q .move ?_
  refine .q (.neNilA rfl rfl) ?_
  refine .q .move ?_
  refine TriOps.gt rfl ?_
  refine .q .move ?_
  refine TriOps.gt rfl ?_
  refine .q (.nilCheck rfl) ?_
  refine TriOps.gt rfl ?_
  refine .q (.fieldAddr rfl) ?_
  refine TriOps.gt rfl ?_
  refine .q (.load1 rfl) ?_
  refine TriOps.gt rfl ?_
  refine .q (.neNilA rfl rfl) ?_
  refine .q .pickT ?_
  refine .q .assign ?_
  refine .nil (seqQ_n ?_)
  refine .ret (retQ_r _ (.one (.tmp rfl)) (.none _) ?_)
  · exact ⟨rfl, rfl⟩
theorem onow_spec (q a : Nat) (b c : Value) (now : Int) (R : Rds) [pc : PC R (.pointer (some ⟨q, 0, none⟩)) [.pointer (some ⟨a, 0, none⟩), b, c, .int .i64 now]] : Spec Tryz.prog 19 [.pointer (some ⟨q, 0, none⟩)] R [] fun v H' => v = .int .i64 now ∧ H' = [] := by
  refine Spec.body Tryz.func19 rfl Tryz.results19 Tryz.ntmps19 rfl ?_
  refine .seq (.region ?_)
  refine .q .assign ?_
  refine .nil (seqQ_n ?_)
  refine .seq ?_
  refine .seq (.region ?_)
  refine .q .move ?_
  refine TriOps.callR (ook_spec q a b c _ _) (fun v hv => ?_)
  subst hv
  refine .q .not ?_
  refine .nil (seqQ_n ?_)
  refine .condF ?_
  refine .skip ?_
  refine seqQ_n ?_
  refine .seq (.region ?_)
  refine .q .move ?_
  refine .q (.nilCheck rfl) ?_
  refine .q (.fieldAddr rfl) ?_
  refine .q (.load1 rfl) ?_
  refine .q .assign ?_
  refine .nil (seqQ_n ?_)
  refine .ret (retQ_r _ (.one (.tmp rfl)) (.none _) ?_)
  · exact ⟨rfl, rfl⟩
theorem obook_spec (q a g : Nat) (c d : Value) (R : Rds) [pc : PC R (.pointer (some ⟨q, 0, none⟩)) [.pointer (some ⟨a, 0, none⟩), .pointer (some ⟨g, 0, none⟩), c, d]] : Spec Tryz.prog 13 [.pointer (some ⟨q, 0, none⟩)] R [] fun v H' => v = .pointer (some ⟨g, 0, none⟩) ∧ H' = [] := by
  refine Spec.body Tryz.func13 rfl Tryz.results13 Tryz.ntmps13 rfl ?_
  refine .seq (.region ?_)
  refine .q .assign ?_
  refine .nil (seqQ_n ?_)
  refine .seq ?_
  refine .seq (.region ?_)
  refine .q .move ?_
  refine TriOps.callR (ook_spec q a _ c d _) (fun v hv => ?_)
  subst hv
  refine .q .not ?_
  refine .nil (seqQ_n ?_)
  refine .condF ?_
  refine .skip ?_
  refine seqQ_n ?_
  refine .seq (.region ?_)
  refine .q .move ?_
  refine .q (.nilCheck rfl) ?_
  refine .q (.fieldAddr rfl) ?_
  refine .q (.load1 rfl) ?_
  refine .q .assign ?_
  refine .nil (seqQ_n ?_)
  refine .ret (retQ_r _ (.one (.tmp rfl)) (.none _) ?_)
  · exact ⟨rfl, rfl⟩
end Go.Proofs.YtkagfkbkpiebjaaGreatDoor
set_option linter.unusedVariables false
set_option maxRecDepth 4000
namespace Go.Proofs.YtkagfkbkpiebjaaGreatDoor
theorem oadd_spec (q : Nat) (cs : List Cli) (C : List (Who × List ByteArray)) (A : List (ByteArray × Cod)) (V : List (ByteArray × Tok)) (last now : Int) (T : Seg) (h : CI q cs C A V last now T) (r : CR) (c : Cli) (R : Rds) (hc : CliR R r c) (hf : c.fits) (hw : c.few) :
    Spec Tryz.prog 36 [.pointer (some ⟨q, 0, none⟩), .agg r.cells.toArray] R [T] fun v H' => ∃ T', H' = [T'] ∧ v = .int .i64 (cadd cs c).1 ∧ CI q (cadd cs c).2 C A V last now T' := by
  obtain ⟨gc, gb, gv, Tc, Tb, Tv, rfl, hR, hG, hV⟩ := h
  have i1 : Ones r.cells := ⟨hc.ones⟩
  refine Spec.segs (H' := [[(q, .cells [.pointer (some ⟨gc, 0, none⟩), .pointer (some ⟨gb, 0, none⟩), .pointer (some ⟨gv, 0, none⟩), .int .i64 now].toArray 63 (0, 0))], Tc, Tb, Tv]) (by simp) ?_
  refine Spec.body Tryz.func36 rfl Tryz.results36 Tryz.ntmps36 rfl ?_
  refine .seq (.region ?_)
  refine TriOps.boxA rfl (fun b3 => ?_)
  refine .q .assign ?_
  refine .nil (seqQ_n ?_)
  refine .seq ?_
  refine .seq (.region ?_)
  refine .q .move ?_
  refine TriOps.callR (ook_spec q gc _ _ _ _) (fun v hv => ?_)
  subst hv
  refine .q .not ?_
  refine .nil (seqQ_n ?_)
  refine .condF ?_
  refine .skip ?_
  refine seqQ_n ?_
  refine .seq ?_
  refine .region_tail 5 mixed (by kernel_rfl) ?_
  conv => arg 6; dsimp only [List.take]
  refine .q .move ?_
  refine .q (.nilCheck rfl) ?_
  refine .q (.fieldAddr rfl) ?_
  refine .q (.load1 rfl) ?_
  refine .q (.loadA rfl) ?_
  refine .nil ?_
  refine TriOps.callM (cadd_spec gc cs Tc hR r c R hc hf hw) (fun u T1 hu => ?_)
  obtain ⟨rfl, hR1⟩ := hu
  refine .q .assign ?_
  refine .nil (seqQ_n ?_)
  refine .ret (retQ_r _ (.one (.tmp rfl)) (.one [1, 1, 1, 1] _) ?_)
  · exact ⟨_, rfl, rfl, gc, gb, gv, T1, Tb, Tv, by simp [take, dropAt], hR1, hG, hV⟩
end Go.Proofs.YtkagfkbkpiebjaaGreatDoor
set_option linter.unusedVariables false
set_option maxRecDepth 4000
namespace Go.Proofs.YtkagfkbkpiebjaaGreatDoor
theorem oknown_spec (q gc : Nat) (b c d : Value) (cs : List Cli) (Tc : Seg) (hR : RI gc cs Tc) (id : ByteArray) (R : Rds) (hr : ∀ p ∈ Tc, R p.1 p.2) [pc : PC R (.pointer (some ⟨q, 0, none⟩)) [.pointer (some ⟨gc, 0, none⟩), b, c, d]] : Spec Tryz.prog 86 [.pointer (some ⟨q, 0, none⟩), .string id] R [] fun v H' => v = .bool (cget id cs).isSome ∧ H' = [] := by
  refine Spec.body Tryz.func86 rfl Tryz.results86 Tryz.ntmps86 rfl ?_
  refine .seq (.region ?_)
  refine .q .assign ?_
  refine .nil (seqQ_n ?_)
  refine .seq (.region ?_)
  refine .q .move ?_
  refine .q (.nilCheck rfl) ?_
  refine .q (.fieldAddr rfl) ?_
  refine .q (.load1 rfl) ?_
  refine .q .move ?_
  refine TriOps.callN (cget_spec gc cs Tc hR id _ fun p hp => .inl (hr p hp)) (fun u T1 hu => ?_)
  obtain ⟨r1, rfl, hc1⟩ := hu
  have i1 : Ones r1.cells := ⟨hc1.ones⟩
  refine .q .move ?_
  refine .q .extract ?_
  refine .q .extract ?_
  refine TriOps.allocA (fun b5 => ?_)
  refine TriOps.storeA rfl rfl ?_
  refine .q .assign ?_
  refine .nil (seqQ_n ?_)
  refine .seq (.region ?_)
  refine .q .move ?_
  refine .q .assign ?_
  refine .nil (seqQ_n ?_)
  refine .ret (retQ_r _ (.one (.tmp rfl)) (.none _) ?_)
  · exact ⟨rfl, rfl⟩
end Go.Proofs.YtkagfkbkpiebjaaGreatDoor
set_option linter.unusedVariables false
set_option maxRecDepth 4000
namespace Go.Proofs.YtkagfkbkpiebjaaGreatDoor
def oconE (cs : List Cli) (user id : ByteArray) (scopes : List ByteArray) : Int := if isID user = false then 9 else if (cget id cs).isSome = false then 17 else if casks id scopes cs = false then 19 else 0
theorem oconsent_spec (q : Nat) (cs : List Cli) (C : List (Who × List ByteArray)) (A : List (ByteArray × Cod)) (V : List (ByteArray × Tok)) (last now : Int) (T : Seg) (h : CI q cs C A V last now T) (user id : ByteArray) (hu : user.size ≤ 9223372036854775807) (vs : Value) (scopes : List ByteArray) (R : Rds) (hs : RS R 1 encS vs scopes) (hsl : scopes.length ≤ 100000) (hb : ∀ p ∈ C, p.2.length ≤ 1000000) :
    Spec Tryz.prog 38 [.pointer (some ⟨q, 0, none⟩), .string user, .string id, vs] R [T] fun v H' => ∃ T', H' = [T'] ∧ v = .int .i64 (oconE cs user id scopes) ∧ ∃ C', (oconE cs user id scopes ≠ 0 → C' = C) ∧ (oconE cs user id scopes = 0 → ∃ l, Rise l ∧ (∀ s, s ∈ l ↔ s ∈ (mget (user, id) C).getD [] ∨ s ∈ scopes) ∧ l.length ≤ ((mget (user, id) C).getD []).length + scopes.length ∧ C' = if l = [] then C else kset (user, id) l C) ∧ CI q cs C' A V last now T' := by
  obtain ⟨gc, gb, gv, Tc, Tb, Tv, rfl, hR, hG, hV⟩ := h
  have i1 := hs.oneCell
  refine Spec.segs (H' := [[(q, .cells [.pointer (some ⟨gc, 0, none⟩), .pointer (some ⟨gb, 0, none⟩), .pointer (some ⟨gv, 0, none⟩), .int .i64 now].toArray 63 (0, 0))], Tc, Tb, Tv]) (by simp) ?_
  refine Spec.body Tryz.func38 rfl Tryz.results38 Tryz.ntmps38 rfl ?_
  refine .seq (.region ?_)
  refine .q .assign ?_
  refine .nil (seqQ_n ?_)
  refine .seq ?_
  refine .block ?_
  refine .seq (.region ?_)
  refine .q .move ?_
  refine TriOps.callR (ook_spec q gc _ _ _ _) (fun v hv => ?_)
  subst hv
  refine .q .not ?_
  refine .q .assign ?_
  refine .nil (seqQ_n ?_)
  refine .condF ?_
  refine .seq (.region ?_)
  refine .q .move ?_
  refine TriOps.callR (id_spec user hu _) (fun v hv => ?_)
  subst hv
  refine .q .not ?_
  refine .q .assign ?_
  refine .nil (seqQ_n ?_)
  refine .cond rfl (fun h2 => ?_) (fun h2 => ?_)
  refine .seq (.region ?_)
  refine .q .assign ?_
  refine .nil (seqQ_n ?_)
  refine .ret (blkQ_r (seqQ_r (retQ_r _ (.one (.tmp rfl)) (.one [0, 0, 0, 0] _) ?_)))
  · have e : oconE cs user id scopes = 9 := by unfold oconE; rw [if_pos (by simpa using h2)]
    rw [e]
    exact ⟨_, rfl, rfl, C, fun _ => rfl, fun h9 => by simp at h9, gc, gb, gv, Tc, Tb, Tv, by simp [take, dropAt], hR, hG, hV⟩
  refine .seq (.region ?_)
  refine .q .move ?_
  refine .q .move ?_
  refine TriOps.callR (oknown_spec q gc _ _ _ cs Tc hR id _ (fun p hp => .inr (by simp [hp]))) (fun v hv => ?_)
  subst hv
  refine .q .not ?_
  refine .q .assign ?_
  refine .nil (seqQ_n ?_)
  refine .cond rfl (fun h3 => ?_) (fun h3 => ?_)
  refine .seq (.region ?_)
  refine .q .assign ?_
  refine .nil (seqQ_n ?_)
  refine .ret (blkQ_r (seqQ_r (retQ_r _ (.one (.tmp rfl)) (.one [0, 0, 0, 0] _) ?_)))
  · have e : oconE cs user id scopes = 17 := by unfold oconE; rw [if_neg (by simpa using h2), if_pos (by simpa using h3)]
    rw [e]
    exact ⟨_, rfl, rfl, C, fun _ => rfl, fun h9 => by simp at h9, gc, gb, gv, Tc, Tb, Tv, by simp [take, dropAt], hR, hG, hV⟩
  refine .seq (.region ?_)
  refine .q .move ?_
  refine .q (.nilCheck rfl) ?_
  refine .q (.fieldAddr rfl) ?_
  refine .q (.load1 rfl) ?_
  refine .q .move ?_
  refine .q .move ?_
  refine TriOps.callR (casks_spec gc cs Tc hR id vs scopes _ (fun p hp => .inr (by simp [hp])) hs.rx) (fun v hv => ?_)
  subst hv
  refine .q .not ?_
  refine .q .assign ?_
  refine .nil (seqQ_n ?_)
  refine .cond rfl (fun h4 => ?_) (fun h4 => ?_)
  refine .seq (.region ?_)
  refine .q .assign ?_
  refine .nil (seqQ_n ?_)
  refine .ret (blkQ_r (seqQ_r (retQ_r _ (.one (.tmp rfl)) (.one [0, 0, 0, 0] _) ?_)))
  · have e : oconE cs user id scopes = 19 := by unfold oconE; rw [if_neg (by simpa using h2), if_neg (fun h9 => by rw [show (cget id cs).isSome = true by simpa using h3] at h9; cases h9), if_pos (by simpa using h4)]
    rw [e]
    exact ⟨_, rfl, rfl, C, fun _ => rfl, fun h9 => by simp at h9, gc, gb, gv, Tc, Tb, Tv, by simp [take, dropAt], hR, hG, hV⟩
  refine .skip ?_
  refine blkQ_n (seqQ_n ?_)
  refine .seq (.region ?_)
  refine .q .move ?_
  refine .q (.nilCheck rfl) ?_
  refine .q (.fieldAddr rfl) ?_
  refine .q (.load1 rfl) ?_
  refine .q .move ?_
  refine .q .move ?_
  refine .q .move ?_
  refine TriOps.callM (gconsent_spec gb C A Tb hG user id vs scopes R hs hsl hb) (fun u T1 hu => ?_)
  obtain ⟨rfl, l, hl1, hl2, hl3, hG1⟩ := hu
  refine .nil (seqQ_n ?_)
  refine .seq (.region ?_)
  refine .q .assign ?_
  refine .nil (seqQ_n ?_)
  refine .ret (retQ_r _ (.one (.tmp rfl)) (.one [0, 0, 0, 0] _) ?_)
  · have e : oconE cs user id scopes = 0 := by unfold oconE; rw [if_neg (by simpa using h2), if_neg (fun h9 => by rw [show (cget id cs).isSome = true by simpa using h3] at h9; cases h9), if_neg (by simpa using h4)]
    rw [e]
    exact ⟨_, rfl, rfl, _, fun h9 => absurd rfl h9, fun _ => ⟨l, hl1, hl2, hl3, rfl⟩, gc, gb, gv, Tc, T1, Tv, by simp [take, dropAt], hR, hG1, hV⟩
end Go.Proofs.YtkagfkbkpiebjaaGreatDoor
set_option linter.unusedVariables false
set_option maxRecDepth 4000
namespace Go.Proofs.YtkagfkbkpiebjaaGreatDoor
theorem gsweep_spec (g : Nat) (C : List (Who × List ByteArray)) (A : List (ByteArray × Cod)) (T : Seg) (h : GI g C A T) (now : Int) (R : Rds) :
    Spec Tryz.prog 80 [.pointer (some ⟨g, 0, none⟩), .int .i64 now] R [T] fun v H' => ∃ T', H' = [T'] ∧ v = .tuple #[] ∧ GI g C (A.filter fun x => decide (now < x.2.expires)) T' := by
  have hAn := h.nd
  obtain ⟨Td, _, rfl, vc, MC, vm, M, q, Tc, Tm, Tq, rfl, hCC, hM, hI, hA, hQ⟩ := h
  obtain ⟨bm, rfl⟩ : ∃ b, vm = .map (some b) := by obtain ⟨b, es, clock, h1, _⟩ := hM; exact ⟨b, h1⟩
  have ic : One vc := ⟨by obtain ⟨b, es, clock, h1, _⟩ := hCC.1; subst h1; rfl⟩
  refine Spec.segs (H' := [[(g, .cells [vc, .map (some bm), .pointer (some ⟨q, 0, none⟩)].toArray 110 (0, 0))], Tc, Tm, Tq, Td]) (by simp) ?_
  refine Spec.body Tryz.func80 rfl Tryz.results80 Tryz.ntmps80 rfl ?_
  refine .seq ?_
  refine .seq (.region ?_)
  refine .q .move ?_
  refine TriOps.callR (gok_spec g bm _ _ _) (fun v hv => ?_)
  subst hv
  refine .q .not ?_
  refine .nil (seqQ_n ?_)
  refine .condF ?_
  refine .skip ?_
  refine seqQ_n ?_
  refine .seq (.region ?_)
  refine .q .move ?_
  refine .q (.nilCheck rfl) ?_
  refine .q (.fieldAddr rfl) ?_
  refine .q (.load1 rfl) ?_
  refine .q .move ?_
  refine TriOps.call [3] (qdue_spec q _ Tq hQ now _) (fun u H' hu => ?_)
  obtain ⟨Tq2, To, B, A', rfl, hO, hQ2, hD, hD2⟩ := hu
  show TriOps _ _ _ _ _ _ _ [Tq2, To, [(g, .cells [vc, .map (some bm), .pointer (some ⟨q, 0, none⟩)].toArray 110 (0, 0))], Tc, Tm, Td] _
  have hOl := hO.le
  refine .q (.lenO hO) ?_
  refine .q .move ?_
  refine .nil (seqQ_n ?_)
  refine .block ?_
  refine .loop (X := Nat × List (ByteArray × GP) × Seg) (fun y => (y.1 ≤ B.length ∧ y.2.1 = M.filter fun x => decide (x.1 ∉ (B.map (·.1)).take y.1)) ∧ MS (fun s : ByteArray => .string s) (fun p : GP => .agg (encG p).toArray) (.map (some bm)) y.2.1 y.2.2) (fun y => [(0, .pointer (some ⟨g, 0, none⟩)), (14, u), (15, .int .i64 ((B.map (·.1)).length : Nat)), (16, .int .i64 (y.1 : Nat))]) (fun y => [Tq2, To, [(g, .cells [vc, .map (some bm), .pointer (some ⟨q, 0, none⟩)].toArray 110 (0, 0))], Tc, y.2.2, Td]) (fun y => B.length - y.1) (0, M, Tm) ⟨⟨by omega, by simp only [List.take_zero]; exact (List.filter_eq_self.2 fun x _ => by simp).symm⟩, hM⟩ (((((EnvLe.nil _).cons rfl).cons rfl).cons rfl).cons rfl) (HLe.refl _) ?_
  rintro ⟨i, M1, Tm1⟩ ⟨⟨hi, hM1e⟩, hM1⟩
  simp only at hi hM1e hM1 ⊢
  refine .seq (.region ?_)
  refine .q .lss ?_
  refine .nil (seqQ_n ?_)
  refine .seq ?_
  refine .cond rfl (fun h2 => ?_) (fun h2 => ?_)
  have hlt : i < (B.map (·.1)).length := by have := of_decide_eq_true h2; omega
  obtain ⟨k, hk⟩ : ∃ k, (B.map (·.1))[i]? = some k := ⟨_, List.getElem?_eq_getElem hlt⟩
  have hlt2 : i < B.length := by simpa using hlt
  refine .skip ?_
  refine seqQ_n ?_
  refine .seq ?_
  refine .block ?_
  refine .seq (.region ?_)
  refine TriOps.indexO i hO hk (fun p18 => ?_)
  refine .q (.load1 rfl) ?_
  refine .q .assign ?_
  refine .nil (seqQ_n ?_)
  refine .region ?_
  refine .q .move ?_
  refine .q (.nilCheck rfl) ?_
  refine .q (.fieldAddr rfl) ?_
  refine .q (.load1 rfl) ?_
  refine .q .move ?_
  refine TriOps.delete hM1 rfl (show _ = some (Value.string k) from rfl) (fun Tm2 hM2 _ => ?_)
  refine .nil ?_
  refine blkQ_n (seqQ_n ?_)
  refine .region ?_
  refine .q (.i64 ((i + 1 : Nat) : Int) .add ⟨by omega, by omega, by omega⟩) ?_
  refine .q .move ?_
  refine .nil ?_
  · exact loopQ_i (i + 1, mdel k M1, Tm2) ⟨⟨by simp only; omega, by simp only; rw [mdel_kdel hM1.nd, hM1e, sweep_step, List.take_add_one, hk]; rfl⟩, hM2⟩ (by simp only; omega) (((((EnvLe.nil _).cons rfl).cons rfl).cons rfl).cons rfl) (HLe.refl _)
  have hiB : i = B.length := by have := of_decide_eq_false h2; simp at this; omega
  have hM1f : M1 = M.filter fun x => decide (now < x.2.2.expires) := by
    rw [hM1e, hiB, List.take_of_length_le (by simp)]
    refine List.filter_congr fun x hx => ?_
    have hpm := hD.pm
    have hxA : (x.1, x.2.2) ∈ A := hA.mem_iff.1 (kmap_mem hx)
    have hxe : (x.1, x.2.2.expires) ∈ kmap (fun t : Cod => t.expires) A := kmap_mem hxA
    by_cases hle : now < x.2.2.expires
    · have : x.1 ∉ B.map (·.1) := fun hm => by
        obtain ⟨p, hp, hpe⟩ := List.mem_map.1 hm
        have h5 : p ∈ kmap (fun t : Cod => t.expires) A := hpm.mem_iff.2 (List.mem_append_left _ hp)
        have h6 : mget x.1 (kmap (fun t : Cod => t.expires) A) = some p.2 := mget_of_mem (by rw [kmap_keys]; exact hAn) (by rw [← hpe]; exact h5)
        have h7 : mget x.1 (kmap (fun t : Cod => t.expires) A) = some x.2.2.expires := mget_of_mem (by rw [kmap_keys]; exact hAn) hxe
        rw [h6] at h7
        have h8 := hD.le p hp
        simp only [Option.some.injEq] at h7
        omega
      rw [decide_eq_true this, decide_eq_true hle]
    · have : x.1 ∈ B.map (·.1) := by
        rcases List.mem_append.1 (hpm.mem_iff.1 hxe) with h5 | h5
        · exact List.mem_map.2 ⟨_, h5, rfl⟩
        · exact absurd (hD2 _ h5) hle
      rw [decide_eq_false hle, decide_eq_false (fun hh => hh this)]
  refine .exit (seqQ_x (loopQ_x (blkQ_x ?_)))
  refine retQ_n _ .none ((HLe.pick [2, 2, 2, 0, 1] _).trans (HLe.ofPerm (H' := [((g, .cells [vc, .map (some bm), .pointer (some ⟨q, 0, none⟩)].toArray 110 (0, 0)) :: (Tc ++ (Tm1 ++ Tq2))) ++ Td]) (by simp [take, dropAt]))) ?_
  · refine ⟨_, rfl, rfl, Td, _, rfl, vc, MC, _, M1, q, Tc, Tm1, Tq2, rfl, hCC, hM1, fun p hp => hI p (List.mem_filter.1 (hM1f ▸ hp)).1, ?_, ?_⟩
    · rw [hM1f, ← kmap_filter (q := fun t : Cod => decide (now < t.expires))]
      exact hA.filter _
    · refine hQ2.perm ((hD.filter hD2).trans (List.Perm.of_eq ?_))
      exact kmap_filter (f := fun t : Cod => t.expires) (q := fun z : Int => decide (now < z))
end Go.Proofs.YtkagfkbkpiebjaaGreatDoor
set_option linter.unusedVariables false
set_option maxRecDepth 4000
namespace Go.Proofs.YtkagfkbkpiebjaaGreatDoor
def otickE (n now : Int) : Int := if n < 0 ∨ n > 1073741824 then 2 else if now > 1125899906842624 - n then 8 else 0
theorem otick_spec (q : Nat) (cs : List Cli) (C : List (Who × List ByteArray)) (A : List (ByteArray × Cod)) (V : List (ByteArray × Tok)) (last now : Int) (T : Seg) (h : CI q cs C A V last now T) (hn0 : 0 ≤ now) (hn1 : now ≤ 1125899906842624) (n : Int) (R : Rds) :
    Spec Tryz.prog 35 [.pointer (some ⟨q, 0, none⟩), .int .i64 n] R [T] fun v H' => ∃ T', H' = [T'] ∧ v = .int .i64 (otickE n now) ∧ (otickE n now ≠ 0 → CI q cs C A V last now T') ∧ (otickE n now = 0 → (0 ≤ now + n ∧ now + n ≤ 1125899906842624) ∧ CI q cs C (A.filter fun x => decide (now + n < x.2.expires)) (V.filter fun x => decide (now + n < x.2.expires)) last (now + n) T') := by
  obtain ⟨gc, gb, gv, Tc, Tb, Tv, rfl, hR, hG, hV⟩ := h
  refine Spec.segs (H' := [[(q, .cells [.pointer (some ⟨gc, 0, none⟩), .pointer (some ⟨gb, 0, none⟩), .pointer (some ⟨gv, 0, none⟩), .int .i64 now].toArray 63 (0, 0))], Tc, Tb, Tv]) (by simp) ?_
  refine Spec.body Tryz.func35 rfl Tryz.results35 Tryz.ntmps35 rfl ?_
  refine .seq (.region ?_)
  refine .q .assign ?_
  refine .nil (seqQ_n ?_)
  refine .seq ?_
  refine .block ?_
  refine .seq (.region ?_)
  refine .q .move ?_
  refine TriOps.callR (ook_spec q gc _ _ _ _) (fun v hv => ?_)
  subst hv
  refine .q .not ?_
  refine .q .assign ?_
  refine .nil (seqQ_n ?_)
  refine .condF ?_
  refine .seq (.region ?_)
  refine .q .move ?_
  refine .q .lss ?_
  refine .q .move ?_
  refine TriOps.split (t := 12) rfl (fun g3_2 => ?_) (fun g3_2 => ?_)
  refine TriOps.gF g3_2 ?_
  refine TriOps.gF g3_2 ?_
  refine .q (.pickTh g3_2) ?_
  refine .q .assign ?_
  refine .nil (seqQ_n ?_)
  refine .condT ?_
  refine .seq (.region ?_)
  refine .q .assign ?_
  refine .nil (seqQ_n ?_)
  refine .ret (blkQ_r (seqQ_r (retQ_r _ (.one (.tmp rfl)) (.one [0, 0, 0, 0] _) ?_)))
  · have e : otickE n now = 2 := by
      unfold otickE
      rw [if_pos (by first | (exact .inl (by simpa using g3_2)) | (exact .inr (by simpa using h2)))]
    rw [e]
    exact ⟨_, rfl, rfl, fun _ => ⟨gc, gb, gv, Tc, Tb, Tv, by simp [take, dropAt], hR, hG, hV⟩, fun h9 => by simp at h9⟩
  refine TriOps.gT g3_2 ?_
  refine .q .move ?_
  refine TriOps.gT g3_2 ?_
  refine .q .gtr ?_
  refine .q (.pickFh g3_2) ?_
  refine .q .assign ?_
  refine .nil (seqQ_n ?_)
  refine .cond rfl (fun h2 => ?_) (fun h2 => ?_)
  refine .seq (.region ?_)
  refine .q .assign ?_
  refine .nil (seqQ_n ?_)
  refine .ret (blkQ_r (seqQ_r (retQ_r _ (.one (.tmp rfl)) (.one [0, 0, 0, 0] _) ?_)))
  · have e : otickE n now = 2 := by
      unfold otickE
      rw [if_pos (by first | (exact .inl (by simpa using g3_2)) | (exact .inr (by simpa using h2)))]
    rw [e]
    exact ⟨_, rfl, rfl, fun _ => ⟨gc, gb, gv, Tc, Tb, Tv, by simp [take, dropAt], hR, hG, hV⟩, fun h9 => by simp at h9⟩
  have hb : 0 ≤ n ∧ n ≤ 1073741824 := by simp at g3_2 h2; omega
  refine .seq (.region ?_)
  refine .q .move ?_
  refine .q (.nilCheck rfl) ?_
  refine .q (.fieldAddr rfl) ?_
  refine .q (.load1 rfl) ?_
  refine .q .move ?_
  refine .q (.i64 (1125899906842624 - n) .sub ⟨by omega, by omega, by omega⟩) ?_
  refine .q .gtr ?_
  refine .q .assign ?_
  refine .nil (seqQ_n ?_)
  refine .cond rfl (fun h3 => ?_) (fun h3 => ?_)
  refine .seq (.region ?_)
  refine .q .assign ?_
  refine .nil (seqQ_n ?_)
  refine .ret (blkQ_r (seqQ_r (retQ_r _ (.one (.tmp rfl)) (.one [0, 0, 0, 0] _) ?_)))
  · have e : otickE n now = 8 := by unfold otickE; rw [if_neg (by omega), if_pos (by simpa using h3)]
    rw [e]
    exact ⟨_, rfl, rfl, fun _ => ⟨gc, gb, gv, Tc, Tb, Tv, by simp [take, dropAt], hR, hG, hV⟩, fun h9 => by simp at h9⟩
  have hc : ¬ now > 1125899906842624 - n := by simpa using h3
  refine .skip ?_
  refine blkQ_n (seqQ_n ?_)
  refine .seq (.region ?_)
  refine .q .move ?_
  refine .q (.nilCheck rfl) ?_
  refine .q (.fieldAddr rfl) ?_
  refine .q (.load1 rfl) ?_
  refine .q .move ?_
  refine .q (.i64 (now + n) .add ⟨by omega, by omega, by omega⟩) ?_
  refine .q (.nilCheck rfl) ?_
  refine .q (.fieldAddr rfl) ?_
  refine TriOps.store1 rfl rfl ?_
  refine .nil (seqQ_n ?_)
  refine .seq ?_
  refine .region_tail 8 mixed (by kernel_rfl) ?_
  conv => arg 6; dsimp only [List.take]
  refine .q .move ?_
  refine .q (.nilCheck rfl) ?_
  refine .q (.fieldAddr rfl) ?_
  refine .q (.load1 rfl) ?_
  refine .q .move ?_
  refine .q (.nilCheck rfl) ?_
  refine .q (.fieldAddr rfl) ?_
  refine .q (.load1 rfl) ?_
  refine .nil ?_
  refine TriOps.callM (gsweep_spec gb C A Tb hG (now + n) R) (fun u T1 hu => ?_)
  obtain ⟨rfl, hG1⟩ := hu
  refine .nil (seqQ_n ?_)
  refine .seq ?_
  refine .region_tail 8 mixed (by kernel_rfl) ?_
  conv => arg 6; dsimp only [List.take]
  refine .q .move ?_
  refine .q (.nilCheck rfl) ?_
  refine .q (.fieldAddr rfl) ?_
  refine .q (.load1 rfl) ?_
  refine .q .move ?_
  refine .q (.nilCheck rfl) ?_
  refine .q (.fieldAddr rfl) ?_
  refine .q (.load1 rfl) ?_
  refine .nil ?_
  refine TriOps.callM (vsweep_spec gv V last Tv hV (now + n) R) (fun u T2 hu => ?_)
  obtain ⟨rfl, hV1⟩ := hu
  refine .nil (seqQ_n ?_)
  refine .seq (.region ?_)
  refine .q .assign ?_
  refine .nil (seqQ_n ?_)
  refine .ret (retQ_r _ (.one (.tmp rfl)) (.one [0, 0, 0, 0] _) ?_)
  · have e : otickE n now = 0 := by unfold otickE; rw [if_neg (by omega), if_neg hc]
    rw [e]
    exact ⟨_, rfl, rfl, fun h9 => absurd rfl h9, fun _ => ⟨by omega, gc, gb, gv, Tc, T1, T2, by simp [take, dropAt, setL], hR, hG1, hV1⟩⟩
end Go.Proofs.YtkagfkbkpiebjaaGreatDoor
