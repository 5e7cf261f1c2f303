/- Memo's data: questions, a memo, the document's memo; their smaller functions. No condition. -/
import Derived.Test.YthflndnbdgelnaaFacts
set_option linter.unusedVariables false
namespace Go.Proofs.Ythflndnbdgelnaa

structure Quest where
  rev : Int
  config : Int
  space : ByteArray
  id : ByteArray
  rel : ByteArray
  user : ByteArray
  deriving DecidableEq
def Quest.enc (q : Quest) : List Value := [.int .u64 q.rev, .int .i64 q.config, .string q.space, .string q.id, .string q.rel, .string q.user]
theorem Quest.kinds (q : Quest) : HasK [.i .u64, .i .i64, .s, .s, .s, .s] q.enc := ⟨rfl, rfl, trivial, trivial, trivial, trivial, trivial⟩
theorem Quest.eq (q r : Quest) : cellsEq q.enc r.enc = decide (q = r) := by
  cases q; cases r
  simp only [Quest.enc, cellsEq, cellEq, Quest.mk.injEq]
  rw [Bool.eq_iff_iff]; simp
instance Quest.one (q : Quest) : Ones q.enc := ⟨by simp [Quest.enc, oneCell]⟩
instance Quest.keyP : KeyT Try.prog 38 (fun q : Quest => .agg q.enc.toArray) := KeyT.agg fQ38 Try.underlying38 rfl Quest.kinds Quest.eq

/-- A memo of the program. -/
structure PM where
  size : Nat
  kept : List (Quest × Bool)
  age : List Quest
  hits : Int
def encB (b : Bool) : List Value := [.bool b]
def PM.is (b : Nat) (m : PM) (T : Seg) : Prop := ∃ vm va Tm Ta, T = (b, .cells [.bool true, .int .i64 m.size, vm, va, .int .i64 m.hits].toArray 55 (0, 0)) :: (Tm ++ Ta) ∧
  MS (fun q : Quest => .agg q.enc.toArray) Value.bool vm m.kept Tm ∧ OS 38 6 Quest.enc va m.age Ta

theorem ok_spec (b : Nat) (mk : Bool) (r : List Value) (R : Rds) (H : Segs) [rc : RC R H (.pointer (some ⟨b, 0, none⟩)) (.bool mk :: r)] :
    Spec Try.prog 15 [.pointer (some ⟨b, 0, none⟩)] R H fun v H' => v = .bool mk ∧ H' = [] := by
  refine Spec.body Try.func15 rfl Try.results15 Try.ntmps15 rfl ?_
  refine .seq ?_
  refine .region ?_
  refine TriOps.q .assign ?_
  refine .nil ?_
  refine seqQ_n ?_
  refine .seq ?_
  refine .region ?_
  refine TriOps.q .move ?_
  refine TriOps.q (.neNilP rfl rfl) ?_
  refine TriOps.q .move ?_
  refine TriOps.gt rfl ?_
  refine TriOps.q .move ?_
  refine TriOps.gt rfl ?_
  refine TriOps.q (.nilCheck rfl) ?_
  refine TriOps.gt rfl ?_
  refine TriOps.q (.fieldAddr rfl) ?_
  refine TriOps.gt rfl ?_
  refine TriOps.q (.load1 rfl) ?_
  refine TriOps.q .pickT ?_
  refine TriOps.q .assign ?_
  refine .nil ?_
  refine seqQ_n ?_
  refine .ret (retQ_r _ (.one (.tmp rfl)) (.none _) ?_)
  exact ⟨rfl, rfl⟩

theorem new_bad (n : Int) (R : Rds) (h : n < 0 ∨ 65536 < n) : Spec Try.prog 4 [.int .i64 n] R [] fun v H' => v = .tuple [.pointer none, .int .i64 2].toArray ∧ H' = [] := by
  refine Spec.body Try.func4 rfl Try.results4 Try.ntmps4 rfl ?_
  refine .seq ?_
  refine .region ?_
  refine TriOps.q .assign ?_
  refine TriOps.q .assign ?_
  refine .nil ?_
  refine seqQ_n ?_
  refine .seq ?_
  refine .seq ?_
  refine .region ?_
  refine TriOps.q .move ?_
  refine TriOps.q .lss ?_
  refine TriOps.q .move ?_
  refine TriOps.split (t := 6) rfl (fun g1_2 => ?_) (fun g1_2 => ?_)
  · skip
    refine TriOps.gF g1_2 ?_
    refine TriOps.gF g1_2 ?_
    refine TriOps.q (.pickTh g1_2) ?_
    refine .nil ?_
    refine seqQ_n ?_
    refine .condT ?_
    refine .seq ?_
    refine .region ?_
    refine TriOps.q .assign ?_
    refine TriOps.q .assign ?_
    refine .nil ?_
    refine seqQ_n ?_
    refine .ret (seqQ_r (retQ_r _ (.two (.tmp rfl) (.tmp rfl)) (.none _) ?_))
    exact ⟨rfl, rfl⟩
  · skip
    refine TriOps.gT g1_2 ?_
    refine TriOps.q .move ?_
    refine TriOps.gT g1_2 ?_
    refine TriOps.q .gtr ?_
    refine TriOps.q (.pickFh g1_2) ?_
    refine .nil ?_
    refine seqQ_n ?_
    refine .cond rfl (fun h1 => ?_) (fun h1 => ?_)
    · skip
      refine .seq ?_
      refine .region ?_
      refine TriOps.q .assign ?_
      refine TriOps.q .assign ?_
      refine .nil ?_
      refine seqQ_n ?_
      refine .ret (seqQ_r (retQ_r _ (.two (.tmp rfl) (.tmp rfl)) (.none _) ?_))
      exact ⟨rfl, rfl⟩
    · skip
      simp at g1_2 h1; omega
theorem new_ok (n : Nat) (R : Rds) (h : n ≤ 65536) : Spec Try.prog 4 [.int .i64 n] R [] fun v H' => ∃ b T, v = .tuple [.pointer (some ⟨b, 0, none⟩), .int .i64 0].toArray ∧ H' = [T] ∧ PM.is b ⟨n, [], [], 0⟩ T := by
  refine Spec.body Try.func4 rfl Try.results4 Try.ntmps4 rfl ?_
  refine .seq ?_
  refine .region ?_
  refine TriOps.q .assign ?_
  refine TriOps.q .assign ?_
  refine .nil ?_
  refine seqQ_n ?_
  refine .seq ?_
  refine .seq ?_
  refine .region ?_
  refine TriOps.q .move ?_
  refine TriOps.q .lss ?_
  refine TriOps.q .move ?_
  refine TriOps.split (t := 6) rfl (fun g1_2 => ?_) (fun g1_2 => ?_)
  · skip
    simp at g1_2; omega
  · skip
    refine TriOps.gT g1_2 ?_
    refine TriOps.q .move ?_
    refine TriOps.gT g1_2 ?_
    refine TriOps.q .gtr ?_
    refine TriOps.q (.pickFh g1_2) ?_
    refine .nil ?_
    refine seqQ_n ?_
    refine .cond rfl (fun h1 => ?_) (fun h1 => ?_)
    · skip
      simp at h1; omega
    · skip
      refine .skip ?_
      refine seqQ_n ?_
      refine .seq ?_
      refine .region ?_
      refine TriOps.q .move ?_
      refine TriOps.makeMap (fun b11 => ?_)
      refine TriOps.q .bld ?_
      refine TriOps.boxA rfl (fun b13 => ?_)
      refine TriOps.q .assign ?_
      refine TriOps.q .assign ?_
      refine .nil ?_
      refine seqQ_n ?_
      refine .ret (retQ_r _ (.two (.tmp rfl) (.tmp rfl)) (.one [0, 0] _) ?_)
      exact ⟨_, _, rfl, rfl, _, _, [(b11, .map #[] 0)], [], rfl, MS.nil, OS.nil⟩

theorem mine_spec (q : Quest) (R : Rds) : Spec Try.prog 7 [.agg q.enc.toArray] R [] fun v H' => v = .agg q.enc.toArray ∧ H' = [] := by
  refine Spec.body Try.func7 rfl Try.results7 Try.ntmps7 rfl ?_
  refine .seq ?_
  refine .region ?_
  refine TriOps.boxA rfl (fun b1 => ?_)
  refine TriOps.allocA (fun b2 => ?_)
  refine .nil ?_
  refine seqQ_n ?_
  refine .seq ?_
  refine .region ?_
  refine TriOps.q (.fieldAddr rfl) ?_
  refine TriOps.q (.load1 rfl) ?_
  refine TriOps.q (.fieldAddr rfl) ?_
  refine TriOps.q (.load1 rfl) ?_
  refine TriOps.q (.fieldAddr rfl) ?_
  refine TriOps.q (.loadT rfl) ?_
  refine TriOps.q (.fieldAddr rfl) ?_
  refine TriOps.q (.load1 rfl) ?_
  refine TriOps.q (.fieldAddr rfl) ?_
  refine TriOps.q (.load1 rfl) ?_
  refine TriOps.q .bld ?_
  refine TriOps.storeA rfl rfl ?_
  refine .nil ?_
  refine seqQ_n ?_
  refine .ret (retQ_r _ (.one (.cellA rfl rfl)) (.none _) ?_)
  exact ⟨rfl, rfl⟩
end Go.Proofs.Ythflndnbdgelnaa
