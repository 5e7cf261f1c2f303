/- Memo's Put. No condition. -/
import Derived.Test.YthflndnbdgelnaaMemoB
set_option linter.unusedVariables false
namespace Go.Proofs.Ythflndnbdgelnaa

def PM.age1 (m : PM) (q : Quest) : List Quest := if (mget q m.kept).isSome then m.age else m.age ++ [q]
def PM.put (m : PM) (q : Quest) (x : Bool) : PM :=
  if m.size < (m.age1 q).length then match m.age1 q with
    | k :: r => ⟨m.size, mdel k (mset q x m.kept), r, m.hits⟩
    | [] => ⟨m.size, mset q x m.kept, [], m.hits⟩
  else ⟨m.size, mset q x m.kept, m.age1 q, m.hits⟩

theorem put_spec (b : Nat) (m : PM) (T : Seg) (hm : PM.is b m T) (q : Quest) (x : Bool) (R : Rds) (hl : m.age.length ≤ 1000000) :
    Spec Try.prog 6 [.pointer (some ⟨b, 0, none⟩), .agg q.enc.toArray, .bool x] R [T] fun v H' => ∃ T', H' = [T'] ∧ v = .tuple #[] ∧ PM.is b (m.put q x) T' := by
  obtain ⟨vm, va, Tm, Ta, rfl, hM, hA⟩ := hm
  have i1 := hM.one
  have i2 := hA.oneCell
  refine Spec.segs (H' := [[(b, .cells [.bool true, .int .i64 m.size, vm, va, .int .i64 m.hits].toArray 55 (0, 0))], Tm, Ta]) (by simp) ?_
  refine Spec.body Try.func6 rfl Try.results6 Try.ntmps6 rfl ?_
  refine .seq ?_
  refine .region ?_
  refine TriOps.boxA rfl (fun b4 => ?_)
  refine .nil ?_
  refine seqQ_n ?_
  refine .seq ?_
  refine .seq ?_
  refine .region ?_
  refine TriOps.q .move ?_
  refine TriOps.callR (ok_spec b true _ _ _) (fun v hv => ?_)
  subst hv
  refine TriOps.q .not ?_
  refine .nil ?_
  refine seqQ_n ?_
  refine .condF ?_
  refine .skip ?_
  refine seqQ_n ?_
  refine .seq ?_
  refine .seq ?_
  refine .region_still mixed (by kernel_rfl) ?_
  refine TriOps.q .move ?_
  refine TriOps.q (.nilCheck rfl) ?_
  refine TriOps.q (.fieldAddr rfl) ?_
  refine TriOps.q (.load1 rfl) ?_
  refine TriOps.q (.loadA rfl) ?_
  refine TriOps.q (.lookup2 hM.rx rfl (show _ = some (Value.agg q.enc.toArray) from rfl)) ?_
  refine TriOps.q .move ?_
  refine TriOps.q .extract ?_
  refine TriOps.q .extract ?_
  refine TriOps.q .assign ?_
  refine TriOps.q .assign ?_
  refine .nil ?_
  refine seqQ_n ?_
  refine .seq ?_
  refine .region ?_
  refine TriOps.q .move ?_
  refine TriOps.q .not ?_
  refine .nil ?_
  refine seqQ_n ?_
  refine Tri.cut (X := Value × Seg) (fun y => OS 38 6 Quest.enc y.1 (m.age1 q) y.2) (fun _ => [(0, .pointer (some ⟨b, 0, none⟩)), (2, .bool x), (4, .pointer (some ⟨b4, 0, none⟩))]) (fun y => [[(b4, .cells q.enc.toArray 38 (0, 0))], [(b, .cells [.bool true, .int .i64 m.size, vm, y.1, .int .i64 m.hits].toArray 55 (0, 0))], Tm, y.2]) ?_ ?_
  ·
    refine .cond rfl (fun h2 => ?_) (fun h2 => ?_)
    · skip
      refine .region_all [7, 10] mixed ?_
      refine RA.take 0 rfl .move (by kernel_rfl) ?_
      refine RA.takeO 1 rfl .move (by kernel_rfl) ?_
      refine RA.takeO 2 rfl (.nilCheck rfl) (by kernel_rfl) ?_
      refine RA.takeO 3 rfl (.fieldAddr rfl) (by kernel_rfl) ?_
      refine RA.takeO 4 rfl (.load1 rfl) (by kernel_rfl) ?_
      refine RA.takeO 5 rfl (.loadA rfl) (by kernel_rfl) ?_
      refine RA.step 6 rfl (by kernel_rfl) rfl ?_
      refine TriOps.buildSlice1A (fun b28 => ?_)
      refine .nil (Next.sub ?_)
      refine RA.step 7 rfl (by kernel_rfl) rfl ?_
      refine TriOps.append hA (RS.lit1 (x := q) rfl rfl (Quest.one q).h) (by simp; omega) (fun v' T' h3 => ?_)
      have i3 := h3.oneCell
      refine .nil (Next.mod rfl ?_)
      refine RA.take 8 rfl (.nilCheckA rfl) (by kernel_rfl) ?_
      refine RA.take 9 rfl (.fieldAddrA rfl) (by kernel_rfl) ?_
      refine RA.step 10 rfl (by kernel_rfl) rfl ?_
      refine TriOps.store1 rfl rfl ?_
      refine .nil (Next.mod rfl ?_)
      refine RA.nil (by kernel_rfl) ?_
      first
        | exact joinQ_n (v', T') (by simp at h2; simp only [PM.age1, h2]; exact h3) ((((EnvLe.nil _).cons rfl).cons rfl).cons rfl) (HLe.pick [1, 1, 1, 1] _)
        | exact joinQ_n (va, Ta) (by simp at h2; simp only [PM.age1, h2, if_true]; exact hA) ((((EnvLe.nil _).cons rfl).cons rfl).cons rfl) (HLe.refl _)
    · skip
      refine .skip ?_
      first
        | exact joinQ_n (v', T') (by simp at h2; simp only [PM.age1, h2]; exact h3) ((((EnvLe.nil _).cons rfl).cons rfl).cons rfl) (HLe.pick [1, 1, 1, 1] _)
        | exact joinQ_n (va, Ta) (by simp at h2; simp only [PM.age1, h2, if_true]; exact hA) ((((EnvLe.nil _).cons rfl).cons rfl).cons rfl) (HLe.refl _)
  · intro x hx
    obtain ⟨va1, Ta1⟩ := x
    have i3 := hx.oneCell
    refine seqQ_n ?_
    refine .seq ?_
    refine .region_tail 6 mixed (by kernel_rfl) ?_
    refine TriOps.q .move ?_
    refine TriOps.q (.nilCheck rfl) ?_
    refine TriOps.q (.fieldAddr rfl) ?_
    refine TriOps.q (.load1 rfl) ?_
    refine TriOps.q (.loadA rfl) ?_
    refine TriOps.q .move ?_
    refine .nil ?_
    refine TriOps.update hM rfl (show _ = some (Value.agg q.enc.toArray) from rfl) rfl (fun Tm1 hM1 _ => ?_)
    refine .nil ?_
    refine seqQ_n ?_
    refine .seq ?_
    refine .region_still mixed (by kernel_rfl) ?_
    refine TriOps.q .move ?_
    refine TriOps.q (.nilCheck rfl) ?_
    refine TriOps.q (.fieldAddr rfl) ?_
    refine TriOps.q (.load1 rfl) ?_
    refine TriOps.q (.lenO hx) ?_
    refine TriOps.q .move ?_
    refine TriOps.q (.nilCheck rfl) ?_
    refine TriOps.q (.fieldAddr rfl) ?_
    refine TriOps.q (.load1 rfl) ?_
    refine TriOps.q .gtr ?_
    refine .nil ?_
    refine seqQ_n ?_
    refine .cond rfl (fun h3 => ?_) (fun h3 => ?_)
    · skip
      obtain ⟨k, r, he⟩ : ∃ k r, m.age1 q = k :: r := by
        cases hh : m.age1 q with
        | nil => rw [hh] at h3; simp at h3; omega
        | cons k r => exact ⟨k, r, rfl⟩
      have hlt : m.size < (m.age1 q).length := by simpa using h3
      refine .seq ?_
      refine .region_tail 10 mixed (by kernel_rfl) ?_
      refine TriOps.q .move ?_
      refine TriOps.q (.nilCheck rfl) ?_
      refine TriOps.q (.fieldAddr rfl) ?_
      refine TriOps.q (.load1 rfl) ?_
      refine TriOps.q .move ?_
      refine TriOps.q (.nilCheck rfl) ?_
      refine TriOps.q (.fieldAddr rfl) ?_
      refine TriOps.q (.load1 rfl) ?_
      refine TriOps.indexO 0 hx (z := k) (by rw [he]; rfl) (fun ps => ?_)
      refine TriOps.q (.loadA rfl) ?_
      refine .nil ?_
      refine TriOps.delete hM1 rfl (show _ = some (Value.agg k.enc.toArray) from rfl) (fun Tm2 hM2 _ => ?_)
      refine .nil ?_
      refine seqQ_n ?_
      refine .region ?_
      refine TriOps.q .move ?_
      refine TriOps.q .move ?_
      refine TriOps.q (.nilCheck rfl) ?_
      refine TriOps.q (.fieldAddr rfl) ?_
      refine TriOps.q (.load1 rfl) ?_
      refine TriOps.sliceO 1 (m.age1 q).length hx ⟨_, rfl⟩ rfl (by omega) (by omega) (fun v2 hA2 => ?_)
      have i4 := hA2.oneCell
      refine TriOps.q (.nilCheck rfl) ?_
      refine TriOps.q (.fieldAddr rfl) ?_
      refine TriOps.store1 rfl rfl ?_
      refine .nil ?_
      refine retQ_n _ .none (.one [1, 1, 1] _) ?_
      refine ⟨_, rfl, rfl, ?_⟩
      rw [he] at hA2
      simp only [List.length_cons, List.drop_succ_cons, List.drop_zero, Nat.add_sub_cancel, List.take_length] at hA2
      unfold PM.put
      rw [if_pos hlt, he]
      exact ⟨_, _, Tm2, Ta1, flat3 _ _ _, hM2, hA2⟩
    · skip
      have hge : ¬ m.size < (m.age1 q).length := by simpa using h3
      refine .skip ?_
      refine retQ_n _ .none (.one [1, 1, 1] _) ?_
      refine ⟨_, rfl, rfl, ?_⟩
      unfold PM.put
      rw [if_neg hge]
      exact ⟨_, _, Tm1, Ta1, flat3 _ _ _, hM1, hx⟩
end Go.Proofs.Ythflndnbdgelnaa
