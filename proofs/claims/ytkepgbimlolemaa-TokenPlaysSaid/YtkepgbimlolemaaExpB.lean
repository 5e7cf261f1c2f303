/- Expiry's tree: Push and Pop; that it is a heap's interface; the order of entries. No condition. -/
import Derived.Test.YtkepgbimlolemaaExpA
set_option linter.unusedVariables false
namespace Go.Proofs.Ytkepgbimlolemaa

theorem ecmp_lt {e f : XE} : elt e f = true ↔ e.at_ < f.at_ ∨ e.at_ = f.at_ ∧ sLt e.key f.key = true := by
  unfold elt ecmp
  rw [decide_eq_true_eq, sLt_iff]
  unfold icmp
  simp only [orI]
  by_cases h1 : e.at_ < f.at_
  · simp [h1]
  · by_cases h2 : f.at_ < e.at_
    · have : ¬ e.at_ = f.at_ := by omega
      simp [h1, h2, this]
    · have : e.at_ = f.at_ := by omega
      simp only [this, if_true, Int.lt_irrefl, if_false, false_or, true_and]
      split
      · rename_i h; rw [h]
      · rfl
theorem elt_so : SO elt := by
  have tr : ∀ x y z, elt x y = true → elt y z = true → elt x z = true := fun x y z h1 h2 => by
    rw [ecmp_lt] at *
    rcases h1 with h1 | ⟨h1, h3⟩ <;> rcases h2 with h2 | ⟨h2, h4⟩
    · exact .inl (by omega)
    · exact .inl (by omega)
    · exact .inl (by omega)
    · exact .inr ⟨by omega, sLt_trans h3 h4⟩
  have irr : ∀ x, elt x x = false := fun x => by
    rw [Bool.eq_false_iff]; intro h
    rw [ecmp_lt, sLt_irr] at h
    rcases h with h | ⟨_, h⟩
    · omega
    · cases h
  refine ⟨irr, tr, fun x y z h1 h2 => ?_⟩
  rw [Bool.eq_false_iff] at *
  rw [ne_eq, ecmp_lt] at *
  rintro (h | ⟨h, h3⟩)
  · simp only [not_or] at h1 h2; omega
  · simp only [not_or, not_and] at h1 h2
    have e1 : x.at_ = y.at_ := by omega
    have e2 : y.at_ = z.at_ := by omega
    have := sLt_so.ntr x.key y.key z.key (by simpa using h1.2 e1) (by simpa using h2.2 e2)
    rw [this] at h3; cases h3

theorem tpush_spec (q : Nat) (vm : Value) (L : List XE) (T : Seg) (h : TI q vm L T) (e : XE) (hl : L.length < 1000000000) (R : Rds) :
    Spec Try.prog 201 [.pointer (some ⟨q, 0, none⟩), .iface 157 e.ptr] R [T ++ [(e.b, e.obj 0)]] fun v H' => ∃ T', H' = [T'] ∧ TI q vm (L ++ [e]) T' := by
  obtain ⟨vt, Tt, Te, rfl, hO, hE, _⟩ := h
  refine Spec.segs (H' := [[(q, .cells [vt, vm].toArray 148 (0, 0))], Tt, Te, [(e.b, .cells (e.cells 0).toArray 156 (0, 0))]]) (by simp [XE.obj]) ?_
  have i1 := hO.oneCell
  refine Spec.body Try.func201 rfl Try.results201 Try.ntmps201 rfl ?_
  refine .seq ?_
  refine .region ?_
  refine TriOps.q .move ?_
  refine TriOps.q (.assertC) ?_
  refine TriOps.q .assign ?_
  refine .nil ?_
  refine seqQ_n ?_
  refine .seq ?_
  refine .region ?_
  refine TriOps.q .move ?_
  refine TriOps.q .move ?_
  refine TriOps.q (.nilCheck rfl) ?_
  refine TriOps.q (.load1 rfl) ?_
  refine TriOps.q (.lenO hO) ?_
  refine TriOps.q (.nilCheck rfl) ?_
  refine TriOps.q (.fieldAddr rfl) ?_
  refine TriOps.store1 rfl rfl ?_
  refine .nil ?_
  refine seqQ_n ?_
  refine .region ?_
  refine TriOps.q .move ?_
  refine TriOps.q .move ?_
  refine TriOps.q (.nilCheck rfl) ?_
  refine TriOps.q (.load1 rfl) ?_
  refine TriOps.q .move ?_
  refine TriOps.buildSlice11 (fun b19 => ?_)
  refine TriOps.append hO (RS.lits (xs := [e]) rfl (by simp [encP]) (by simp [encP, oneCell])) (by simp; omega) (fun v2 T2 hO2 => ?_)
  have i2 := hO2.oneCell
  refine TriOps.q (.nilCheck rfl) ?_
  refine TriOps.store1 rfl rfl ?_
  refine .nil ?_
  refine retQ_n _ .none (.one [1, 1, 1, 1] _) ?_
  refine ⟨_, rfl, v2, T2, Te ++ [(e.b, e.obj L.length)], by simp [take, dropAt]; exact ⟨rfl, rfl⟩, hO2, ?_, by simp; omega⟩
  have : entSeg (L ++ [e]) = entSeg L ++ [(e.b, e.obj L.length)] := by simp [entSeg, List.zipIdx_append]
  rw [this]
  exact hE.append_right _

/-- The tree, and one entry that it let go. -/
def TJ (q : Nat) (vm : Value) (x : XE) (L : List XE) (T : Seg) : Prop := ∃ T1 i, T.Perm (T1 ++ [(x.b, x.obj i)]) ∧ TI q vm L T1
theorem tpop_spec (q : Nat) (vm : Value) (L : List XE) (x : XE) (T : Seg) (h : TI q vm (L ++ [x]) T) (R : Rds) :
    Spec Try.prog 200 [.pointer (some ⟨q, 0, none⟩)] R [T] fun v H' => ∃ T', H' = [T'] ∧ v = .iface 157 x.ptr ∧ TJ q vm x L T' := by
  obtain ⟨vt, Tt, Te, rfl, hO, hE, hl⟩ := h
  simp only [List.length_append, List.length_singleton] at hl
  refine Spec.segs (H' := [[(q, .cells [vt, vm].toArray 148 (0, 0))], Tt, Te]) (by simp) ?_
  have i1 := hO.oneCell
  refine Spec.body Try.func200 rfl Try.results200 Try.ntmps200 rfl ?_
  refine .seq ?_
  refine .region ?_
  refine TriOps.q .assign ?_
  refine .nil ?_
  refine seqQ_n ?_
  refine .seq ?_
  refine .region ?_
  refine TriOps.q .move ?_
  refine TriOps.q (.nilCheck rfl) ?_
  refine TriOps.q (.load1 rfl) ?_
  refine TriOps.q .assign ?_
  refine .nil ?_
  refine seqQ_n ?_
  refine .seq ?_
  refine .region ?_
  refine TriOps.q .move ?_
  refine TriOps.q .move ?_
  refine TriOps.q (.lenO hO) ?_
  refine TriOps.q (.i64 ((L.length : Nat) : Int) .sub ⟨by simp, by omega, by omega⟩) ?_
  refine TriOps.indexO L.length hO (z := x) (by simp) (fun p1 => ?_)
  refine TriOps.q (.load1 rfl) ?_
  refine TriOps.q .assign ?_
  refine .nil ?_
  refine seqQ_n ?_
  refine .seq ?_
  refine .region ?_
  refine TriOps.q .move ?_
  refine TriOps.q .move ?_
  refine TriOps.q .move ?_
  refine TriOps.q (.lenO hO) ?_
  refine TriOps.q (.i64 ((L.length : Nat) : Int) .sub ⟨by simp, by omega, by omega⟩) ?_
  refine TriOps.sliceO 0 L.length hO rfl ⟨_, rfl⟩ (by omega) (by simp) (fun v2 hO2 => ?_)
  have i2 := hO2.oneCell
  refine TriOps.q (.nilCheck rfl) ?_
  refine TriOps.store1 rfl rfl ?_
  refine .nil ?_
  refine seqQ_n ?_
  refine .seq ?_
  refine .region ?_
  refine TriOps.q .move ?_
  refine TriOps.q .makeInterface ?_
  refine TriOps.q .assign ?_
  refine .nil ?_
  refine seqQ_n ?_
  refine .ret (retQ_r _ (.one (.tmp rfl)) (.one [0, 0, 0] _) ?_)
  refine ⟨_, rfl, rfl, (q, .cells [v2, vm].toArray 148 (0, 0)) :: (Tt ++ entSeg L), L.length, ?_, v2, Tt, entSeg L, rfl, by simpa using hO2, .refl _, by omega⟩
  have : entSeg (L ++ [x]) = entSeg L ++ [(x.b, x.obj L.length)] := by simp [entSeg, List.zipIdx_append]
  rw [this] at hE
  simp only [take, dropAt, List.getD_cons_zero, List.flatten_cons, List.flatten_nil, List.append_nil, List.cons_append, List.nil_append, List.append_assoc]
  exact (hE.append_left Tt).cons _

theorem mLen : ∀ w, (typeInfo 159).run Try.prog w = .ok Try.t159 w := Try.typeInfo159
theorem tree_hi (q : Nat) (vm : Value) (R : Rds) : HI Try.prog R 159 (.pointer (some ⟨q, 0, none⟩)) elt (TI q vm) where
  bnd L T h := by obtain ⟨vt, Tt, Te, rfl, hO, hE, hl⟩ := h; exact hl
  len L T h := by
    obtain ⟨vt, Tt, Te, rfl, hO, hE, hl⟩ := h
    have hr : RS (Rx R [(q, .cells [vt, vm].toArray 148 (0, 0)) :: (Tt ++ Te)]) 1 encP vt L := hO.rs fun p hp => .inr (by simp [hp])
    refine (ISpec.keep (r := vt) (f := 194) (MthAt.val mLen (by kernel_rfl) inferInstance (by kernel_rfl) inferInstance (PC.of (vs := [vt, vm]) (E := 148) (fr := (0, 0)) (.inr (by simp)))) (tlen_spec vt L _ hr)).mono fun u T' hu => ?_
    obtain ⟨rfl, rfl⟩ := hu
    exact ⟨rfl, vt, Tt, Te, rfl, hO, hE, hl⟩
  less L T i k x y h hx hy := by
    obtain ⟨vt, Tt, Te, rfl, hO, hE, hl⟩ := h
    have hr : RS (Rx R [(q, .cells [vt, vm].toArray 148 (0, 0)) :: (Tt ++ Te)]) 1 encP vt L := hO.rs fun p hp => .inr (by simp [hp])
    have m1 := hE.mem_iff.2 (entSeg_mem hx)
    have m2 := hE.mem_iff.2 (entSeg_mem hy)
    refine (ISpec.keep (r := vt) (f := 195) (MthAt.val mLen (by kernel_rfl) inferInstance (by kernel_rfl) inferInstance (PC.of (vs := [vt, vm]) (E := 148) (fr := (0, 0)) (.inr (by simp)))) (tless_spec vt L _ hr i k x y hx hy (.inr (by simp [m1])) (.inr (by simp [m2])))).mono fun u T' hu => ?_
    obtain ⟨rfl, rfl⟩ := hu
    exact ⟨rfl, vt, Tt, Te, rfl, hO, hE, hl⟩
  swap L T i k h hi hk := by
    obtain ⟨vt, Tt, Te, rfl, hO, hE, hl⟩ := h
    refine ⟨196, vt, MthAt.val mLen (by kernel_rfl) inferInstance (by kernel_rfl) inferInstance (PC.of (vs := [vt, vm]) (E := 148) (fr := (0, 0)) (.inr (by simp))), inferInstance, ?_⟩
    refine Spec.segs (H' := [[(q, .cells [vt, vm].toArray 148 (0, 0))], Tt, Te]) (by simp) ?_
    refine Spec.flat ((Spec.lend [1, 1] (tswap_spec vt L Tt Te _ hO hE i k hi hk)).mono fun v H' hv => ?_)
    obtain ⟨H1, rfl, Tt', Te', rfl, hO', hE'⟩ := hv
    refine ⟨_, (q, .cells [vt, vm].toArray 148 (0, 0)) :: (Tt' ++ Te'), rfl, ?_, _, rfl, vt, Tt', Te', rfl, hO', hE', by rw [swp_length]; exact hl⟩
    simp only [rest, dropAt, List.flatten_append, List.flatten_cons, List.flatten_nil, List.append_nil]
    exact List.perm_append_comm
theorem tree_push (q : Nat) (vm : Value) (L : List XE) (T : Seg) (h : TI q vm L T) (e : XE) (hl : L.length < 1000000000) (R : Rds) : ISpec Try.prog 159 (.pointer (some ⟨q, 0, none⟩)) "Push" [.iface 157 e.ptr] R (T ++ [(e.b, e.obj 0)]) fun _ T' => TI q vm (L ++ [e]) T' :=
  ⟨201, _, MthAt.ptr mLen (by kernel_rfl) inferInstance (by kernel_rfl), inferInstance, tpush_spec q vm L T h e hl R⟩
theorem tree_pop (q : Nat) (vm : Value) (L : List XE) (x : XE) (T : Seg) (h : TI q vm (L ++ [x]) T) (R : Rds) : ISpec Try.prog 159 (.pointer (some ⟨q, 0, none⟩)) "Pop" [] R T fun v T' => v = .iface 157 x.ptr ∧ TJ q vm x L T' :=
  ⟨200, _, MthAt.ptr mLen (by kernel_rfl) inferInstance (by kernel_rfl), inferInstance, tpop_spec q vm L x T h R⟩
end Go.Proofs.Ytkepgbimlolemaa
