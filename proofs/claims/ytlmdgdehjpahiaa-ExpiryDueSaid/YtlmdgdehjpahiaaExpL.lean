/- Layer 27's law texts: what is played; that a key has the time that was set last. No condition. -/
import Derived.Test.YtlmdgdehjpahiaaExpE
import Derived.Test.YtlmdgdehjpahiaaStr
set_option linter.unusedVariables false
set_option maxRecDepth 4000
namespace Go.Proofs.Ytlmdgdehjpahiaa

structure XDo where
  kind : Int
  key : ByteArray
  at_ : Int
def XDo.enc (d : XDo) : List Value := [.int .i64 d.kind, .string d.key, .int .i64 d.at_]
def xstep (A : List (ByteArray × Int)) (d : XDo) : List (ByteArray × Int) :=
  if d.kind = 0 then kset (short d.key 20) d.at_ A else if d.kind = 1 then kdel (short d.key 20) A else if d.kind = 2 then A.filter (fun p => decide (d.at_ < p.2)) else A
theorem xstep_length {A : List (ByteArray × Int)} {d : XDo} : (xstep A d).length ≤ A.length + 1 := by
  unfold xstep
  split
  · exact kset_length
  · split
    · have := kdel_length (k := short d.key 20) (A := A); omega
    · split
      · have := List.length_filter_le (fun p : ByteArray × Int => decide (d.at_ < p.2)) A; omega
      · omega
theorem plays_length : ∀ (ds : List XDo) (A : List (ByteArray × Int)), (ds.foldl xstep A).length ≤ A.length + ds.length
  | [], A => by simp
  | d :: ds, A => by
    have h1 := plays_length ds (xstep A d)
    have h2 := xstep_length (A := A) (d := d)
    simp only [List.foldl_cons, List.length_cons]; omega
theorem DueR.filter {A B A' : List (ByteArray × Int)} {now : Int} (h : DueR A now B A') (h' : ∀ p ∈ A', now < p.2) : A'.Perm (A.filter fun p => decide (now < p.2)) := by
  have h1 := h.pm.filter (fun p => decide (now < p.2))
  rw [List.filter_append] at h1
  have e1 : B.filter (fun p => decide (now < p.2)) = [] := by
    rw [List.filter_eq_nil_iff]
    intro p hp
    have := h.le p hp
    simp; omega
  have e2 : A'.filter (fun p => decide (now < p.2)) = A' := by
    rw [List.filter_eq_self]
    intro p hp
    simpa using h' p hp
  rw [e1, e2] at h1
  exact h1.symm

theorem played_spec (v : Value) (ds : List XDo) (R : Rds) (hS : RS R 3 XDo.enc v ds) :
    Spec Try.prog 14 [v] R [] fun u H' => ∃ T, H' = [T] ∧ ∃ q, u = .pointer (some ⟨q, 0, none⟩) ∧ QI q ((ds.take 40).foldl xstep []) T := by
  have hsl := hS.le
  refine Spec.body Try.func14 rfl Try.results14 Try.ntmps14 rfl ?_
  refine .seq ?_
  refine .region ?_
  refine TriOps.q .assign ?_
  refine .nil ?_
  refine seqQ_n ?_
  refine .seq ?_
  refine .region ?_
  refine TriOps.callN (qnew_spec _) (fun u T0 hu => ?_)
  obtain ⟨q, rfl, hq0⟩ := hu
  refine TriOps.q .assign ?_
  refine .nil ?_
  refine seqQ_n ?_
  refine .seq ?_
  refine .seq ?_
  refine .region ?_
  refine TriOps.q .assign ?_
  refine .nil ?_
  refine seqQ_n ?_
  refine .block ?_
  refine .loop (X := Nat × Seg) (fun y => (y.1 ≤ ds.length ∧ y.1 ≤ 40) ∧ QI q ((ds.take y.1).foldl xstep []) y.2) (fun y => [(0, v), (3, .pointer (some ⟨q, 0, none⟩)), (4, .int .i64 (y.1 : Nat))]) (fun y => [y.2]) (fun y => ds.length - y.1) (0, T0) ⟨⟨by omega, by omega⟩, hq0⟩ ((((EnvLe.nil _).cons rfl).cons rfl).cons rfl) (HLe.refl _) ?_
  rintro ⟨i, T⟩ ⟨⟨hi, hi2⟩, hQ⟩
  simp only at hi hi2 hQ ⊢
  have hlen := plays_length (ds.take i) []
  simp only [List.length_nil, List.length_take] at hlen
  refine .seq ?_
  refine .seq ?_
  refine .region ?_
  refine TriOps.q .move ?_
  refine TriOps.q .move ?_
  refine TriOps.q (.lenR hS) ?_
  refine TriOps.q .lss ?_
  refine TriOps.q .move ?_
  refine TriOps.split (t := 10) rfl (fun g3_4 => ?_) (fun g3_4 => ?_)
  · skip
    refine TriOps.gT g3_4 ?_
    refine TriOps.q .move ?_
    refine TriOps.gT g3_4 ?_
    refine TriOps.q .lss ?_
    refine TriOps.q (.pickTh g3_4) ?_
    refine .nil ?_
    refine seqQ_n ?_
    refine .cond rfl (fun h1 => ?_) (fun h1 => ?_)
    · skip
      have hlt : i < ds.length ∧ i < 40 := by simp at g3_4 h1; omega
      obtain ⟨d, hd⟩ : ∃ d, ds[i]? = some d := ⟨_, List.getElem?_eq_getElem hlt.1⟩
      have pd := hS.pc hd
      have hnext : (ds.take (i + 1)).foldl xstep [] = xstep ((ds.take i).foldl xstep []) d := fold_next hd
      refine .skip ?_
      refine seqQ_n ?_
      refine .seq ?_
      refine Tri.cut (X := Seg) (fun y => QI q ((ds.take (i + 1)).foldl xstep []) y) (fun _ => [(0, v), (3, .pointer (some ⟨q, 0, none⟩)), (4, .int .i64 (i : Nat))]) (fun y => [y]) ?_ ?_
      · refine .block ?_
        refine .seq ?_
        refine .region ?_
        refine TriOps.q .move ?_
        refine TriOps.q .move ?_
        refine TriOps.q (.indexR i hS hd rfl rfl rfl) ?_
        refine TriOps.q (.fieldAddr rfl) ?_
        refine TriOps.q (.load1 rfl) ?_
        refine .nil ?_
        refine seqQ_n ?_
        refine .block ?_
        refine .seq ?_
        refine .region ?_
        refine TriOps.q .eqI ?_
        refine TriOps.q .assign ?_
        refine .nil ?_
        refine seqQ_n ?_
        refine .cond rfl (fun h2 => ?_) (fun h2 => ?_)
        · skip
          refine .region_all [12] mixed ?_
          refine RA.takeO 0 rfl .move (by kernel_rfl) ?_
          refine RA.takeO 1 rfl .move (by kernel_rfl) ?_
          refine RA.takeO 2 rfl .move (by kernel_rfl) ?_
          refine RA.takeO 3 rfl (.indexR i hS hd rfl rfl rfl) (by kernel_rfl) ?_
          refine RA.takeO 4 rfl (.fieldAddr rfl) (by kernel_rfl) ?_
          refine RA.takeO 5 rfl (.load1 rfl) (by kernel_rfl) ?_
          refine RA.takeO 7 rfl .move (by kernel_rfl) ?_
          refine RA.takeO 8 rfl .move (by kernel_rfl) ?_
          refine RA.takeO 9 rfl (.indexR i hS hd rfl rfl rfl) (by kernel_rfl) ?_
          refine RA.takeO 10 rfl (.fieldAddr rfl) (by kernel_rfl) ?_
          refine RA.takeO 11 rfl (.load1 rfl) (by kernel_rfl) ?_
          refine RA.step 6 rfl (by kernel_rfl) rfl ?_
          refine TriOps.callR (short_spec d.key 20 _) (fun w hw => ?_)
          subst hw
          refine .nil (Next.sub ?_)
          refine RA.step 12 rfl (by kernel_rfl) rfl ?_
          refine TriOps.callM (qset_spec q _ T hQ (short d.key 20) d.at_ (by omega) _) (fun w T1 hw => ?_)
          obtain ⟨rfl, hQ1⟩ := hw
          refine .nil (Next.mod rfl ?_)
          refine RA.nil (by kernel_rfl) ?_
          refine blkQ_n (blkQ_n ?_)
          first
            | exact joinQ_n T1 (by rw [hnext]; unfold xstep; simp at h2; rw [if_pos h2]; exact hQ1) ((((EnvLe.nil _).cons rfl).cons rfl).cons rfl) (HLe.refl _)
            | exact joinQ_n T1 (by rw [hnext]; unfold xstep; simp at h2 h3; rw [if_neg h2, if_pos h3]; exact hQ1) ((((EnvLe.nil _).cons rfl).cons rfl).cons rfl) (HLe.refl _)
            | exact joinQ_n T1 (by rw [hnext]; unfold xstep; simp at h2 h3 h4; rw [if_neg h2, if_neg h3, if_pos h4]; exact hQ1) ((((EnvLe.nil _).cons rfl).cons rfl).cons rfl) (HLe.pick [0] _)
            | exact joinQ_n T (by rw [hnext]; unfold xstep; simp at h2 h3 h4; rw [if_neg h2, if_neg h3, if_neg h4]; exact hQ) ((((EnvLe.nil _).cons rfl).cons rfl).cons rfl) (HLe.refl _)
        · skip
          refine .seq ?_
          refine .region ?_
          refine TriOps.q .eqI ?_
          refine TriOps.q .assign ?_
          refine .nil ?_
          refine seqQ_n ?_
          refine .cond rfl (fun h3 => ?_) (fun h3 => ?_)
          · skip
            refine .region ?_
            refine TriOps.q .move ?_
            refine TriOps.q .move ?_
            refine TriOps.q .move ?_
            refine TriOps.q (.indexR i hS hd rfl rfl rfl) ?_
            refine TriOps.q (.fieldAddr rfl) ?_
            refine TriOps.q (.load1 rfl) ?_
            refine TriOps.callR (short_spec d.key 20 _) (fun w hw => ?_)
            subst hw
            refine TriOps.callM (qdrop_spec q _ T hQ (short d.key 20) _) (fun w T1 hw => ?_)
            obtain ⟨rfl, hQ1⟩ := hw
            refine .nil ?_
            refine blkQ_n (blkQ_n ?_)
            first
              | exact joinQ_n T1 (by rw [hnext]; unfold xstep; simp at h2; rw [if_pos h2]; exact hQ1) ((((EnvLe.nil _).cons rfl).cons rfl).cons rfl) (HLe.refl _)
              | exact joinQ_n T1 (by rw [hnext]; unfold xstep; simp at h2 h3; rw [if_neg h2, if_pos h3]; exact hQ1) ((((EnvLe.nil _).cons rfl).cons rfl).cons rfl) (HLe.refl _)
              | exact joinQ_n T1 (by rw [hnext]; unfold xstep; simp at h2 h3 h4; rw [if_neg h2, if_neg h3, if_pos h4]; exact hQ1) ((((EnvLe.nil _).cons rfl).cons rfl).cons rfl) (HLe.pick [0] _)
              | exact joinQ_n T (by rw [hnext]; unfold xstep; simp at h2 h3 h4; rw [if_neg h2, if_neg h3, if_neg h4]; exact hQ) ((((EnvLe.nil _).cons rfl).cons rfl).cons rfl) (HLe.refl _)
          · skip
            refine .seq ?_
            refine .region ?_
            refine TriOps.q .eqI ?_
            refine TriOps.q .assign ?_
            refine .nil ?_
            refine seqQ_n ?_
            refine .cond rfl (fun h4 => ?_) (fun h4 => ?_)
            · skip
              refine .region ?_
              refine TriOps.q .move ?_
              refine TriOps.q .move ?_
              refine TriOps.q .move ?_
              refine TriOps.q (.indexR i hS hd rfl rfl rfl) ?_
              refine TriOps.q (.fieldAddr rfl) ?_
              refine TriOps.q (.load1 rfl) ?_
              refine TriOps.call [0] (qdue_spec q _ T hQ d.at_ _) (fun w H' hw => ?_)
              obtain ⟨T1, To, B, A', rfl, hO, hQ0, hD, hD2⟩ := hw
              have hQ1 := hQ0.perm (hD.filter hD2)
              refine .nil ?_
              refine blkQ_n (blkQ_n ?_)
              first
                | exact joinQ_n T1 (by rw [hnext]; unfold xstep; simp at h2; rw [if_pos h2]; exact hQ1) ((((EnvLe.nil _).cons rfl).cons rfl).cons rfl) (HLe.refl _)
                | exact joinQ_n T1 (by rw [hnext]; unfold xstep; simp at h2 h3; rw [if_neg h2, if_pos h3]; exact hQ1) ((((EnvLe.nil _).cons rfl).cons rfl).cons rfl) (HLe.refl _)
                | exact joinQ_n T1 (by rw [hnext]; unfold xstep; simp at h2 h3 h4; rw [if_neg h2, if_neg h3, if_pos h4]; exact hQ1) ((((EnvLe.nil _).cons rfl).cons rfl).cons rfl) (HLe.pick [0] _)
                | exact joinQ_n T (by rw [hnext]; unfold xstep; simp at h2 h3 h4; rw [if_neg h2, if_neg h3, if_neg h4]; exact hQ) ((((EnvLe.nil _).cons rfl).cons rfl).cons rfl) (HLe.refl _)
            · skip
              refine .skip ?_
              refine blkQ_n (blkQ_n ?_)
              first
                | exact joinQ_n T1 (by rw [hnext]; unfold xstep; simp at h2; rw [if_pos h2]; exact hQ1) ((((EnvLe.nil _).cons rfl).cons rfl).cons rfl) (HLe.refl _)
                | exact joinQ_n T1 (by rw [hnext]; unfold xstep; simp at h2 h3; rw [if_neg h2, if_pos h3]; exact hQ1) ((((EnvLe.nil _).cons rfl).cons rfl).cons rfl) (HLe.refl _)
                | exact joinQ_n T1 (by rw [hnext]; unfold xstep; simp at h2 h3 h4; rw [if_neg h2, if_neg h3, if_pos h4]; exact hQ1) ((((EnvLe.nil _).cons rfl).cons rfl).cons rfl) (HLe.pick [0] _)
                | exact joinQ_n T (by rw [hnext]; unfold xstep; simp at h2 h3 h4; rw [if_neg h2, if_neg h3, if_neg h4]; exact hQ) ((((EnvLe.nil _).cons rfl).cons rfl).cons rfl) (HLe.refl _)
      · intro x hx
        clear hQ
        refine seqQ_n ?_
        refine .region ?_
        refine TriOps.q .move ?_
        refine TriOps.q (.inc (n := i) (by omega)) ?_
        refine TriOps.q .assign ?_
        refine .nil ?_
        exact loopQ_i (i + 1, x) ⟨⟨by simp only; omega, by simp only; omega⟩, hx⟩ (by simp only; omega) ((((EnvLe.nil _).cons rfl).cons rfl).cons rfl) (HLe.refl _)
    · skip
      refine .exit (seqQ_x (loopQ_x (blkQ_x ?_)))
      refine seqQ_n ?_
      refine .seq ?_
      refine .region ?_
      refine TriOps.q .move ?_
      refine TriOps.q .assign ?_
      refine .nil ?_
      refine seqQ_n ?_
      refine .ret (retQ_r _ (.one (.tmp rfl)) (HLe.refl _) ?_)
      refine ⟨_, rfl, q, rfl, ?_⟩
      have : i = ds.length ∨ i = 40 := by
        first
          | (simp at g3_4 h1; omega)
          | (simp at g3_4; omega)
      rcases this with h | h
      · rw [h, List.take_length] at hQ
        rw [List.take_of_length_le (by omega)]
        exact hQ
      · rw [h] at hQ; exact hQ
  · skip
    refine TriOps.gF g3_4 ?_
    refine TriOps.gF g3_4 ?_
    refine TriOps.q (.pickFh g3_4) ?_
    refine .nil ?_
    refine seqQ_n ?_
    refine .condF ?_
    refine .exit (seqQ_x (loopQ_x (blkQ_x ?_)))
    refine seqQ_n ?_
    refine .seq ?_
    refine .region ?_
    refine TriOps.q .move ?_
    refine TriOps.q .assign ?_
    refine .nil ?_
    refine seqQ_n ?_
    refine .ret (retQ_r _ (.one (.tmp rfl)) (HLe.refl _) ?_)
    refine ⟨_, rfl, q, rfl, ?_⟩
    have : i = ds.length ∨ i = 40 := by
      first
        | (simp at g3_4 h1; omega)
        | (simp at g3_4; omega)
    rcases this with h | h
    · rw [h, List.take_length] at hQ
      rw [List.take_of_length_le (by omega)]
      exact hQ
    · rw [h] at hQ; exact hQ
end Go.Proofs.Ytlmdgdehjpahiaa
