/- ExpiryLast's walk: it answers true. No condition. -/
import Derived.Test.YtlmdgdehjpahiaaExpL
set_option linter.unusedVariables false
set_option maxRecDepth 4000
namespace Go.Proofs.Ytlmdgdehjpahiaa

theorem xlives_spec (R : Rds) : Spec Try.prog 18 [] R [] fun v H' => v = .bool true ∧ H' = [] := by
  refine Spec.body Try.func18 rfl Try.results18 Try.ntmps18 rfl ?_
  refine .seq ?_
  refine .region ?_
  refine TriOps.q .assign ?_
  refine .nil ?_
  refine seqQ_n ?_
  refine .seq ?_
  refine .region ?_
  refine TriOps.callN (qnew_spec _) (fun u T0 hu => ?_)
  obtain ⟨q, rfl, hq0⟩ := hu
  refine TriOps.q .assign ?_
  refine .nil ?_
  refine seqQ_n ?_
  refine .seq ?_
  refine .seq ?_
  refine .region ?_
  refine TriOps.q .move ?_
  refine TriOps.q (.eqNilA rfl rfl) ?_
  refine .nil ?_
  refine seqQ_n ?_
  refine .condF ?_
  refine .skip ?_
  refine seqQ_n ?_
  refine .seq ?_
  refine .region ?_
  refine TriOps.q .move ?_
  refine TriOps.callM (qset_spec q [] T0 hq0 ⟨#[97]⟩ 5 (by simp) _) (fun w T1 hw => ?_)
  obtain ⟨rfl, hQ1⟩ := hw
  refine .nil ?_
  refine seqQ_n ?_
  refine .seq ?_
  refine .region ?_
  refine TriOps.q .move ?_
  refine TriOps.callR (qat_spec q _ T1 hQ1 ⟨#[97]⟩ _ (fun p hp => .inr (by simp [hp]))) (fun v hv => ?_)
  subst hv
  rw [mget_kset, if_pos rfl]
  refine TriOps.q .move ?_
  refine TriOps.q .extract ?_
  refine TriOps.q .extract ?_
  refine TriOps.q .assign ?_
  refine TriOps.q .assign ?_
  refine .nil ?_
  refine seqQ_n ?_
  refine .seq ?_
  refine .region ?_
  refine TriOps.q .move ?_
  refine TriOps.q .move ?_
  refine TriOps.split (t := 15) rfl (fun g6_1 => ?_) (fun g6_1 => ?_)
  · skip
    refine TriOps.gT g6_1 ?_
    refine TriOps.q .move ?_
    refine TriOps.gT g6_1 ?_
    refine TriOps.q .eqI ?_
    refine TriOps.q (.pickTh g6_1) ?_
    refine TriOps.q .move ?_
    refine TriOps.split (t := 19) rfl (fun g6_5 => ?_) (fun g6_5 => ?_)
    · skip
      refine TriOps.gT g6_5 ?_
      refine TriOps.q .move ?_
      refine TriOps.gT g6_5 ?_
      refine TriOps.callR (qlen_spec q _ T1 hQ1 _ (fun p hp => .inr (by simp [hp]))) (fun v hv => ?_)
      subst hv
      refine TriOps.gT g6_5 ?_
      refine TriOps.q .eqI ?_
      refine TriOps.q (.pickTh g6_5) ?_
      refine TriOps.q .assign ?_
      refine .nil ?_
      refine seqQ_n ?_
      refine .ret (retQ_r _ (.one (.tmp rfl)) (.none _) ?_)
      exact ⟨rfl, rfl⟩
    · skip
      refine TriOps.gF g6_5 ?_
      refine TriOps.gF g6_5 ?_
      refine TriOps.gF g6_5 ?_
      refine TriOps.q (.pickFh g6_5) ?_
      refine TriOps.q .assign ?_
      refine .nil ?_
      refine seqQ_n ?_
      refine .ret (retQ_r _ (.one (.tmp rfl)) (.none _) ?_)
      simp at *
  · skip
    refine TriOps.gF g6_1 ?_
    refine TriOps.gF g6_1 ?_
    refine TriOps.q (.pickFh g6_1) ?_
    refine TriOps.q .move ?_
    refine TriOps.gf rfl rfl ?_
    refine TriOps.gf rfl rfl ?_
    refine TriOps.gf rfl rfl ?_
    refine TriOps.q .pickF ?_
    refine TriOps.q .assign ?_
    refine .nil ?_
    refine seqQ_n ?_
    refine .ret (retQ_r _ (.one (.tmp rfl)) (.none _) ?_)
    simp at *

theorem last_spec (v1 v2 : Value) (ds es : List XDo) (key : ByteArray) (at_ : Int) (R : Rds) (hS : RS R 3 XDo.enc v1 ds) (hE : RS R 3 XDo.enc v2 es) :
    Spec Try.prog 3 [v1, .string key, .int .i64 at_, v2] R [] fun v H' => v = .bool true ∧ H' = [] := by
  have hel := hE.le
  have hA0 := plays_length (ds.take 40) []
  simp only [List.length_nil, List.length_take] at hA0
  refine Spec.body Try.func3 rfl Try.results3 Try.ntmps3 rfl ?_
  refine .seq ?_
  refine .region ?_
  refine TriOps.q .assign ?_
  refine .nil ?_
  refine seqQ_n ?_
  refine .seq ?_
  refine .region ?_
  refine TriOps.q .move ?_
  refine TriOps.callN (played_spec v1 ds _ hS.rx) (fun u T0 hu => ?_)
  obtain ⟨q, rfl, hq0⟩ := hu
  refine TriOps.q .assign ?_
  refine .nil ?_
  refine seqQ_n ?_
  refine .seq ?_
  refine .seq ?_
  refine .region ?_
  refine TriOps.q .move ?_
  refine TriOps.q (.eqNilA rfl rfl) ?_
  refine .nil ?_
  refine seqQ_n ?_
  refine .condF ?_
  refine .skip ?_
  refine seqQ_n ?_
  refine .seq ?_
  refine .region ?_
  refine TriOps.q .move ?_
  refine TriOps.q .move ?_
  refine TriOps.q .move ?_
  refine TriOps.callM (qset_spec q _ T0 hq0 key at_ (by omega) _) (fun w T1 hw => ?_)
  obtain ⟨rfl, hQ1⟩ := hw
  have hk0 := kset_length (k := key) (x := at_) (A := (ds.take 40).foldl xstep [])
  have hg1 : mget key (kset key at_ ((ds.take 40).foldl xstep [])) = some at_ := by rw [mget_kset, if_pos rfl]
  generalize kset key at_ ((ds.take 40).foldl xstep []) = A1 at hQ1 hk0 hg1
  refine .nil ?_
  refine seqQ_n ?_
  refine .seq ?_
  refine .seq ?_
  refine .region ?_
  refine TriOps.q .assign ?_
  refine .nil ?_
  refine seqQ_n ?_
  refine .block ?_
  refine .loop (X := Nat × List (ByteArray × Int) × Seg) (fun y => (y.1 ≤ es.length ∧ y.1 ≤ 20) ∧ QI q y.2.1 y.2.2 ∧ mget key y.2.1 = some at_ ∧ y.2.1.length ≤ 41 + y.1) (fun y => [(1, .string key), (2, .int .i64 at_), (3, v2), (9, .pointer (some ⟨q, 0, none⟩)), (10, .int .i64 (y.1 : Nat))]) (fun y => [y.2.2]) (fun y => es.length - y.1) (0, A1, T1) ⟨⟨by omega, by omega⟩, hQ1, hg1, by simp only; omega⟩ ((((((EnvLe.nil _).cons rfl).cons rfl).cons rfl).cons rfl).cons rfl) (HLe.refl _) ?_
  rintro ⟨i, A, T⟩ ⟨⟨hi, hi2⟩, hQ, hg, hl⟩
  simp only at hi hi2 hQ hg hl ⊢
  refine .seq ?_
  refine .seq ?_
  refine .region ?_
  refine TriOps.q .move ?_
  refine TriOps.q .move ?_
  refine TriOps.q (.lenR hE) ?_
  refine TriOps.q .lss ?_
  refine TriOps.q .move ?_
  refine TriOps.split (t := 25) rfl (fun g6_4 => ?_) (fun g6_4 => ?_)
  · skip
    refine TriOps.gT g6_4 ?_
    refine TriOps.q .move ?_
    refine TriOps.gT g6_4 ?_
    refine TriOps.q .lss ?_
    refine TriOps.q (.pickTh g6_4) ?_
    refine .nil ?_
    refine seqQ_n ?_
    refine .cond rfl (fun h2 => ?_) (fun h2 => ?_)
    · skip
      have hlt : i < es.length ∧ i < 20 := by simp at g6_4 h2; omega
      obtain ⟨d, hd⟩ : ∃ d, es[i]? = some d := ⟨_, List.getElem?_eq_getElem hlt.1⟩
      have pd := hE.pc hd
      refine .skip ?_
      refine seqQ_n ?_
      refine .seq ?_
      refine .block ?_
      refine .seq ?_
      refine .region ?_
      refine TriOps.q .move ?_
      refine TriOps.q .move ?_
      refine TriOps.q (.indexR i hE hd rfl rfl rfl) ?_
      refine TriOps.q (.fieldAddr rfl) ?_
      refine TriOps.q (.load1 rfl) ?_
      refine TriOps.q .move ?_
      refine TriOps.q .neS ?_
      refine .nil ?_
      refine seqQ_n ?_
      refine .cond rfl (fun h3 => ?_) (fun h3 => ?_)
      · skip
        refine .region_tail 11 mixed (by kernel_rfl) ?_
        conv => arg 6; dsimp only [List.take]
        refine TriOps.q .move ?_
        refine TriOps.q .move ?_
        refine TriOps.q .move ?_
        refine TriOps.q (.indexR i hE hd rfl rfl rfl) ?_
        refine TriOps.q (.fieldAddr rfl) ?_
        refine TriOps.q (.load1 rfl) ?_
        refine TriOps.q .move ?_
        refine TriOps.q .move ?_
        refine TriOps.q (.indexR i hE hd rfl rfl rfl) ?_
        refine TriOps.q (.fieldAddr rfl) ?_
        refine TriOps.q (.load1 rfl) ?_
        refine .nil ?_
        refine TriOps.callM (qset_spec q _ T hQ d.key d.at_ (by omega) _) (fun w T2 hw => ?_)
        obtain ⟨rfl, hQ2⟩ := hw
        have hk2 := kset_length (k := d.key) (x := d.at_) (A := A)
        refine .nil ?_
        refine blkQ_n (seqQ_n ?_)
        refine .region ?_
        refine TriOps.q .move ?_
        refine TriOps.q (.inc (n := i) (by omega)) ?_
        refine TriOps.q .assign ?_
        refine .nil ?_
        first
          | exact loopQ_i (i + 1, kset d.key d.at_ A, T2) ⟨⟨by simp only; omega, by simp only; omega⟩, hQ2, by
              show mget key (kset d.key d.at_ A) = _
              rw [mget_kset, if_neg (by simp at h3; exact fun e => h3 e.symm)]; exact hg, by simp only; omega⟩ (by simp only; omega) ((((((EnvLe.nil _).cons rfl).cons rfl).cons rfl).cons rfl).cons rfl) (HLe.refl _)
          | exact loopQ_i (i + 1, A, T) ⟨⟨by simp only; omega, by simp only; omega⟩, hQ, hg, by simp only; omega⟩ (by simp only; omega) ((((((EnvLe.nil _).cons rfl).cons rfl).cons rfl).cons rfl).cons rfl) (HLe.refl _)
      · skip
        refine .skip ?_
        refine blkQ_n (seqQ_n ?_)
        refine .region ?_
        refine TriOps.q .move ?_
        refine TriOps.q (.inc (n := i) (by omega)) ?_
        refine TriOps.q .assign ?_
        refine .nil ?_
        first
          | exact loopQ_i (i + 1, kset d.key d.at_ A, T2) ⟨⟨by simp only; omega, by simp only; omega⟩, hQ2, by
              show mget key (kset d.key d.at_ A) = _
              rw [mget_kset, if_neg (by simp at h3; exact fun e => h3 e.symm)]; exact hg, by simp only; omega⟩ (by simp only; omega) ((((((EnvLe.nil _).cons rfl).cons rfl).cons rfl).cons rfl).cons rfl) (HLe.refl _)
          | exact loopQ_i (i + 1, A, T) ⟨⟨by simp only; omega, by simp only; omega⟩, hQ, hg, by simp only; omega⟩ (by simp only; omega) ((((((EnvLe.nil _).cons rfl).cons rfl).cons rfl).cons rfl).cons rfl) (HLe.refl _)
    · skip
      refine .exit (seqQ_x (loopQ_x (blkQ_x ?_)))
      refine seqQ_n ?_
      refine .seq ?_
      refine .region ?_
      refine TriOps.q .move ?_
      refine TriOps.q .move ?_
      refine TriOps.callR (qat_spec q _ T hQ key _ (fun p hp => .inr (by simp [hp]))) (fun v hv => ?_)
      subst hv
      rw [hg]
      refine TriOps.q .move ?_
      refine TriOps.q .extract ?_
      refine TriOps.q .extract ?_
      refine TriOps.q .assign ?_
      refine TriOps.q .assign ?_
      refine .nil ?_
      refine seqQ_n ?_
      refine .seq ?_
      refine .seq ?_
      refine .region ?_
      refine TriOps.q .move ?_
      refine TriOps.q .not ?_
      refine TriOps.q .move ?_
      refine TriOps.split (t := 58) rfl (fun g11_2 => ?_) (fun g11_2 => ?_)
      · skip
        refine TriOps.gF g11_2 ?_
        refine TriOps.gF g11_2 ?_
        refine TriOps.gF g11_2 ?_
        refine TriOps.q (.pickTh g11_2) ?_
        refine TriOps.q .move ?_
        refine TriOps.gf rfl rfl ?_
        refine TriOps.gf rfl rfl ?_
        refine TriOps.gf rfl rfl ?_
        refine TriOps.gf rfl rfl ?_
        refine TriOps.q .pickT ?_
        refine TriOps.q .move ?_
        refine TriOps.gf rfl rfl ?_
        refine TriOps.gf rfl rfl ?_
        refine TriOps.gf rfl rfl ?_
        refine TriOps.q .pickT ?_
        refine .nil ?_
        refine seqQ_n ?_
        refine .condT ?_
        refine .seq ?_
        refine .region ?_
        refine TriOps.q .assign ?_
        refine .nil ?_
        refine seqQ_n ?_
        refine .ret (seqQ_r (retQ_r _ (.one (.tmp rfl)) (.none _) ?_))
        first
          | exact ⟨rfl, rfl⟩
          | (exfalso; simp at *)
      · skip
        refine TriOps.gT g11_2 ?_
        refine TriOps.q .move ?_
        refine TriOps.gT g11_2 ?_
        refine TriOps.q .move ?_
        refine TriOps.gT g11_2 ?_
        refine TriOps.q .neI ?_
        refine TriOps.q (.pickFh g11_2) ?_
        refine TriOps.q .move ?_
        refine TriOps.split (t := 63) rfl (fun g11_7 => ?_) (fun g11_7 => ?_)
        · skip
          refine TriOps.gF g11_7 ?_
          refine TriOps.gF g11_7 ?_
          refine TriOps.gF g11_7 ?_
          refine TriOps.gF g11_7 ?_
          refine TriOps.q (.pickTh g11_7) ?_
          refine TriOps.q .move ?_
          refine TriOps.gf rfl rfl ?_
          refine TriOps.gf rfl rfl ?_
          refine TriOps.gf rfl rfl ?_
          refine TriOps.q .pickT ?_
          refine .nil ?_
          refine seqQ_n ?_
          refine .condT ?_
          refine .seq ?_
          refine .region ?_
          refine TriOps.q .assign ?_
          refine .nil ?_
          refine seqQ_n ?_
          refine .ret (seqQ_r (retQ_r _ (.one (.tmp rfl)) (.none _) ?_))
          first
            | exact ⟨rfl, rfl⟩
            | (exfalso; simp at *)
        · skip
          refine TriOps.gT g11_7 ?_
          refine TriOps.q .move ?_
          refine TriOps.gT g11_7 ?_
          refine TriOps.q .move ?_
          refine TriOps.gT g11_7 ?_
          refine TriOps.callM (qdrop_spec q _ T hQ key _) (fun w T2 hw => ?_)
          obtain ⟨rfl, hQ2⟩ := hw
          rw [hg]
          refine TriOps.gT g11_7 ?_
          refine TriOps.q .not ?_
          refine TriOps.q (.pickFh g11_7) ?_
          refine TriOps.q .move ?_
          refine TriOps.split (t := 69) rfl (fun g11_13 => ?_) (fun g11_13 => ?_)
          · skip
            refine TriOps.gF g11_13 ?_
            refine TriOps.gF g11_13 ?_
            refine TriOps.gF g11_13 ?_
            refine TriOps.q (.pickTh g11_13) ?_
            refine .nil ?_
            refine seqQ_n ?_
            refine .condT ?_
            refine .seq ?_
            refine .region ?_
            refine TriOps.q .assign ?_
            refine .nil ?_
            refine seqQ_n ?_
            refine .ret (seqQ_r (retQ_r _ (.one (.tmp rfl)) (.none _) ?_))
            first
              | exact ⟨rfl, rfl⟩
              | (exfalso; simp at *)
          · skip
            refine TriOps.gT g11_13 ?_
            refine TriOps.q .move ?_
            refine TriOps.gT g11_13 ?_
            refine TriOps.q .move ?_
            refine TriOps.gT g11_13 ?_
            refine TriOps.callM (qdrop_spec q _ T2 hQ2 key _) (fun w T3 hw => ?_)
            obtain ⟨rfl, hQ3⟩ := hw
            rw [mget_kdel, if_pos rfl]
            refine TriOps.q (.pickFh g11_13) ?_
            refine .nil ?_
            refine seqQ_n ?_
            refine .cond rfl (fun h4 => ?_) (fun h4 => ?_)
            · skip
              refine .seq ?_
              refine .region ?_
              refine TriOps.q .assign ?_
              refine .nil ?_
              refine seqQ_n ?_
              refine .ret (seqQ_r (retQ_r _ (.one (.tmp rfl)) (.none _) ?_))
              first
                | exact ⟨rfl, rfl⟩
                | (exfalso; simp at *)
            · skip
              refine .skip ?_
              refine seqQ_n ?_
              refine .seq ?_
              refine .region ?_
              refine TriOps.q .move ?_
              refine TriOps.q .move ?_
              refine TriOps.callR (qat_spec q _ T3 hQ3 key _ (fun p hp => .inr (by simp [hp]))) (fun v hv => ?_)
              subst hv
              rw [mget_kdel, if_pos rfl]
              refine TriOps.q .move ?_
              refine TriOps.q .extract ?_
              refine TriOps.q .extract ?_
              refine TriOps.q .assign ?_
              refine .nil ?_
              refine seqQ_n ?_
              refine .seq ?_
              refine .region ?_
              refine TriOps.q .move ?_
              refine TriOps.q .not ?_
              refine TriOps.q .move ?_
              refine TriOps.split (t := 82) rfl (fun g14_2 => ?_) (fun g14_2 => ?_)
              · skip
                refine TriOps.gT g14_2 ?_
                refine TriOps.callR (xlives_spec _) (fun v3 hv => ?_)
                subst hv
                refine TriOps.q (.pickTh g14_2) ?_
                refine TriOps.q .assign ?_
                refine .nil ?_
                refine seqQ_n ?_
                refine .ret (retQ_r _ (.one (.tmp rfl)) (.none _) ?_)
                first
                  | exact ⟨rfl, rfl⟩
                  | (exfalso; simp at *)
              · skip
                refine TriOps.gF g14_2 ?_
                refine TriOps.q (.pickFh g14_2) ?_
                refine TriOps.q .assign ?_
                refine .nil ?_
                refine seqQ_n ?_
                refine .ret (retQ_r _ (.one (.tmp rfl)) (.none _) ?_)
                first
                  | exact ⟨rfl, rfl⟩
                  | (exfalso; simp at *)
  · skip
    refine TriOps.gF g6_4 ?_
    refine TriOps.gF g6_4 ?_
    refine TriOps.q (.pickFh g6_4) ?_
    refine .nil ?_
    refine seqQ_n ?_
    refine .condF ?_
    refine .exit (seqQ_x (loopQ_x (blkQ_x ?_)))
    refine seqQ_n ?_
    refine .seq ?_
    refine .region ?_
    refine TriOps.q .move ?_
    refine TriOps.q .move ?_
    refine TriOps.callR (qat_spec q _ T hQ key _ (fun p hp => .inr (by simp [hp]))) (fun v hv => ?_)
    subst hv
    rw [hg]
    refine TriOps.q .move ?_
    refine TriOps.q .extract ?_
    refine TriOps.q .extract ?_
    refine TriOps.q .assign ?_
    refine TriOps.q .assign ?_
    refine .nil ?_
    refine seqQ_n ?_
    refine .seq ?_
    refine .seq ?_
    refine .region ?_
    refine TriOps.q .move ?_
    refine TriOps.q .not ?_
    refine TriOps.q .move ?_
    refine TriOps.split (t := 58) rfl (fun g11_2 => ?_) (fun g11_2 => ?_)
    · skip
      refine TriOps.gF g11_2 ?_
      refine TriOps.gF g11_2 ?_
      refine TriOps.gF g11_2 ?_
      refine TriOps.q (.pickTh g11_2) ?_
      refine TriOps.q .move ?_
      refine TriOps.gf rfl rfl ?_
      refine TriOps.gf rfl rfl ?_
      refine TriOps.gf rfl rfl ?_
      refine TriOps.gf rfl rfl ?_
      refine TriOps.q .pickT ?_
      refine TriOps.q .move ?_
      refine TriOps.gf rfl rfl ?_
      refine TriOps.gf rfl rfl ?_
      refine TriOps.gf rfl rfl ?_
      refine TriOps.q .pickT ?_
      refine .nil ?_
      refine seqQ_n ?_
      refine .condT ?_
      refine .seq ?_
      refine .region ?_
      refine TriOps.q .assign ?_
      refine .nil ?_
      refine seqQ_n ?_
      refine .ret (seqQ_r (retQ_r _ (.one (.tmp rfl)) (.none _) ?_))
      first
        | exact ⟨rfl, rfl⟩
        | (exfalso; simp at *)
    · skip
      refine TriOps.gT g11_2 ?_
      refine TriOps.q .move ?_
      refine TriOps.gT g11_2 ?_
      refine TriOps.q .move ?_
      refine TriOps.gT g11_2 ?_
      refine TriOps.q .neI ?_
      refine TriOps.q (.pickFh g11_2) ?_
      refine TriOps.q .move ?_
      refine TriOps.split (t := 63) rfl (fun g11_7 => ?_) (fun g11_7 => ?_)
      · skip
        refine TriOps.gF g11_7 ?_
        refine TriOps.gF g11_7 ?_
        refine TriOps.gF g11_7 ?_
        refine TriOps.gF g11_7 ?_
        refine TriOps.q (.pickTh g11_7) ?_
        refine TriOps.q .move ?_
        refine TriOps.gf rfl rfl ?_
        refine TriOps.gf rfl rfl ?_
        refine TriOps.gf rfl rfl ?_
        refine TriOps.q .pickT ?_
        refine .nil ?_
        refine seqQ_n ?_
        refine .condT ?_
        refine .seq ?_
        refine .region ?_
        refine TriOps.q .assign ?_
        refine .nil ?_
        refine seqQ_n ?_
        refine .ret (seqQ_r (retQ_r _ (.one (.tmp rfl)) (.none _) ?_))
        first
          | exact ⟨rfl, rfl⟩
          | (exfalso; simp at *)
      · skip
        refine TriOps.gT g11_7 ?_
        refine TriOps.q .move ?_
        refine TriOps.gT g11_7 ?_
        refine TriOps.q .move ?_
        refine TriOps.gT g11_7 ?_
        refine TriOps.callM (qdrop_spec q _ T hQ key _) (fun w T2 hw => ?_)
        obtain ⟨rfl, hQ2⟩ := hw
        rw [hg]
        refine TriOps.gT g11_7 ?_
        refine TriOps.q .not ?_
        refine TriOps.q (.pickFh g11_7) ?_
        refine TriOps.q .move ?_
        refine TriOps.split (t := 69) rfl (fun g11_13 => ?_) (fun g11_13 => ?_)
        · skip
          refine TriOps.gF g11_13 ?_
          refine TriOps.gF g11_13 ?_
          refine TriOps.gF g11_13 ?_
          refine TriOps.q (.pickTh g11_13) ?_
          refine .nil ?_
          refine seqQ_n ?_
          refine .condT ?_
          refine .seq ?_
          refine .region ?_
          refine TriOps.q .assign ?_
          refine .nil ?_
          refine seqQ_n ?_
          refine .ret (seqQ_r (retQ_r _ (.one (.tmp rfl)) (.none _) ?_))
          first
            | exact ⟨rfl, rfl⟩
            | (exfalso; simp at *)
        · skip
          refine TriOps.gT g11_13 ?_
          refine TriOps.q .move ?_
          refine TriOps.gT g11_13 ?_
          refine TriOps.q .move ?_
          refine TriOps.gT g11_13 ?_
          refine TriOps.callM (qdrop_spec q _ T2 hQ2 key _) (fun w T3 hw => ?_)
          obtain ⟨rfl, hQ3⟩ := hw
          rw [mget_kdel, if_pos rfl]
          refine TriOps.q (.pickFh g11_13) ?_
          refine .nil ?_
          refine seqQ_n ?_
          refine .cond rfl (fun h4 => ?_) (fun h4 => ?_)
          · skip
            refine .seq ?_
            refine .region ?_
            refine TriOps.q .assign ?_
            refine .nil ?_
            refine seqQ_n ?_
            refine .ret (seqQ_r (retQ_r _ (.one (.tmp rfl)) (.none _) ?_))
            first
              | exact ⟨rfl, rfl⟩
              | (exfalso; simp at *)
          · skip
            refine .skip ?_
            refine seqQ_n ?_
            refine .seq ?_
            refine .region ?_
            refine TriOps.q .move ?_
            refine TriOps.q .move ?_
            refine TriOps.callR (qat_spec q _ T3 hQ3 key _ (fun p hp => .inr (by simp [hp]))) (fun v hv => ?_)
            subst hv
            rw [mget_kdel, if_pos rfl]
            refine TriOps.q .move ?_
            refine TriOps.q .extract ?_
            refine TriOps.q .extract ?_
            refine TriOps.q .assign ?_
            refine .nil ?_
            refine seqQ_n ?_
            refine .seq ?_
            refine .region ?_
            refine TriOps.q .move ?_
            refine TriOps.q .not ?_
            refine TriOps.q .move ?_
            refine TriOps.split (t := 82) rfl (fun g14_2 => ?_) (fun g14_2 => ?_)
            · skip
              refine TriOps.gT g14_2 ?_
              refine TriOps.callR (xlives_spec _) (fun v3 hv => ?_)
              subst hv
              refine TriOps.q (.pickTh g14_2) ?_
              refine TriOps.q .assign ?_
              refine .nil ?_
              refine seqQ_n ?_
              refine .ret (retQ_r _ (.one (.tmp rfl)) (.none _) ?_)
              first
                | exact ⟨rfl, rfl⟩
                | (exfalso; simp at *)
            · skip
              refine TriOps.gF g14_2 ?_
              refine TriOps.q (.pickFh g14_2) ?_
              refine TriOps.q .assign ?_
              refine .nil ?_
              refine seqQ_n ?_
              refine .ret (retQ_r _ (.one (.tmp rfl)) (.none _) ?_)
              first
                | exact ⟨rfl, rfl⟩
                | (exfalso; simp at *)
end Go.Proofs.Ytlmdgdehjpahiaa
