/- Layer 27's law: what every row of calls answers. No condition. -/
import Derived.Test.YtlmdgdehjpahiaaExpR
import Derived.Test.YtlmdgdehjpahiaaExpM
import Derived.Test.YtlmdgdehjpahiaaSame
set_option linter.unusedVariables false
set_option maxRecDepth 4000
namespace Go.Proofs.Ytlmdgdehjpahiaa

theorem RQ.ps {q : Nat} {L : List KA} {T : Seg} (h : RQ q L T) : ∃ vt, One vt ∧ PS T (.pointer (some ⟨q, 0, none⟩)) [vt] ∧ RS (sg T) 2 encKA vt L := by
  obtain ⟨vt, Tt, rfl, hO, hl⟩ := h
  exact ⟨vt, hO.oneCell, PS.of (E := 50) (fr := (0, 0)) (by simp), hO.rs fun p hp => by simp [sg, hp]⟩
/-- The queue's and the reference's, side by side. -/
structure Both (A L : List KA) : Prop where
  pm : A.Perm L
  so : KSort L
  nd : (A.map (·.1)).Nodup
theorem Both.next {A L : List KA} (h : Both A L) {v : Value} (hv : (A = [] ∧ v = .tuple [.string ⟨#[]⟩, .int .i64 0, .bool false].toArray) ∨ ∃ p ∈ A, (∀ r ∈ A, kaLt r p = false) ∧ v = .tuple [.string p.1, .int .i64 p.2, .bool true].toArray) :
    (L = [] ∧ v = .tuple [.string ⟨#[]⟩, .int .i64 0, .bool false].toArray) ∨ ∃ p L', L = p :: L' ∧ v = .tuple [.string p.1, .int .i64 p.2, .bool true].toArray := by
  rcases hv with ⟨rfl, hv⟩ | ⟨p, hp, hmin, hv⟩
  · exact .inl ⟨List.nil_perm.1 h.pm, hv⟩
  · right
    cases L with
    | nil => rw [List.perm_nil.1 h.pm] at hp; cases hp
    | cons r L' =>
      have h1 := hmin r (h.pm.mem_iff.2 (by simp))
      have h2 : kaLt p r = false := by
        rcases List.mem_cons.1 (h.pm.mem_iff.1 hp) with he | hm
        · rw [he]; exact kaLt_so.irr _
        · exact (List.pairwise_cons.1 h.so).1 p hm
      have := kaLt_anti h1 h2
      subst this
      exact ⟨r, L', rfl, hv⟩
theorem Both.next3 {A L : List KA} (h : Both A L) {v : Value} (hv : (A = [] ∧ v = .tuple [.string ⟨#[]⟩, .int .i64 0, .bool false].toArray) ∨ ∃ p ∈ A, (∀ r ∈ A, kaLt r p = false) ∧ v = .tuple [.string p.1, .int .i64 p.2, .bool true].toArray) :
    ∃ (k : ByteArray) (a : Int) (b : Bool), v = .tuple [.string k, .int .i64 a, .bool b].toArray ∧ b = decide ((0 : Int) < L.length) ∧ (b = true → L[0]? = some (k, a)) ∧ (b = false → k = ⟨#[]⟩ ∧ a = 0) := by
  rcases h.next hv with ⟨rfl, rfl⟩ | ⟨⟨k, a⟩, L', rfl, rfl⟩
  · exact ⟨_, _, _, rfl, by simp, by simp, by simp⟩
  · exact ⟨_, _, _, rfl, by simp, by simp, by simp⟩
theorem mget_mem {A : List KA} : ∀ {L : List KA} {p : KA}, (L.map (·.1)).Nodup → p ∈ L → mget p.1 L = some p.2
  | [], p, _, h => by cases h
  | (k, a) :: L, p, hn, h => by
    have hn' := List.nodup_cons.1 hn
    simp only [mget]
    rcases List.mem_cons.1 h with rfl | h
    · simp
    · have : p.1 ≠ k := fun e => hn'.1 (by rw [← e]; exact List.mem_map.2 ⟨p, h, rfl⟩)
      rw [if_neg this]
      exact mget_mem (A := A) hn'.2 h
theorem Both.get {A L : List KA} (h : Both A L) {i : Nat} {p : KA} (hp : L[i]? = some p) : mget p.1 A = some p.2 := by
  rw [mget_perm h.pm h.nd]
  exact mget_mem (A := A) ((h.pm.map _).nodup_iff.1 h.nd) (List.mem_of_getElem? hp)
theorem Both.set {A L : List KA} (h : Both A L) (k : ByteArray) (a : Int) : Both (kset k a A) (kins (k, a) (kdel k L)) := ⟨kset_kins h.pm, kins_sort h.so.kdel, kset_nodup h.nd⟩
theorem Both.del {A L : List KA} (h : Both A L) (k : ByteArray) : Both (kdel k A) (kdel k L) := ⟨kdel_perm h.pm, h.so.kdel, kdel_nodup h.nd⟩
theorem Both.due {A L B A' C D : List KA} {now : Int} (h : Both A L) (hd : DueR A now B A') (hA : ∀ p ∈ A', now < p.2) (he : L = C ++ D) (hC : ∀ p ∈ C, p.2 ≤ now) (hD : ∀ p, D.head? = some p → now < p.2) : B = C ∧ Both A' D ∧ A'.length ≤ A.length := by
  have hD2 := KSort.due (he ▸ h.so) hC hD
  obtain ⟨h1, h2⟩ := hd.is hA h.so h.pm he hC hD2
  have hn : ((B ++ A').map (·.1)).Nodup := (hd.pm.map _).nodup_iff.1 h.nd
  refine ⟨h1, ⟨h2, (he ▸ h.so).sub (List.sublist_append_right C D), ?_⟩, by rw [hd.pm.length_eq]; simp⟩
  rw [List.map_append] at hn
  exact (List.nodup_append.1 hn).2.1
theorem plays_spec (v : Value) (ds : List XDo) (R : Rds) (hS : RS R 3 XDo.enc v ds) :
    Spec Try.prog 6 [v] R [] fun u H' => u = .bool true ∧ H' = [] := by
  have hsl := hS.le
  refine Spec.body Try.func6 rfl Try.results6 Try.ntmps6 rfl ?_
  refine .seq ?_
  refine .region ?_
  refine TriOps.q .assign ?_
  refine .nil ?_
  refine seqQ_n ?_
  refine .seq ?_
  refine .region ?_
  refine TriOps.callN (qnew_spec _) (fun u T0 hu => ?_)
  obtain ⟨q, rfl, hq0⟩ := hu
  refine TriOps.q .bld ?_
  refine TriOps.boxA rfl (fun b15 => ?_)
  refine TriOps.q .assign ?_
  refine TriOps.q .assign ?_
  refine .nil ?_
  refine seqQ_n ?_
  refine .seq ?_
  refine .seq ?_
  refine .region ?_
  refine TriOps.q .move ?_
  refine TriOps.q (.eqNilA rfl rfl) ?_
  refine .nil ?_
  refine seqQ_n ?_
  refine .condF ?_
  refine .skip ?_
  refine seqQ_n ?_
  refine .seq ?_
  refine .seq ?_
  refine .region ?_
  refine TriOps.q .assign ?_
  refine .nil ?_
  refine seqQ_n ?_
  refine .block ?_
  refine .loop (X := Nat × List KA × List KA × Seg × Seg) (fun y => (y.1 ≤ ds.length ∧ y.2.1.length ≤ y.1 ∧ y.1 ≤ 60) ∧ Both y.2.1 y.2.2.1 ∧ QI q y.2.1 y.2.2.2.1 ∧ RQ b15 y.2.2.1 y.2.2.2.2) (fun y => [(0, v), (3, .pointer (some ⟨q, 0, none⟩)), (4, .pointer (some ⟨b15, 0, none⟩)), (5, .int .i64 (y.1 : Nat))]) (fun y => [y.2.2.2.2, y.2.2.2.1]) (fun y => ds.length - y.1) (0, [], [], T0, _) ⟨⟨by omega, by simp, by omega⟩, ⟨.refl _, List.Pairwise.nil, by simp⟩, hq0, ⟨_, [], rfl, OS.nil, by simp⟩⟩ (((((EnvLe.nil _).cons rfl).cons rfl).cons rfl).cons rfl) (HLe.refl _) ?_
  rintro ⟨i, A, L, T, TR⟩ ⟨⟨hi, hAi, hi60⟩, hB, hQ, hX⟩
  simp only at hi hAi hi60 hB hQ hX ⊢
  refine .seq ?_
  refine .seq ?_
  refine .region ?_
  refine TriOps.q .move ?_
  refine TriOps.q .move ?_
  refine TriOps.q (.lenR hS) ?_
  refine TriOps.q .lss ?_
  refine TriOps.q .move ?_
  refine TriOps.split (t := 22) rfl (fun g5_4 => ?_) (fun g5_4 => ?_)
  · skip
    refine TriOps.gT g5_4 ?_
    refine TriOps.q .move ?_
    refine TriOps.gT g5_4 ?_
    refine TriOps.q .lss ?_
    refine TriOps.q (.pickTh g5_4) ?_
    refine .nil ?_
    refine seqQ_n ?_
    refine .cond rfl (fun h2 => ?_) (fun h2 => ?_)
    · skip
      have hlt : i < ds.length ∧ i < 60 := by simp at g5_4 h2; omega
      obtain ⟨d, hd⟩ : ∃ d, ds[i]? = some d := ⟨_, List.getElem?_eq_getElem hlt.1⟩
      have pd := hS.pc hd
      obtain ⟨da, hda⟩ : ∃ da, baseP v (i * 3) = .pointer (some da) := let ⟨b, off, _, _, _, h, _⟩ := pd.h; ⟨_, h⟩
      have hAL := hB.pm.length_eq
      refine .skip ?_
      refine seqQ_n ?_
      refine .seq ?_
      refine .block ?_
      refine .seq ?_
      refine .region ?_
      refine TriOps.q .move ?_
      refine TriOps.q .move ?_
      refine TriOps.q (.indexR i hS hd rfl rfl rfl) ?_
      refine TriOps.q (.fieldAddr rfl) ?_
      refine TriOps.q (.load1 rfl) ?_
      refine TriOps.callR (short_spec d.key 20 _) (fun w hw => ?_)
      subst hw
      refine TriOps.q .assign ?_
      refine .nil ?_
      refine seqQ_n ?_
      refine .seq ?_
      refine .seq ?_
      refine .region ?_
      refine TriOps.q .move ?_
      refine TriOps.q .move ?_
      refine TriOps.q (.indexR i hS hd rfl rfl rfl) ?_
      refine TriOps.q (.fieldAddr rfl) ?_
      refine TriOps.q (.load1 rfl) ?_
      refine .nil ?_
      refine seqQ_n ?_
      refine Tri.cut (X := List KA × List KA × Seg × Seg) (fun y => y.1.length ≤ i + 1 ∧ Both y.1 y.2.1 ∧ QI q y.1 y.2.2.1 ∧ RQ b15 y.2.1 y.2.2.2) (fun y => [(0, v), (3, .pointer (some ⟨q, 0, none⟩)), (4, .pointer (some ⟨b15, 0, none⟩)), (5, .int .i64 (i : Nat))]) (fun y => [y.2.2.2, y.2.2.1]) ?_ ?_
      · refine .block ?_
        refine .seq ?_
        refine .region ?_
        refine TriOps.q .eqI ?_
        refine TriOps.q .assign ?_
        refine .nil ?_
        refine seqQ_n ?_
        refine .cond rfl (fun h3 => ?_) (fun h3 => ?_)
        · skip
          refine .seq ?_
          refine .region ?_
          refine TriOps.q .move ?_
          refine TriOps.q .move ?_
          refine TriOps.q .move ?_
          refine TriOps.q .move ?_
          refine TriOps.q (.indexR i hS hd rfl rfl rfl) ?_
          refine TriOps.q (.fieldAddr rfl) ?_
          refine TriOps.q (.load1 rfl) ?_
          refine TriOps.callM (qset_spec q _ T hQ (short d.key 20) d.at_ (by omega) _) (fun w T1 hw => ?_)
          obtain ⟨rfl, hQ1⟩ := hw
          refine .nil ?_
          refine seqQ_n ?_
          refine .region ?_
          refine TriOps.q .move ?_
          refine TriOps.q .move ?_
          refine TriOps.q .move ?_
          refine TriOps.q .move ?_
          refine TriOps.q (.indexR i hS hd rfl rfl rfl) ?_
          refine TriOps.q (.fieldAddr rfl) ?_
          refine TriOps.q (.load1 rfl) ?_
          refine TriOps.callM (rset_spec b15 L TR hX (short d.key 20) d.at_ (by omega) _) (fun w T2 hw => ?_)
          obtain ⟨rfl, hX1⟩ := hw
          refine .nil ?_
          refine blkQ_n ?_
          first
            | exact joinQ_n (_, _, T1, T2) ⟨Nat.le_trans kset_length (by omega), hB.set _ _, hQ1, hX1⟩ (((((EnvLe.nil _).cons rfl).cons rfl).cons rfl).cons rfl) (HLe.refl _)
            | exact joinQ_n (_, _, T1, T2) ⟨Nat.le_trans kdel_length (by omega), hB.del _, hQ1, hX1⟩ (((((EnvLe.nil _).cons rfl).cons rfl).cons rfl).cons rfl) (HLe.refl _)
            | exact joinQ_n (A', D, T1, T2) ⟨by have := (hB.due hD1 hD2 hCD hC1 hC2).2.2; simp only; omega, (hB.due hD1 hD2 hCD hC1 hC2).2.1, hQ1, hX1⟩ (((((EnvLe.nil _).cons rfl).cons rfl).cons rfl).cons rfl) (HLe.pick [0, 1] _)
            | exact joinQ_n (A, L, T, TR) ⟨by simp only; omega, hB, hQ, hX⟩ (((((EnvLe.nil _).cons rfl).cons rfl).cons rfl).cons rfl) (HLe.refl _)
        · skip
          refine .seq ?_
          refine .region ?_
          refine TriOps.q .eqI ?_
          refine TriOps.q .assign ?_
          refine .nil ?_
          refine seqQ_n ?_
          refine .cond rfl (fun h4 => ?_) (fun h4 => ?_)
          · skip
            refine .seq ?_
            refine .region ?_
            refine TriOps.q .move ?_
            refine TriOps.q .move ?_
            refine TriOps.callM (qdrop_spec q _ T hQ (short d.key 20) _) (fun w T1 hw => ?_)
            obtain ⟨rfl, hQ1⟩ := hw
            refine TriOps.q .move ?_
            refine TriOps.q .move ?_
            refine TriOps.callM (rdrop_spec b15 L TR hX (short d.key 20) _) (fun w T2 hw => ?_)
            obtain ⟨rfl, hX1⟩ := hw
            refine TriOps.q .neB ?_
            refine .nil ?_
            refine seqQ_n ?_
            refine .cond rfl (fun h5 => ?_) (fun h5 => ?_)
            · skip
              rw [mget_perm hB.pm hB.nd] at h5
              simp at h5
            · skip
              refine .skip ?_
              refine blkQ_n ?_
              first
                | exact joinQ_n (_, _, T1, T2) ⟨Nat.le_trans kset_length (by omega), hB.set _ _, hQ1, hX1⟩ (((((EnvLe.nil _).cons rfl).cons rfl).cons rfl).cons rfl) (HLe.refl _)
                | exact joinQ_n (_, _, T1, T2) ⟨Nat.le_trans kdel_length (by omega), hB.del _, hQ1, hX1⟩ (((((EnvLe.nil _).cons rfl).cons rfl).cons rfl).cons rfl) (HLe.refl _)
                | exact joinQ_n (A', D, T1, T2) ⟨by have := (hB.due hD1 hD2 hCD hC1 hC2).2.2; simp only; omega, (hB.due hD1 hD2 hCD hC1 hC2).2.1, hQ1, hX1⟩ (((((EnvLe.nil _).cons rfl).cons rfl).cons rfl).cons rfl) (HLe.pick [0, 1] _)
                | exact joinQ_n (A, L, T, TR) ⟨by simp only; omega, hB, hQ, hX⟩ (((((EnvLe.nil _).cons rfl).cons rfl).cons rfl).cons rfl) (HLe.refl _)
          · skip
            refine .seq ?_
            refine .region ?_
            refine TriOps.q .eqI ?_
            refine TriOps.q .assign ?_
            refine .nil ?_
            refine seqQ_n ?_
            refine .cond rfl (fun h6 => ?_) (fun h6 => ?_)
            · skip
              refine .seq ?_
              refine .region_all [6, 13] mixed ?_
              refine RA.takeO 0 rfl .move (by kernel_rfl) ?_
              refine RA.takeO 1 rfl .move (by kernel_rfl) ?_
              refine RA.takeO 2 rfl .move (by kernel_rfl) ?_
              refine RA.takeO 3 rfl (.indexR i hS hd rfl rfl rfl) (by kernel_rfl) ?_
              refine RA.takeO 4 rfl (.fieldAddr rfl) (by kernel_rfl) ?_
              refine RA.takeO 5 rfl (.load1 rfl) (by kernel_rfl) ?_
              refine RA.take 7 rfl .move (by kernel_rfl) ?_
              refine RA.take 8 rfl .move (by kernel_rfl) ?_
              refine RA.take 9 rfl .move (by kernel_rfl) ?_
              refine RA.take 10 rfl (.indexR i hS hd rfl rfl rfl) (by kernel_rfl) ?_
              refine RA.take 11 rfl (.fieldAddrA rfl hda) (by kernel_rfl) ?_
              refine RA.take 12 rfl (.load1 rfl) (by kernel_rfl) ?_
              refine RA.step 6 rfl (by kernel_rfl) rfl ?_
              refine TriOps.call [1] (qdue_spec q _ T hQ d.at_ _) (fun w H' hw => ?_)
              obtain ⟨T1, To1, B, A', rfl, hO1, hQ1, hD1, hD2⟩ := hw
              refine .nil (Next.mod rfl ?_)
              refine RA.step 13 rfl (by kernel_rfl) rfl ?_
              refine TriOps.call [2] (rdue_spec b15 L TR hX d.at_ _) (fun w H' hw => ?_)
              obtain ⟨T2, To2, C, D, rfl, hCD, hO2, hX1, hC1, hC2⟩ := hw
              refine .nil (Next.mod rfl ?_)
              refine RA.step 14 rfl (by kernel_rfl) rfl ?_
              show TriOps _ _ _ _ _ _ _ [T2, To2, T1, To1] _
              refine TriOps.callR (sameTexts_spec _ _ _ _ _ hO1.rx hO2.rx) (fun w hw => ?_)
              subst hw
              refine .nil (Next.mod rfl ?_)
              refine RA.take 15 rfl .not (by kernel_rfl) ?_
              refine RA.nil (by kernel_rfl) ?_
              refine seqQ_n ?_
              refine .cond rfl (fun h7 => ?_) (fun h7 => ?_)
              · skip
                rw [(hB.due hD1 hD2 hCD hC1 hC2).1] at h7
                simp at h7
              · skip
                refine .skip ?_
                refine blkQ_n ?_
                first
                  | exact joinQ_n (_, _, T1, T2) ⟨Nat.le_trans kset_length (by omega), hB.set _ _, hQ1, hX1⟩ (((((EnvLe.nil _).cons rfl).cons rfl).cons rfl).cons rfl) (HLe.refl _)
                  | exact joinQ_n (_, _, T1, T2) ⟨Nat.le_trans kdel_length (by omega), hB.del _, hQ1, hX1⟩ (((((EnvLe.nil _).cons rfl).cons rfl).cons rfl).cons rfl) (HLe.refl _)
                  | exact joinQ_n (A', D, T1, T2) ⟨by have := (hB.due hD1 hD2 hCD hC1 hC2).2.2; simp only; omega, (hB.due hD1 hD2 hCD hC1 hC2).2.1, hQ1, hX1⟩ (((((EnvLe.nil _).cons rfl).cons rfl).cons rfl).cons rfl) (HLe.pick [0, 1] _)
                  | exact joinQ_n (A, L, T, TR) ⟨by simp only; omega, hB, hQ, hX⟩ (((((EnvLe.nil _).cons rfl).cons rfl).cons rfl).cons rfl) (HLe.refl _)
            · skip
              refine .skip ?_
              refine blkQ_n ?_
              first
                | exact joinQ_n (_, _, T1, T2) ⟨Nat.le_trans kset_length (by omega), hB.set _ _, hQ1, hX1⟩ (((((EnvLe.nil _).cons rfl).cons rfl).cons rfl).cons rfl) (HLe.refl _)
                | exact joinQ_n (_, _, T1, T2) ⟨Nat.le_trans kdel_length (by omega), hB.del _, hQ1, hX1⟩ (((((EnvLe.nil _).cons rfl).cons rfl).cons rfl).cons rfl) (HLe.refl _)
                | exact joinQ_n (A', D, T1, T2) ⟨by have := (hB.due hD1 hD2 hCD hC1 hC2).2.2; simp only; omega, (hB.due hD1 hD2 hCD hC1 hC2).2.1, hQ1, hX1⟩ (((((EnvLe.nil _).cons rfl).cons rfl).cons rfl).cons rfl) (HLe.pick [0, 1] _)
                | exact joinQ_n (A, L, T, TR) ⟨by simp only; omega, hB, hQ, hX⟩ (((((EnvLe.nil _).cons rfl).cons rfl).cons rfl).cons rfl) (HLe.refl _)
      · intro x hx
        clear hB hQ hX hAi hAL A L T TR
        obtain ⟨A, L, T, TR⟩ := x
        obtain ⟨hAi, hB, hQ, hX⟩ := hx
        simp only at hAi hB hQ hX ⊢
        obtain ⟨vt, i9, px, rsx⟩ := hX.ps
        have hAL := hB.pm.length_eq
        refine seqQ_n ?_
        refine .seq ?_
        refine .seq ?_
        refine .region_all [] mixed ?_
        refine RA.takeO 0 rfl .move (by kernel_rfl) ?_
        refine RA.takeO 2 rfl .move (by kernel_rfl) ?_
        refine RA.step 1 rfl (by kernel_rfl) rfl ?_
        refine TriOps.callN (qkeys_spec q A T hQ _ (fun p hp => .inr (by simp [hp]))) (fun w Tk hw => ?_)
        obtain ⟨ks, hOk, hkp, hks⟩ := hw
        have hkL : ks = L := hks.uniq hB.so (hkp.trans hB.pm)
        refine .nil (Next.sub ?_)
        refine RA.step 3 rfl (by kernel_rfl) rfl ?_
        refine TriOps.callN (rkeys_spec b15 L TR hX _ (fun p hp => .inr (by simp [hp]))) (fun w2 Tk2 hOk2 => ?_)
        refine .nil (Next.sub ?_)
        refine RA.step 4 rfl (by kernel_rfl) rfl ?_
        refine TriOps.callR (sameTexts_spec _ _ _ _ _ hOk.rx hOk2.rx) (fun w hw => ?_)
        subst hw
        refine .nil (Next.sub ?_)
        refine RA.takeO 5 rfl .not (by kernel_rfl) ?_
        refine RA.takeO 6 rfl .move (by kernel_rfl) ?_
        refine RA.split (t := 90) rfl (fun g18_6 => ?_) (fun g18_6 => ?_)
        · skip
          rw [hkL] at g18_6
          simp at g18_6
        · skip
          refine RA.takeGhO 7 rfl rfl g18_6 .move (by kernel_rfl) ?_
          refine RA.takeGhO 9 rfl rfl g18_6 .move (by kernel_rfl) ?_
          refine RA.takeGhO 10 rfl rfl g18_6 (.nilCheck rfl) (by kernel_rfl) ?_
          refine RA.takeGhO 11 rfl rfl g18_6 (.fieldAddr rfl) (by kernel_rfl) ?_
          refine RA.takeGhO 12 rfl rfl g18_6 (.load1 rfl) (by kernel_rfl) ?_
          refine RA.takeGhO 13 rfl rfl g18_6 (.lenR rsx) (by kernel_rfl) ?_
          refine RA.step 8 rfl (by kernel_rfl) rfl ?_
          refine TriOps.gT g18_6 ?_
          refine TriOps.callR (qlen_spec q A T hQ _ (fun p hp => .inr (by simp [hp]))) (fun w hw => ?_)
          subst hw
          refine .nil (Next.sub ?_)
          refine RA.takeGhO 14 rfl rfl g18_6 .neI (by kernel_rfl) ?_
          refine RA.takeO 15 rfl (.pickFh g18_6) (by kernel_rfl) ?_
          refine RA.nil (by kernel_rfl) ?_
          refine seqQ_n ?_
          refine .cond rfl (fun h8 => ?_) (fun h8 => ?_)
          · skip
            rw [hAL] at h8
            simp at h8
          · skip
            refine .skip ?_
            refine seqQ_n ?_
            refine .seq ?_
            refine .region ?_
            refine TriOps.q .move ?_
            refine TriOps.callR (qnext_spec q A T hQ _ (fun p hp => .inr (by simp [hp]))) (fun w hw => ?_)
            obtain ⟨nk, na, nb, rfl, hnb, hns, hnn⟩ := hB.next3 hw
            refine TriOps.q .move ?_
            refine TriOps.q .extract ?_
            refine TriOps.q .extract ?_
            refine TriOps.q .extract ?_
            refine TriOps.q .assign ?_
            refine TriOps.q .assign ?_
            refine TriOps.q .assign ?_
            refine .nil ?_
            refine seqQ_n ?_
            refine .seq ?_
            refine Tri.cut (X := Unit) (fun _ => True) (fun _ => [(0, v), (3, .pointer (some ⟨q, 0, none⟩)), (4, .pointer (some ⟨b15, 0, none⟩)), (5, .int .i64 (i : Nat))]) (fun _ => [TR, T]) ?_ ?_
            · refine .seq ?_
              refine .region ?_
              refine TriOps.q .move ?_
              refine TriOps.q .move ?_
              refine TriOps.q (.nilCheck rfl) ?_
              refine TriOps.q (.fieldAddr rfl) ?_
              refine TriOps.q (.load1 rfl) ?_
              refine TriOps.q (.lenR rsx) ?_
              refine TriOps.q .gtr ?_
              refine TriOps.q .neB ?_
              refine TriOps.q .move ?_
              refine TriOps.split (t := 114) rfl (fun g21_8 => ?_) (fun g21_8 => ?_)
              · skip
                rw [hnb] at g21_8
                simp at g21_8
              · skip
                refine TriOps.gT g21_8 ?_
                refine TriOps.q .move ?_
                refine TriOps.gT g21_8 ?_
                refine TriOps.q .move ?_
                refine TriOps.split (t := 116) rfl (fun g21_10 => ?_) (fun g21_10 => ?_)
                · skip
                  have hx0 := hns g21_10
                  have px0 : PS TR (baseP vt (0 * 2)) (encKA (nk, na)) := ⟨rsx.pc hx0⟩
                  refine TriOps.gT g21_10 ?_
                  refine TriOps.q .move ?_
                  refine TriOps.gT g21_10 ?_
                  refine TriOps.q .move ?_
                  refine TriOps.gT g21_10 ?_
                  refine TriOps.q (.nilCheck rfl) ?_
                  refine TriOps.gT g21_10 ?_
                  refine TriOps.q (.fieldAddr rfl) ?_
                  refine TriOps.gT g21_10 ?_
                  refine TriOps.q (.load1 rfl) ?_
                  refine TriOps.gT g21_10 ?_
                  refine TriOps.q (.indexR 0 rsx hx0 rfl rfl rfl) ?_
                  refine TriOps.gT g21_10 ?_
                  refine TriOps.q (.fieldAddr rfl) ?_
                  refine TriOps.gT g21_10 ?_
                  refine TriOps.q (.load1 rfl) ?_
                  refine TriOps.gT g21_10 ?_
                  refine TriOps.q .neS ?_
                  refine TriOps.gT g21_10 ?_
                  refine TriOps.q .move ?_
                  refine TriOps.split (t := 126) rfl (fun g21_20 => ?_) (fun g21_20 => ?_)
                  · skip
                    simp at g21_20
                  · skip
                    refine TriOps.gT g21_20 ?_
                    refine TriOps.q .move ?_
                    refine TriOps.gT g21_20 ?_
                    refine TriOps.q .move ?_
                    refine TriOps.gT g21_20 ?_
                    refine TriOps.q (.nilCheck rfl) ?_
                    refine TriOps.gT g21_20 ?_
                    refine TriOps.q (.fieldAddr rfl) ?_
                    refine TriOps.gT g21_20 ?_
                    refine TriOps.q (.load1 rfl) ?_
                    refine TriOps.gT g21_20 ?_
                    refine TriOps.q (.indexR 0 rsx hx0 rfl rfl rfl) ?_
                    refine TriOps.gT g21_20 ?_
                    refine TriOps.q (.fieldAddr rfl) ?_
                    refine TriOps.gT g21_20 ?_
                    refine TriOps.q (.load1 rfl) ?_
                    refine TriOps.gT g21_20 ?_
                    refine TriOps.q .neI ?_
                    refine TriOps.gT g21_10 ?_
                    refine TriOps.q (.pickFh g21_20) ?_
                    refine TriOps.gT g21_8 ?_
                    refine TriOps.q (.pickTh g21_10) ?_
                    refine TriOps.q (.pickFh g21_8) ?_
                    refine TriOps.q .move ?_
                    refine TriOps.split (t := 139) rfl (fun g21_33 => ?_) (fun g21_33 => ?_)
                    · skip
                      simp at g21_33
                    · skip
                      refine TriOps.gT g21_33 ?_
                      refine TriOps.q .move ?_
                      refine TriOps.gT g21_33 ?_
                      refine TriOps.q .not ?_
                      refine TriOps.gT g21_33 ?_
                      refine TriOps.q .move ?_
                      refine TriOps.split (t := 142) rfl (fun g21_36 => ?_) (fun g21_36 => ?_)
                      · skip
                        refine TriOps.gT g21_36 ?_
                        refine TriOps.q .move ?_
                        refine TriOps.gT g21_36 ?_
                        refine TriOps.q .neS ?_
                        refine TriOps.gT g21_36 ?_
                        refine TriOps.q .move ?_
                        refine TriOps.split (t := 145) rfl (fun g21_39 => ?_) (fun g21_39 => ?_)
                        · skip
                          obtain ⟨e1, e2⟩ := hnn (by simpa using g21_36)
                          subst e1
                          simp at g21_39
                        · skip
                          refine TriOps.gT g21_39 ?_
                          refine TriOps.q .move ?_
                          refine TriOps.gT g21_39 ?_
                          refine TriOps.q .neI ?_
                          refine TriOps.gT g21_36 ?_
                          refine TriOps.q (.pickFh g21_39) ?_
                          refine TriOps.gT g21_33 ?_
                          refine TriOps.q (.pickTh g21_36) ?_
                          refine TriOps.q (.pickFh g21_33) ?_
                          refine .nil ?_
                          refine seqQ_n ?_
                          refine .cond rfl (fun h9 => ?_) (fun h9 => ?_)
                          · skip
                            obtain ⟨e1, e2⟩ := hnn (by simpa using g21_36)
                            subst e2
                            simp at h9
                          · skip
                            refine .skip ?_
                            exact joinQ_n () trivial (((((EnvLe.nil _).cons rfl).cons rfl).cons rfl).cons rfl) (HLe.pick [2, 2] _)
                      · skip
                        refine TriOps.gF g21_36 ?_
                        refine TriOps.gF g21_36 ?_
                        refine TriOps.gF g21_36 ?_
                        refine TriOps.gfU rfl ?_
                        refine TriOps.gfU rfl ?_
                        refine TriOps.gF g21_36 ?_
                        refine TriOps.gT g21_33 ?_
                        refine TriOps.q (.pickFh g21_36) ?_
                        refine TriOps.q (.pickFh g21_33) ?_
                        refine .nil ?_
                        refine seqQ_n ?_
                        refine .condF ?_
                        refine .skip ?_
                        exact joinQ_n () trivial (((((EnvLe.nil _).cons rfl).cons rfl).cons rfl).cons rfl) (HLe.pick [2, 2] _)
                · skip
                  refine TriOps.gF g21_10 ?_
                  refine TriOps.gF g21_10 ?_
                  refine TriOps.gF g21_10 ?_
                  refine TriOps.gF g21_10 ?_
                  refine TriOps.gF g21_10 ?_
                  refine TriOps.gF g21_10 ?_
                  refine TriOps.gF g21_10 ?_
                  refine TriOps.gF g21_10 ?_
                  refine TriOps.gF g21_10 ?_
                  refine TriOps.gF g21_10 ?_
                  refine TriOps.gfU rfl ?_
                  refine TriOps.gfU rfl ?_
                  refine TriOps.gfU rfl ?_
                  refine TriOps.gfU rfl ?_
                  refine TriOps.gfU rfl ?_
                  refine TriOps.gfU rfl ?_
                  refine TriOps.gfU rfl ?_
                  refine TriOps.gfU rfl ?_
                  refine TriOps.gfU rfl ?_
                  refine TriOps.gF g21_10 ?_
                  refine TriOps.gT g21_8 ?_
                  refine TriOps.q (.pickFh g21_10) ?_
                  refine TriOps.q (.pickFh g21_8) ?_
                  refine TriOps.q .move ?_
                  refine TriOps.gt rfl ?_
                  refine TriOps.q .move ?_
                  refine TriOps.gt rfl ?_
                  refine TriOps.q .not ?_
                  refine TriOps.gt rfl ?_
                  refine TriOps.q .move ?_
                  refine TriOps.split (t := 142) rfl (fun g21_36 => ?_) (fun g21_36 => ?_)
                  · skip
                    refine TriOps.gT g21_36 ?_
                    refine TriOps.q .move ?_
                    refine TriOps.gT g21_36 ?_
                    refine TriOps.q .neS ?_
                    refine TriOps.gT g21_36 ?_
                    refine TriOps.q .move ?_
                    refine TriOps.split (t := 145) rfl (fun g21_39 => ?_) (fun g21_39 => ?_)
                    · skip
                      obtain ⟨e1, e2⟩ := hnn (by simpa using g21_36)
                      subst e1
                      simp at g21_39
                    · skip
                      refine TriOps.gT g21_39 ?_
                      refine TriOps.q .move ?_
                      refine TriOps.gT g21_39 ?_
                      refine TriOps.q .neI ?_
                      refine TriOps.gT g21_36 ?_
                      refine TriOps.q (.pickFh g21_39) ?_
                      refine TriOps.gt rfl ?_
                      refine TriOps.q (.pickTh g21_36) ?_
                      refine TriOps.q .pickF ?_
                      refine .nil ?_
                      refine seqQ_n ?_
                      refine .cond rfl (fun h9 => ?_) (fun h9 => ?_)
                      · skip
                        obtain ⟨e1, e2⟩ := hnn (by simpa using g21_36)
                        subst e2
                        simp at h9
                      · skip
                        refine .skip ?_
                        exact joinQ_n () trivial (((((EnvLe.nil _).cons rfl).cons rfl).cons rfl).cons rfl) (HLe.pick [2, 2] _)
                  · skip
                    refine TriOps.gF g21_36 ?_
                    refine TriOps.gF g21_36 ?_
                    refine TriOps.gF g21_36 ?_
                    refine TriOps.gfU rfl ?_
                    refine TriOps.gfU rfl ?_
                    refine TriOps.gF g21_36 ?_
                    refine TriOps.gt rfl ?_
                    refine TriOps.q (.pickFh g21_36) ?_
                    refine TriOps.q .pickF ?_
                    refine .nil ?_
                    refine seqQ_n ?_
                    refine .condF ?_
                    refine .skip ?_
                    exact joinQ_n () trivial (((((EnvLe.nil _).cons rfl).cons rfl).cons rfl).cons rfl) (HLe.pick [2, 2] _)
            · intro y hy
              refine seqQ_n ?_
              refine .seq ?_
              refine .region ?_
              refine TriOps.q .assign ?_
              refine .nil ?_
              refine seqQ_n ?_
              refine .block ?_
              refine .loop (X := Nat) (fun m => m ≤ L.length) (fun m => [(0, v), (3, .pointer (some ⟨q, 0, none⟩)), (4, .pointer (some ⟨b15, 0, none⟩)), (5, .int .i64 (i : Nat)), (10, .int .i64 (m : Nat))]) (fun _ => [TR, T]) (fun m => L.length - m) 0 (Nat.zero_le _) ((((((EnvLe.nil _).cons rfl).cons rfl).cons rfl).cons rfl).cons rfl) (HLe.refl _) ?_
              rintro m hm
              refine .seq ?_
              refine .seq ?_
              refine .region ?_
              refine TriOps.q .move ?_
              refine TriOps.q .move ?_
              refine TriOps.q (.nilCheck rfl) ?_
              refine TriOps.q (.fieldAddr rfl) ?_
              refine TriOps.q (.load1 rfl) ?_
              refine TriOps.q (.lenR rsx) ?_
              refine TriOps.q .lss ?_
              refine .nil ?_
              refine seqQ_n ?_
              refine .cond rfl (fun h10 => ?_) (fun h10 => ?_)
              · skip
                have hm2 : m < L.length := by have := of_decide_eq_true h10; omega
                obtain ⟨x, hx⟩ : ∃ x, L[m]? = some x := ⟨_, List.getElem?_eq_getElem hm2⟩
                have px2 : PS TR (baseP vt (m * 2)) (encKA x) := ⟨rsx.pc hx⟩
                have hg := hB.get hx
                refine .skip ?_
                refine seqQ_n ?_
                refine .seq ?_
                refine .block ?_
                refine .seq ?_
                refine .region ?_
                refine TriOps.q .move ?_
                refine TriOps.q .move ?_
                refine TriOps.q (.nilCheck rfl) ?_
                refine TriOps.q (.fieldAddr rfl) ?_
                refine TriOps.q (.load1 rfl) ?_
                refine TriOps.q .move ?_
                refine TriOps.q (.indexR m rsx hx rfl rfl rfl) ?_
                refine TriOps.q (.fieldAddr rfl) ?_
                refine TriOps.q (.load1 rfl) ?_
                refine TriOps.callR (qat_spec q A T hQ x.1 _ (fun p hp => .inr (by simp [hp]))) (fun w hw => ?_)
                rw [hg] at hw
                subst hw
                refine TriOps.q .move ?_
                refine TriOps.q .extract ?_
                refine TriOps.q .extract ?_
                refine TriOps.q .assign ?_
                refine TriOps.q .assign ?_
                refine .nil ?_
                refine seqQ_n ?_
                refine .seq ?_
                refine .region ?_
                refine TriOps.q .move ?_
                refine TriOps.q .not ?_
                refine TriOps.q .move ?_
                refine TriOps.split (t := 175) rfl (fun g27_2 => ?_) (fun g27_2 => ?_)
                · skip
                  simp at g27_2
                · skip
                  refine TriOps.gT g27_2 ?_
                  refine TriOps.q .move ?_
                  refine TriOps.gT g27_2 ?_
                  refine TriOps.q .move ?_
                  refine TriOps.gT g27_2 ?_
                  refine TriOps.q (.nilCheck rfl) ?_
                  refine TriOps.gT g27_2 ?_
                  refine TriOps.q (.fieldAddr rfl) ?_
                  refine TriOps.gT g27_2 ?_
                  refine TriOps.q (.load1 rfl) ?_
                  refine TriOps.gT g27_2 ?_
                  refine TriOps.q .move ?_
                  refine TriOps.gT g27_2 ?_
                  refine TriOps.q (.indexR m rsx hx rfl rfl rfl) ?_
                  refine TriOps.gT g27_2 ?_
                  refine TriOps.q (.fieldAddr rfl) ?_
                  refine TriOps.gT g27_2 ?_
                  refine TriOps.q (.load1 rfl) ?_
                  refine TriOps.gT g27_2 ?_
                  refine TriOps.q .neI ?_
                  refine TriOps.q (.pickFh g27_2) ?_
                  refine .nil ?_
                  refine seqQ_n ?_
                  refine .cond rfl (fun h11 => ?_) (fun h11 => ?_)
                  · skip
                    simp at h11
                  · skip
                    refine .skip ?_
                    refine blkQ_n (seqQ_n ?_)
                    refine .region ?_
                    refine TriOps.q .move ?_
                    refine TriOps.q (.i64 ((m + 1 : Nat) : Int) .add ⟨by omega, by omega, by omega⟩) ?_
                    refine TriOps.q .assign ?_
                    refine .nil ?_
                    exact loopQ_i (m + 1) (by omega) (by omega) ((((((EnvLe.nil _).cons rfl).cons rfl).cons rfl).cons rfl).cons rfl) (HLe.refl _)
              · skip
                refine .exit (seqQ_x (loopQ_x (blkQ_x ?_)))
                refine blkQ_n (seqQ_n ?_)
                refine .region ?_
                refine TriOps.q .move ?_
                refine TriOps.q (.i64 ((i + 1 : Nat) : Int) .add ⟨by omega, by omega, by omega⟩) ?_
                refine TriOps.q .assign ?_
                refine .nil ?_
                exact loopQ_i (i + 1, A, L, T, TR) ⟨⟨by simp only; omega, hAi, by simp only; omega⟩, hB, hQ, hX⟩ (by simp only; omega) (((((EnvLe.nil _).cons rfl).cons rfl).cons rfl).cons rfl) (HLe.refl _)
    · skip
      refine .exit (seqQ_x (loopQ_x (blkQ_x ?_)))
      refine seqQ_n ?_
      refine .seq ?_
      refine .region ?_
      refine TriOps.callR (xlives_spec _) (fun w hw => ?_)
      subst hw
      refine TriOps.q .assign ?_
      refine .nil ?_
      refine seqQ_n ?_
      refine .ret (retQ_r _ (.one (.tmp rfl)) (.none _) ?_)
      exact ⟨rfl, rfl⟩
  · skip
    refine TriOps.gF g5_4 ?_
    refine TriOps.gF g5_4 ?_
    refine TriOps.q (.pickFh g5_4) ?_
    refine .nil ?_
    refine seqQ_n ?_
    refine .condF ?_
    refine .exit (seqQ_x (loopQ_x (blkQ_x ?_)))
    refine seqQ_n ?_
    refine .seq ?_
    refine .region ?_
    refine TriOps.callR (xlives_spec _) (fun w hw => ?_)
    subst hw
    refine TriOps.q .assign ?_
    refine .nil ?_
    refine seqQ_n ?_
    refine .ret (retQ_r _ (.one (.tmp rfl)) (.none _) ?_)
    exact ⟨rfl, rfl⟩
end Go.Proofs.Ytlmdgdehjpahiaa
