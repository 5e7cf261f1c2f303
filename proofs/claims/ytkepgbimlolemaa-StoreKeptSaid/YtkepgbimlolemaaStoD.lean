/- A store: which row makes a tuple be there; a row more. No condition. -/
import Derived.Test.YtkepgbimlolemaaStoC
set_option linter.unusedVariables false
set_option linter.unusedSimpArgs false
set_option maxRecDepth 4000
namespace Go.Proofs.Ytkepgbimlolemaa
theorem odd_spec (t : Tpl) (ht : t.fits) (R : Rds) : Spec Try.prog 98 [.agg t.enc.toArray] R [] fun v H' => v = .bool (!isTpl t) ∧ H' = [] := by
  refine Spec.body Try.func98 rfl Try.results98 Try.ntmps98 rfl ?_
  refine .seq ?_
  refine .region ?_
  refine TriOps.boxA rfl (fun b1 => ?_)
  refine TriOps.q .assign ?_
  refine .nil ?_
  refine seqQ_n ?_
  refine .seq ?_
  refine .region ?_
  refine TriOps.q (.loadA rfl) ?_
  refine TriOps.callR (checkTpl_spec t ht _) (fun v hv => ?_)
  subst hv
  refine TriOps.q .neI ?_
  refine TriOps.q .assign ?_
  refine .nil ?_
  refine seqQ_n ?_
  refine .ret (retQ_r _ (.one (.tmp rfl)) (.none _) ?_)
  refine ⟨congrArg _ ?_, rfl⟩
  cases isTpl t <;> rfl
/-- What 'find' answers. -/
def Fnd (ps : List RB) (S : Sto) (t : Tpl) (u : Value) : Prop := (∃ b x, (b, x) ∈ ps ∧ x.openOf t = true ∧ u = .pointer (some ⟨b, 0, none⟩)) ∨ (sthere S.rows t = false ∧ u = .pointer none)
theorem Fnd.ptr {ps : List RB} {S : Sto} {t : Tpl} {u : Value} (h : Fnd ps S t u) (he : ps.map (·.2) = S.rows) : ∃ o, u = .pointer o ∧ sthere S.rows t = !o.isNone := by
  rcases h with ⟨b, x, h1, h2, rfl⟩ | ⟨h1, rfl⟩
  · exact ⟨_, rfl, by rw [sthere, List.any_eq_true.2 ⟨x, he ▸ List.mem_map.2 ⟨_, h1, rfl⟩, h2⟩]; rfl⟩
  · exact ⟨_, rfl, by rw [h1]; rfl⟩
theorem find_spec {R : Rds} {g : Nat} {S : Sto} {ps : List RB} {vf vr : Value} {Mf : List (Obr × (Value × Seg))} {Mr : List (Sub × (Value × Seg))} (h : SV R g S ps vf vr Mf Mr) (t : Tpl) :
    Spec Try.prog 75 [.pointer (some ⟨g, 0, none⟩), .agg t.enc.toArray] R [] fun u H' => Fnd ps S t u ∧ H' = [] := by
  have pc := h.pc
  have iof := h.of
  have ior := h.or
  obtain ⟨pf, cf, hlk, hrs⟩ := h.lf t.obr
  have hle := hrs.le
  refine Spec.body Try.func75 rfl Try.results75 Try.ntmps75 rfl ?_
  refine .seq ?_
  refine .region ?_
  refine TriOps.boxA rfl (fun b3 => ?_)
  refine TriOps.q .assign ?_
  refine .nil ?_
  refine seqQ_n ?_
  refine .seq ?_
  refine .seq ?_
  refine .region_all [5] mixed ?_
  refine RA.take 0 rfl .move (by kernel_rfl) ?_
  refine RA.take 1 rfl (.nilCheckA rfl) (by kernel_rfl) ?_
  refine RA.take 2 rfl (.fieldAddrA rfl) (by kernel_rfl) ?_
  refine RA.take 3 rfl (.load1 rfl) (by kernel_rfl) ?_
  refine RA.takeO 4 rfl (.loadA rfl) (by kernel_rfl) ?_
  refine RA.take 8 rfl .move (by kernel_rfl) ?_
  refine RA.step 5 rfl (by kernel_rfl) rfl ?_
  refine TriOps.callR (of_spec t _) (fun u hu => ?_)
  subst hu
  refine .nil (Next.mod rfl ?_)
  refine RA.take 6 rfl (.lookupE (h.mono fun b o hb => .inl hb).mf rfl rfl hlk) (by kernel_rfl) ?_
  refine RA.take 7 rfl (.lenR hrs) (by kernel_rfl) ?_
  refine RA.nil (by kernel_rfl) ?_
  refine seqQ_n ?_
  refine .block ?_
  refine .loop (X := Nat) (fun i => i ≤ (ids (fun x => x.t.obr) t.obr ps).length ∧ ∀ j b x, j < i → (frows (fun x => x.t.obr) t.obr ps)[j]? = some (b, x) → x.openOf t = false) (fun i => [(0, .pointer (some ⟨g, 0, none⟩)), (3, .pointer (some ⟨b3, 0, none⟩)), (13, .slice pf (ids (fun x => x.t.obr) t.obr ps).length cf), (14, .int .i64 ((ids (fun x => x.t.obr) t.obr ps).length : Nat)), (15, .int .i64 (i : Nat))]) (fun _ => [[(b3, .cells t.enc.toArray 88 (0, 0))]]) (fun i => (ids (fun x => x.t.obr) t.obr ps).length - i) 0 ⟨Nat.zero_le _, by omega⟩ ((((((EnvLe.nil _).cons rfl).cons rfl).cons rfl).cons rfl).cons rfl) (HLe.refl _) ?_
  rintro i ⟨hi, hn⟩
  refine .seq ?_
  refine .region ?_
  refine TriOps.q .lss ?_
  refine .nil ?_
  refine seqQ_n ?_
  refine .seq ?_
  refine .cond rfl (fun h1 => ?_) (fun h1 => ?_)
  · skip
    have hlt : i < (ids (fun x => x.t.obr) t.obr ps).length := by simpa using h1
    obtain ⟨⟨b, x⟩, hx⟩ : ∃ y, (frows (fun x => x.t.obr) t.obr ps)[i]? = some y := ⟨_, List.getElem?_eq_getElem (by rw [ids_frows, List.length_map] at hlt; exact hlt)⟩
    have hb : (ids (fun x => x.t.obr) t.obr ps)[i]? = some b := by rw [ids_frows, List.getElem?_map, hx]; rfl
    have hm := List.mem_filter.1 (List.mem_of_getElem? hx)
    have px : PC R (.pointer (some ⟨b, 0, none⟩)) x.enc := h.pr _ hm.1
    refine .skip ?_
    refine seqQ_n ?_
    refine .seq ?_
    refine .block ?_
    refine .seq ?_
    refine .region ?_
    refine TriOps.indexR i hrs hb (fun p17 => ?_)
    refine TriOps.q (.load1 rfl) ?_
    refine TriOps.q .assign ?_
    refine .nil ?_
    refine seqQ_n ?_
    refine .seq ?_
    refine .region_still mixed (by kernel_rfl) ?_
    refine TriOps.q .move ?_
    refine TriOps.q (.nilCheck rfl) ?_
    refine TriOps.q (.fieldAddr rfl) ?_
    refine TriOps.q (.loadT rfl) ?_
    refine TriOps.q (.loadA rfl) ?_
    refine TriOps.q (.eqA rfl rfl (Tpl.kinds x.t) (Tpl.kinds t)) ?_
    rw [show cellsEq (List.take 7 (List.drop 0 x.enc)) t.enc = decide (x.t = t) from Tpl.eq x.t t]
    refine TriOps.q .move ?_
    refine TriOps.split (t := 25) rfl (fun g4_6 => ?_) (fun g4_6 => ?_)
    · skip
      refine TriOps.gT g4_6 ?_
      refine TriOps.q .move ?_
      refine TriOps.gT g4_6 ?_
      refine TriOps.q (.nilCheck rfl) ?_
      refine TriOps.gT g4_6 ?_
      refine TriOps.q (.fieldAddr rfl) ?_
      refine TriOps.gT g4_6 ?_
      refine TriOps.q (.load1 rfl) ?_
      refine TriOps.gT g4_6 ?_
      refine TriOps.q .eqI ?_
      refine TriOps.q (.pickTh g4_6) ?_
      refine .nil ?_
      refine seqQ_n ?_
      refine .cond rfl (fun h2 => ?_) (fun h2 => ?_)
      · skip
        refine .seq ?_
        refine .region ?_
        refine TriOps.q .move ?_
        refine TriOps.q .assign ?_
        refine .nil ?_
        refine seqQ_n ?_
        refine .ret (blkQ_r (seqQ_r (loopQ_r (blkQ_r (seqQ_r (retQ_r _ (.one (.tmp rfl)) (.none _) ?_))))))
        exact ⟨.inl ⟨b, x, hm.1, by unfold SRow.openOf; simp_all, rfl⟩, rfl⟩
      · skip
        refine .skip ?_
        refine blkQ_n (seqQ_n ?_)
        refine .region ?_
        refine TriOps.q (.i64 ((i + 1 : Nat) : Int) .add ⟨by omega, by omega, by omega⟩) ?_
        refine TriOps.q .move ?_
        refine .nil ?_
        exact loopQ_i (i + 1) ⟨hlt, fun j b' x' hj hx' => by
          rcases Nat.lt_or_ge j i with hh | hh
          · exact hn j b' x' hh hx'
          · obtain rfl : j = i := by omega
            rw [hx] at hx'
            cases hx'
            unfold SRow.openOf
            first
              | exact (by rw [g4_6]; exact h2)
              | exact (by rw [g4_6]; rfl)⟩ (by omega) ((((((EnvLe.nil _).cons rfl).cons rfl).cons rfl).cons rfl).cons rfl) (HLe.refl _)
    · skip
      refine TriOps.gF g4_6 ?_
      refine TriOps.gF g4_6 ?_
      refine TriOps.gF g4_6 ?_
      refine TriOps.gF g4_6 ?_
      refine TriOps.gF g4_6 ?_
      refine TriOps.q (.pickFh g4_6) ?_
      refine .nil ?_
      refine seqQ_n ?_
      refine .condF ?_
      refine .skip ?_
      refine blkQ_n (seqQ_n ?_)
      refine .region ?_
      refine TriOps.q (.i64 ((i + 1 : Nat) : Int) .add ⟨by omega, by omega, by omega⟩) ?_
      refine TriOps.q .move ?_
      refine .nil ?_
      exact loopQ_i (i + 1) ⟨hlt, fun j b' x' hj hx' => by
        rcases Nat.lt_or_ge j i with hh | hh
        · exact hn j b' x' hh hx'
        · obtain rfl : j = i := by omega
          rw [hx] at hx'
          cases hx'
          unfold SRow.openOf
          first
            | exact (by rw [g4_6]; exact h2)
            | exact (by rw [g4_6]; rfl)⟩ (by omega) ((((((EnvLe.nil _).cons rfl).cons rfl).cons rfl).cons rfl).cons rfl) (HLe.refl _)
  · skip
    refine .exit (seqQ_x (loopQ_x (blkQ_x ?_)))
    refine seqQ_n ?_
    refine .seq ?_
    refine .region ?_
    refine TriOps.q .assign ?_
    refine .nil ?_
    refine seqQ_n ?_
    refine .ret (retQ_r _ (.one (.tmp rfl)) (.none _) ?_)
    refine ⟨.inr ⟨?_, rfl⟩, rfl⟩
    have hie : i = (ids (fun x => x.t.obr) t.obr ps).length := by have := of_decide_eq_false h1; omega
    rw [sthere, List.any_eq_false]
    intro x hx ho
    rw [← h.eq] at hx
    obtain ⟨⟨b, x'⟩, hbx, rfl⟩ := List.mem_map.1 hx
    have hk : x'.t = t := by unfold SRow.openOf at ho; simp only [Bool.and_eq_true, decide_eq_true_eq] at ho; exact ho.1
    have hmem : (b, x') ∈ frows (fun x => x.t.obr) t.obr ps := List.mem_filter.2 ⟨hbx, by simp [hk]⟩
    obtain ⟨j, hj, he⟩ := List.mem_iff_getElem.1 hmem
    have := hn j b x' (by rw [hie, ids_frows, List.length_map]; exact hj) (by rw [List.getElem?_eq_getElem hj, he])
    rw [this] at ho
    cases ho
theorem add_spec (g : Nat) (S : Sto) (T : Seg) (h : SI g S T) (x : SRow) (hl : S.rows.length ≤ 5000) (R : Rds) :
    Spec Try.prog 74 [.pointer (some ⟨g, 0, none⟩), .agg x.enc.toArray] R [T] fun u H' => ∃ T', H' = [T'] ∧ u = .tuple #[] ∧ SI g ⟨S.rows ++ [x], S.head, S.hor⟩ T' := by
  obtain ⟨ps, vf, vr, Mf, Mr, Tf, Tr, Sf, Sr, rfl, h1_, h2_, h3_⟩ := h
  obtain ⟨vk, Tk, Tq, hv1, hv2, hv3, hv4⟩ := h1_.get x.t.obr
  obtain ⟨wk, Uk, Uq, hw1, hw2, hw3, hw4⟩ := h2_.get x.t.sub
  have iof := h1_.ms.one
  have ior := h2_.ms.one
  have hps : ps.length ≤ 5000 := by rw [← h3_, List.length_map] at hl; exact hl
  have hl1 : (ids (fun x => x.t.obr) x.t.obr ps).length ≤ ps.length := by rw [ids, List.length_map]; exact List.length_filter_le _ _
  have hl2 : (ids (fun x => x.t.sub) x.t.sub ps).length ≤ ps.length := by rw [ids, List.length_map]; exact List.length_filter_le _ _
  refine Spec.permH (H' := [[(g, .cells [.bool true, .int .u64 S.head, .int .u64 S.hor, .int .i64 (ps.length : Nat), vf, vr].toArray 98 (0, 0))], Tf, Tk, Tq, Tr, Uk, Uq, rowSeg ps]) ?_ ?_
  · simp only [List.flatten_cons, List.flatten_nil, List.append_nil, List.cons_append, List.nil_append]
    refine .cons _ (.append_left _ ?_)
    rw [← List.append_assoc Tk]
    refine .append hv3 (.append_left _ ?_)
    rw [← List.append_assoc Uk]
    exact .append_right _ hw3
  refine Spec.body Try.func74 rfl Try.results74 Try.ntmps74 rfl ?_
  refine .seq ?_
  refine .region ?_
  refine TriOps.boxA rfl (fun b3 => ?_)
  refine .nil ?_
  refine seqQ_n ?_
  refine .seq ?_
  refine .region ?_
  refine TriOps.q .assign ?_
  refine .nil ?_
  refine seqQ_n ?_
  refine .seq ?_
  refine .region ?_
  refine TriOps.q (.fieldAddr rfl) ?_
  refine TriOps.q (.loadT rfl) ?_
  refine TriOps.callR (of_spec x.t _) (fun u hu => ?_)
  subst hu
  refine TriOps.allocA (fun b5 => ?_)
  refine TriOps.storeA rfl rfl ?_
  refine .nil ?_
  refine seqQ_n ?_
  refine .seq ?_
  refine .region_all [7, 9, 11] mixed ?_
  refine RA.takeO 0 rfl .move (by kernel_rfl) ?_
  refine RA.takeO 1 rfl (.nilCheck rfl) (by kernel_rfl) ?_
  refine RA.takeO 2 rfl (.fieldAddr rfl) (by kernel_rfl) ?_
  refine RA.takeO 3 rfl (.load1 rfl) (by kernel_rfl) ?_
  refine RA.takeO 4 rfl (.loadA rfl) (by kernel_rfl) ?_
  refine RA.takeO 5 rfl .move (by kernel_rfl) ?_
  refine RA.step 6 rfl (by kernel_rfl) rfl ?_
  refine TriOps.buildSlice11 (fun b16 => ?_)
  refine .nil (Next.sub ?_)
  refine RA.step 7 rfl (by kernel_rfl) rfl ?_
  refine TriOps.mapEntry (key := x.t.obr) (u0 := (Value.slice none 0 0, [])) h1_.ms rfl rfl rfl (fun Tf2 s1 hE1 => ?_)
  rw [hv1]
  refine .nil (Next.mod rfl ?_)
  refine RA.take 8 rfl .extract (by kernel_rfl) ?_
  refine RA.take 10 rfl .extract (by kernel_rfl) ?_
  refine RA.step 9 rfl (by kernel_rfl) rfl ?_
  refine TriOps.append hv2 (RS.lits (xs := [b3]) rfl (by simp [encPt]) (by simp [encPt, oneCell])) (by simp; omega) (fun v5 T5 hO5 => ?_)
  refine .nil (Next.mod rfl ?_)
  refine RA.step 11 rfl (by kernel_rfl) rfl ?_
  refine TriOps.entryStore (u := (v5, T5)) hE1 rfl rfl rfl (fun Tf3 hM3 => ?_)
  refine .nil (Next.mod rfl ?_)
  refine RA.nil (by kernel_rfl) ?_
  refine seqQ_n ?_
  refine .seq ?_
  refine .region_all [9, 11, 13] mixed ?_
  refine RA.takeO 0 rfl .move (by kernel_rfl) ?_
  refine RA.takeO 1 rfl (.nilCheck rfl) (by kernel_rfl) ?_
  refine RA.takeO 2 rfl (.fieldAddr rfl) (by kernel_rfl) ?_
  refine RA.takeO 3 rfl (.load1 rfl) (by kernel_rfl) ?_
  refine RA.takeO 4 rfl (.fieldAddr rfl) (by kernel_rfl) ?_
  refine RA.takeO 5 rfl (.fieldAddr rfl) (by kernel_rfl) ?_
  refine RA.takeO 6 rfl (.loadT rfl) (by kernel_rfl) ?_
  refine RA.takeO 7 rfl .move (by kernel_rfl) ?_
  refine RA.step 8 rfl (by kernel_rfl) rfl ?_
  refine TriOps.buildSlice11 (fun b29 => ?_)
  refine .nil (Next.sub ?_)
  refine RA.step 9 rfl (by kernel_rfl) rfl ?_
  refine TriOps.mapEntry (key := x.t.sub) (u0 := (Value.slice none 0 0, [])) h2_.ms rfl rfl rfl (fun Tr2 s2 hE2 => ?_)
  rw [hw1]
  refine .nil (Next.mod rfl ?_)
  refine RA.take 10 rfl .extract (by kernel_rfl) ?_
  refine RA.take 12 rfl .extract (by kernel_rfl) ?_
  refine RA.step 11 rfl (by kernel_rfl) rfl ?_
  refine TriOps.append hw2 (RS.lits (xs := [b3]) rfl (by simp [encPt]) (by simp [encPt, oneCell])) (by simp; omega) (fun w5 U5 hU5 => ?_)
  refine .nil (Next.mod rfl ?_)
  refine RA.step 13 rfl (by kernel_rfl) rfl ?_
  refine TriOps.entryStore (u := (w5, U5)) hE2 rfl rfl rfl (fun Tr3 hM4 => ?_)
  refine .nil (Next.mod rfl ?_)
  refine RA.nil (by kernel_rfl) ?_
  refine seqQ_n ?_
  refine .region ?_
  refine TriOps.q .move ?_
  refine TriOps.q (.nilCheck rfl) ?_
  refine TriOps.q (.fieldAddr rfl) ?_
  refine TriOps.q (.load1 rfl) ?_
  refine TriOps.q (.i64 ((ps.length + 1 : Nat) : Int) .add ⟨by omega, by omega, by omega⟩) ?_
  refine TriOps.q (.nilCheck rfl) ?_
  refine TriOps.q (.fieldAddr rfl) ?_
  refine TriOps.store1 rfl rfl ?_
  refine .nil ?_
  refine retQ_n _ .none ((HLe.pick [4, 4, 4, 4, 4, 4, 4, 4, 3] _).trans (HLe.ofPerm (H' := [(g, .cells [.bool true, .int .u64 S.head, .int .u64 S.hor, .int .i64 ((ps ++ [(b3, x)]).length : Nat), vf, vr].toArray 98 (0, 0)) :: (Tf3 ++ ((T5 ++ Tq) ++ (Tr3 ++ ((U5 ++ Uq) ++ rowSeg (ps ++ [(b3, x)])))))]) (by simp [take, dropAt, setL, rowSeg, rowObj]))) ?_
  exact ⟨_, rfl, rfl, ps ++ [(b3, x)], vf, vr, _, _, _, _, _, _, rfl, h1_.add hM3 hO5 (hv4 _ _).symm, h2_.add hM4 hU5 (hw4 _ _).symm, by simp [h3_]⟩
end Go.Proofs.Ytkepgbimlolemaa
