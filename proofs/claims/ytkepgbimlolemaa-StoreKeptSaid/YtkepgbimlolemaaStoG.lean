/- A store: Write. No condition. -/
import Derived.Test.YtkepgbimlolemaaStoF
import Derived.Test.YtkepgbimlolemaaStoQ
set_option linter.unusedVariables false
set_option linter.unusedSimpArgs false
set_option maxRecDepth 4000
namespace Go.Proofs.Ytkepgbimlolemaa
theorem rowSeg_out {ps : List RB} {j : Nat} {b : Nat} {x : SRow} (h : ps[j]? = some (b, x)) : (rowSeg ps).Perm ((b, rowObj x) :: rowSeg (ps.eraseIdx j)) ∧ ∀ y, (rowSeg (ps.set j (b, y))).Perm ((b, rowObj y) :: rowSeg (ps.eraseIdx j)) := by
  obtain ⟨hjl, hjx⟩ := List.getElem?_eq_some_iff.1 h
  have key : ∀ y, (rowSeg (ps.set j (b, y))).Perm ((b, rowObj y) :: rowSeg (ps.eraseIdx j)) := fun y => by
    rw [List.set_eq_take_append_cons_drop, if_pos hjl, List.eraseIdx_eq_take_drop_succ]
    unfold rowSeg
    rw [List.map_append, List.map_cons, List.map_append]
    exact List.perm_middle
  refine ⟨?_, key⟩
  have := key x
  rwa [show ps.set j (b, x) = ps from by rw [← hjx]; exact List.set_getElem_self hjl] at this
theorem SI.viewc {g : Nat} {S : Sto} {T : Seg} {R : Rds} (h : SI g S T) (hR : ∀ p ∈ T, R p.1 p.2) : ∃ ps vf vr Mf Mr, SV R g S ps vf vr Mf Mr ∧
    ∀ b x, (b, x) ∈ ps → ∃ j Rest, S.rows[j]? = some x ∧ T.Perm ((b, rowObj x) :: Rest) ∧ PS Rest (.pointer (some ⟨g, 0, none⟩)) [.bool true, .int .u64 S.head, .int .u64 S.hor, .int .i64 (ps.length : Nat), vf, vr] ∧ ∀ to', ∃ T', T'.Perm ((b, rowObj ⟨x.t, x.fr, to'⟩) :: Rest) ∧ SI g ⟨S.rows.set j ⟨x.t, x.fr, to'⟩, S.head, S.hor⟩ T' := by
  obtain ⟨ps, vf, vr, Mf, Mr, Tf, Tr, Sf, Sr, rfl, h1, h2, h3⟩ := h
  refine ⟨ps, vf, vr, Mf, Mr, ⟨PC.of (E := 98) (fr := (0, 0)) (hR (g, _) (by simp)), h1.ms.one, h2.ms.one, h1.ms.rm fun p hp => hR p (by simp [hp]), h2.ms.rm fun p hp => hR p (by simp [hp]), fun k => h1.look (fun p hp => hR p (by simp [hp])) k, fun k => h2.look (fun p hp => hR p (by simp [hp])) k, h1.al, h1.ms.nd, fun p hp => ?_, h3⟩, fun b x hbx => ?_⟩
  · exact PC.of (E := 132) (fr := (0, 0)) (hR (p.1, rowObj p.2) (by
      have : (p.1, rowObj p.2) ∈ rowSeg ps := List.mem_map.2 ⟨p, hp, rfl⟩
      simp [this]))
  · obtain ⟨j, hj, hjx⟩ := List.mem_iff_getElem.1 hbx
    have hj2 : ps[j]? = some (b, x) := by rw [List.getElem?_eq_getElem hj, hjx]
    obtain ⟨o1, o2⟩ := rowSeg_out hj2
    have mid : ∀ (X : Seg) (y : Blk) (Y : Seg), X.Perm (y :: Y) → ((g, Obj.cells [.bool true, .int .u64 S.head, .int .u64 S.hor, .int .i64 (ps.length : Nat), vf, vr].toArray 98 (0, 0)) :: (Tf ++ (Sf ++ (Tr ++ (Sr ++ X))))).Perm (y :: ((g, Obj.cells [.bool true, .int .u64 S.head, .int .u64 S.hor, .int .i64 (ps.length : Nat), vf, vr].toArray 98 (0, 0)) :: (Tf ++ (Sf ++ (Tr ++ (Sr ++ Y)))))) := fun X y Y hp => by
      refine .trans (.cons _ (.append_left _ (.append_left _ (.append_left _ (.append_left _ hp))))) ?_
      refine .trans (.cons _ ?_) (.swap _ _ _)
      simp only [← List.append_assoc]
      exact List.perm_middle
    refine ⟨j, _, by rw [← h3, List.getElem?_map, hj2]; rfl, mid _ _ _ o1, PS.of (E := 98) (fr := (0, 0)) (by simp), fun to' => ⟨_, mid _ _ _ (o2 ⟨x.t, x.fr, to'⟩), ?_⟩⟩
    have e1 : ∀ {κ : Type} (key : SRow → κ), key ⟨x.t, x.fr, to'⟩ = key x → (ps.set j (b, ⟨x.t, x.fr, to'⟩)).map (fun p => (p.1, key p.2)) = ps.map (fun p => (p.1, key p.2)) := fun key hk => by
      rw [List.map_set]
      have : (ps.map fun p => (p.1, key p.2))[j]? = some (b, key x) := by rw [List.getElem?_map, hj2]; rfl
      simp only [hk]
      rw [← (List.getElem?_eq_some_iff.1 this).2]
      exact List.set_getElem_self _
    refine ⟨ps.set j (b, ⟨x.t, x.fr, to'⟩), vf, vr, Mf, Mr, Tf, Tr, Sf, Sr, by rw [List.length_set], h1.rows (e1 (fun x => x.t.obr) rfl), h2.rows (e1 (fun x => x.t.sub) rfl), ?_⟩
    rw [List.map_set, h3]
theorem SI.cells {g : Nat} {S : Sto} {T : Seg} (h : SI g S T) : ∃ n vf vr Rest, One vf ∧ One vr ∧ T = (g, .cells [.bool true, .int .u64 S.head, .int .u64 S.hor, .int .i64 n, vf, vr].toArray 98 (0, 0)) :: Rest ∧ ∀ head hor, SI g ⟨S.rows, head, hor⟩ ((g, .cells [.bool true, .int .u64 head, .int .u64 hor, .int .i64 n, vf, vr].toArray 98 (0, 0)) :: Rest) := by
  obtain ⟨ps, vf, vr, Mf, Mr, Tf, Tr, Sf, Sr, rfl, h1, h2, h3⟩ := h
  exact ⟨_, vf, vr, _, h1.ms.one, h2.ms.one, rfl, fun head hor => ⟨ps, vf, vr, Mf, Mr, Tf, Tr, Sf, Sr, rfl, h1, h2, h3⟩⟩
theorem scode_fits {S : Sto} {must no : List Tpl} {cs : List Chg} (h : scheck must no cs = 0) : scode S must no cs = sfits S.rows S.head must no cs := by unfold scode; rw [if_neg (by simp [h])]
theorem scode_check {S : Sto} {must no : List Tpl} {cs : List Chg} (h : scheck must no cs ≠ 0) : scode S must no cs = scheck must no cs := by unfold scode; rw [if_pos h]
theorem sapply_put {r : Int} {L : List SRow} {c : Chg} (h : c.put = true) : sapply r L c = L ++ [⟨c.t, r, 0⟩] := by unfold sapply; rw [if_pos h]
theorem sapply_del {r : Int} {L : List SRow} {c : Chg} (h : c.put = false) : sapply r L c = L.map (SRow.close c.t r) := by unfold sapply; rw [if_neg (by rw [h]; simp)]
theorem sapply_next {r : Int} {L : List SRow} {cs : List Chg} {i : Nat} {c : Chg} (h : cs[i]? = some c) : (cs.take (i + 1)).foldl (sapply r) L = sapply r ((cs.take i).foldl (sapply r) L) c := by
  rw [List.take_add_one, h, Option.toList_some, List.foldl_append]; rfl
theorem write_spec (g : Nat) (S : Sto) (T : Seg) (h : SI g S T) (hS : SOK S) (vm vn vc : Value) (must no : List Tpl) (cs : List Chg) (R : Rds) (hM : RS R 7 Tpl.enc vm must) (hN : RS R 7 Tpl.enc vn no) (hC : RS R 8 Chg.enc vc cs) (fm : ∀ t ∈ must, t.fits) (fn : ∀ t ∈ no, t.fits) (fc : ∀ c ∈ cs, c.t.fits) :
    Spec Try.prog 38 [.pointer (some ⟨g, 0, none⟩), vm, vn, vc] R [T] fun u H' => ∃ T', H' = [T'] ∧ u = .tuple [.int .u64 (if scode S must no cs = 0 then S.head + 1 else 0), .int .i64 (scode S must no cs)].toArray ∧ SI g (swrite S must no cs) T' := by
  have lm := hM.le
  have ln := hN.le
  have lc := hC.le
  have a0 := hS.h0
  have a1 := hS.h1
  have a2 := hS.h2
  obtain ⟨pm, km, rfl⟩ := hM.val
  obtain ⟨pn, kn, rfl⟩ := hN.val
  obtain ⟨pv, kc, rfl⟩ := hC.val
  obtain ⟨ps, vf, vr, Mf, Mr, hV, _⟩ := h.viewc (R := Rx R [T]) fun p hp => .inr (by simp [hp])
  refine Spec.body Try.func38 rfl Try.results38 Try.ntmps38 rfl ?_
  refine .seq ?_
  refine .region ?_
  refine TriOps.q .assign ?_
  refine TriOps.q .assign ?_
  refine .nil ?_
  refine seqQ_n ?_
  refine .seq ?_
  refine .seq ?_
  refine .region ?_
  refine TriOps.q .move ?_
  refine TriOps.callR hV.ok (fun v hv => ?_)
  subst hv
  refine TriOps.q .not ?_
  refine .nil ?_
  refine seqQ_n ?_
  refine .condF ?_
  refine .skip ?_
  refine seqQ_n ?_
  refine .seq ?_
  refine .seq ?_
  refine .region ?_
  refine TriOps.q .move ?_
  refine TriOps.q .move ?_
  refine TriOps.q .move ?_
  refine TriOps.callR (check_spec _ _ _ must no cs _ hM.rx hN.rx hC.rx fm fn fc) (fun v hv => ?_)
  subst hv
  refine TriOps.q .assign ?_
  refine .nil ?_
  refine seqQ_n ?_
  refine .seq ?_
  refine .region ?_
  refine TriOps.q .move ?_
  refine TriOps.q .neI ?_
  refine .nil ?_
  refine seqQ_n ?_
  refine .cond rfl (fun h2 => ?_) (fun h2 => ?_)
  · skip
    have hc0 : scheck must no cs ≠ 0 := by simpa using h2
    refine .seq ?_
    refine .region ?_
    refine TriOps.q .move ?_
    refine TriOps.q .assign ?_
    refine TriOps.q .assign ?_
    refine .nil ?_
    refine seqQ_n ?_
    refine .ret (seqQ_r (retQ_r _ (.two (.tmp rfl) (.tmp rfl)) (.one [0] _) ?_))
    rw [scode_check hc0, swrite_else (by rw [scode_check hc0]; exact hc0), if_neg hc0]
    exact ⟨T, by simp [take], rfl, h⟩
  · skip
    have hc0 : scheck must no cs = 0 := by simpa using h2
    refine .skip ?_
    refine seqQ_n ?_
    refine .seq ?_
    refine .seq ?_
    refine .region ?_
    refine TriOps.q .move ?_
    refine TriOps.q .move ?_
    refine TriOps.q .move ?_
    refine TriOps.q .move ?_
    refine TriOps.callR (fits_spec hV hS.len _ _ _ must no cs hM.rx hN.rx hC.rx) (fun v hv => ?_)
    subst hv
    refine TriOps.q .assign ?_
    refine .nil ?_
    refine seqQ_n ?_
    refine .seq ?_
    refine .region ?_
    refine TriOps.q .move ?_
    refine TriOps.q .neI ?_
    refine .nil ?_
    refine seqQ_n ?_
    refine .cond rfl (fun h3 => ?_) (fun h3 => ?_)
    · skip
      have hc1 : sfits S.rows S.head must no cs ≠ 0 := by simpa using h3
      refine .seq ?_
      refine .region ?_
      refine TriOps.q .move ?_
      refine TriOps.q .assign ?_
      refine TriOps.q .assign ?_
      refine .nil ?_
      refine seqQ_n ?_
      refine .ret (seqQ_r (retQ_r _ (.two (.tmp rfl) (.tmp rfl)) (.one [0] _) ?_))
      rw [scode_fits hc0, swrite_else (by rw [scode_fits hc0]; exact hc1), if_neg hc1]
      exact ⟨T, by simp [take], rfl, h⟩
    · skip
      have hc1 : sfits S.rows S.head must no cs = 0 := by simpa using h3
      have hcode : scode S must no cs = 0 := by rw [scode_fits hc0, hc1]
      have hw := scode_zero hcode
      have hwh := hw.head
      obtain ⟨n, vf2, vr2, Rest, if2, ir2, rfl, hSI⟩ := h.cells
      refine Tri.le (EnvLe.refl _) (H' := [[(g, .cells [.bool true, .int .u64 S.head, .int .u64 S.hor, .int .i64 n, vf2, vr2].toArray 98 (0, 0))], Rest]) (HLe.ofPerm (by simp)) ?_
      refine .skip ?_
      refine seqQ_n ?_
      refine .seq ?_
      refine .region ?_
      refine TriOps.q .move ?_
      refine TriOps.q (.nilCheck rfl) ?_
      refine TriOps.q (.fieldAddr rfl) ?_
      refine TriOps.q (.load1 rfl) ?_
      refine TriOps.q (.u64 (S.head + 1) .add ⟨rfl, by omega, by omega⟩) ?_
      refine TriOps.q (.nilCheck rfl) ?_
      refine TriOps.q (.fieldAddr rfl) ?_
      refine TriOps.store1 rfl rfl ?_
      refine .nil ?_
      refine seqQ_n ?_
      refine .seq ?_
      refine .seq ?_
      refine .region ?_
      refine TriOps.q .move ?_
      refine TriOps.q (.lenR hC) ?_
      refine TriOps.q .move ?_
      refine .nil ?_
      refine seqQ_n ?_
      refine .block ?_
      refine .loop (X := Nat × Seg) (fun y => y.1 ≤ cs.length ∧ SI g ⟨(cs.take y.1).foldl (sapply (S.head + 1)) S.rows, S.head + 1, S.hor⟩ y.2) (fun y => [(0, .pointer (some ⟨g, 0, none⟩)), (39, .slice pv cs.length kc), (40, .int .i64 (cs.length : Nat)), (41, .int .i64 (y.1 : Nat))]) (fun y => [y.2]) (fun y => cs.length - y.1) (0, (g, Obj.cells [Value.bool true, Value.int .u64 (S.head + 1), Value.int .u64 S.hor, Value.int .i64 n, vf2, vr2].toArray 98 (0, 0)) :: Rest) ⟨Nat.zero_le _, hSI (S.head + 1) S.hor⟩ (((((EnvLe.nil _).cons rfl).cons rfl).cons rfl).cons rfl) (HLe.ofPerm (by simp [setL])) ?_
      rintro ⟨i, Ti⟩ ⟨hi, hI⟩
      simp only at hi hI ⊢
      have hSi := hS.fold (hw.take i)
      obtain ⟨psi, vfi, vri, Mfi, Mri, hVi, hcl⟩ := hI.viewc (R := sg Ti) fun p hp => hp
      have ifi := hVi.of
      have iri := hVi.or
      have pxi : PS Ti (.pointer (some ⟨g, 0, none⟩)) [.bool true, .int .u64 (S.head + 1), .int .u64 S.hor, .int .i64 (psi.length : Nat), vfi, vri] := ⟨hVi.pc⟩
      refine .seq ?_
      refine .region ?_
      refine TriOps.q .lss ?_
      refine .nil ?_
      refine seqQ_n ?_
      refine .seq ?_
      refine .cond rfl (fun h4 => ?_) (fun h4 => ?_)
      · skip
        have hlt : i < cs.length := by have := of_decide_eq_true h4; omega
        obtain ⟨c, hc⟩ : ∃ c, cs[i]? = some c := ⟨_, List.getElem?_eq_getElem hlt⟩
        have hcm := List.mem_of_getElem? hc
        refine .skip ?_
        refine seqQ_n ?_
        refine .seq ?_
        refine .block ?_
        refine .seq ?_
        refine .region ?_
        refine TriOps.indexR i hC hc (fun p43 => ?_)
        refine TriOps.q (.loadA rfl) ?_
        refine TriOps.allocA (fun b13 => ?_)
        refine TriOps.storeA rfl rfl ?_
        refine .nil ?_
        refine seqQ_n ?_
        refine .seq ?_
        refine .region ?_
        refine TriOps.q (.fieldAddr rfl) ?_
        refine TriOps.q (.load1 rfl) ?_
        refine .nil ?_
        refine seqQ_n ?_
        refine .cond rfl (fun h5 => ?_) (fun h5 => ?_)
        · skip
          refine .region_tail 8 mixed (by kernel_rfl) ?_
          conv => arg 6; dsimp only [List.take]
          refine TriOps.q .move ?_
          refine TriOps.q (.fieldAddr rfl) ?_
          refine TriOps.q (.loadT rfl) ?_
          refine TriOps.q .move ?_
          refine TriOps.q (.nilCheck rfl) ?_
          refine TriOps.q (.fieldAddr rfl) ?_
          refine TriOps.q (.load1 rfl) ?_
          refine TriOps.q .bld ?_
          refine .nil ?_
          refine TriOps.callM (add_spec g _ Ti hI ⟨c.t, S.head + 1, 0⟩ (by have := hSi.len; simp only at this ⊢; omega) _) (fun v T2 hv => ?_)
          obtain ⟨rfl, hI2⟩ := hv
          refine .nil ?_
          refine blkQ_n (seqQ_n ?_)
          refine .region ?_
          refine TriOps.q (.i64 ((i + 1 : Nat) : Int) .add ⟨by omega, by omega, by omega⟩) ?_
          refine TriOps.q .move ?_
          refine .nil ?_
          first
            | exact loopQ_i (i + 1, T2) ⟨hlt, by simp only; rw [sapply_next hc, sapply_put h5]; exact hI2⟩ (by simp only; omega) (((((EnvLe.nil _).cons rfl).cons rfl).cons rfl).cons rfl) (HLe.pick [1] _)
            | exact loopQ_i (i + 1, T2) ⟨hlt, by simp only; rw [sapply_next hc]; exact hI2⟩ (by simp only; omega) (((((EnvLe.nil _).cons rfl).cons rfl).cons rfl).cons rfl) ((HLe.pick [1, 1] _).trans (HLe.ofPerm (H' := [T2]) (show List.Perm ((b, rowObj ⟨x.t, x.fr, S.head + 1⟩) :: (Rest2 ++ [])) (T2 ++ []) from by simpa using hT2.symm)))
        · skip
          refine .region_all [10] mixed ?_
          refine RA.takeO 0 rfl .move (by kernel_rfl) ?_
          refine RA.takeO 1 rfl (.fieldAddr rfl) (by kernel_rfl) ?_
          refine RA.takeO 2 rfl (.loadT rfl) (by kernel_rfl) ?_
          refine RA.takeO 4 rfl .move (by kernel_rfl) ?_
          refine RA.takeO 5 rfl (.nilCheck rfl) (by kernel_rfl) ?_
          refine RA.takeO 6 rfl (.fieldAddr rfl) (by kernel_rfl) ?_
          refine RA.takeO 7 rfl (.load1 rfl) (by kernel_rfl) ?_
          refine RA.step 3 rfl (by kernel_rfl) rfl ?_
          refine TriOps.callR (find_spec (hVi.mono fun b o hb => .inr (by have hb' : (b, o) ∈ Ti := hb; simp [hb'])) c.t) (fun v hv => ?_)
          have hth : sthere ((cs.take i).foldl (sapply (S.head + 1)) S.rows) c.t = true := by
            rw [sthere_fold _ _ fun hm => ?_]
            · exact hw.there c hcm (by simpa using h5)
            · have hn := hw.nd
              obtain ⟨d, hd, hde⟩ := List.mem_map.1 hm
              obtain ⟨k, hk, hkd⟩ := List.mem_iff_getElem.1 hd
              rw [List.length_take] at hk
              rw [List.getElem_take] at hkd
              have := List.pairwise_iff_getElem.1 hn k i (by simp; omega) (by simp; omega) (by omega)
              rw [List.getElem_map, List.getElem_map, hkd, (List.getElem?_eq_some_iff.1 hc).2] at this
              exact this hde
          obtain ⟨b, x, hbx, hox, rfl⟩ : ∃ b x, (b, x) ∈ psi ∧ x.openOf c.t = true ∧ v = .pointer (some ⟨b, 0, none⟩) := by
            rcases hv with hv | ⟨hv, _⟩
            · exact hv
            · exact absurd hth (by rw [hv]; simp)
          obtain ⟨j, Rest2, hj, hTp, pxr, hcl2⟩ := hcl b x hbx
          obtain ⟨T2, hT2, hI2⟩ := hcl2 (S.head + 1)
          have hI2 : SI g ⟨sapply (S.head + 1) ((cs.take i).foldl (sapply (S.head + 1)) S.rows) c, S.head + 1, S.hor⟩ T2 := by
            rw [sapply_del h5]
            have := close_set hSi.pw hj hox (S.head + 1)
            simp only at this
            rw [this]
            exact hI2
          have pxb : PC (sg Ti) (.pointer (some ⟨b, 0, none⟩)) x.enc := hVi.pr _ hbx
          have pxb2 : PS Ti (.pointer (some ⟨b, 0, none⟩)) x.enc := ⟨pxb⟩
          refine .nil (Next.sub ?_)
          refine RA.takeO 8 rfl (.nilCheck rfl) (by kernel_rfl) ?_
          refine RA.takeO 9 rfl (.fieldAddr rfl) (by kernel_rfl) ?_
          refine RA.step 10 rfl (by kernel_rfl) rfl ?_
          refine TriOps.sub (H' := [[(b13, .cells c.enc.toArray 90 (0, 0))], [(b, .cells x.enc.toArray 132 (0, 0))], Rest2]) (HLe.ofPerm (by simp only [List.flatten_cons, List.flatten_nil, List.append_nil, List.cons_append, List.nil_append]; exact .cons _ hTp)) ?_
          refine TriOps.store1 rfl rfl ?_
          refine .nil (Next.mod rfl ?_)
          refine RA.nil (by kernel_rfl) ?_
          refine blkQ_n (seqQ_n ?_)
          refine .region ?_
          refine TriOps.q (.i64 ((i + 1 : Nat) : Int) .add ⟨by omega, by omega, by omega⟩) ?_
          refine TriOps.q .move ?_
          refine .nil ?_
          first
            | exact loopQ_i (i + 1, T2) ⟨hlt, by simp only; rw [sapply_next hc, sapply_put h5]; exact hI2⟩ (by simp only; omega) (((((EnvLe.nil _).cons rfl).cons rfl).cons rfl).cons rfl) (HLe.pick [1] _)
            | exact loopQ_i (i + 1, T2) ⟨hlt, by simp only; rw [sapply_next hc]; exact hI2⟩ (by simp only; omega) (((((EnvLe.nil _).cons rfl).cons rfl).cons rfl).cons rfl) ((HLe.pick [1, 1] _).trans (HLe.ofPerm (H' := [T2]) (show List.Perm ((b, rowObj ⟨x.t, x.fr, S.head + 1⟩) :: (Rest2 ++ [])) (T2 ++ []) from by simpa using hT2.symm)))
      · skip
        refine .exit (seqQ_x (loopQ_x (blkQ_x ?_)))
        refine seqQ_n ?_
        refine .seq ?_
        refine .region ?_
        refine TriOps.q .move ?_
        refine TriOps.q (.nilCheck rfl) ?_
        refine TriOps.q (.fieldAddr rfl) ?_
        refine TriOps.q (.load1 rfl) ?_
        refine TriOps.q .assign ?_
        refine TriOps.q .assign ?_
        refine .nil ?_
        refine seqQ_n ?_
        refine .ret (retQ_r _ (.two (.tmp rfl) (.tmp rfl)) (.one [0] _) ?_)
        have hie : i = cs.length := by have := of_decide_eq_false h4; omega
        subst hie
        rw [List.take_length] at hI
        refine ⟨Ti, by simp [take], by rw [hcode]; rfl, ?_⟩
        unfold swrite
        rw [if_pos hcode]
        exact hI
end Go.Proofs.Ytkepgbimlolemaa
