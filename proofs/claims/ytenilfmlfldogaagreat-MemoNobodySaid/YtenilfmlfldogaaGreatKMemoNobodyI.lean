/- What the law 'MemoNobody' uses. No condition. -/
import Derived.Test.YtenilfmlfldogaaGreatKMemoNobodyB
import Derived.Test.YtenilfmlfldogaaGreatKMemoNobodyF
import Derived.Test.YtenilfmlfldogaaGreatKMemoNobodyH
namespace Go.Proofs.YtenilfmlfldogaaGreat
open Tryz (prog)
set_option linter.unusedVariables false
set_option linter.unusedSimpArgs false
set_option maxRecDepth 4000
section
variable {R : Rds} {g : Nat} {S : Sto} {ps : List RB} {vf vr : Value} {Mf : List (Obr × (Value × Seg))} {Mr : List (Sub × (Value × Seg))}
theorem there1_spec (h : SV R g S ps vf vr Mf Mr) (q : Nat) [pc : PC R (pT q) [pT g]] (t : Tpl) :
  Spec prog 150 [.agg t.enc.toArray, pT q] R [] λ v H' => v = .bool (sthere S.rows t) /\ H' = [] := by
 refine Spec.body Tryz.func150 rfl Tryz.results150 Tryz.ntmps150 rfl<|.sr ?_
 refine .boxA rfl (λ b2 => ?_)
 refine .ag rfl<|.z<|.lo rfl<|.q (.loadA rfl)<|.callR (find_spec (h.mono λ b o hb => .inl hb) t) (λ v hv => ?_)
 obtain ⟨o, rfl, ho⟩ := hv.ptr h.eq
 have io : One (.pointer o) := ⟨rfl⟩
 refine .q (.neNilA rfl rfl)<|.az rfl<|.ret (rq1 rfl ?_)
 ·exact ⟨by rw [ho], rfl⟩
theorem away1_spec (h : SV R g S ps vf vr Mf Mr) (q : Nat) [pc : PC R (pT q) [pT g]] (t : Tpl) :
  Spec prog 151 [.agg t.enc.toArray, pT q] R [] λ v H' => v = .bool (!sthere S.rows t) /\ H' = [] := by
 refine Spec.body Tryz.func151 rfl Tryz.results151 Tryz.ntmps151 rfl<|.sr ?_
 refine .boxA rfl (λ b2 => ?_)
 refine .ag rfl<|.z<|.lo rfl<|.q (.loadA rfl)<|.callR (find_spec (h.mono λ b o hb => .inl hb) t) (λ v hv => ?_)
 obtain ⟨o, rfl, ho⟩ := hv.ptr h.eq
 have io : One (.pointer o) := ⟨rfl⟩
 refine .q (.eqNilA rfl rfl)<|.az rfl<|.ret (rq1 rfl ?_)
 ·exact ⟨by rw [ho, Bool.not_not], rfl⟩
theorem put1_spec (h : SV R g S ps vf vr Mf Mr) (q q2 : Nat) [pc : PC R (pT q) [pT g]] [pc2 : PC R (pT q2) [.func (.func 150) #[] [pT q].toArray]] (c : Chg) :
  Spec prog 153 [.agg c.enc.toArray, pT q2] R [] λ v H' => v = .bool (c.put && sthere S.rows c.t) /\ H' = [] := by
 refine Spec.body Tryz.func153 rfl Tryz.results153 Tryz.ntmps153 rfl<|.sr ?_
 refine .boxA rfl (λ b2 => ?_)
 refine .ag rfl<|.z<|.fa rfl<|.lo rfl<|.mo rfl<|.split (t := 6) rfl (λ g1_2 => ?_) (λ g1_2 => ?_)
 refine .gT g1_2<|.lo rfl<|.gT g1_2<|.fa rfl<|.gT g1_2<|.q (.loadT rfl)<|.gT g1_2<|.callRV (first := []) (captured := [pT q]) (vs := [.agg c.t.enc.toArray]) (there1_spec (h.mono λ b o hb => .inl hb) q c.t) (λ u hu => ?_)
 subst hu
 refine .q (.pickTh g1_2)<|.az rfl<|.ret (rq1 rfl ?_)
 ·refine ⟨congrArg _ ?_, rfl⟩
  simp_all
 refine .gF g1_2<|.gF g1_2<|.gF g1_2<|.gF g1_2<|.q (.pickFh g1_2)<|.az rfl<|.ret (rq1 rfl ?_)
 ·refine ⟨congrArg _ ?_, rfl⟩
  simp_all
theorem del1_spec (h : SV R g S ps vf vr Mf Mr) (q q2 : Nat) [pc : PC R (pT q) [pT g]] [pc2 : PC R (pT q2) [.func (.func 151) #[] [pT q].toArray]] (c : Chg) :
  Spec prog 154 [.agg c.enc.toArray, pT q2] R [] λ v H' => v = .bool (!c.put && !sthere S.rows c.t) /\ H' = [] := by
 refine Spec.body Tryz.func154 rfl Tryz.results154 Tryz.ntmps154 rfl<|.sr ?_
 refine .boxA rfl (λ b2 => ?_)
 refine .ag rfl<|.z<|.fa rfl<|.lo rfl<|.q .not<|.mo rfl<|.split (t := 7) rfl (λ g1_3 => ?_) (λ g1_3 => ?_)
 refine .gT g1_3<|.lo rfl<|.gT g1_3<|.fa rfl<|.gT g1_3<|.q (.loadT rfl)<|.gT g1_3<|.callRV (first := []) (captured := [pT q]) (vs := [.agg c.t.enc.toArray]) (away1_spec (h.mono λ b o hb => .inl hb) q c.t) (λ u hu => ?_)
 subst hu
 refine .q (.pickTh g1_3)<|.az rfl<|.ret (rq1 rfl ?_)
 ·refine ⟨congrArg _ ?_, rfl⟩
  simp_all
 refine .gF g1_3<|.gF g1_3<|.gF g1_3<|.gF g1_3<|.q (.pickFh g1_3)<|.az rfl<|.ret (rq1 rfl ?_)
 ·refine ⟨congrArg _ ?_, rfl⟩
  simp_all
theorem sputs_next {cs : List Chg} {i : Nat} {c : Chg} (h : cs[i]? = some c) : sputs (cs.take (i + 1)) = sputs (cs.take i) + if c.put then 1 else 0 := by
 have htk : cs.take (i + 1) = cs.take i ++ [c] := by rw [List.take_add_one, h]; rfl
 unfold sputs
 rw [htk, List.filter_append, List.length_append]
 cases hp : c.put <;> simp [List.filter_cons, hp]
theorem fits_spec (h : SV R g S ps vf vr Mf Mr) (hl : S.rows.length <= 4096) (vm vn vc : Value) (must no : List Tpl) (cs : List Chg) (hM : RS R 7 Tpl.enc vm must) (hN : RS R 7 Tpl.enc vn no) (hC : RS R 8 Chg.enc vc cs) :
  Spec prog 96 [pT g, vm, vn, vc] R [] λ u H' => u = .int .i64 (sfits S.rows S.head must no cs) /\ H' = [] := by
 have lm := hM.le
 have ln := hN.le
 have lc := hC.le
 have pc := h.pc
 have iof := h.of
 have ior := h.or
 have hpl : ps.length = S.rows.length := by rw [<- h.eq, List.length_map]
 obtain ⟨pm, km, rfl⟩ := hM.val
 obtain ⟨pn, kn, rfl⟩ := hN.val
 obtain ⟨pv, kc, rfl⟩ := hC.val
 refine Spec.body Tryz.func96 rfl Tryz.results96 Tryz.ntmps96 rfl<|.sr ?_
 refine .box1 rfl (λ b4 => ?_)
 refine .ag rfl<|.z<|.q .makeFunc ?_
 refine .alloc1 (λ b9 => ?_)
 refine .store1 rfl rfl<|.z<|.q .makeFunc ?_
 refine .alloc1 (λ b10 => ?_)
 refine .store1 rfl rfl<|.zs<|.sr<|.mo rfl<|.lo rfl ?_
 refine .callR (LTP.containsF_spec 151 [pT b4] (λ t => !sthere S.rows t) _ must _ hM.rx λ t ht R' hR => by
  have := PC.of (E := 33) (fr := (0, 0)) (R := R') (b := b4) (vs := [pT g]) (hR _ _ (.inr (by simp [setL])))
  exact away1_spec (h.mono λ b o hb => hR _ _ (.inl hb)) b4 t) (λ u hu => ?_)
 subst hu
 refine .mo rfl<|.split (t := 19) rfl (λ g3_3 => ?_) (λ g3_3 => ?_)
 refine .gF g3_3<|.gF g3_3<|.gF g3_3<|.q (.pickTh g3_3)<|.zn<|.condT<|.sr<|.az rfl<|.ret (seqQ_r (rq1 rfl ?_))
 ·exact ⟨by unfold sfits; rw [g3_3, Bool.true_or, if_pos rfl], rfl⟩
 refine .gT g3_3<|.mo rfl<|.gT g3_3<|.lo rfl<|.gT g3_3 ?_
 refine .callR (LTP.containsF_spec 150 [pT b4] (λ t => sthere S.rows t) _ no _ hN.rx λ t ht R' hR => by
  have := PC.of (E := 33) (fr := (0, 0)) (R := R') (b := b4) (vs := [pT g]) (hR _ _ (.inr (by simp [setL])))
  exact there1_spec (h.mono λ b o hb => hR _ _ (.inl hb)) b4 t) (λ u hu => ?_)
 subst hu
 refine .q (.pickFh g3_3)<|.zn<|.cond rfl (λ h1 => ?_) λ h1 => ?_
 refine .sr<|.az rfl<|.ret (seqQ_r (rq1 rfl ?_))
 ·exact ⟨by unfold sfits; rw [h1, Bool.or_true, if_pos rfl], rfl⟩
 refine .kn<|.seq<|.sr<|.mo rfl<|.q .makeFunc ?_
 refine .callR (LCH.containsF_spec 153 [pT b9] (λ c => c.put && sthere S.rows c.t) _ cs _ hC.rx λ c ht R' hR => by
  have := PC.of (E := 33) (fr := (0, 0)) (R := R') (b := b4) (vs := [pT g]) (hR _ _ (.inr (by simp [setL])))
  have := PC.of (E := 271) (fr := (0, 0)) (R := R') (b := b9) (vs := [.func (.func 150) #[] [pT b4].toArray]) (hR _ _ (.inr (by simp [setL])))
  exact put1_spec (h.mono λ b o hb => hR _ _ (.inl hb)) b4 b9 c) (λ u hu => ?_)
 subst hu
 refine .zn<|.cond rfl (λ h2 => ?_) λ h2 => ?_
 refine .sr<|.az rfl<|.ret (seqQ_r (rq1 rfl ?_))
 ·exact ⟨by unfold sfits; rw [g3_3, h1, Bool.or_false, if_neg (by simp), h2, if_pos rfl], rfl⟩
 refine .kn<|.seq<|.sr<|.mo rfl<|.q .makeFunc ?_
 refine .callR (LCH.containsF_spec 154 [pT b10] (λ c => !c.put && !sthere S.rows c.t) _ cs _ hC.rx λ c ht R' hR => by
  have := PC.of (E := 33) (fr := (0, 0)) (R := R') (b := b4) (vs := [pT g]) (hR _ _ (.inr (by simp [setL])))
  have := PC.of (E := 271) (fr := (0, 0)) (R := R') (b := b10) (vs := [.func (.func 151) #[] [pT b4].toArray]) (hR _ _ (.inr (by simp [setL])))
  exact del1_spec (h.mono λ b o hb => hR _ _ (.inl hb)) b4 b10 c) (λ u hu => ?_)
 subst hu
 refine .zn<|.cond rfl (λ h3 => ?_) λ h3 => ?_
 refine .sr<|.az rfl<|.ret (seqQ_r (rq1 rfl ?_))
 ·exact ⟨by unfold sfits; rw [g3_3, h1, Bool.or_false, if_neg (by simp), h2, if_neg (by simp), h3, if_pos rfl], rfl⟩
 refine .kn<|.sr<|.ag rfl<|.zs<|.sr<|.mo rfl<|.q (.lenR hC)<|.mo rfl<|.zn<|.block<|.loop (X := Nat) (λ i => i <= cs.length) (λ i => [(4, pT b4), (11, .int .i64 (sputs (cs.take i) : Nat)), (30, .slice pv cs.length kc), (31, iN cs.length), (32, iN i)]) (λ _ => [bl b4 [pT g] 33]) (λ i => cs.length - i) 0 (Nat.zero_le _) kE.c.c.c.c.c (pkH [2]) ?_
 rintro i hi
 have hsp : sputs (cs.take i) <= i := Nat.le_trans (List.length_filter_le _ _) (by rw [List.length_take]; omega)
 refine .sr<|.q .lss<|.zs<|.cond rfl (λ h4 => ?_) λ h4 => ?_
 have hlt : i < cs.length := lt_i h4
 obtain ⟨c, hc⟩ := exg hlt
 have hsn := sputs_next hc
 refine .kn<|.seq<|.block<|.sr ?_
 refine .indexR i hC hc (λ p34 => ?_)
 refine .q (.loadA rfl) ?_
 refine .allocA (λ b13 => ?_)
 refine .storeA rfl rfl<|.z<|.fa rfl<|.lo rfl<|.zn<|.cond rfl (λ h5 => ?_) λ h5 => ?_
 refine .region<|.mo rfl<|.ia (sputs (cs.take i) + 1) .add<|.ag rfl<|.nil<|blkQ_n<|seqQ_n<|.region<|.ia (i + 1) .add<|.mo rfl<|.nil ?_
 ·exact loopQ_i (i + 1) hlt (by omega) (by rw [hsn, if_pos h5]; exact kE.c.c.c.c.c) (pkH [1])
 refine .skip<|blkQ_n<|seqQ_n<|.region<|.ia (i + 1) .add<|.mo rfl<|.nil ?_
 ·exact loopQ_i (i + 1) hlt (by omega) (by rw [hsn, if_neg (by rw [h5]; simp)]; exact kE.c.c.c.c.c) (pkH [1])
 have hie : i = cs.length := by have := odf h4; omega
 subst hie
 rw [List.take_length]
 refine .exit<|seqQ_x<|loopQ_x<|blkQ_x<|seqQ_n<|.seq<|.sr<|.lo rfl<|.nc rfl<|.fa rfl<|.lo rfl<|.q .geq<|.mo rfl<|.split (t := 46) rfl (λ g16_5 => ?_) (λ g16_5 => ?_)
 refine .gF g16_5<|.gF g16_5<|.gF g16_5<|.gF g16_5<|.gF g16_5<|.gF g16_5<|.gF g16_5<|.q (.pickTh g16_5)<|.zn<|.condT<|.sr<|.az rfl<|.ret (seqQ_r (rq1 rfl ?_))
 ·exact ⟨by unfold sfits; rw [g3_3, h1, Bool.or_false, if_neg (by simp), h2, if_neg (by simp), h3, if_neg (by simp), if_pos (.inl (odt g16_5))], rfl⟩
 refine .gT g16_5<|.mo rfl<|.gT g16_5<|.lo rfl<|.gT g16_5<|.nc rfl<|.gT g16_5<|.fa rfl<|.gT g16_5<|.lo rfl<|.gT g16_5 ?_
 refine .ia (4096 - (ps.length : Nat)) .sub ?_
 refine .gT g16_5<|.q .gtr<|.q (.pickFh g16_5)<|.zn<|.cond rfl (λ h6 => ?_) λ h6 => ?_
 refine .sr<|.az rfl<|.ret (seqQ_r (rq1 rfl ?_))
 ·exact ⟨by unfold sfits; rw [g3_3, h1, Bool.or_false, if_neg (by simp), h2, if_neg (by simp), h3, if_neg (by simp), if_pos (.inr (by have := odt h6; omega))], rfl⟩
 refine .kn<|.sr<|.az rfl<|.ret (rq1 rfl ?_)
 ·exact ⟨by unfold sfits; rw [g3_3, h1, Bool.or_false, if_neg (by simp), h2, if_neg (by simp), h3, if_neg (by simp), if_neg (by have h8 := odf h6; have h9 := odf g16_5; omega)], rfl⟩
end
theorem rowSeg_out {ps : List RB} {j : Nat} {b : Nat} {x : SRow} (h : ps[j]? = some (b, x)) : (rowSeg ps).Perm ((b, rowObj x) :: rowSeg (ps.eraseIdx j)) /\ ∀ y, (rowSeg (ps.set j (b, y))).Perm ((b, rowObj y) :: rowSeg (ps.eraseIdx j)) := by
 obtain ⟨hjl, hjx⟩ := List.getElem?_eq_some_iff.1 h
 have key : ∀ y, (rowSeg (ps.set j (b, y))).Perm ((b, rowObj y) :: rowSeg (ps.eraseIdx j)) := λ y => by
  rw [List.set_eq_take_append_cons_drop, if_pos hjl, List.eraseIdx_eq_take_drop_succ]
  unfold rowSeg
  rw [List.map_append, List.map_cons, List.map_append]
  exact List.perm_middle
 refine ⟨?_, key⟩
 have := key x
 rwa [show ps.set j (b, x) = ps from by rw [<- hjx]; exact List.set_getElem_self hjl] at this
theorem SI.viewc {g : Nat} {S : Sto} {T : Seg} {R : Rds} (h : SI g S T) (hR : ∀ p ∈ T, R p.1 p.2) : ∃ ps vf vr Mf Mr, SV R g S ps vf vr Mf Mr /\
  ∀ b x, (b, x) ∈ ps -> ∃ j Rest, S.rows[j]? = some x /\ T.Perm ((b, rowObj x) :: Rest) /\ PS Rest (pT g) [.bool true, .int .u64 S.head, .int .u64 S.hor, iN ps.length, vf, vr] /\ ∀ to', ∃ T', T'.Perm ((b, rowObj ⟨x.t, x.fr, to'⟩) :: Rest) /\ SI g ⟨S.rows.set j ⟨x.t, x.fr, to'⟩, S.head, S.hor⟩ T' := by
 obtain ⟨ps, vf, vr, Mf, Mr, Tf, Tr, Sf, Sr, rfl, h1, h2, h3⟩ := h
 refine ⟨ps, vf, vr, Mf, Mr, ⟨PC.of (E := 89) (fr := (0, 0)) (hR (g, _) (by simp)), h1.ms.one, h2.ms.one, h1.ms.rm λ p hp => hR p (by simp [hp]), h2.ms.rm λ p hp => hR p (by simp [hp]), λ k => h1.look (λ p hp => hR p (by simp [hp])) k, λ k => h2.look (λ p hp => hR p (by simp [hp])) k, h1.al, h1.ms.nd, λ p hp => ?_, h3⟩, λ b x hbx => ?_⟩
 ·exact PC.of (E := 196) (fr := (0, 0)) (hR (p.1, rowObj p.2) (by
   have : (p.1, rowObj p.2) ∈ rowSeg ps := List.mem_map.2 ⟨p, hp, rfl⟩
   simp [this]))
 ·obtain ⟨j, hj, hjx⟩ := List.mem_iff_getElem.1 hbx
  have hj2 : ps[j]? = some (b, x) := by rw [gge hj, hjx]
  obtain ⟨o1, o2⟩ := rowSeg_out hj2
  have mid : ∀ (X : Seg) (y : Blk) (Y : Seg), X.Perm (y :: Y) -> ((g, Obj.cells [.bool true, .int .u64 S.head, .int .u64 S.hor, iN ps.length, vf, vr].toArray 89 (0, 0)) :: (Tf ++ (Sf ++ (Tr ++ (Sr ++ X))))).Perm (y :: ((g, Obj.cells [.bool true, .int .u64 S.head, .int .u64 S.hor, iN ps.length, vf, vr].toArray 89 (0, 0)) :: (Tf ++ (Sf ++ (Tr ++ (Sr ++ Y)))))) := λ X y Y hp => by
   refine .trans (.cons _ (.append_left _ (.append_left _ (.append_left _ (.append_left _ hp)))))<|.trans (.cons _ ?_) (.swap _ _ _)
   simp only [<- List.append_assoc]
   exact List.perm_middle
  refine ⟨j, _, by rw [<- h3, List.getElem?_map, hj2]; rfl, mid _ _ _ o1, PS.of (E := 89) (fr := (0, 0)) (by simp), λ to' => ⟨_, mid _ _ _ (o2 ⟨x.t, x.fr, to'⟩), ?_⟩⟩
  have e1 : ∀ {κ : Type} (key : SRow -> κ), key ⟨x.t, x.fr, to'⟩ = key x -> (ps.set j (b, ⟨x.t, x.fr, to'⟩)).map (λ p => (p.1, key p.2)) = ps.map (λ p => (p.1, key p.2)) := λ key hk => by
   rw [List.map_set]
   have : (ps.map λ p => (p.1, key p.2))[j]? = some (b, key x) := by rw [List.getElem?_map, hj2]; rfl
   simp only [hk]
   rw [<- (List.getElem?_eq_some_iff.1 this).2]
   exact List.set_getElem_self _
  refine ⟨ps.set j (b, ⟨x.t, x.fr, to'⟩), vf, vr, Mf, Mr, Tf, Tr, Sf, Sr, by rw [List.length_set], h1.rows (e1 (λ x => x.t.obr) rfl), h2.rows (e1 (λ x => x.t.sub) rfl), ?_⟩
  rw [List.map_set, h3]
theorem SI.cells {g : Nat} {S : Sto} {T : Seg} (h : SI g S T) : ∃ n vf vr Rest, One vf /\ One vr /\ T = (g, .cells [.bool true, .int .u64 S.head, .int .u64 S.hor, .int .i64 n, vf, vr].toArray 89 (0, 0)) :: Rest /\ ∀ head hor, SI g ⟨S.rows, head, hor⟩ ((g, .cells [.bool true, .int .u64 head, .int .u64 hor, .int .i64 n, vf, vr].toArray 89 (0, 0)) :: Rest) := by
 obtain ⟨ps, vf, vr, Mf, Mr, Tf, Tr, Sf, Sr, rfl, h1, h2, h3⟩ := h
 exact ⟨_, vf, vr, _, h1.ms.one, h2.ms.one, rfl, λ head hor => ⟨ps, vf, vr, Mf, Mr, Tf, Tr, Sf, Sr, rfl, h1, h2, h3⟩⟩
theorem scode_fits {S : Sto} {must no : List Tpl} {cs : List Chg} (h : scheck must no cs = 0) : scode S must no cs = sfits S.rows S.head must no cs := by unfold scode; rw [if_neg (by simp [h])]
theorem scode_check {S : Sto} {must no : List Tpl} {cs : List Chg} (h : scheck must no cs ≠ 0) : scode S must no cs = scheck must no cs := by unfold scode; rw [if_pos h]
theorem sapply_put {r : Int} {L : List SRow} {c : Chg} (h : c.put = true) : sapply r L c = L ++ [⟨c.t, r, 0⟩] := by unfold sapply; rw [if_pos h]
theorem sapply_del {r : Int} {L : List SRow} {c : Chg} (h : c.put = false) : sapply r L c = L.map (SRow.close c.t r) := by unfold sapply; rw [if_neg (by rw [h]; simp)]
theorem sapply_next {r : Int} {L : List SRow} {cs : List Chg} {i : Nat} {c : Chg} (h : cs[i]? = some c) : (cs.take (i + 1)).foldl (sapply r) L = sapply r ((cs.take i).foldl (sapply r) L) c := by
 rw [List.take_add_one, h, Option.toList_some, List.foldl_append]; rfl
theorem write_spec (g : Nat) (S : Sto) (T : Seg) (h : SI g S T) (hS : SOK S) (vm vn vc : Value) (must no : List Tpl) (cs : List Chg) (R : Rds) (hM : RS R 7 Tpl.enc vm must) (hN : RS R 7 Tpl.enc vn no) (hC : RS R 8 Chg.enc vc cs) (fm : ∀ t ∈ must, t.fits) (fn : ∀ t ∈ no, t.fits) (fc : ∀ c ∈ cs, c.t.fits) :
  Spec prog 39 [pT g, vm, vn, vc] R [T] λ u H' => ∃ T', H' = [T'] /\ u = .tuple [.int .u64 (if scode S must no cs = 0 then S.head + 1 else 0), .int .i64 (scode S must no cs)].toArray /\ SI g (swrite S must no cs) T' := by
 have lm := hM.le
 have ln := hN.le
 have lc := hC.le
 have a0 := hS.h0
 have a1 := hS.h1
 have a2 := hS.h2
 obtain ⟨pm, km, rfl⟩ := hM.val
 obtain ⟨pn, kn, rfl⟩ := hN.val
 obtain ⟨pv, kc, rfl⟩ := hC.val
 obtain ⟨ps, vf, vr, Mf, Mr, hV, _⟩ := h.viewc (R := Rx R [T]) λ p hp => .inr (by simp [hp])
 refine Spec.body Tryz.func39 rfl Tryz.results39 Tryz.ntmps39 rfl<|.sr<|.ag rfl<|.ag rfl<|.zs<|.sr<|.mo rfl<|.callR hV.ok (λ v hv => ?_)
 subst hv
 refine .q .not<|.zn<|.condF<|.kn<|.seq<|.sr<|.mo rfl<|.mo rfl<|.mo rfl<|.callR (check_spec _ _ _ must no cs _ hM.rx hN.rx hC.rx fm fn fc) (λ v hv => ?_)
 subst hv
 refine .ag rfl<|.z<|.mo rfl<|.q .neI<|.zn<|.cond rfl (λ h2 => ?_) λ h2 => ?_
 have hc0 : scheck must no cs ≠ 0 := by simpa using h2
 refine .sr<|.mo rfl<|.ag rfl<|.az rfl<|.ret (seqQ_r (retQ_r _ (.two (.tmp rfl) (.tmp rfl)) (.one [0] _) ?_))
 ·rw [scode_check hc0, swrite_else (by rw [scode_check hc0]; exact hc0), if_neg hc0]
  exact ⟨T, by simp [take], rfl, h⟩
 have hc0 : scheck must no cs = 0 := by simpa using h2
 refine .kn<|.seq<|.sr<|.mo rfl<|.mo rfl<|.mo rfl<|.mo rfl<|.callR (fits_spec hV hS.len _ _ _ must no cs hM.rx hN.rx hC.rx) (λ v hv => ?_)
 subst hv
 refine .ag rfl<|.z<|.mo rfl<|.q .neI<|.zn<|.cond rfl (λ h3 => ?_) λ h3 => ?_
 have hc1 : sfits S.rows S.head must no cs ≠ 0 := by simpa using h3
 refine .sr<|.mo rfl<|.ag rfl<|.az rfl<|.ret (seqQ_r (retQ_r _ (.two (.tmp rfl) (.tmp rfl)) (.one [0] _) ?_))
 ·rw [scode_fits hc0, swrite_else (by rw [scode_fits hc0]; exact hc1), if_neg hc1]
  exact ⟨T, by simp [take], rfl, h⟩
 have hc1 : sfits S.rows S.head must no cs = 0 := by simpa using h3
 have hcode : scode S must no cs = 0 := by rw [scode_fits hc0, hc1]
 have hw := scode_zero hcode
 have hwh := hw.head
 obtain ⟨n, vf2, vr2, Rest, if2, ir2, rfl, hSI⟩ := h.cells
 refine Tri.le (EnvLe.refl _) (H' := [bl g [.bool true, .int .u64 S.head, .int .u64 S.hor, .int .i64 n, vf2, vr2] 89, Rest]) (HLe.ofPerm (by simp))<|.kn<|.sr<|.mo rfl<|.nc rfl<|.fa rfl<|.lo rfl<|.q (.u64 (S.head + 1) .add ⟨rfl, by omega, by omega⟩)<|.nc rfl<|.fa rfl<|.store1 rfl rfl<|.zs<|.sr<|.mo rfl<|.q (.lenR hC)<|.mo rfl<|.zn<|.block<|.loop (X := Nat × Seg) (λ y => y.1 <= cs.length /\ SI g ⟨(cs.take y.1).foldl (sapply (S.head + 1)) S.rows, S.head + 1, S.hor⟩ y.2) (λ y => [(0, pT g), (39, .slice pv cs.length kc), (40, iN cs.length), (41, iN y.1)]) (λ y => [y.2]) (λ y => cs.length - y.1) (0, (g, Obj.cells [Value.bool true, Value.int .u64 (S.head + 1), Value.int .u64 S.hor, Value.int .i64 n, vf2, vr2].toArray 89 (0, 0)) :: Rest) ⟨Nat.zero_le _, hSI (S.head + 1) S.hor⟩ kE.c.c.c.c (HLe.ofPerm (by simp [setL])) ?_
 rintro ⟨i, Ti⟩ ⟨hi, hI⟩
 simp only at hi hI ⊢
 have hSi := hS.fold (hw.take i)
 obtain ⟨psi, vfi, vri, Mfi, Mri, hVi, hcl⟩ := hI.viewc (R := sg Ti) λ p hp => hp
 have ifi := hVi.of
 have iri := hVi.or
 have pxi : PS Ti (pT g) [.bool true, .int .u64 (S.head + 1), .int .u64 S.hor, iN psi.length, vfi, vri] := ⟨hVi.pc⟩
 refine .sr<|.q .lss<|.zs<|.cond rfl (λ h4 => ?_) λ h4 => ?_
 have hlt : i < cs.length := lt_i h4
 obtain ⟨c, hc⟩ := exg hlt
 have hcm := mog hc
 refine .kn<|.seq<|.block<|.sr ?_
 refine .indexR i hC hc (λ p43 => ?_)
 refine .q (.loadA rfl) ?_
 refine .allocA (λ b13 => ?_)
 refine .storeA rfl rfl<|.z<|.fa rfl<|.lo rfl<|.zn<|.cond rfl (λ h5 => ?_) λ h5 => ?_
 refine .region_tail 8 mixed (by kernel_rfl) ?_
 conv => arg 6; dsimp only [List.take]
 refine .mo rfl<|.fa rfl<|.q (.loadT rfl)<|.mo rfl<|.nc rfl<|.fa rfl<|.lo rfl ?_
 refine .q .bld ?_
 refine .nil<|.callM (add_spec g _ Ti hI ⟨c.t, S.head + 1, 0⟩ (by have := hSi.len; simp only at this ⊢; omega) _) (λ v T2 hv => ?_)
 obtain ⟨rfl, hI2⟩ := hv
 refine .nil<|blkQ_n<|seqQ_n<|.region<|.ia (i + 1) .add<|.mo rfl<|.nil ?_
 ·exact loopQ_i (i + 1, T2) ⟨hlt, by simp only; rw [sapply_next hc, sapply_put h5]; exact hI2⟩ (by simp only; omega) kE.c.c.c.c (pkH [1])
 refine .region_all [10] mixed<|.tO 0 rfl .move<|.tO 1 rfl (.fieldAddr rfl)<|.tO 2 rfl (.loadT rfl)<|.tO 4 rfl .move<|.tO 5 rfl (.nilCheck rfl)<|.tO 6 rfl (.fieldAddr rfl)<|.tO 7 rfl (.load1 rfl)<|.sT 3 rfl<|.callR (find_spec (hVi.mono λ b o hb => .inr (by have hb' : (b, o) ∈ Ti := hb; simp [hb'])) c.t) (λ v hv => ?_)
 have hth : sthere ((cs.take i).foldl (sapply (S.head + 1)) S.rows) c.t = true := by
  rw [sthere_fold _ _ λ hm => ?_]
  ·exact hw.there c hcm (by simpa using h5)
  ·have hn := hw.nd
   obtain ⟨d, hd, hde⟩ := List.mem_map.1 hm
   obtain ⟨k, hk, hkd⟩ := List.mem_iff_getElem.1 hd
   rw [List.length_take] at hk
   rw [List.getElem_take] at hkd
   have := List.pairwise_iff_getElem.1 hn k i (by simp; omega) (by simp; omega) (by omega)
   rw [List.getElem_map, List.getElem_map, hkd, (List.getElem?_eq_some_iff.1 hc).2] at this
   exact this hde
 obtain ⟨b, x, hbx, hox, rfl⟩ : ∃ b x, (b, x) ∈ psi /\ x.openOf c.t = true /\ v = pT b := by
  rcases hv with hv | ⟨hv, _⟩
  ·exact hv
  ·exact absurd hth (by rw [hv]; simp)
 obtain ⟨j, Rest2, hj, hTp, pxr, hcl2⟩ := hcl b x hbx
 obtain ⟨T2, hT2, hI2⟩ := hcl2 (S.head + 1)
 have hI2 : SI g ⟨sapply (S.head + 1) ((cs.take i).foldl (sapply (S.head + 1)) S.rows) c, S.head + 1, S.hor⟩ T2 := by
  rw [sapply_del h5]
  have := close_set hSi.pw hj hox (S.head + 1)
  simp only at this
  rw [this]
  exact hI2
 have pxb : PC (sg Ti) (pT b) x.enc := hVi.pr _ hbx
 have pxb2 : PS Ti (pT b) x.enc := ⟨pxb⟩
 refine .nil<|Next.sub<|.tO 8 rfl (.nilCheck rfl)<|.tO 9 rfl (.fieldAddr rfl)<|.sT 10 rfl<|.sub (H' := [bl b13 c.enc 153, bl b x.enc 196, Rest2]) (HLe.ofPerm (by simp only [List.flatten_cons, List.flatten_nil, List.append_nil, List.cons_append, List.nil_append]; exact .cons _ hTp))<|.store1 rfl rfl<|.nil<|Next.mod rfl<|RA.nil (by kernel_rfl)<|blkQ_n<|seqQ_n<|.region<|.ia (i + 1) .add<|.mo rfl<|.nil ?_
 ·exact loopQ_i (i + 1, T2) ⟨hlt, by simp only; rw [sapply_next hc]; exact hI2⟩ (by simp only; omega) kE.c.c.c.c ((pkH [1, 1]).trans (HLe.ofPerm (H' := [T2]) (show List.Perm ((b, rowObj ⟨x.t, x.fr, S.head + 1⟩) :: (Rest2 ++ [])) (T2 ++ []) from by simpa using hT2.symm)))
 refine .exit<|seqQ_x<|loopQ_x<|blkQ_x<|seqQ_n<|.sr<|.mo rfl<|.nc rfl<|.fa rfl<|.lo rfl<|.ag rfl<|.az rfl<|.ret (retQ_r _ (.two (.tmp rfl) (.tmp rfl)) (.one [0] _) ?_)
 ·have hie : i = cs.length := by have := odf h4; omega
  subst hie
  rw [List.take_length] at hI
  refine ⟨Ti, by simp [take], by rw [hcode]; rfl, ?_⟩
  unfold swrite
  rw [if_pos hcode]
  exact hI
structure SCall where
 kind : Int
 wm : Value
 wn : Value
 wc : Value
 f : Tpl
 rev : Int
 must : List Tpl
 no : List Tpl
 cs : List Chg
def SCall.enc (c : SCall) : List Value := [.int .i64 c.kind, c.wm, c.wn, c.wc] ++ c.f.enc ++ [.int .u64 c.rev]
structure SCall.is (R : Rds) (c : SCall) : Prop where
 hm : RS R 7 Tpl.enc c.wm c.must
 hn : RS R 7 Tpl.enc c.wn c.no
 hc : RS R 8 Chg.enc c.wc c.cs
 fm : ∀ t ∈ c.must, t.fits
 fn : ∀ t ∈ c.no, t.fits
 fc : ∀ d ∈ c.cs, d.t.fits
 r0 : 0 <= c.rev
 r1 : c.rev <= 18446744073709551615
def SCall.few (c : SCall) : Prop := c.must.length <= 34 /\ c.no.length <= 34 /\ c.cs.length <= 34
theorem SCall.is.ones {R : Rds} {c : SCall} (h : c.is R) : Ones c.enc := ⟨by
 obtain ⟨p1, k1, e1⟩ := h.hm.val
 obtain ⟨p2, k2, e2⟩ := h.hn.val
 obtain ⟨p3, k3, e3⟩ := h.hc.val
 simp [SCall.enc, Tpl.enc, e1, e2, e3, oneCell]⟩
theorem few12_spec (v : Value) (cs : List SCall) (n : Nat) (hn : n <= 1000) (R RD : Rds) (h : RS R 12 SCall.enc v cs) (hD : ∀ c ∈ cs, c.is RD) :
  Spec prog 38 [v, iN n] R [] λ u H' => ∃ T, H' = [T] /\ ∃ ds, OS 62 12 SCall.enc u ds T /\ (∀ d ∈ ds, d.is RD /\ d.few) /\ ds.length = min cs.length n := by
 have hl := h.le
 obtain ⟨pv, kv_, rfl⟩ := h.val
 refine Spec.segs (H' := [[]]) (by simp)<|Spec.body Tryz.func38 rfl Tryz.results38 Tryz.ntmps38 rfl<|.sr<|.ag rfl<|.z<|.ag rfl<|.zs<|.sr<|.az rfl<|.block<|.loop (X := Nat × List SCall × Value × Seg) (λ y => (y.1 <= cs.length /\ y.1 <= n /\ y.2.1.length = y.1) /\ OS 62 12 SCall.enc y.2.2.1 y.2.1 y.2.2.2 /\ ∀ d ∈ y.2.1, d.is RD /\ d.few) (λ y => [(0, .slice pv cs.length kv_), (1, iN n), (5, y.2.2.1), (6, iN y.1)]) (λ y => [y.2.2.2]) (λ y => cs.length - y.1) (0, [], sZ, []) ⟨⟨Nat.zero_le _, Nat.zero_le _, rfl⟩, OS.nil, by simp⟩ kE.c.c.c.c rH ?_
 rintro ⟨i, ds, vo, To⟩ ⟨⟨hi, hin, hdl⟩, hO, hds⟩
 simp only at hi hin hdl hO hds ⊢
 have io := hO.oneCell
 refine .seq<|.sr<|.mo rfl<|.mo rfl<|.q (.lenR h)<|.q .lss<|.mo rfl<|.split (t := 12) rfl (λ g3_4 => ?_) (λ g3_4 => ?_)
 refine .gT g3_4<|.mo rfl<|.gT g3_4<|.mo rfl<|.gT g3_4<|.q .lss<|.q (.pickTh g3_4)<|.zn<|.cond rfl (λ h1 => ?_) λ h1 => ?_
 have hlt : i < cs.length /\ i < n := by simp_all
 obtain ⟨c, hc⟩ : ∃ c, cs[i]? = some c := ⟨_, gge hlt.1⟩
 have hcis := hD c (mog hc)
 have icn := hcis.ones
 refine .kn<|.seq<|.block<|.sr<|.mo rfl<|.mo rfl<|.indexR i h hc (λ p21 => ?_)
 obtain ⟨kd, wm, wn, wc, f, rev, must, no, ss⟩ := c
 have hm : RS RD 7 Tpl.enc wm must := hcis.hm
 have hno : RS RD 7 Tpl.enc wn no := hcis.hn
 have hch : RS RD 8 Chg.enc wc ss := hcis.hc
 obtain ⟨pm, km, rfl⟩ := hm.val
 obtain ⟨pn, kn, rfl⟩ := hno.val
 obtain ⟨pc, kc, rfl⟩ := hch.val
 have ien : Ones (SCall.enc ⟨kd, .slice pm must.length km, .slice pn no.length kn, .slice pc ss.length kc, f, rev, must, no, ss⟩) := hcis.ones
 refine .q (.loadA rfl) ?_
 refine .allocA (λ b7 => ?_)
 refine .storeA rfl rfl<|.zs<|.sr<|.fa rfl<|.lo rfl<|.q (.lenR hm)<|.q .gtr<|.zn ?_
 refine Tri.cut (X := SCall) (λ d => d.is RD /\ d.must.length <= 34) (λ d => [(0, .slice pv cs.length kv_), (1, iN n), (5, vo), (6, iN i), (7, pT b7)]) (λ d => [bl b7 d.enc 62, To]) ?_ ?_
 refine .cond rfl (λ h2 => ?_) λ h2 => ?_
 refine .region<|.fa rfl<|.lo rfl<|.sliceR (R' := RD) 0 34 hm rfl ⟨_, rfl⟩ (by omega) (by have := odt h2; first | omega | (simp only at this; omega)) (λ v2 hv2 => ?_)
 have iv2 := hv2.oneCell
 refine .fa rfl<|.store1 rfl rfl<|.nil ?_
 ·exact joinQ_n ⟨kd, v2, .slice pn no.length kn, .slice pc ss.length kc, f, rev, (must.drop 0).take (34 - 0), no, ss⟩ ⟨⟨hv2, hno, hch, λ t ht => hcis.fm t (List.mem_of_mem_drop (List.mem_of_mem_take ht)), hcis.fn, hcis.fc, hcis.r0, hcis.r1⟩, by simp; omega⟩ kE.c.c.c.c.c rH
 refine .skip ?_
 ·exact joinQ_n _ ⟨hcis, by have := odf h2; first | omega | (simp only at this; omega) | (simp only; omega)⟩ kE.c.c.c.c.c rH
 intro x hx
 clear ien hm hno hch hcis
 obtain ⟨hcis, hl1⟩ := hx
 obtain ⟨kd, wm, wn, wc, f, rev, must, no, ss⟩ := x
 have hm : RS RD 7 Tpl.enc wm must := hcis.hm
 have hno : RS RD 7 Tpl.enc wn no := hcis.hn
 have hch : RS RD 8 Chg.enc wc ss := hcis.hc
 obtain ⟨pm, km, rfl⟩ := hm.val
 obtain ⟨pn, kn, rfl⟩ := hno.val
 obtain ⟨pc, kc, rfl⟩ := hch.val
 have ien : Ones (SCall.enc ⟨kd, .slice pm must.length km, .slice pn no.length kn, .slice pc ss.length kc, f, rev, must, no, ss⟩) := hcis.ones
 refine seqQ_n<|.seq<|.sr<|.fa rfl<|.lo rfl<|.q (.lenR hno)<|.q .gtr<|.zn ?_
 refine Tri.cut (X := SCall) (λ d => d.is RD /\ d.must.length <= 34 /\ d.no.length <= 34) (λ d => [(0, .slice pv cs.length kv_), (1, iN n), (5, vo), (6, iN i), (7, pT b7)]) (λ d => [bl b7 d.enc 62, To]) ?_ ?_
 refine .cond rfl (λ h3 => ?_) λ h3 => ?_
 refine .region<|.fa rfl<|.lo rfl<|.sliceR (R' := RD) 0 34 hno rfl ⟨_, rfl⟩ (by omega) (by have := odt h3; first | omega | (simp only at this; omega)) (λ v2 hv2 => ?_)
 have iv2 := hv2.oneCell
 refine .fa rfl<|.store1 rfl rfl<|.nil ?_
 ·exact joinQ_n ⟨kd, .slice pm must.length km, v2, .slice pc ss.length kc, f, rev, must, (no.drop 0).take (34 - 0), ss⟩ ⟨⟨hm, hv2, hch, hcis.fm, λ t ht => hcis.fn t (List.mem_of_mem_drop (List.mem_of_mem_take ht)), hcis.fc, hcis.r0, hcis.r1⟩, hl1, by simp; omega⟩ kE.c.c.c.c.c rH
 refine .skip ?_
 ·exact joinQ_n _ ⟨hcis, hl1, by have := odf h3; first | omega | (simp only at this; omega) | (simp only; omega)⟩ kE.c.c.c.c.c rH
 intro x hx
 clear ien hm hno hch hcis hl1
 obtain ⟨hcis, hl1, hl2⟩ := hx
 obtain ⟨kd, wm, wn, wc, f, rev, must, no, ss⟩ := x
 have hm : RS RD 7 Tpl.enc wm must := hcis.hm
 have hno : RS RD 7 Tpl.enc wn no := hcis.hn
 have hch : RS RD 8 Chg.enc wc ss := hcis.hc
 obtain ⟨pm, km, rfl⟩ := hm.val
 obtain ⟨pn, kn, rfl⟩ := hno.val
 obtain ⟨pc, kc, rfl⟩ := hch.val
 have ien : Ones (SCall.enc ⟨kd, .slice pm must.length km, .slice pn no.length kn, .slice pc ss.length kc, f, rev, must, no, ss⟩) := hcis.ones
 refine seqQ_n<|.seq<|.sr<|.fa rfl<|.lo rfl<|.q (.lenR hch)<|.q .gtr<|.zn ?_
 refine Tri.cut (X := SCall) (λ d => d.is RD /\ d.few) (λ d => [(0, .slice pv cs.length kv_), (1, iN n), (5, vo), (6, iN i), (7, pT b7)]) (λ d => [bl b7 d.enc 62, To]) ?_ ?_
 refine .cond rfl (λ h4 => ?_) λ h4 => ?_
 refine .region<|.fa rfl<|.lo rfl<|.sliceR (R' := RD) 0 34 hch rfl ⟨_, rfl⟩ (by omega) (by have := odt h4; first | omega | (simp only at this; omega)) (λ v2 hv2 => ?_)
 have iv2 := hv2.oneCell
 refine .fa rfl<|.store1 rfl rfl<|.nil ?_
 ·exact joinQ_n ⟨kd, .slice pm must.length km, .slice pn no.length kn, v2, f, rev, must, no, (ss.drop 0).take (34 - 0)⟩ ⟨⟨hm, hno, hv2, hcis.fm, hcis.fn, λ t ht => hcis.fc t (List.mem_of_mem_drop (List.mem_of_mem_take ht)), hcis.r0, hcis.r1⟩, hl1, hl2, by simp; omega⟩ kE.c.c.c.c.c rH
 refine .skip ?_
 ·exact joinQ_n _ ⟨hcis, hl1, hl2, by have := odf h4; first | omega | (simp only at this; omega) | (simp only; omega)⟩ kE.c.c.c.c.c rH
 intro x hx
 clear ien hm hno hch hcis hl1 hl2
 obtain ⟨hcis, hfew⟩ := hx
 have ix := hcis.ones
 refine seqQ_n<|.region<|.mo rfl<|.q (.loadA rfl) ?_
 refine .buildSlice1A (λ b49 => ?_)
 refine .append hO (RS.lits (xs := [x]) rfl (by simp [SCall.enc, Tpl.enc]) (by have := ix.h; simpa using this)) (by simp; omega) (λ v7 T7 hO7 => ?_)
 have i7 := hO7.oneCell
 refine .ag rfl<|.nil<|blkQ_n<|seqQ_n<|.region<|.mo rfl<|.ia (i + 1) .add<|.ag rfl<|.nil ?_
 ·exact loopQ_i (i + 1, ds ++ [x], v7, T7) ⟨⟨hlt.1, hlt.2, by simp [hdl]⟩, hO7, λ d hd => by
   rcases List.mem_append.1 hd with hd | hd
   ·exact hds d hd
   ·simp only [List.mem_singleton] at hd
    subst hd
    exact ⟨hcis, hfew⟩⟩ (by simp only; omega) kE.c.c.c.c (pkH [2])
 refine .exit<|seqQ_x<|loopQ_x<|blkQ_x<|seqQ_n<|.sr<|.mo rfl<|.az rfl<|.ret (retQ_r _ (.one (.tmp rfl)) (.one [0] _) ?_)
 ·refine ⟨To, by simp [take], ds, hO, hds, ?_⟩
  simp_all
  omega
 refine .gF g3_4<|.gF g3_4<|.gF g3_4<|.q (.pickFh g3_4)<|.zn<|.condF<|.exit<|seqQ_x<|loopQ_x<|blkQ_x<|seqQ_n<|.sr<|.mo rfl<|.az rfl<|.ret (retQ_r _ (.one (.tmp rfl)) (.one [0] _) ?_)
 ·refine ⟨To, by simp [take], ds, hO, hds, ?_⟩
  simp_all
  omega
namespace LTY
theorem clone_spec (v : Value) (xs : List Ty) (R : Rds) (h : RS R 2 Ty.enc v xs) (hl : xs.length <= 1000000) :
  Spec prog 160 [v] R [] λ v' H' => ∃ T, H' = [T] /\ OS 252 2 Ty.enc v' xs T := by
 obtain ⟨pr, cap, rfl⟩ := h.val
 have hx : ∀ H, RS (Rx R H) 2 Ty.enc (.slice pr xs.length cap) xs := λ H => h.rx
 refine Spec.segs (H' := [[]]) (by simp)<|Spec.body Tryz.func160 rfl Tryz.results160 Tryz.ntmps160 rfl<|.sr<|.ag rfl<|.zs<|.sr<|.mo rfl<|.q (.eqNilS rfl rfl)<|.zn<|.cond rfl (λ h1 => ?_) λ h1 => ?_
 refine .sr<|.az rfl<|.ret (seqQ_r (retQ_r _ (.one (.tmp rfl)) (.one [0] _) ?_))
 ·obtain rfl : pr = none := by simpa using h1
  have := h.none_nil
  subst this
  exact ⟨[], rfl, OS.nil⟩
 refine .kn<|.sr ?_
 refine .buildSlice0 (λ b5 => ?_)
 refine .mo rfl ?_
 refine .append (OS.empty (enc := Ty.enc) (sz := 2)) (hx _) (by simp; omega) (λ v' T' h3 => ?_)
 refine .az rfl<|.ret (retQ_r _ (.one (.tmp rfl)) (.one [0] _) ?_)
 ·exact ⟨T', by simp [take], by simpa using h3⟩
theorem indexF_spec (f : FuncId) (caps : List Value) [e : Ent prog f] (p : Ty -> Bool) (v : Value) (l : List Ty) (R : Rds) (h : RS R 2 Ty.enc v l) (hf : ∀ s ∈ l, ∀ R', (∀ b o, R b o -> R' b o) -> Spec prog f ((λ t : Ty => Value.agg t.enc.toArray) s :: caps) R' [] λ u H' => u = .bool (p s) /\ H' = []) :
  Spec prog 248 [v, .func (.func f) #[] caps.toArray] R [] λ u H' => (∃ k : Int, u = .int .i64 k /\ ((∃ (i : Nat) (x : Ty), l[i]? = some x /\ p x = true /\ (∀ j y, j < i -> l[j]? = some y -> p y = false) /\ k = i) \/ ((∀ y ∈ l, p y = false) /\ k = -1))) /\ H' = [] := by
 have hle := h.le
 refine Spec.body Tryz.func248 rfl Tryz.results248 Tryz.ntmps248 rfl<|.sr<|.ag rfl<|.zs<|.sr<|.mo rfl<|.q (.lenR h)<|.mo rfl<|.zn<|.block<|.loop (X := Nat) (λ i => i <= l.length /\ ∀ j z, j < i -> l[j]? = some z -> p z = false) (λ i => [(0, v), (1, .func (.func f) #[] caps.toArray), (7, .int .i64 l.length), (8, iN i)]) (λ _ => []) (λ i => l.length - i) 0 ⟨by omega, by omega⟩ kE.c.c.c.c rH ?_
 rintro i ⟨hi, hn⟩
 refine .sr<|.q .lss<|.zs<|.cond rfl (λ h1 => ?_) λ h1 => ?_
 have hlt : i < l.length := by simp at h1; omega
 obtain ⟨z, hz⟩ := exg hlt
 have hzm := mog hz
 have hzo := (⟨h.one z hzm⟩ : Ones (Ty.enc z))
 refine .kn<|.seq<|.block<|.sr<|.mo rfl<|.ag rfl<|.z<|.mo rfl<|.mo rfl<|.mo rfl ?_
 refine .indexR i h hz (λ pz => ?_)
 refine .q (.loadA rfl)<|.callRV (first := []) (captured := caps) (vs := [(λ t : Ty => Value.agg t.enc.toArray) z]) (hf z hzm _ λ b o hb => .inl hb) (λ u hu => ?_)
 subst hu
 refine .zn<|.cond rfl (λ h2 => ?_) λ h2 => ?_
 refine .sr<|.mo rfl<|.az rfl<|.ret (blkQ_r (seqQ_r (loopQ_r (blkQ_r (seqQ_r (rq1 rfl ?_))))))
 ·exact ⟨⟨_, rfl, .inl ⟨i, z, hz, h2, hn, rfl⟩⟩, rfl⟩
 refine .skip<|blkQ_n<|seqQ_n<|.region<|.q (.inc (n := i) (by omega))<|.mo rfl<|.nil ?_
 ·exact loopQ_i (i + 1) ⟨by omega, λ j y hj hy => by
   rcases Nat.lt_or_ge j i with hh | hh
   ·exact hn j y hh hy
   ·obtain rfl : j = i := by omega
    rw [hz] at hy; cases hy; exact h2⟩ (by omega) kE.c.c.c.c rH
 refine .exit<|seqQ_x<|loopQ_x<|blkQ_x<|seqQ_n<|.sr<|.az rfl<|.ret (rq1 rfl ?_)
 ·have he : i = l.length := by simp at h1; omega
  subst he
  refine ⟨⟨_, rfl, .inr ⟨λ y hy => ?_, rfl⟩⟩, rfl⟩
  obtain ⟨j, hj, rfl⟩ := List.mem_iff_getElem.1 hy
  exact hn j _ hj (gge hj)
theorem containsF_spec (f : FuncId) (caps : List Value) [e : Ent prog f] (p : Ty -> Bool) (v : Value) (l : List Ty) (R : Rds) (h : RS R 2 Ty.enc v l) (hf : ∀ s ∈ l, ∀ R', (∀ b o, R b o -> R' b o) -> Spec prog f ((λ t : Ty => Value.agg t.enc.toArray) s :: caps) R' [] λ u H' => u = .bool (p s) /\ H' = []) :
  Spec prog 194 [v, .func (.func f) #[] caps.toArray] R [] λ u H' => u = .bool (l.any p) /\ H' = [] := by
 refine Spec.body Tryz.func194 rfl Tryz.results194 Tryz.ntmps194 rfl<|.sr<|.ag rfl<|.z<|.mo rfl<|.mo rfl<|.callR (indexF_spec f caps p v l _ h.rx λ s hs R' hR => hf s hs R' λ b o hb => hR b o (.inl hb)) (λ u hu => ?_)
 obtain ⟨k, rfl, hk⟩ := hu
 have hkk : decide (0 <= k) = l.any p := by
  rcases hk with ⟨i, x, h1, h2, _, rfl⟩ | ⟨h1, rfl⟩
  ·rw [List.any_eq_true.2 ⟨x, mog h1, h2⟩]; simp
  ·rw [List.any_eq_false.2 λ y hy => by rw [h1 y hy]; simp]; rfl
 refine .q .geq<|.az rfl<|.ret (rq1 rfl ?_)
 ·exact ⟨by simp only [hkk], rfl⟩
end LTY
namespace LSC
theorem clone_spec (v : Value) (xs : List Sc) (R : Rds) (h : RS R 4 Sc.enc v xs) (hl : xs.length <= 1000000) :
  Spec prog 162 [v] R [] λ v' H' => ∃ T, H' = [T] /\ OS 209 4 Sc.enc v' xs T := by
 obtain ⟨pr, cap, rfl⟩ := h.val
 have hx : ∀ H, RS (Rx R H) 4 Sc.enc (.slice pr xs.length cap) xs := λ H => h.rx
 refine Spec.segs (H' := [[]]) (by simp)<|Spec.body Tryz.func162 rfl Tryz.results162 Tryz.ntmps162 rfl<|.sr<|.ag rfl<|.zs<|.sr<|.mo rfl<|.q (.eqNilS rfl rfl)<|.zn<|.cond rfl (λ h1 => ?_) λ h1 => ?_
 refine .sr<|.az rfl<|.ret (seqQ_r (retQ_r _ (.one (.tmp rfl)) (.one [0] _) ?_))
 ·obtain rfl : pr = none := by simpa using h1
  have := h.none_nil
  subst this
  exact ⟨[], rfl, OS.nil⟩
 refine .kn<|.sr ?_
 refine .buildSlice0 (λ b5 => ?_)
 refine .mo rfl ?_
 refine .append (OS.empty (enc := Sc.enc) (sz := 4)) (hx _) (by simp; omega) (λ v' T' h3 => ?_)
 refine .az rfl<|.ret (retQ_r _ (.one (.tmp rfl)) (.one [0] _) ?_)
 ·exact ⟨T', by simp [take], by simpa using h3⟩
theorem indexF_spec (f : FuncId) (caps : List Value) [e : Ent prog f] (p : Sc -> Bool) (v : Value) (l : List Sc) (R : Rds) (h : RS R 4 Sc.enc v l) (hf : ∀ s ∈ l, ∀ R', (∀ b o, R b o -> R' b o) -> Spec prog f ((λ t : Sc => Value.agg t.enc.toArray) s :: caps) R' [] λ u H' => u = .bool (p s) /\ H' = []) :
  Spec prog 249 [v, .func (.func f) #[] caps.toArray] R [] λ u H' => (∃ k : Int, u = .int .i64 k /\ ((∃ (i : Nat) (x : Sc), l[i]? = some x /\ p x = true /\ (∀ j y, j < i -> l[j]? = some y -> p y = false) /\ k = i) \/ ((∀ y ∈ l, p y = false) /\ k = -1))) /\ H' = [] := by
 have hle := h.le
 refine Spec.body Tryz.func249 rfl Tryz.results249 Tryz.ntmps249 rfl<|.sr<|.ag rfl<|.zs<|.sr<|.mo rfl<|.q (.lenR h)<|.mo rfl<|.zn<|.block<|.loop (X := Nat) (λ i => i <= l.length /\ ∀ j z, j < i -> l[j]? = some z -> p z = false) (λ i => [(0, v), (1, .func (.func f) #[] caps.toArray), (7, .int .i64 l.length), (8, iN i)]) (λ _ => []) (λ i => l.length - i) 0 ⟨by omega, by omega⟩ kE.c.c.c.c rH ?_
 rintro i ⟨hi, hn⟩
 refine .sr<|.q .lss<|.zs<|.cond rfl (λ h1 => ?_) λ h1 => ?_
 have hlt : i < l.length := by simp at h1; omega
 obtain ⟨z, hz⟩ := exg hlt
 have hzm := mog hz
 have hzo := (⟨h.one z hzm⟩ : Ones (Sc.enc z))
 refine .kn<|.seq<|.block<|.sr<|.mo rfl<|.ag rfl<|.z<|.mo rfl<|.mo rfl<|.mo rfl ?_
 refine .indexR i h hz (λ pz => ?_)
 refine .q (.loadA rfl)<|.callRV (first := []) (captured := caps) (vs := [(λ t : Sc => Value.agg t.enc.toArray) z]) (hf z hzm _ λ b o hb => .inl hb) (λ u hu => ?_)
 subst hu
 refine .zn<|.cond rfl (λ h2 => ?_) λ h2 => ?_
 refine .sr<|.mo rfl<|.az rfl<|.ret (blkQ_r (seqQ_r (loopQ_r (blkQ_r (seqQ_r (rq1 rfl ?_))))))
 ·exact ⟨⟨_, rfl, .inl ⟨i, z, hz, h2, hn, rfl⟩⟩, rfl⟩
 refine .skip<|blkQ_n<|seqQ_n<|.region<|.q (.inc (n := i) (by omega))<|.mo rfl<|.nil ?_
 ·exact loopQ_i (i + 1) ⟨by omega, λ j y hj hy => by
   rcases Nat.lt_or_ge j i with hh | hh
   ·exact hn j y hh hy
   ·obtain rfl : j = i := by omega
    rw [hz] at hy; cases hy; exact h2⟩ (by omega) kE.c.c.c.c rH
 refine .exit<|seqQ_x<|loopQ_x<|blkQ_x<|seqQ_n<|.sr<|.az rfl<|.ret (rq1 rfl ?_)
 ·have he : i = l.length := by simp at h1; omega
  subst he
  refine ⟨⟨_, rfl, .inr ⟨λ y hy => ?_, rfl⟩⟩, rfl⟩
  obtain ⟨j, hj, rfl⟩ := List.mem_iff_getElem.1 hy
  exact hn j _ hj (gge hj)
theorem containsF_spec (f : FuncId) (caps : List Value) [e : Ent prog f] (p : Sc -> Bool) (v : Value) (l : List Sc) (R : Rds) (h : RS R 4 Sc.enc v l) (hf : ∀ s ∈ l, ∀ R', (∀ b o, R b o -> R' b o) -> Spec prog f ((λ t : Sc => Value.agg t.enc.toArray) s :: caps) R' [] λ u H' => u = .bool (p s) /\ H' = []) :
  Spec prog 197 [v, .func (.func f) #[] caps.toArray] R [] λ u H' => u = .bool (l.any p) /\ H' = [] := by
 refine Spec.body Tryz.func197 rfl Tryz.results197 Tryz.ntmps197 rfl<|.sr<|.ag rfl<|.z<|.mo rfl<|.mo rfl<|.callR (indexF_spec f caps p v l _ h.rx λ s hs R' hR => hf s hs R' λ b o hb => hR b o (.inl hb)) (λ u hu => ?_)
 obtain ⟨k, rfl, hk⟩ := hu
 have hkk : decide (0 <= k) = l.any p := by
  rcases hk with ⟨i, x, h1, h2, _, rfl⟩ | ⟨h1, rfl⟩
  ·rw [List.any_eq_true.2 ⟨x, mog h1, h2⟩]; simp
  ·rw [List.any_eq_false.2 λ y hy => by rw [h1 y hy]; simp]; rfl
 refine .q .geq<|.az rfl<|.ret (rq1 rfl ?_)
 ·exact ⟨by simp only [hkk], rfl⟩
end LSC
namespace LRE
theorem indexF_spec (f : FuncId) (caps : List Value) [e : Ent prog f] (p : RlM -> Bool) (v : Value) (l : List RlM) (R : Rds) (h : RS R 3 RlM.enc v l) (hf : ∀ s ∈ l, ∀ R', (∀ b o, R b o -> R' b o) -> Spec prog f ((λ t : RlM => Value.agg t.enc.toArray) s :: caps) R' [] λ u H' => u = .bool (p s) /\ H' = []) :
  Spec prog 232 [v, .func (.func f) #[] caps.toArray] R [] λ u H' => (∃ k : Int, u = .int .i64 k /\ ((∃ (i : Nat) (x : RlM), l[i]? = some x /\ p x = true /\ (∀ j y, j < i -> l[j]? = some y -> p y = false) /\ k = i) \/ ((∀ y ∈ l, p y = false) /\ k = -1))) /\ H' = [] := by
 have hle := h.le
 refine Spec.body Tryz.func232 rfl Tryz.results232 Tryz.ntmps232 rfl<|.sr<|.ag rfl<|.zs<|.sr<|.mo rfl<|.q (.lenR h)<|.mo rfl<|.zn<|.block<|.loop (X := Nat) (λ i => i <= l.length /\ ∀ j z, j < i -> l[j]? = some z -> p z = false) (λ i => [(0, v), (1, .func (.func f) #[] caps.toArray), (7, .int .i64 l.length), (8, iN i)]) (λ _ => []) (λ i => l.length - i) 0 ⟨by omega, by omega⟩ kE.c.c.c.c rH ?_
 rintro i ⟨hi, hn⟩
 refine .sr<|.q .lss<|.zs<|.cond rfl (λ h1 => ?_) λ h1 => ?_
 have hlt : i < l.length := by simp at h1; omega
 obtain ⟨z, hz⟩ := exg hlt
 have hzm := mog hz
 have hzo := (⟨h.one z hzm⟩ : Ones (RlM.enc z))
 refine .kn<|.seq<|.block<|.sr<|.mo rfl<|.ag rfl<|.z<|.mo rfl<|.mo rfl<|.mo rfl ?_
 refine .indexR i h hz (λ pz => ?_)
 refine .q (.loadA rfl)<|.callRV (first := []) (captured := caps) (vs := [(λ t : RlM => Value.agg t.enc.toArray) z]) (hf z hzm _ λ b o hb => .inl hb) (λ u hu => ?_)
 subst hu
 refine .zn<|.cond rfl (λ h2 => ?_) λ h2 => ?_
 refine .sr<|.mo rfl<|.az rfl<|.ret (blkQ_r (seqQ_r (loopQ_r (blkQ_r (seqQ_r (rq1 rfl ?_))))))
 ·exact ⟨⟨_, rfl, .inl ⟨i, z, hz, h2, hn, rfl⟩⟩, rfl⟩
 refine .skip<|blkQ_n<|seqQ_n<|.region<|.q (.inc (n := i) (by omega))<|.mo rfl<|.nil ?_
 ·exact loopQ_i (i + 1) ⟨by omega, λ j y hj hy => by
   rcases Nat.lt_or_ge j i with hh | hh
   ·exact hn j y hh hy
   ·obtain rfl : j = i := by omega
    rw [hz] at hy; cases hy; exact h2⟩ (by omega) kE.c.c.c.c rH
 refine .exit<|seqQ_x<|loopQ_x<|blkQ_x<|seqQ_n<|.sr<|.az rfl<|.ret (rq1 rfl ?_)
 ·have he : i = l.length := by simp at h1; omega
  subst he
  refine ⟨⟨_, rfl, .inr ⟨λ y hy => ?_, rfl⟩⟩, rfl⟩
  obtain ⟨j, hj, rfl⟩ := List.mem_iff_getElem.1 hy
  exact hn j _ hj (gge hj)
theorem containsF_spec (f : FuncId) (caps : List Value) [e : Ent prog f] (p : RlM -> Bool) (v : Value) (l : List RlM) (R : Rds) (h : RS R 3 RlM.enc v l) (hf : ∀ s ∈ l, ∀ R', (∀ b o, R b o -> R' b o) -> Spec prog f ((λ t : RlM => Value.agg t.enc.toArray) s :: caps) R' [] λ u H' => u = .bool (p s) /\ H' = []) :
  Spec prog 180 [v, .func (.func f) #[] caps.toArray] R [] λ u H' => u = .bool (l.any p) /\ H' = [] := by
 refine Spec.body Tryz.func180 rfl Tryz.results180 Tryz.ntmps180 rfl<|.sr<|.ag rfl<|.z<|.mo rfl<|.mo rfl<|.callR (indexF_spec f caps p v l _ h.rx λ s hs R' hR => hf s hs R' λ b o hb => hR b o (.inl hb)) (λ u hu => ?_)
 obtain ⟨k, rfl, hk⟩ := hu
 have hkk : decide (0 <= k) = l.any p := by
  rcases hk with ⟨i, x, h1, h2, _, rfl⟩ | ⟨h1, rfl⟩
  ·rw [List.any_eq_true.2 ⟨x, mog h1, h2⟩]; simp
  ·rw [List.any_eq_false.2 λ y hy => by rw [h1 y hy]; simp]; rfl
 refine .q .geq<|.az rfl<|.ret (rq1 rfl ?_)
 ·exact ⟨by simp only [hkk], rfl⟩
end LRE
namespace LND
theorem clone_spec (v : Value) (xs : List Nd) (R : Rds) (h : RS R 5 Nd.enc v xs) (hl : xs.length <= 1000000) :
  Spec prog 161 [v] R [] λ v' H' => ∃ T, H' = [T] /\ OS 168 5 Nd.enc v' xs T := by
 obtain ⟨pr, cap, rfl⟩ := h.val
 have hx : ∀ H, RS (Rx R H) 5 Nd.enc (.slice pr xs.length cap) xs := λ H => h.rx
 refine Spec.segs (H' := [[]]) (by simp)<|Spec.body Tryz.func161 rfl Tryz.results161 Tryz.ntmps161 rfl<|.sr<|.ag rfl<|.zs<|.sr<|.mo rfl<|.q (.eqNilS rfl rfl)<|.zn<|.cond rfl (λ h1 => ?_) λ h1 => ?_
 refine .sr<|.az rfl<|.ret (seqQ_r (retQ_r _ (.one (.tmp rfl)) (.one [0] _) ?_))
 ·obtain rfl : pr = none := by simpa using h1
  have := h.none_nil
  subst this
  exact ⟨[], rfl, OS.nil⟩
 refine .kn<|.sr ?_
 refine .buildSlice0 (λ b5 => ?_)
 refine .mo rfl ?_
 refine .append (OS.empty (enc := Nd.enc) (sz := 5)) (hx _) (by simp; omega) (λ v' T' h3 => ?_)
 refine .az rfl<|.ret (retQ_r _ (.one (.tmp rfl)) (.one [0] _) ?_)
 ·exact ⟨T', by simp [take], by simpa using h3⟩
end LND
section
variable {c : Cf} {num : List Nat} {sub : Obr -> List Sub} {k : Obr}
theorem AtEnd.ex {B : Nat} (h : ∀ i, (opened c num sub k i).1.length <= B) : ∃ N, AtEnd c num sub k N := by
 have key : ∀ m, (∃ N, N <= m /\ AtEnd c num sub k N) \/ ∀ j, j <= m -> j < (opened c num sub k j).1.length := by
  intro m
  induction m with
  | zero =>
   refine .inr λ j hj => ?_
   obtain rfl : j = 0 := by omega
   simp [opened]
  | succ m ih =>
   rcases ih with ⟨N, h1, h2⟩ | ih
   ·exact .inl ⟨N, by omega, h2⟩
   ·by_cases h1 : m + 1 < (opened c num sub k (m + 1)).1.length
    ·exact .inr λ j hj => by
      rcases Nat.lt_or_ge j (m + 1) with h2 | h2
      ·exact ih j (by omega)
      ·obtain rfl : j = m + 1 := by omega
       exact h1
    ·exact .inl ⟨m + 1, Nat.le_refl _, by omega, λ j hj => ih j (by omega)⟩
 rcases key (B + 1) with ⟨N, _, h1⟩ | h1
 ·exact ⟨N, h1⟩
 ·have := h1 (B + 1) (Nat.le_refl _)
  have := h (B + 1)
  omega
def disc (c : Cf) (num : List Nat) (sub : Obr -> List Sub) (k : Obr) (b : Int) (can : Bool) (N : Nat) : List Plc × Nat × Int :=
 if b < 1 then ([], 0, 2) else if can = false then ([], 0, 12)
 else if (((opened c num sub k N).1.length + (opened c num sub k N).2 : Nat) : Int) <= b then ((opened c num sub k N).1, (opened c num sub k N).2, 0) else ([], 0, 16)
theorem fresh_grown {P : Obr -> Prop} {a b : List Plc} (h : Grown c num P a b) {i : Nat} (ha : ∀ j p, i <= j -> a[j]? = some p -> p = one c num p.k) : ∀ j p, i <= j -> b[j]? = some p -> p = one c num p.k := by
 obtain ⟨⟨l, rfl, hl⟩, _⟩ := h
 intro j p hj hp
 rcases Nat.lt_or_ge j a.length with h1 | h1
 ·rw [List.getElem?_append_left h1] at hp
  exact ha j p hj hp
 ·rw [List.getElem?_append_right h1] at hp
  exact (hl p (mog hp)).2
theorem opened_fresh : ∀ (i : Nat) (j : Nat) (p : Plc), i <= j -> (opened c num sub k i).1[j]? = some p -> p = one c num p.k
 | 0, j, p, _, hp => by
  have := mog hp
  simp only [opened, List.mem_singleton] at this
  subst this
  rw [one_k]
 | i + 1, j, p, hj, hp => by
  have ih := λ j p hj hp => opened_fresh i j p hj hp
  change (openP c num sub (opened c num sub k i).1 i).1[j]? = some p at hp
  unfold openP at hp
  split at hp
  ·exact ih j p (by omega) hp
  ·rw [List.getElem?_set_ne (by omega)] at hp
   exact fresh_grown (addNs_grown _ _ _) ih j p (by omega) hp
theorem openP_nf {ps : List Plc} {i : Nat} {p : Plc} (hp : ps[i]? = some p) (h1 : p = one c num p.k) (hf : p.found = false) : openP c num sub ps i = (ps, 0) := by
 have hn : p.nodes = [] := by rw [h1]; exact one_nf (by rw [<- h1]; exact hf)
 have hu : p.users = [] /\ p.leads = [] := by
  rw [h1]
  unfold one
  split <;> exact ⟨rfl, rfl⟩
 obtain ⟨u1, u2⟩ := hu
 obtain ⟨k, f, n, m, u, l⟩ := p
 simp only at u1 u2 hn hf
 subst u1 u2 hn hf
 unfold openP
 rw [hp]
 simp only [addNs, Bool.false_eq_true, if_false]
 refine Prod.ext ?_ rfl
 refine List.ext_getElem? λ j => ?_
 rw [List.getElem?_set]
 split
 ·rename_i e; subst e
  have := (List.getElem?_eq_some_iff.1 hp).1
  rw [if_pos this, hp]
 ·rfl
theorem addKs_snoc : ∀ (ks : List Obr) (ps : List Plc) (x : Obr), addKs c num ps (ks ++ [x]) = ((addK c num (addKs c num ps ks).1 x).1, (addKs c num ps ks).2 ++ [(addK c num (addKs c num ps ks).1 x).2])
 | [], ps, x => rfl
 | y :: ks, ps, x => by
  rw [List.cons_append, addKs, addKs_snoc ks _ x]
  rfl
theorem addNs_snoc (y : Obr) : ∀ (ns : List Nd) (ps : List Plc) (n : Nd), addNs c num sub y ps (ns ++ [n]) = ((addKs c num (addNs c num sub y ps ns).1 (aheadK c sub y n)).1, (addNs c num sub y ps ns).2 ++ [(addKs c num (addNs c num sub y ps ns).1 (aheadK c sub y n)).2])
 | [], ps, n => rfl
 | m :: ns, ps, n => by
  rw [List.cons_append, addNs, addNs_snoc y ns _ n]
  rfl
theorem addKs_take {ks : List Obr} {i : Nat} {x : Obr} (h : ks[i]? = some x) (ps : List Plc) : addKs c num ps (ks.take (i + 1)) = ((addK c num (addKs c num ps (ks.take i)).1 x).1, (addKs c num ps (ks.take i)).2 ++ [(addK c num (addKs c num ps (ks.take i)).1 x).2]) := by
 rw [show ks.take (i + 1) = ks.take i ++ [x] by rw [List.take_add_one, h]; rfl, addKs_snoc]
theorem addNs_take {ns : List Nd} {i : Nat} {n : Nd} (h : ns[i]? = some n) (y : Obr) (ps : List Plc) : addNs c num sub y ps (ns.take (i + 1)) = ((addKs c num (addNs c num sub y ps (ns.take i)).1 (aheadK c sub y n)).1, (addNs c num sub y ps (ns.take i)).2 ++ [(addKs c num (addNs c num sub y ps (ns.take i)).1 (aheadK c sub y n)).2]) := by
 rw [show ns.take (i + 1) = ns.take i ++ [n] by rw [List.take_add_one, h]; rfl, addNs_snoc]
theorem addKs_app : ∀ (a b : List Obr) (ps : List Plc), (addKs c num ps (a ++ b)).1 = (addKs c num (addKs c num ps a).1 b).1
 | [], b, ps => rfl
 | x :: a, b, ps => by rw [List.cons_append, addKs, addKs]; exact addKs_app a b _
theorem addNs_app (y : Obr) : ∀ (a b : List Nd) (ps : List Plc), (addNs c num sub y ps (a ++ b)).1 = (addNs c num sub y (addNs c num sub y ps a).1 b).1
 | [], b, ps => rfl
 | x :: a, b, ps => by rw [List.cons_append, addNs, addNs]; exact addNs_app y a b _
theorem addKs_le (ks : List Obr) (i : Nat) (ps : List Plc) : (addKs c num ps (ks.take i)).1.length <= (addKs c num ps ks).1.length := by
 have h := addKs_app (c := c) (num := num) (ks.take i) (ks.drop i) ps
 rw [List.take_append_drop] at h
 rw [h]
 exact (addKs_grown _ _).len
theorem addNs_le (y : Obr) (ns : List Nd) (i : Nat) (ps : List Plc) : (addNs c num sub y ps (ns.take i)).1.length <= (addNs c num sub y ps ns).1.length := by
 have h := addNs_app (c := c) (num := num) (sub := sub) y (ns.take i) (ns.drop i) ps
 rw [List.take_append_drop] at h
 rw [h]
 exact (addNs_grown _ _ _).len
theorem addKs_ge (ks : List Obr) (ps : List Plc) : ps.length <= (addKs c num ps ks).1.length := (addKs_grown _ _).len
theorem addNs_ge (y : Obr) (ns : List Nd) (ps : List Plc) : ps.length <= (addNs c num sub y ps ns).1.length := (addNs_grown _ _ _).len
def seenL (a : List Nat) (l : List Nat) : List Nat := l.foldl (λ a x => if x ∈ a then a else a ++ [x]) a
theorem seenL_app (a l m : List Nat) : seenL a (l ++ m) = seenL (seenL a l) m := List.foldl_append
theorem seenL_one (a : List Nat) (x : Nat) : seenL a [x] = if x ∈ a then a else a ++ [x] := rfl
theorem seenL_take {l : List Nat} {i x : Nat} (h : l[i]? = some x) (a : List Nat) : seenL a (l.take (i + 1)) = if x ∈ seenL a (l.take i) then seenL a (l.take i) else seenL a (l.take i) ++ [x] := by
 rw [show l.take (i + 1) = l.take i ++ [x] by rw [List.take_add_one, h]; rfl, seenL_app, seenL_one]
theorem openP_eq {ps : List Plc} {i : Nat} {p : Plc} (hp : ps[i]? = some p) : openP c num sub ps i = ((addNs c num sub p.k ps p.nodes).1.set i { p with users := if p.found then usersOf c sub p.k else [], leads := (addNs c num sub p.k ps p.nodes).2 }, ndiff (addNs c num sub p.k ps p.nodes).2.flatten) := by unfold openP; rw [hp]
theorem opened_succ (i : Nat) : opened c num sub k (i + 1) = ((openP c num sub (opened c num sub k i).1 i).1, (opened c num sub k i).2 + (openP c num sub (opened c num sub k i).1 i).2) := rfl
end
theorem mem_take_succ {α : Type} {l : List α} {i : Nat} {x : α} (h : l[i]? = some x) (y : α) : y ∈ l.take (i + 1) ↔ y ∈ l.take i \/ y = x := by
 rw [List.take_add_one, h]; simp
theorem sindex_spec (v : Value) (l : List ByteArray) (s : ByteArray) (R : Rds) (h : RS R 1 encS v l) :
  Spec prog 216 [v, .string s] R [] λ u H' => (∃ k : Int, u = .int .i64 k /\ (0 <= k ↔ s ∈ l)) /\ H' = [] := by
 have hle := h.le
 refine Spec.body Tryz.func216 rfl Tryz.results216 Tryz.ntmps216 rfl<|.sr<|.ag rfl<|.zs<|.sr<|.mo rfl<|.q (.lenR h)<|.mo rfl<|.zn<|.block<|.loop (X := Nat) (λ i => i <= l.length /\ s ∉ l.take i) (λ i => [(0, v), (1, .string s), (7, .int .i64 l.length), (8, iN i)]) (λ _ => []) (λ i => l.length - i) 0 ⟨by omega, by simp⟩ kE.c.c.c.c rH ?_
 rintro i ⟨hi, hn⟩
 refine .sr<|.q .lss<|.zs<|.cond rfl (λ h1 => ?_) λ h1 => ?_
 have hlt : i < l.length := by simp at h1; omega
 obtain ⟨z, hz⟩ := exg hlt
 refine .kn<|.seq<|.block<|.sr<|.mo rfl<|.ag rfl<|.z<|.mo rfl<|.mo rfl<|.mo rfl ?_
 refine .indexR i h hz (λ pz => ?_)
 refine .lo rfl<|.q .eqS<|.zn<|.cond rfl (λ h2 => ?_) λ h2 => ?_
 refine .sr<|.mo rfl<|.az rfl<|.ret (blkQ_r (seqQ_r (loopQ_r (blkQ_r (seqQ_r (rq1 rfl ?_))))))
 ·have he : s = z := by simpa using h2
  exact ⟨⟨_, rfl, by rw [he]; simp [mog hz]⟩, rfl⟩
 refine .skip<|blkQ_n<|seqQ_n<|.region<|.q (.inc (n := i) (by omega))<|.mo rfl<|.nil ?_
 ·exact loopQ_i (i + 1) ⟨by omega, by rw [mem_take_succ hz]; simp at h2; simp [hn, h2]⟩ (by omega) kE.c.c.c.c rH
 refine .exit<|seqQ_x<|loopQ_x<|blkQ_x<|seqQ_n<|.sr<|.az rfl<|.ret (rq1 rfl ?_)
 ·have he : i = l.length := by simp at h1; omega
  rw [he, List.take_length] at hn
  exact ⟨⟨_, rfl, by simp [hn]⟩, rfl⟩
theorem scontains_spec (v : Value) (l : List ByteArray) (s : ByteArray) (R : Rds) (h : RS R 1 encS v l) :
  Spec prog 170 [v, .string s] R [] λ u H' => u = .bool (decide (s ∈ l)) /\ H' = [] := by
 refine Spec.body Tryz.func170 rfl Tryz.results170 Tryz.ntmps170 rfl<|.sr<|.ag rfl<|.z<|.mo rfl<|.mo rfl<|.callR (sindex_spec v l s _ h.rx) (λ u hu => ?_)
 obtain ⟨k, rfl, hk⟩ := hu
 refine .q .geq<|.az rfl<|.ret (rq1 rfl ?_)
 ·exact ⟨by simp only [hk], rfl⟩
def DeadS (R : Rds) (p : Value) : Prop := p = .pointer none \/ ∃ q, p = pT q /\ R q (.cells [.bool false, .int .u64 0, .int .u64 0, .int .i64 0, .map none, .map none].toArray 89 (0, 0))
theorem DeadS.rx {R : Rds} {H : Segs} {p : Value} (h : DeadS R p) : DeadS (Rx R H) p := h.imp id λ ⟨q, h1, h2⟩ => ⟨q, h1, .inl h2⟩
theorem sdok_nil (R : Rds) : Spec prog 94 [.pointer none] R [] λ v H' => v = .bool false /\ H' = [] := by
 refine Spec.body Tryz.func94 rfl Tryz.results94 Tryz.ntmps94 rfl<|.sr<|.ag rfl<|.z<|.mo rfl<|.q (.neNilA rfl rfl)<|.mo rfl<|.gX<|.gX<|.gX<|.gX<|.q .pickF<|.az rfl<|.ret (rq1 rfl ?_)
 ·exact ⟨rfl, rfl⟩
theorem sdok_zero (q : Nat) (R : Rds) [pc : PC R (pT q) [.bool false, .int .u64 0, .int .u64 0, .int .i64 0, .map none, .map none]] : Spec prog 94 [pT q] R [] λ v H' => v = .bool false /\ H' = [] := by
 refine Spec.body Tryz.func94 rfl Tryz.results94 Tryz.ntmps94 rfl<|.sr<|.ag rfl<|.z<|.mo rfl<|.q (.neNilP rfl rfl)<|.mo rfl<|.gt rfl<|.mo rfl<|.gt rfl<|.nc rfl<|.gt rfl<|.fa rfl<|.gt rfl<|.lo rfl<|.q .pickT<|.az rfl<|.ret (rq1 rfl ?_)
 ·exact ⟨rfl, rfl⟩
theorem sdok_spec (p : Value) (R : Rds) (h : DeadS R p) : Spec prog 94 [p] R [] λ v H' => v = .bool false /\ H' = [] := by
 rcases h with rfl | ⟨q, rfl, hq⟩
 ·exact sdok_nil R
 ·have pc := PC.of hq
  exact sdok_zero q R
theorem sdRead_spec (p : Value) (f : Tpl) (r : Int) (R : Rds) (h : DeadS R p) : Spec prog 92 [p, .agg f.enc.toArray, .int .u64 r] R [] λ v H' => v = .tuple [sZ, .int .i64 1].toArray /\ H' = [] := by
 refine Spec.body Tryz.func92 rfl Tryz.results92 Tryz.ntmps92 rfl<|.sr ?_
 refine .boxA rfl (λ b4 => ?_)
 refine .ag rfl<|.ag rfl<|.zs<|.block<|.sr<|.mo rfl<|.callR (sdok_spec p _ h.rx) (λ v hv => ?_)
 subst hv
 refine .q .not<|.az rfl<|.condT<|.sr<|.ag rfl<|.az rfl<|.ret (blkQ_r (seqQ_r (retQ_r _ (.two (.tmp rfl) (.tmp rfl)) (.none _) ?_)))
 ·exact ⟨rfl, rfl⟩
theorem SOK.new0 : SOK ⟨[], 0, 0⟩ := ⟨by simp, by simp, by simp, by simp, by simp, by simp⟩
end Go.Proofs.YtenilfmlfldogaaGreat
