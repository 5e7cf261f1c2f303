/- A store that is read: its parts; whether it is one, its head, what can be read, which row makes a tuple be there. No condition. -/
import Derived.Test.YtkepgbimlolemaaStoB
import Derived.Test.YtkepgbimlolemaaTplB
import Derived.Test.YtkepgbimlolemaaMot7
import Derived.Test.YtkepgbimlolemaaLRP
set_option linter.unusedVariables false
set_option linter.unusedSimpArgs false
set_option maxRecDepth 4000
namespace Go.Proofs.Ytkepgbimlolemaa
instance Obr.keyP : KeyT Try.prog 123 (fun k : Obr => .agg k.enc.toArray) := KeyT.agg fQ123 Try.underlying123 rfl Obr.kinds Obr.eq
instance Sub.keyP : KeyT Try.prog 86 (fun k : Sub => .agg k.enc.toArray) := KeyT.agg fQ86 Try.underlying86 rfl Sub.kinds Sub.eq
instance Tpl.keyP : KeyT Try.prog 88 (fun k : Tpl => .agg k.enc.toArray) := KeyT.agg fQ88 Try.underlying88 rfl Tpl.kinds Tpl.eq
def frows {κ : Type} [DecidableEq κ] (key : SRow → κ) (k : κ) (ps : List RB) : List RB := ps.filter fun x => decide (key x.2 = k)
theorem ids_frows {κ : Type} [DecidableEq κ] {key : SRow → κ} {k : κ} {ps : List RB} : ids key k ps = (frows key k ps).map (·.1) := rfl
theorem MFx.look {κ : Type} [DecidableEq κ] {encK : κ → Value} {key : SRow → κ} {ps : List RB} {vm : Value} {M : List (κ × (Value × Seg))} {Tm Ts : Seg} {R : Rds} (h : MFx encK key ps vm M Tm Ts) (hR : ∀ p ∈ Ts, R p.1 p.2) (k : κ) : ∃ p c, ((mget k M).map fun p : Value × Seg => p.1).getD (.slice none 0 0) = .slice p (ids key k ps).length c ∧ RS R 1 encPt (.slice p (ids key k ps).length c) (ids key k ps) := by
  obtain ⟨v, Tk, Tr, h1, h2, h3, _⟩ := h.get k
  have h4 : RS R 1 encPt v (ids key k ps) := h2.rs fun p hp => hR p (h3.mem_iff.2 (List.mem_append_left _ hp))
  obtain ⟨p, c, e⟩ := h4.val
  subst e
  exact ⟨p, c, h1, h4⟩
/-- A store that is seen. -/
structure SV (R : Rds) (g : Nat) (S : Sto) (ps : List RB) (vf vr : Value) (Mf : List (Obr × (Value × Seg))) (Mr : List (Sub × (Value × Seg))) : Prop where
  pc : PC R (.pointer (some ⟨g, 0, none⟩)) [.bool true, .int .u64 S.head, .int .u64 S.hor, .int .i64 (ps.length : Nat), vf, vr]
  of : One vf
  or : One vr
  mf : RM R (fun k : Obr => .agg k.enc.toArray) (fun p : Value × Seg => p.1) vf Mf
  mr : RM R (fun k : Sub => .agg k.enc.toArray) (fun p : Value × Seg => p.1) vr Mr
  lf : ∀ k, ∃ p c, ((mget k Mf).map fun p : Value × Seg => p.1).getD (.slice none 0 0) = .slice p (ids (fun x => x.t.obr) k ps).length c ∧ RS R 1 encPt (.slice p (ids (fun x => x.t.obr) k ps).length c) (ids (fun x => x.t.obr) k ps)
  lr : ∀ k, ∃ p c, ((mget k Mr).map fun p : Value × Seg => p.1).getD (.slice none 0 0) = .slice p (ids (fun x => x.t.sub) k ps).length c ∧ RS R 1 encPt (.slice p (ids (fun x => x.t.sub) k ps).length c) (ids (fun x => x.t.sub) k ps)
  af : ∀ x ∈ ps, x.2.t.obr ∈ Mf.map (·.1)
  nf : (Mf.map (·.1)).Nodup
  pr : ∀ p ∈ ps, PC R (.pointer (some ⟨p.1, 0, none⟩)) p.2.enc
  eq : ps.map (·.2) = S.rows
theorem SV.mono {R R' : Rds} {g : Nat} {S : Sto} {ps : List RB} {vf vr : Value} {Mf : List (Obr × (Value × Seg))} {Mr : List (Sub × (Value × Seg))} (h : SV R g S ps vf vr Mf Mr) (hR : ∀ b o, R b o → R' b o) : SV R' g S ps vf vr Mf Mr := by
  refine ⟨h.pc.mono hR, h.of, h.or, ?_, ?_, fun k => ?_, fun k => ?_, h.af, h.nf, fun p hp => (h.pr p hp).mono hR, h.eq⟩
  · obtain ⟨b, es, c, h1, h2, h3⟩ := h.mf
    exact ⟨b, es, c, h1, hR _ _ h2, h3⟩
  · obtain ⟨b, es, c, h1, h2, h3⟩ := h.mr
    exact ⟨b, es, c, h1, hR _ _ h2, h3⟩
  · obtain ⟨p, c, h1, h2⟩ := h.lf k
    exact ⟨p, c, h1, h2.mono hR⟩
  · obtain ⟨p, c, h1, h2⟩ := h.lr k
    exact ⟨p, c, h1, h2.mono hR⟩
theorem SI.view {g : Nat} {S : Sto} {T : Seg} {R : Rds} (h : SI g S T) (hR : ∀ p ∈ T, R p.1 p.2) : ∃ ps vf vr Mf Mr, SV R g S ps vf vr Mf Mr := by
  obtain ⟨ps, vf, vr, Mf, Mr, Tf, Tr, Sf, Sr, rfl, h1, h2, h3⟩ := h
  refine ⟨ps, vf, vr, Mf, Mr, ⟨PC.of (E := 98) (fr := (0, 0)) (hR (g, _) (by simp)), h1.ms.one, h2.ms.one, h1.ms.rm fun p hp => hR p (by simp [hp]), h2.ms.rm fun p hp => hR p (by simp [hp]), fun k => h1.look (fun p hp => hR p (by simp [hp])) k, fun k => h2.look (fun p hp => hR p (by simp [hp])) k, h1.al, h1.ms.nd, fun p hp => ?_, h3⟩⟩
  exact PC.of (E := 132) (fr := (0, 0)) (hR (p.1, rowObj p.2) (by
    have : (p.1, rowObj p.2) ∈ rowSeg ps := List.mem_map.2 ⟨p, hp, rfl⟩
    simp [this]))
theorem sok_spec (g : Nat) (R : Rds) (c1 c2 c3 c4 c5 : Value) [i1 : One c1] [i2 : One c2] [i3 : One c3] [i4 : One c4] [i5 : One c5] [pc : PC R (.pointer (some ⟨g, 0, none⟩)) [.bool true, c1, c2, c3, c4, c5]] : Spec Try.prog 66 [.pointer (some ⟨g, 0, none⟩)] R [] fun v H' => v = .bool true ∧ H' = [] := by
  refine Spec.body Try.func66 rfl Try.results66 Try.ntmps66 rfl ?_
  refine .seq ?_
  refine .region ?_
  refine TriOps.q .assign ?_
  refine .nil ?_
  refine seqQ_n ?_
  refine .seq ?_
  refine .region ?_
  refine TriOps.q .move ?_
  refine TriOps.q (.neNilP rfl rfl) ?_
  refine TriOps.q .move ?_
  refine TriOps.gt rfl ?_
  refine TriOps.q .move ?_
  refine TriOps.gt rfl ?_
  refine TriOps.q (.nilCheck rfl) ?_
  refine TriOps.gt rfl ?_
  refine TriOps.q (.fieldAddr rfl) ?_
  refine TriOps.gt rfl ?_
  refine TriOps.q (.load1 rfl) ?_
  refine TriOps.q .pickT ?_
  refine TriOps.q .assign ?_
  refine .nil ?_
  refine seqQ_n ?_
  refine .ret (retQ_r _ (.one (.tmp rfl)) (.none _) ?_)
  exact ⟨rfl, rfl⟩
section
variable {R : Rds} {g : Nat} {S : Sto} {ps : List RB} {vf vr : Value} {Mf : List (Obr × (Value × Seg))} {Mr : List (Sub × (Value × Seg))}
theorem SV.ok (h : SV R g S ps vf vr Mf Mr) : Spec Try.prog 66 [.pointer (some ⟨g, 0, none⟩)] R [] fun v H' => v = .bool true ∧ H' = [] := by
  have := h.pc
  have := h.of
  have := h.or
  exact sok_spec g R _ _ _ _ _
theorem SV.head (h : SV R g S ps vf vr Mf Mr) : Spec Try.prog 36 [.pointer (some ⟨g, 0, none⟩)] R [] fun v H' => v = .int .u64 S.head ∧ H' = [] := by
  have pc := h.pc
  refine Spec.body Try.func36 rfl Try.results36 Try.ntmps36 rfl ?_
  refine .seq ?_
  refine .region ?_
  refine TriOps.q .assign ?_
  refine .nil ?_
  refine seqQ_n ?_
  refine .seq ?_
  refine .seq ?_
  refine .region ?_
  refine TriOps.q .move ?_
  refine TriOps.callR (h.mono fun b o hb => .inl hb).ok (fun v hv => ?_)
  subst hv
  refine TriOps.q .not ?_
  refine .nil ?_
  refine seqQ_n ?_
  refine .condF ?_
  refine .skip ?_
  refine seqQ_n ?_
  refine .seq ?_
  refine .region ?_
  refine TriOps.q .move ?_
  refine TriOps.q (.nilCheck rfl) ?_
  refine TriOps.q (.fieldAddr rfl) ?_
  refine TriOps.q (.load1 rfl) ?_
  refine TriOps.q .assign ?_
  refine .nil ?_
  refine seqQ_n ?_
  refine .ret (retQ_r _ (.one (.tmp rfl)) (.none _) ?_)
  exact ⟨rfl, rfl⟩
theorem SV.horizon (h : SV R g S ps vf vr Mf Mr) : Spec Try.prog 42 [.pointer (some ⟨g, 0, none⟩)] R [] fun v H' => v = .int .u64 S.hor ∧ H' = [] := by
  have pc := h.pc
  refine Spec.body Try.func42 rfl Try.results42 Try.ntmps42 rfl ?_
  refine .seq ?_
  refine .region ?_
  refine TriOps.q .assign ?_
  refine .nil ?_
  refine seqQ_n ?_
  refine .seq ?_
  refine .seq ?_
  refine .region ?_
  refine TriOps.q .move ?_
  refine TriOps.callR (h.mono fun b o hb => .inl hb).ok (fun v hv => ?_)
  subst hv
  refine TriOps.q .not ?_
  refine .nil ?_
  refine seqQ_n ?_
  refine .condF ?_
  refine .skip ?_
  refine seqQ_n ?_
  refine .seq ?_
  refine .region ?_
  refine TriOps.q .move ?_
  refine TriOps.q (.nilCheck rfl) ?_
  refine TriOps.q (.fieldAddr rfl) ?_
  refine TriOps.q (.load1 rfl) ?_
  refine TriOps.q .assign ?_
  refine .nil ?_
  refine seqQ_n ?_
  refine .ret (retQ_r _ (.one (.tmp rfl)) (.none _) ?_)
  exact ⟨rfl, rfl⟩
theorem SV.can (h : SV R g S ps vf vr Mf Mr) (r : Int) : Spec Try.prog 67 [.pointer (some ⟨g, 0, none⟩), .int .u64 r] R [] fun v H' => v = .bool (scan S r) ∧ H' = [] := by
  have pc := h.pc
  refine Spec.body Try.func67 rfl Try.results67 Try.ntmps67 rfl ?_
  refine .seq ?_
  refine .region ?_
  refine TriOps.q .assign ?_
  refine .nil ?_
  refine seqQ_n ?_
  refine .seq ?_
  refine .region ?_
  refine TriOps.q .move ?_
  refine TriOps.callR (h.mono fun b o hb => .inl hb).ok (fun v hv => ?_)
  subst hv
  refine TriOps.q .move ?_
  refine TriOps.split (t := 7) rfl (fun g1_2 => ?_) (fun g1_2 => ?_)
  · skip
    refine TriOps.gT g1_2 ?_
    refine TriOps.q .move ?_
    refine TriOps.gT g1_2 ?_
    refine TriOps.q .move ?_
    refine TriOps.gT g1_2 ?_
    refine TriOps.q (.nilCheck rfl) ?_
    refine TriOps.gT g1_2 ?_
    refine TriOps.q (.fieldAddr rfl) ?_
    refine TriOps.gT g1_2 ?_
    refine TriOps.q (.load1 rfl) ?_
    refine TriOps.gT g1_2 ?_
    refine TriOps.q .geq ?_
    refine TriOps.q (.pickTh g1_2) ?_
    refine TriOps.q .move ?_
    refine TriOps.split (t := 15) rfl (fun g1_10 => ?_) (fun g1_10 => ?_)
    · skip
      refine TriOps.gT g1_10 ?_
      refine TriOps.q .move ?_
      refine TriOps.gT g1_10 ?_
      refine TriOps.q .move ?_
      refine TriOps.gT g1_10 ?_
      refine TriOps.q (.nilCheck rfl) ?_
      refine TriOps.gT g1_10 ?_
      refine TriOps.q (.fieldAddr rfl) ?_
      refine TriOps.gT g1_10 ?_
      refine TriOps.q (.load1 rfl) ?_
      refine TriOps.gT g1_10 ?_
      refine TriOps.q .leq ?_
      refine TriOps.q (.pickTh g1_10) ?_
      refine TriOps.q .assign ?_
      refine .nil ?_
      refine seqQ_n ?_
      refine .ret (retQ_r _ (.one (.tmp rfl)) (.none _) ?_)
      refine ⟨congrArg _ ?_, rfl⟩
      unfold scan
      simp_all
      try omega
    · skip
      refine TriOps.gF g1_10 ?_
      refine TriOps.gF g1_10 ?_
      refine TriOps.gF g1_10 ?_
      refine TriOps.gF g1_10 ?_
      refine TriOps.gF g1_10 ?_
      refine TriOps.gF g1_10 ?_
      refine TriOps.q (.pickFh g1_10) ?_
      refine TriOps.q .assign ?_
      refine .nil ?_
      refine seqQ_n ?_
      refine .ret (retQ_r _ (.one (.tmp rfl)) (.none _) ?_)
      refine ⟨congrArg _ ?_, rfl⟩
      unfold scan
      simp_all
      try omega
  · skip
    refine TriOps.gF g1_2 ?_
    refine TriOps.gF g1_2 ?_
    refine TriOps.gF g1_2 ?_
    refine TriOps.gF g1_2 ?_
    refine TriOps.gF g1_2 ?_
    refine TriOps.gF g1_2 ?_
    refine TriOps.q (.pickFh g1_2) ?_
    refine TriOps.q .move ?_
    refine TriOps.gf rfl rfl ?_
    refine TriOps.gf rfl rfl ?_
    refine TriOps.gf rfl rfl ?_
    refine TriOps.gf rfl rfl ?_
    refine TriOps.gf rfl rfl ?_
    refine TriOps.gf rfl rfl ?_
    refine TriOps.q .pickF ?_
    refine TriOps.q .assign ?_
    refine .nil ?_
    refine seqQ_n ?_
    refine .ret (retQ_r _ (.one (.tmp rfl)) (.none _) ?_)
    refine ⟨congrArg _ ?_, rfl⟩
    unfold scan
    simp_all
    try omega
end
theorem there_spec (x : SRow) (r : Int) (R : Rds) : Spec Try.prog 83 [.agg x.enc.toArray, .int .u64 r] R [] fun v H' => v = .bool (x.there r) ∧ H' = [] := by
  obtain ⟨⟨a1, a2, a3, a4, a5, a6, a7⟩, fr, to⟩ := x
  refine Spec.body Try.func83 rfl Try.results83 Try.ntmps83 rfl ?_
  refine .seq ?_
  refine .region ?_
  refine TriOps.boxA rfl (fun b2 => ?_)
  refine TriOps.q .assign ?_
  refine .nil ?_
  refine seqQ_n ?_
  refine .seq ?_
  refine .region ?_
  refine TriOps.q (.fieldAddr rfl) ?_
  refine TriOps.q (.load1 rfl) ?_
  refine TriOps.q .move ?_
  refine TriOps.q .leq ?_
  refine TriOps.q .move ?_
  refine TriOps.split (t := 9) rfl (fun g1_4 => ?_) (fun g1_4 => ?_)
  · skip
    refine TriOps.gT g1_4 ?_
    refine TriOps.q (.fieldAddr rfl) ?_
    refine TriOps.gT g1_4 ?_
    refine TriOps.q (.load1 rfl) ?_
    refine TriOps.gT g1_4 ?_
    refine TriOps.q .eqI ?_
    refine TriOps.gT g1_4 ?_
    refine TriOps.q .move ?_
    refine TriOps.split (t := 13) rfl (fun g1_8 => ?_) (fun g1_8 => ?_)
    · skip
      refine TriOps.gF g1_8 ?_
      refine TriOps.gF g1_8 ?_
      refine TriOps.gF g1_8 ?_
      refine TriOps.gF g1_8 ?_
      refine TriOps.gT g1_4 ?_
      refine TriOps.q (.pickTh g1_8) ?_
      refine TriOps.q (.pickTh g1_4) ?_
      refine TriOps.q .assign ?_
      refine .nil ?_
      refine seqQ_n ?_
      refine .ret (retQ_r _ (.one (.tmp rfl)) (.none _) ?_)
      refine ⟨congrArg _ ?_, rfl⟩
      unfold SRow.there
      simp_all
      try omega
    · skip
      refine TriOps.gT g1_8 ?_
      refine TriOps.q (.fieldAddr rfl) ?_
      refine TriOps.gT g1_8 ?_
      refine TriOps.q (.load1 rfl) ?_
      refine TriOps.gT g1_8 ?_
      refine TriOps.q .move ?_
      refine TriOps.gT g1_8 ?_
      refine TriOps.q .gtr ?_
      refine TriOps.gT g1_4 ?_
      refine TriOps.q (.pickFh g1_8) ?_
      refine TriOps.q (.pickTh g1_4) ?_
      refine TriOps.q .assign ?_
      refine .nil ?_
      refine seqQ_n ?_
      refine .ret (retQ_r _ (.one (.tmp rfl)) (.none _) ?_)
      refine ⟨congrArg _ ?_, rfl⟩
      unfold SRow.there
      simp_all
      try omega
  · skip
    refine TriOps.gF g1_4 ?_
    refine TriOps.gF g1_4 ?_
    refine TriOps.gF g1_4 ?_
    refine TriOps.gF g1_4 ?_
    refine TriOps.gfU rfl ?_
    refine TriOps.gfU rfl ?_
    refine TriOps.gfU rfl ?_
    refine TriOps.gfU rfl ?_
    refine TriOps.gF g1_4 ?_
    refine TriOps.q (.pickFh g1_4) ?_
    refine TriOps.q .assign ?_
    refine .nil ?_
    refine seqQ_n ?_
    refine .ret (retQ_r _ (.one (.tmp rfl)) (.none _) ?_)
    refine ⟨congrArg _ ?_, rfl⟩
    unfold SRow.there
    simp_all
    try omega
theorem of_spec (t : Tpl) (R : Rds) : Spec Try.prog 81 [.agg t.enc.toArray] R [] fun v H' => v = .agg t.obr.enc.toArray ∧ H' = [] := by
  obtain ⟨a1, a2, a3, a4, a5, a6, a7⟩ := t
  refine Spec.body Try.func81 rfl Try.results81 Try.ntmps81 rfl ?_
  refine .seq ?_
  refine .region ?_
  refine TriOps.boxA rfl (fun b1 => ?_)
  refine TriOps.allocA (fun b2 => ?_)
  refine .nil ?_
  refine seqQ_n ?_
  refine .seq ?_
  refine .region ?_
  refine TriOps.q (.fieldAddr rfl) ?_
  refine TriOps.q (.loadT rfl) ?_
  refine TriOps.q (.fieldAddr rfl) ?_
  refine TriOps.q (.load1 rfl) ?_
  refine TriOps.q .bld ?_
  refine TriOps.storeA rfl rfl ?_
  refine .nil ?_
  refine seqQ_n ?_
  refine .ret (retQ_r _ (.one (.cellA rfl rfl)) (.none _) ?_)
  exact ⟨rfl, rfl⟩
theorem snew_spec (R : Rds) : Spec Try.prog 65 [] R [] fun v H' => ∃ T, H' = [T] ∧ ∃ g, v = .pointer (some ⟨g, 0, none⟩) ∧ SI g ⟨[], 0, 0⟩ T := by
  refine Spec.body Try.func65 rfl Try.results65 Try.ntmps65 rfl ?_
  refine .seq ?_
  refine .region ?_
  refine TriOps.q .assign ?_
  refine .nil ?_
  refine seqQ_n ?_
  refine .seq ?_
  refine .region ?_
  refine TriOps.makeMap (fun b1 => ?_)
  refine TriOps.makeMap (fun b2 => ?_)
  refine TriOps.q .bld ?_
  refine TriOps.boxA rfl (fun b4 => ?_)
  refine TriOps.q .assign ?_
  refine .nil ?_
  refine seqQ_n ?_
  refine .ret (retQ_r _ (.one (.tmp rfl)) ((HLe.pick [0, 1, 0] _).trans (HLe.ofPerm (H' := [(b4, .cells [.bool true, .int .u64 0, .int .u64 0, .int .i64 0, .map (some b1), .map (some b2)].toArray 98 (0, 0)) :: ([(b1, .map #[] 0)] ++ ([] ++ ([(b2, .map #[] 0)] ++ ([] ++ rowSeg []))))]) (by simp [take, dropAt, setL, rowSeg]))) ?_)
  exact ⟨_, rfl, b4, rfl, [], _, _, [], [], _, _, _, _, rfl, MFx.nil, MFx.nil, rfl⟩
end Go.Proofs.Ytkepgbimlolemaa
