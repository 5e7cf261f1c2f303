/- What the law 'ReachNobody' uses. No condition. -/
import Derived.Test.YtenilfmlfldogaaGreatKReachNobodyB
import Derived.Test.YtenilfmlfldogaaGreatKReachNobodyF
import Derived.Test.YtenilfmlfldogaaGreatKReachNobodyH
import Derived.Test.YtenilfmlfldogaaGreatKReachNobodyK
import Derived.Test.YtenilfmlfldogaaGreatKReachNobodyM
import Derived.Test.YtenilfmlfldogaaGreatKReachNobodyN
namespace Go.Proofs.YtenilfmlfldogaaGreat
open Tryz (prog)
set_option linter.unusedVariables false
set_option linter.unusedSimpArgs false
set_option maxRecDepth 4000
theorem typed_S {st : PSt} (h : ∀ t ∈ st.1, tokOK t) : pTyped isWord st = match pTake tColon st with
  | none => ([], st)
  | some s => ([(pKind isWord s).1], (pKind isWord s).2) := by
 unfold pTyped
 cases hh : pTake tColon st with
 | none => rfl
 | some s =>
  simp only
  rw [pTypes, tok_none (λ t ht => h t ((take_suf hh).1.mem ((kind_suf s).mem ht))) (by simp)]
theorem nodes_S {st : PSt} (h : ∀ t ∈ st.1, tokOK t) : pNodes isWord st = match pTake tEq st with
  | none => ([⟨1, ⟨#[]⟩, ⟨#[]⟩, 0, 0⟩], st)
  | some s => facS [] s := by
 unfold pNodes
 cases hh : pTake tEq st with
 | none => rfl
 | some s =>
  simp only
  rw [expr_facS (λ t ht => h t ((take_suf hh).1.mem ht))]
theorem must_fit {s : ByteArray} {st : PSt} (h : ∀ t ∈ st.1, tokOK t) : ∀ t ∈ (pMust s st).1, tokOK t := λ t ht => h t ((must_suf s st).mem ht)
theorem kind_fit {st : PSt} (h : ∀ t ∈ st.1, tokOK t) : (pKind isWord st).1.fits := by
 unfold pKind
 split
 ·exact ⟨Nat.zero_le _, Nat.zero_le _⟩
 ·exact ⟨pword_fit h, pword_fit (must_fit λ t ht => h t ((word_suf st).mem ht))⟩
theorem facS_fit {st : PSt} (h : ∀ t ∈ st.1, tokOK t) : ∀ x ∈ (facS [] st).1, x.fits := by
 unfold facS
 split
 ·intro x hx
  rw [List.nil_append, List.mem_singleton] at hx
  subst hx
  exact ⟨Nat.zero_le _, Nat.zero_le _⟩
 ·intro x hx
  rw [List.nil_append, List.mem_singleton] at hx
  subst hx
  exact ⟨pword_fit h, Nat.zero_le _⟩
section
variable {R : Rds}
theorem relation_spec (pb : Nat) (st : PSt) (T : Seg) (hI : PaI R pb st T) : Spec prog 229 [pT pb] R [T] λ u H' => ∃ T' Tn, H' = [T', Tn] /\ ∃ r : RlM, u = .agg r.enc.toArray /\ r.is (sg Tn) /\ r.r = (pRel isWord st).1 /\ PaI R pb (pRel isWord st).2 T' := by
 have hpr : pRel isWord st = (⟨(pWord isWord st).1, (pTyped isWord (pWord isWord st).2).1, (pNodes isWord (pTyped isWord (pWord isWord st).2).2).1⟩, pMust tSemi (pNodes isWord (pTyped isWord (pWord isWord st).2).2).2) := rfl
 have hwf := pword_fit (W := isWord) hI.ok
 have hok1 : ∀ t ∈ (pWord isWord st).2.1, tokOK t := λ t ht => hI.ok t ((word_suf st).mem ht)
 have hty := typed_S hok1
 have hok2 : ∀ t ∈ (pTyped isWord (pWord isWord st).2).2.1, tokOK t := λ t ht => hok1 t ((typed_suf _).mem ht)
 have hnd := nodes_S hok2
 rw [hpr]
 clear hpr
 obtain ⟨ws, hws⟩ : ∃ ws, ws = pWord isWord st := ⟨_, rfl⟩
 have hpw := pword_spec pb st T R hI
 rw [<- hws] at hwf hok1 hty hok2 hnd hpw ⊢
 clear hws
 obtain ⟨nm, s1⟩ := ws
 simp only at hwf hok1 hty hok2 hnd hpw ⊢
 obtain ⟨tt, htt⟩ : ∃ tt, tt = pTyped isWord s1 := ⟨_, rfl⟩
 rw [<- htt] at hty hok2 hnd ⊢
 clear htt
 obtain ⟨tys, s2⟩ := tt
 simp only at hok2 hnd ⊢
 obtain ⟨nn, hnn⟩ : ∃ nn, nn = pNodes isWord s2 := ⟨_, rfl⟩
 rw [<- hnn] at hnd ⊢
 clear hnn
 obtain ⟨nds, s3⟩ := nn
 simp only
 refine Spec.body Tryz.func229 rfl Tryz.results229 Tryz.ntmps229 rfl ?_
 refine .sr ?_
 refine .allocA (λ b2 => ?_)
 refine .z<|.mo rfl ?_
 refine .callM (R := R) hpw (λ u T1 hu => ?_)
 obtain ⟨rfl, hI1⟩ := hu
 refine .q .bld ?_
 refine .buildSlice1A (λ b7 => ?_)
 refine .q .bld ?_
 refine .allocA (λ b3 => ?_)
 refine .storeA rfl rfl<|.zs<|.sr<|.mo rfl ?_
 refine .callM (R := R) (take_spec pb s1 _ R hI1 tColon) (λ u T2 hu => ?_)
 obtain ⟨rfl, hI2⟩ := hu
 refine .zn ?_
 refine Tri.cutS [(0, _), (2, _), (3, _)] kE.c.c.c (X := Value × Seg × Seg) (λ y => OS 252 2 Ty.enc y.1 tys y.2.1 /\ PaI R pb s2 y.2.2 /\ ∀ t ∈ tys, t.fits) (λ _ E => E) (λ y => [y.2.2, y.2.1, bl b3 [.string nm, y.1, .slice (some ⟨b7, 0, none⟩) 1 1] 207, bl b7 (Nd.enc ⟨1, ⟨#[]⟩, ⟨#[]⟩, 0, 0⟩) 168, bl b2 [.string ⟨#[]⟩, sZ, sZ] 207]) ?_ ?_
 refine .cond rfl (λ h1 => ?_) λ h1 => ?_
 obtain ⟨s, hs⟩ := Option.isSome_iff_exists.1 h1
 rw [hs] at hI2 hty
 simp only [Option.getD_some, Prod.mk.injEq] at hI2 hty
 obtain ⟨rfl, rfl⟩ := hty
 have hkf := kind_fit hI2.ok
 refine Tri.le (EnvLe.refl _) HLe.new0 ?_
 refine .seq ?_
 refine Tri.cutS [(0, _), (2, _), (3, _)] kE.c.c.c (X := Value × Seg × Seg) (λ y => OS 252 2 Ty.enc y.1 [(pKind isWord s).1] y.2.1 /\ PaI R pb (pKind isWord s).2 y.2.2) (λ _ E => E) (λ y => [y.2.2, y.2.1, bl b3 [.string nm, y.1, .slice (some ⟨b7, 0, none⟩) 1 1] 207, bl b7 (Nd.enc ⟨1, ⟨#[]⟩, ⟨#[]⟩, 0, 0⟩) 168, bl b2 [.string ⟨#[]⟩, sZ, sZ] 207]) ?_ ?_
 refine .region_all [3, 5, 7] mixed ?_
 refine .tK 0 rfl (.fieldAddrA rfl) ?_
 refine .tO 2 rfl .move ?_
 refine RA.step2 1 3 rfl rfl (by kernel_rfl) rfl ?_ ?_
 refine .lo rfl ?_
 refine .nil (Next.sub ?_)
 refine .sT 3 rfl ?_
 refine .callM (R := R) (kind_spec pb s _ hI2) (λ u T3 hu => ?_)
 obtain ⟨rfl, hI3⟩ := hu
 refine .nil (Next.mod rfl ?_)
 refine .sT 4 rfl ?_
 refine .buildSlice1A (λ b15 => ?_)
 refine .nil (Next.mod rfl ?_)
 refine .sT 5 rfl ?_
 refine .append (OS.nil (E := 252) (sz := 2) (enc := Ty.enc)) (RS.lits (xs := [(pKind isWord s).1]) rfl (by simp [Ty.enc]) (by simp [Ty.enc, oneCell])) (by simp only [List.length_singleton, List.length_nil]; omega) (λ v5 T5 hv5 => ?_)
 have i5 := hv5.oneCell
 refine .nil (Next.mod rfl ?_)
 refine .tK 6 rfl (.fieldAddrA rfl) ?_
 refine .sT 7 rfl ?_
 refine .store1 rfl rfl ?_
 refine .nil (Next.mod rfl ?_)
 refine RA.nil (by kernel_rfl) ?_
 ·exact joinQ_n (v5, T5, T3) ⟨hv5, hI3⟩ kE.c.c.c (pkH [5, 1, 1, 1, 1])
 refine .callM (R := R) (kind_spec pb s _ hI2) (λ u T3 hu => ?_)
 obtain ⟨rfl, hI3⟩ := hu
 refine .nil (Next.mod rfl ?_)
 refine RA.step2 1 4 rfl rfl (by kernel_rfl) rfl ?_ ?_
 refine .lo rfl ?_
 refine .nil (Next.mod rfl ?_)
 refine .sT 4 rfl ?_
 refine .buildSlice1A (λ b15 => ?_)
 refine .nil (Next.mod rfl ?_)
 refine .sT 5 rfl ?_
 refine .append (OS.nil (E := 252) (sz := 2) (enc := Ty.enc)) (RS.lits (xs := [(pKind isWord s).1]) rfl (by simp [Ty.enc]) (by simp [Ty.enc, oneCell])) (by simp only [List.length_singleton, List.length_nil]; omega) (λ v5 T5 hv5 => ?_)
 have i5 := hv5.oneCell
 refine .nil (Next.mod rfl ?_)
 refine .tK 6 rfl (.fieldAddrA rfl) ?_
 refine .sT 7 rfl ?_
 refine .store1 rfl rfl ?_
 refine .nil (Next.mod rfl ?_)
 refine RA.nil (by kernel_rfl) ?_
 ·exact joinQ_n (v5, T5, T3) ⟨hv5, hI3⟩ kE.c.c.c (pkH [5, 1, 1, 1, 1])
 refine .buildSlice1A (λ b15 => ?_)
 refine .nil (Next.mod rfl ?_)
 refine .sT 1 rfl ?_
 refine .lo rfl ?_
 refine .nil (Next.mod rfl ?_)
 refine .sT 5 rfl ?_
 refine .append (OS.nil (E := 252) (sz := 2) (enc := Ty.enc)) (RS.lits (xs := [(pKind isWord s).1]) rfl (by simp [Ty.enc]) (by simp [Ty.enc, oneCell])) (by simp only [List.length_singleton, List.length_nil]; omega) (λ v5 T5 hv5 => ?_)
 have i5 := hv5.oneCell
 refine .nil (Next.mod rfl ?_)
 refine .tK 6 rfl (.fieldAddrA rfl) ?_
 refine .sT 7 rfl ?_
 refine .store1 rfl rfl ?_
 refine .nil (Next.mod rfl ?_)
 refine RA.nil (by kernel_rfl) ?_
 ·exact joinQ_n (v5, T5, T3) ⟨hv5, hI3⟩ kE.c.c.c (pkH [5, 1, 1, 1, 1])
 intro y hy
 obtain ⟨v5, T5, T3⟩ := y
 obtain ⟨hv5, hI3⟩ := hy
 simp only at hv5 hI3 ⊢
 have i5 := hv5.oneCell
 refine seqQ_n<|.block ?_
 refine .loopS [(0, _), (2, _), (3, _)] (X := Seg) (λ T => PaI R pb (pKind isWord s).2 T) (λ _ E => E) (λ T G => T :: G) (λ _ => 0) T3 hI3 kE.c.c.c rH ?_
 rintro T4 hI4
 refine .seq<|.sr<|.mo rfl ?_
 refine .callM (R := R) (takeN_spec pb _ _ hI4 tBar (by simp)) (λ u T6 hu => ?_)
 obtain ⟨rfl, hI6⟩ := hu
 refine .zn<|.condF<|.exit<|seqQ_x<|loopQ_x<|blkQ_x ?_
 ·first
   |exact joinQ_n (v5, T5, T6) ⟨hv5, hI6, λ t ht => by rw [List.mem_singleton] at ht; subst ht; exact hkf⟩ kE.c.c.c rH
   |exact joinQ_n (sZ, [], T2) ⟨OS.nil, hI2, λ t ht => (by cases ht)⟩ kE.c.c.c (HLe.new0.trans (pkH [4, 0, 0, 0, 0]))
 have hs : pTake tColon s1 = none := by
  cases hh : pTake tColon s1 with
  | none => rfl
  | some x => rw [hh] at h1; cases h1
 rw [hs] at hI2 hty
 simp only [Option.getD_none, Prod.mk.injEq] at hI2 hty
 obtain ⟨rfl, rfl⟩ := hty
 refine .skip ?_
 ·first
   |exact joinQ_n (v5, T5, T6) ⟨hv5, hI6, λ t ht => by rw [List.mem_singleton] at ht; subst ht; exact hkf⟩ kE.c.c.c rH
   |exact joinQ_n (sZ, [], T2) ⟨OS.nil, hI2, λ t ht => (by cases ht)⟩ kE.c.c.c (HLe.new0.trans (pkH [4, 0, 0, 0, 0]))
 intro x hx
 obtain ⟨vt, Tt, T2⟩ := x
 obtain ⟨hOt, hI2, htf⟩ := hx
 simp only at hOt hI2 htf ⊢
 have it := hOt.oneCell
 refine seqQ_n<|.seq<|.sr<|.mo rfl ?_
 refine .callM (R := R) (take_spec pb s2 _ R hI2 tEq) (λ u T3 hu => ?_)
 obtain ⟨rfl, hI3⟩ := hu
 refine .zn ?_
 refine Tri.cutS [(0, _), (2, _), (3, _)] kE.c.c.c (X := Value × Seg × Seg) (λ y => OS 168 5 Nd.enc y.1 nds y.2.1 /\ PaI R pb s3 y.2.2 /\ ∀ t ∈ nds, t.fits) (λ _ E => E) (λ y => [y.2.2, y.2.1, Tt, bl b3 [.string nm, vt, y.1] 207, bl b2 [.string ⟨#[]⟩, sZ, sZ] 207]) ?_ ?_
 refine .cond rfl (λ h3 => ?_) λ h3 => ?_
 obtain ⟨s, hs⟩ := Option.isSome_iff_exists.1 h3
 rw [hs] at hI3 hnd
 simp only [Option.getD_some] at hI3 hnd
 have hff := facS_fit hI3.ok
 obtain ⟨rfl, rfl⟩ : nds = (facS [] s).1 /\ s3 = (facS [] s).2 := by rw [<- hnd]; exact ⟨rfl, rfl⟩
 refine Tri.le (EnvLe.refl _) HLe.new0 ?_
 refine .region<|.mo rfl ?_
 refine .call [1, 0] ((expr_spec (R := R) pb s _ hI3 (sZ) [] [] OS.nil (by simp)).weaken rxl) (λ u H' hu => ?_)
 obtain ⟨T4, Tn, rfl, hOn, hI4⟩ := hu
 have i7 := hOn.oneCell
 conv => arg 8; simp only [rest, dropAt, List.cons_append, List.nil_append]
 refine .fa rfl<|.store1 rfl rfl<|.nil ?_
 ·first
   |exact joinQ_n (_, Tn, T4) ⟨hOn, hI4, hff⟩ (((kE.d rfl).d rfl).d rfl) (pkH [0, 0, 0, 0, 1])
   |exact joinQ_n (.slice (some ⟨b7, 0, none⟩) 1 1, _, T3) ⟨OS.lits (xs := [(⟨1, ⟨#[]⟩, ⟨#[]⟩, 0, 0⟩ : Nd)]) rfl (by simp [Nd.enc]) (by simp [Nd.enc, oneCell]), hI3, λ t ht => by rw [List.mem_singleton] at ht; subst ht; exact ⟨Nat.zero_le _, Nat.zero_le _⟩⟩ (((kE.d rfl).d rfl).d rfl) (pkH [0, 2, 0, 0, 0])
 have hs : pTake tEq s2 = none := by
  cases hh : pTake tEq s2 with
  | none => rfl
  | some x => rw [hh] at h3; cases h3
 rw [hs] at hI3 hnd
 simp only [Option.getD_none, Prod.mk.injEq] at hI3 hnd
 obtain ⟨rfl, rfl⟩ := hnd
 refine .skip ?_
 ·first
   |exact joinQ_n (_, Tn, T4) ⟨hOn, hI4, hff⟩ (((kE.d rfl).d rfl).d rfl) (pkH [0, 0, 0, 0, 1])
   |exact joinQ_n (.slice (some ⟨b7, 0, none⟩) 1 1, _, T3) ⟨OS.lits (xs := [(⟨1, ⟨#[]⟩, ⟨#[]⟩, 0, 0⟩ : Nd)]) rfl (by simp [Nd.enc]) (by simp [Nd.enc, oneCell]), hI3, λ t ht => by rw [List.mem_singleton] at ht; subst ht; exact ⟨Nat.zero_le _, Nat.zero_le _⟩⟩ (((kE.d rfl).d rfl).d rfl) (pkH [0, 2, 0, 0, 0])
 intro x hx
 obtain ⟨vn, Tn, T3⟩ := x
 obtain ⟨hOn, hI3, hnf⟩ := hx
 simp only at hOn hI3 hnf ⊢
 have inn := hOn.oneCell
 refine seqQ_n<|.sr<|.mo rfl ?_
 refine .callM (R := R) (must_spec pb _ _ R hI3 tSemi) (λ u T5 hI5 => ?_)
 refine .z<|.q (.loadA rfl)<|.storeA rfl rfl<|.zn ?_
 refine .ret (retQ_r _ (.one (.cellA rfl rfl)) ((pkH [0, 0, 0]).trans (HLe.ofPerm (H' := [T5, Tn ++ Tt]) (by simp [take, dropAt]))) ?_)
 ·exact ⟨_, _, rfl, ⟨vt, vn, ⟨nm, tys, nds⟩⟩, rfl, ⟨hwf, hOt.sg.mono λ b o hb => sg_right hb, hOn.sg.mono λ b o hb => sg_left hb, htf, hnf⟩, rfl, hI5⟩
end
section
variable {R : Rds}
theorem space_spec (pb : Nat) (st : PSt) (T : Seg) (hI : PaI R pb st T) (hn : st.1.length <= 1000000) : Spec prog 177 [pT pb] R [T] λ u H' => ∃ T' Ts, H' = [T', Ts] /\ ∃ s : SpM, u = .agg s.enc.toArray /\ s.is (sg Ts) /\ s.plain = (pSpace isWord st).1 /\ PaI R pb (pSpace isWord st).2 T' := by
 have hps : pSpace isWord st = (⟨(pWord isWord st).1, (pRels isWord ((pMust tOpen (pWord isWord st).2).1.length + 1) [] (pMust tOpen (pWord isWord st).2)).1⟩, pMust tClose (pRels isWord ((pMust tOpen (pWord isWord st).2).1.length + 1) [] (pMust tOpen (pWord isWord st).2)).2) := rfl
 have hwf := pword_fit (W := isWord) hI.ok
 have hpw := pword_spec pb st T R hI
 have hl1 : (pMust tOpen (pWord isWord st).2).1.length <= 1000000 := Nat.le_trans (Nat.le_trans (must_suf _ _).len (word_suf st).len) hn
 rw [hps]
 clear hps
 generalize pWord isWord st = ws at *
 obtain ⟨nm, s1⟩ := ws
 simp only at hwf hpw hl1 ⊢
 obtain ⟨out, hout⟩ : ∃ out, out = pRels isWord ((pMust tOpen s1).1.length + 1) [] (pMust tOpen s1) := ⟨_, rfl⟩
 rw [<- hout]
 refine Spec.body Tryz.func177 rfl Tryz.results177 Tryz.ntmps177 rfl ?_
 refine .sr ?_
 refine .allocA (λ b2 => ?_)
 refine .z<|.mo rfl ?_
 refine .callM (R := R) hpw (λ u T1 hu => ?_)
 obtain ⟨rfl, hI1⟩ := hu
 refine .q .bld ?_
 refine .allocA (λ b3 => ?_)
 refine .storeA rfl rfl<|.z<|.mo rfl ?_
 refine .callM (R := R) (must_spec pb _ _ R hI1 tOpen) (λ u T2 hI2 => ?_)
 refine .zs<|.block ?_
 refine .loopS [(0, _), (2, _), (3, _)] (X := Nat × List RlM × PSt × Value × (Seg × Seg × Seg)) (λ y => PaI R pb y.2.2.1 y.2.2.2.2.1 /\ OS 207 3 RlM.enc y.2.2.2.1 y.2.1 y.2.2.2.2.2.1 /\ (∀ r ∈ y.2.1, r.is (sg y.2.2.2.2.2.2)) /\ pRels isWord y.1 (y.2.1.map (·.r)) y.2.2.1 = out /\ y.2.2.1.1.length + 1 <= y.1 /\ y.2.1.length + y.2.2.1.1.length <= 1000000) (λ _ E => E) (λ y _ => [y.2.2.2.2.1, y.2.2.2.2.2.1, y.2.2.2.2.2.2, bl b3 [.string nm, y.2.2.2.1] 187, bl b2 [.string ⟨#[]⟩, sZ] 187]) (λ y => y.1) ((pMust tOpen s1).1.length + 1, [], pMust tOpen s1, sZ, (T2, [], [])) ⟨hI2, OS.nil, λ r hr => (by cases hr), hout.symm, Nat.le_refl _, by simpa using hl1⟩ kE.c.c.c (HLe.new00.trans (pkH [4, 0, 0, 0, 0])) (G := []) ?_
 rintro ⟨f, L, s, vL, ⟨T, To, Ti⟩⟩ ⟨hIs, hO, hA, hG, hf, hn⟩
 simp only at hIs hO hA hG hf hn ⊢
 have io := hO.oneCell
 obtain ⟨f', rfl⟩ : ∃ f', f = f' + 1 := ⟨f - 1, by omega⟩
 rw [pRels] at hG
 refine .seq<|.sr<|.mo rfl ?_
 refine .callM (R := R) (take_spec pb s _ R hIs tRelation) (λ u T3 hu => ?_)
 obtain ⟨rfl, hI3⟩ := hu
 refine .zn ?_
 refine .cond rfl (λ h1 => ?_) λ h1 => ?_
 obtain ⟨z, hz⟩ := Option.isSome_iff_exists.1 h1
 rw [hz] at hI3 hG
 simp only [Option.getD_some] at hI3 hG
 have hzl := (take_suf hz).2.1
 have hrl := (rel_suf (W := isWord) z).len
 refine .kn<|.block ?_
 refine Tri.cutS [(0, _), (2, _), (3, _)] kE.c.c.c (X := RlM × Value × (Seg × Seg × Seg)) (λ y => PaI R pb (pRel isWord z).2 y.2.2.1 /\ OS 207 3 RlM.enc y.2.1 (L ++ [y.1]) y.2.2.2.1 /\ y.1.is (sg y.2.2.2.2) /\ y.1.r = (pRel isWord z).1) (λ _ E => E) (λ y => [y.2.2.1, y.2.2.2.1, y.2.2.2.2, Ti, bl b3 [.string nm, y.2.1] 187, bl b2 [.string ⟨#[]⟩, sZ] 187]) ?_ ?_
 refine .region_all [3, 5, 7] mixed ?_
 refine .tK 0 rfl (.fieldAddrA rfl) ?_
 refine .tO 2 rfl .move ?_
 refine RA.step2 1 3 rfl rfl (by kernel_rfl) rfl ?_ ?_
 refine .lo rfl ?_
 refine .nil (Next.sub ?_)
 refine .sT 3 rfl ?_
 refine .call [0] ((relation_spec (R := R) pb z _ hI3).weaken rxl) (λ u H' hu => ?_)
 obtain ⟨T4, Tn, rfl, r, rfl, hr, hrr, hI4⟩ := hu
 have ir : Ones r.enc := ⟨hr.ones⟩
 conv => arg 8; simp only [rest, dropAt, List.cons_append, List.nil_append]
 have irt : One r.vt := hr.t.oneCell
 have ird : One r.vn := hr.d.oneCell
 refine .nil (Next.mod rfl ?_)
 refine .sT 4 rfl ?_
 refine .buildSlice1A (λ b15 => ?_)
 refine .nil (Next.mod rfl ?_)
 refine .sT 5 rfl ?_
 refine .append hO (RS.lits (xs := [r]) rfl (by simp [RlM.enc]) (λ y hy u hu => by rw [List.mem_singleton] at hy; subst hy; exact hr.ones u hu)) (by simp only [List.length_singleton]; omega) (λ v5 T5 hv5 => ?_)
 have i5 := hv5.oneCell
 refine .nil (Next.mod rfl ?_)
 refine .tK 6 rfl (.fieldAddrA rfl) ?_
 refine .sT 7 rfl ?_
 refine .store1 rfl rfl ?_
 refine .nil (Next.mod rfl ?_)
 refine RA.nil (by kernel_rfl) ?_
 ·first
   |exact joinQ_n (r, v5, (T4, T5, Tn)) ⟨hI4, hv5, hr, hrr⟩ kE.c.c.c (pkH [1, 2, 1, 1, 1, 1])
   |exact joinQ_n (r, v5, (T4, T5, Tn)) ⟨hI4, hv5, hr, hrr⟩ kE.c.c.c (pkH [0, 1, 0, 0, 0, 0])
 refine .call [0] ((relation_spec (R := R) pb z _ hI3).weaken rxl) (λ u H' hu => ?_)
 obtain ⟨T4, Tn, rfl, r, rfl, hr, hrr, hI4⟩ := hu
 have ir : Ones r.enc := ⟨hr.ones⟩
 conv => arg 8; simp only [rest, dropAt, List.cons_append, List.nil_append]
 have irt : One r.vt := hr.t.oneCell
 have ird : One r.vn := hr.d.oneCell
 refine .nil (Next.mod rfl ?_)
 refine RA.step2 1 4 rfl rfl (by kernel_rfl) rfl ?_ ?_
 refine .lo rfl ?_
 refine .nil (Next.mod rfl ?_)
 refine .sT 4 rfl ?_
 refine .buildSlice1A (λ b15 => ?_)
 refine .nil (Next.mod rfl ?_)
 refine .sT 5 rfl ?_
 refine .append hO (RS.lits (xs := [r]) rfl (by simp [RlM.enc]) (λ y hy u hu => by rw [List.mem_singleton] at hy; subst hy; exact hr.ones u hu)) (by simp only [List.length_singleton]; omega) (λ v5 T5 hv5 => ?_)
 have i5 := hv5.oneCell
 refine .nil (Next.mod rfl ?_)
 refine .tK 6 rfl (.fieldAddrA rfl) ?_
 refine .sT 7 rfl ?_
 refine .store1 rfl rfl ?_
 refine .nil (Next.mod rfl ?_)
 refine RA.nil (by kernel_rfl) ?_
 ·first
   |exact joinQ_n (r, v5, (T4, T5, Tn)) ⟨hI4, hv5, hr, hrr⟩ kE.c.c.c (pkH [1, 2, 1, 1, 1, 1])
   |exact joinQ_n (r, v5, (T4, T5, Tn)) ⟨hI4, hv5, hr, hrr⟩ kE.c.c.c (pkH [0, 1, 0, 0, 0, 0])
 refine .buildSlice1A (λ b15 => ?_)
 refine .nil (Next.mod rfl ?_)
 refine .sT 1 rfl ?_
 refine .lo rfl ?_
 refine .nil (Next.mod rfl ?_)
 refine .sT 5 rfl ?_
 refine .append hO (RS.lits (xs := [r]) rfl (by simp [RlM.enc]) (λ y hy u hu => by rw [List.mem_singleton] at hy; subst hy; exact hr.ones u hu)) (by simp only [List.length_singleton]; omega) (λ v5 T5 hv5 => ?_)
 have i5 := hv5.oneCell
 refine .nil (Next.mod rfl ?_)
 refine .tK 6 rfl (.fieldAddrA rfl) ?_
 refine .sT 7 rfl ?_
 refine .store1 rfl rfl ?_
 refine .nil (Next.mod rfl ?_)
 refine RA.nil (by kernel_rfl) ?_
 ·first
   |exact joinQ_n (r, v5, (T4, T5, Tn)) ⟨hI4, hv5, hr, hrr⟩ kE.c.c.c (pkH [1, 2, 1, 1, 1, 1])
   |exact joinQ_n (r, v5, (T4, T5, Tn)) ⟨hI4, hv5, hr, hrr⟩ kE.c.c.c (pkH [0, 1, 0, 0, 0, 0])
 intro y hy
 obtain ⟨r, v5, ⟨T4, T5, Tn⟩⟩ := y
 obtain ⟨hI4, hv5, hr, hrr⟩ := hy
 simp only at hI4 hv5 hr hrr ⊢
 refine blkQ_n ?_
 ·exact loopQ_i (f', L ++ [r], (pRel isWord z).2, v5, (T4, T5, Tn ++ Ti)) ⟨hI4, hv5, λ q hq => by
   rcases List.mem_append.1 hq with hq | hq
   ·exact (hA q hq).mono λ b o hb => sg_right hb
   ·rw [List.mem_singleton] at hq
    subst hq
    exact hr.mono λ b o hb => sg_left hb, by simp only; rw [List.map_append, List.map_cons, List.map_nil, hrr]; exact hG, by simp only; omega, by simp only [List.length_append, List.length_singleton]; omega⟩ (by simp only; omega) kE.c.c.c (HLe.ofPerm (by simp))
 have hz : pTake tRelation s = none := by
  cases hh : pTake tRelation s with
  | none => rfl
  | some x => rw [hh] at h1; cases h1
 rw [hz] at hI3 hG
 simp only [Option.getD_none] at hI3 hG
 refine .exit<|seqQ_x<|loopQ_x<|blkQ_x<|seqQ_n<|.sr<|.mo rfl ?_
 refine .callM (R := R) (must_spec pb _ _ R hI3 tClose) (λ u T5 hI5 => ?_)
 refine .z<|.q (.loadA rfl)<|.storeA rfl rfl<|.zn ?_
 refine .ret (retQ_r _ (.one (.cellA rfl rfl)) ((pkH [0, 0, 0]).trans (HLe.ofPerm (H' := [T5, To ++ Ti]) (by simp [take, dropAt]))) ?_)
 ·exact ⟨_, _, rfl, ⟨nm, vL, L⟩, rfl, ⟨hwf, hO.sg.mono λ b o hb => sg_left hb, λ r hr => (hA r hr).mono λ b o hb => sg_right hb⟩, by rw [<- hG]; rfl, by rw [<- hG]; exact hI5⟩
theorem config_spec (pb : Nat) (st : PSt) (T : Seg) (hI : PaI R pb st T) (hn : st.1.length <= 1000000) : Spec prog 118 [pT pb] R [T] λ u H' => ∃ T' Ts, H' = [T', Ts] /\ ∃ c : CfM, u = .agg c.enc.toArray /\ c.is (sg Ts) /\ c.plain = ⟨(pConfig isWord (st.1.length + 1) [] st).1, []⟩ /\ PaI R pb (pConfig isWord (st.1.length + 1) [] st).2 T' := by
 obtain ⟨out, hout⟩ : ∃ out, out = pConfig isWord (st.1.length + 1) [] st := ⟨_, rfl⟩
 rw [<- hout]
 refine Spec.body Tryz.func118 rfl Tryz.results118 Tryz.ntmps118 rfl ?_
 refine .sr ?_
 refine .allocA (λ b2 => ?_)
 refine .z ?_
 refine .allocA (λ b3 => ?_)
 refine .zs<|.block ?_
 refine .loopS [(0, _), (2, _), (3, _)] (X := Nat × List SpM × PSt × Value × (Seg × Seg × Seg)) (λ y => PaI R pb y.2.2.1 y.2.2.2.2.1 /\ OS 187 2 SpM.enc y.2.2.2.1 y.2.1 y.2.2.2.2.2.1 /\ (∀ r ∈ y.2.1, r.is (sg y.2.2.2.2.2.2)) /\ pConfig isWord y.1 (y.2.1.map SpM.plain) y.2.2.1 = out /\ y.2.2.1.1.length + 1 <= y.1 /\ y.2.1.length + y.2.2.1.1.length <= 1000000) (λ _ E => E) (λ y _ => [y.2.2.2.2.1, y.2.2.2.2.2.1, y.2.2.2.2.2.2, bl b3 [y.2.2.2.1, sZ] 25, bl b2 [sZ, sZ] 25]) (λ y => y.1) (st.1.length + 1, [], st, sZ, (T, [], [])) ⟨hI, OS.nil, λ r hr => (by cases hr), hout.symm, Nat.le_refl _, by simpa using hn⟩ kE.c.c.c (HLe.new00.trans (pkH [4, 0, 0, 0, 0])) (G := []) ?_
 rintro ⟨f, L, s, vL, ⟨T, To, Ti⟩⟩ ⟨hIs, hO, hA, hG, hf, hn⟩
 simp only at hIs hO hA hG hf hn ⊢
 have io := hO.oneCell
 obtain ⟨f', rfl⟩ : ∃ f', f = f' + 1 := ⟨f - 1, by omega⟩
 rw [pConfig] at hG
 obtain ⟨⟨v2, hT2, hr2⟩, hok2⟩ := hIs
 have hIs : PaI R pb s T := ⟨⟨v2, hT2, hr2⟩, hok2⟩
 have i2 := hr2.oneCell
 have ps2 : PS T (pT pb) [v2, .bool s.2] := PS.of (E := 237) (fr := (0, 0)) (by rw [hT2]; simp)
 refine .seq<|.seq ?_
 refine Tri.cutS [(0, _), (2, _), (3, _)] kE.c.c.c (X := Unit) (λ _ => True) (λ _ E => (16, .bool (!s.2 && decide (0 < s.1.length))) :: E) (λ _ => [T, To, Ti, bl b3 [vL, sZ] 25, bl b2 [sZ, sZ] 25]) ?_ ?_
 refine .region<|.mo rfl<|.nc rfl<|.fa rfl<|.lo rfl<|.q .not<|.mo rfl ?_
 refine .split (t := 9) rfl (λ g2_5 => ?_) (λ g2_5 => ?_)
 refine .gT g2_5<|.mo rfl<|.gT g2_5<|.nc rfl<|.gT g2_5<|.fa rfl<|.gT g2_5<|.lo rfl<|.gT g2_5<|.q (.lenR hr2) ?_
 refine .gT g2_5<|.q .gtr<|.q (.pickTh g2_5) ?_
 refine .nil ?_
 ·first
   |exact joinQ_n () trivial (kE.c.c.c.consB rfl (by rw [g2_5]; simp)) rH
   |exact joinQ_n () trivial (kE.c.c.c.consB rfl (by rw [g2_5]; rfl)) rH
 refine .gF g2_5<|.gF g2_5<|.gF g2_5<|.gF g2_5<|.gF g2_5<|.gF g2_5<|.q (.pickFh g2_5) ?_
 refine .nil ?_
 ·first
   |exact joinQ_n () trivial (kE.c.c.c.consB rfl (by rw [g2_5]; simp)) rH
   |exact joinQ_n () trivial (kE.c.c.c.consB rfl (by rw [g2_5]; rfl)) rH
 intro y hy
 refine seqQ_n ?_
 refine .cond rfl (λ h1 => ?_) λ h1 => ?_
 simp only [Bool.and_eq_true, Bool.not_eq_true', decide_eq_true_eq] at h1
 have hs0 : ¬ (s.2 = true \/ s.1 = []) := by
  rintro (h | h)
  ·rw [h1.1] at h; cases h
  ·rw [h] at h1; simp at h1
 rw [if_neg hs0] at hG
 refine .kn<|.block<|.block<|.sr<|.mo rfl ?_
 refine .callM (R := R) (take_spec pb s _ R hIs tNamespace) (λ u T3 hu => ?_)
 obtain ⟨rfl, hI3⟩ := hu
 refine .az rfl ?_
 refine .cond rfl (λ h2 => ?_) λ h2 => ?_
 obtain ⟨z, hz⟩ := Option.isSome_iff_exists.1 h2
 rw [hz] at hI3 hG
 simp only [Option.getD_some] at hI3 hG
 have hzl := (take_suf hz).2.1
 have hrl := (space_suf (W := isWord) z).len
 refine Tri.cutS [(0, _), (2, _), (3, _)] kE.c.c.c (X := SpM × Value × (Seg × Seg × Seg)) (λ y => PaI R pb (pSpace isWord z).2 y.2.2.1 /\ OS 187 2 SpM.enc y.2.1 (L ++ [y.1]) y.2.2.2.1 /\ y.1.is (sg y.2.2.2.2) /\ y.1.plain = (pSpace isWord z).1) (λ _ E => E) (λ y => [y.2.2.1, y.2.2.2.1, y.2.2.2.2, Ti, bl b3 [y.2.1, sZ] 25, bl b2 [sZ, sZ] 25]) ?_ ?_
 refine .region_all [3, 5, 7] mixed ?_
 refine .tK 0 rfl (.fieldAddrA rfl) ?_
 refine .tO 2 rfl .move ?_
 refine RA.step2 1 3 rfl rfl (by kernel_rfl) rfl ?_ ?_
 refine .lo rfl ?_
 refine .nil (Next.sub ?_)
 refine .sT 3 rfl ?_
 refine .call [0] ((space_spec (R := R) pb z _ hI3 (by omega)).weaken rxl) (λ u H' hu => ?_)
 obtain ⟨T4, Tn, rfl, r, rfl, hr, hrr, hI4⟩ := hu
 have ir : Ones r.enc := ⟨hr.ones⟩
 conv => arg 8; simp only [rest, dropAt, List.cons_append, List.nil_append]
 have irt : One r.v := hr.rs.oneCell
 refine .nil (Next.mod rfl ?_)
 refine .sT 4 rfl ?_
 refine .buildSlice1A (λ b26 => ?_)
 refine .nil (Next.mod rfl ?_)
 refine .sT 5 rfl ?_
 refine .append hO (RS.lits (xs := [r]) rfl (by simp [SpM.enc]) (λ y hy u hu => by rw [List.mem_singleton] at hy; subst hy; exact hr.ones u hu)) (by simp only [List.length_singleton]; omega) (λ v5 T5 hv5 => ?_)
 have i5 := hv5.oneCell
 refine .nil (Next.mod rfl ?_)
 refine .tK 6 rfl (.fieldAddrA rfl) ?_
 refine .sT 7 rfl ?_
 refine .store1 rfl rfl ?_
 refine .nil (Next.mod rfl ?_)
 refine RA.nil (by kernel_rfl) ?_
 ·first
   |exact joinQ_n (r, v5, (T4, T5, Tn)) ⟨hI4, hv5, hr, hrr⟩ kE.c.c.c (pkH [1, 2, 1, 1, 1, 1])
   |exact joinQ_n (r, v5, (T4, T5, Tn)) ⟨hI4, hv5, hr, hrr⟩ kE.c.c.c (pkH [0, 1, 0, 0, 0, 0])
 refine .call [0] ((space_spec (R := R) pb z _ hI3 (by omega)).weaken rxl) (λ u H' hu => ?_)
 obtain ⟨T4, Tn, rfl, r, rfl, hr, hrr, hI4⟩ := hu
 have ir : Ones r.enc := ⟨hr.ones⟩
 conv => arg 8; simp only [rest, dropAt, List.cons_append, List.nil_append]
 have irt : One r.v := hr.rs.oneCell
 refine .nil (Next.mod rfl ?_)
 refine RA.step2 1 4 rfl rfl (by kernel_rfl) rfl ?_ ?_
 refine .lo rfl ?_
 refine .nil (Next.mod rfl ?_)
 refine .sT 4 rfl ?_
 refine .buildSlice1A (λ b26 => ?_)
 refine .nil (Next.mod rfl ?_)
 refine .sT 5 rfl ?_
 refine .append hO (RS.lits (xs := [r]) rfl (by simp [SpM.enc]) (λ y hy u hu => by rw [List.mem_singleton] at hy; subst hy; exact hr.ones u hu)) (by simp only [List.length_singleton]; omega) (λ v5 T5 hv5 => ?_)
 have i5 := hv5.oneCell
 refine .nil (Next.mod rfl ?_)
 refine .tK 6 rfl (.fieldAddrA rfl) ?_
 refine .sT 7 rfl ?_
 refine .store1 rfl rfl ?_
 refine .nil (Next.mod rfl ?_)
 refine RA.nil (by kernel_rfl) ?_
 ·first
   |exact joinQ_n (r, v5, (T4, T5, Tn)) ⟨hI4, hv5, hr, hrr⟩ kE.c.c.c (pkH [1, 2, 1, 1, 1, 1])
   |exact joinQ_n (r, v5, (T4, T5, Tn)) ⟨hI4, hv5, hr, hrr⟩ kE.c.c.c (pkH [0, 1, 0, 0, 0, 0])
 refine .buildSlice1A (λ b26 => ?_)
 refine .nil (Next.mod rfl ?_)
 refine .sT 1 rfl ?_
 refine .lo rfl ?_
 refine .nil (Next.mod rfl ?_)
 refine .sT 5 rfl ?_
 refine .append hO (RS.lits (xs := [r]) rfl (by simp [SpM.enc]) (λ y hy u hu => by rw [List.mem_singleton] at hy; subst hy; exact hr.ones u hu)) (by simp only [List.length_singleton]; omega) (λ v5 T5 hv5 => ?_)
 have i5 := hv5.oneCell
 refine .nil (Next.mod rfl ?_)
 refine .tK 6 rfl (.fieldAddrA rfl) ?_
 refine .sT 7 rfl ?_
 refine .store1 rfl rfl ?_
 refine .nil (Next.mod rfl ?_)
 refine RA.nil (by kernel_rfl) ?_
 ·first
   |exact joinQ_n (r, v5, (T4, T5, Tn)) ⟨hI4, hv5, hr, hrr⟩ kE.c.c.c (pkH [1, 2, 1, 1, 1, 1])
   |exact joinQ_n (r, v5, (T4, T5, Tn)) ⟨hI4, hv5, hr, hrr⟩ kE.c.c.c (pkH [0, 1, 0, 0, 0, 0])
 intro y hy
 obtain ⟨r, v5, ⟨T4, T5, Tn⟩⟩ := y
 obtain ⟨hI4, hv5, hr, hrr⟩ := hy
 simp only at hI4 hv5 hr hrr ⊢
 refine blkQ_n (blkQ_n ?_)
 ·first
   |exact loopQ_i (f', L ++ [r], (pSpace isWord z).2, v5, (T4, T5, Tn ++ Ti)) ⟨hI4, hv5, λ q hq => by
     rcases List.mem_append.1 hq with hq | hq
     ·exact (hA q hq).mono λ b o hb => sg_right hb
     ·rw [List.mem_singleton] at hq
      subst hq
      exact hr.mono λ b o hb => sg_left hb, by simp only; rw [List.map_append, List.map_cons, List.map_nil, hrr]; exact hG, by simp only; omega, by simp only [List.length_append, List.length_singleton]; omega⟩ (by simp only; omega) kE.c.c.c (HLe.ofPerm (by simp))
   |exact loopQ_i (f', L, pFail, vL, (_, To, Ti)) ⟨PaI.nil, hO, hA, by
     obtain ⟨f2, rfl⟩ : ∃ f2, f' = f2 + 1 := ⟨f' - 1, by omega⟩
     simp only
     rw [pConfig, if_pos (.inl rfl)]
     exact hG, by simp only [pFail, List.length_nil]; omega, by simp only [pFail, List.length_nil]; omega⟩ (by simp only; omega) (((kE.d rfl).d rfl).d rfl) rH
 have hz : pTake tNamespace s = none := by
  cases hh : pTake tNamespace s with
  | none => rfl
  | some x => rw [hh] at h2; cases h2
 rw [hz] at hI3 hG
 simp only [Option.getD_none] at hI3 hG
 refine .sr<|.mo rfl ?_
 refine .callM (R := R) (takeN_spec pb s _ hI3 tScope (by simp)) (λ u T4 hu => ?_)
 obtain ⟨rfl, hI4⟩ := hu
 refine .az rfl<|.condF<|.region<|.mo rfl ?_
 obtain ⟨⟨v3, rfl, hr3⟩, hok3⟩ := hI4
 have i3 := hr3.oneCell
 refine .callM (R := R) (fail_spec pb v3 s.2 R) (λ u T5 hu => ?_)
 subst hu
 refine .nil<|blkQ_n<|blkQ_n ?_
 ·first
   |exact loopQ_i (f', L ++ [r], (pSpace isWord z).2, v5, (T4, T5, Tn ++ Ti)) ⟨hI4, hv5, λ q hq => by
     rcases List.mem_append.1 hq with hq | hq
     ·exact (hA q hq).mono λ b o hb => sg_right hb
     ·rw [List.mem_singleton] at hq
      subst hq
      exact hr.mono λ b o hb => sg_left hb, by simp only; rw [List.map_append, List.map_cons, List.map_nil, hrr]; exact hG, by simp only; omega, by simp only [List.length_append, List.length_singleton]; omega⟩ (by simp only; omega) kE.c.c.c (HLe.ofPerm (by simp))
   |exact loopQ_i (f', L, pFail, vL, (_, To, Ti)) ⟨PaI.nil, hO, hA, by
     obtain ⟨f2, rfl⟩ : ∃ f2, f' = f2 + 1 := ⟨f' - 1, by omega⟩
     simp only
     rw [pConfig, if_pos (.inl rfl)]
     exact hG, by simp only [pFail, List.length_nil]; omega, by simp only [pFail, List.length_nil]; omega⟩ (by simp only; omega) (((kE.d rfl).d rfl).d rfl) rH
 have hs0 : s.2 = true \/ s.1 = [] := by
  cases hs : s.2 with
  | true => exact .inl rfl
  | false =>
   rw [hs] at h1
   simp at h1
   exact .inr h1
 rw [if_pos hs0] at hG
 refine .exit<|seqQ_x<|loopQ_x<|blkQ_x<|seqQ_n<|.sr<|.q (.loadA rfl)<|.storeA rfl rfl<|.zn ?_
 refine .ret (retQ_r _ (.one (.cellA rfl rfl)) ((pkH [0, 0, 0]).trans (HLe.ofPerm (H' := [T, To ++ Ti]) (by simp [take, dropAt]))) ?_)
 ·exact ⟨_, _, rfl, ⟨vL, sZ, L, []⟩, rfl, ⟨hO.sg.mono λ b o hb => sg_left hb, RS.nil0, λ r hr => (hA r hr).mono λ b o hb => sg_right hb, λ r hr => (by cases hr)⟩, by rw [<- hG]; rfl, by rw [<- hG]; exact hIs⟩
theorem nested_spec (v : Value) (L : List LTok) (h : RS R 3 LTok.enc v L) (hok : ∀ t ∈ L, tokOK t) : Spec prog 117 [v] R [] λ u H' => u = .bool false /\ H' = [] := by
 have iv := h.oneCell
 have hle := h.le
 refine Spec.body Tryz.func117 rfl Tryz.results117 Tryz.ntmps117 rfl ?_
 refine .sr<|.ag rfl<|.z<|.ag rfl<|.zs<|.sr<|.mo rfl<|.q (.lenR h) ?_
 refine .mo rfl<|.zn<|.block ?_
 refine .loopS [(6, _), (7, _)] (X := Nat) (λ i => i <= L.length) (λ i E => (8, iN i) :: (3, .int .i64 0) :: E) (λ _ G => G) (λ i => L.length - i) 0 (Nat.zero_le _) kE.c.c.c.c rH ?_
 rintro i hi
 refine .sr<|.q .lss<|.zs ?_
 refine .cond rfl (λ h1 => ?_) λ h1 => ?_
 have hlt : i < L.length := lt_i h1
 obtain ⟨t, ht⟩ := exg hlt
 have hto := hok t (mog ht)
 refine .kn<|.seq<|.block<|.sr ?_
 refine .indexR i h ht (λ p10 => ?_)
 refine .q (.loadA rfl) ?_
 refine .allocA (λ b5 => ?_)
 refine .storeA rfl rfl<|.zs<|.block<|.seq ?_
 refine Tri.cutS [(3, _), (5, _), (6, _), (7, _), (8, _)] kE.c.c.c.c.c (X := Unit) (λ _ => True) (λ _ E => (12, .bool false) :: E) (λ _ => [bl b5 t.enc 312]) ?_ ?_
 refine .region<|.fa rfl<|.lo rfl<|.q .eqI<|.mo rfl ?_
 refine .split (t := 16) rfl (λ g5_3 => ?_) (λ g5_3 => ?_)
 refine .gT g5_3<|.fa rfl<|.gT g5_3<|.lo rfl<|.gT g5_3<|.q .eqS<|.q (.pickTh g5_3) ?_
 refine .ag rfl<|.nil ?_
 ·exact joinQ_n () trivial (kE.c.c.c.c.c.consB rfl (by unfold tokOK at hto; have e : tLp = (⟨#[40]⟩ : ByteArray) := rfl; grind)) rH
 refine .gF g5_3<|.gF g5_3<|.gF g5_3<|.q (.pickFh g5_3) ?_
 refine .ag rfl<|.nil ?_
 ·exact joinQ_n () trivial (kE.c.c.c.c.c.consB rfl (by unfold tokOK at hto; have e : tLp = (⟨#[40]⟩ : ByteArray) := rfl; grind)) rH
 intro y hy
 refine seqQ_n<|.condF<|.seq ?_
 refine Tri.cutS [(3, _), (6, _), (7, _), (8, _)] kE.c.c.c.c (X := Unit) (λ _ => True) (λ _ E => (23, .bool false) :: E) (λ _ => [bl b5 t.enc 312]) ?_ ?_
 refine .region<|.fa rfl<|.lo rfl<|.q .eqI<|.mo rfl ?_
 refine .split (t := 27) rfl (λ g7_3 => ?_) (λ g7_3 => ?_)
 refine .gT g7_3<|.fa rfl<|.gT g7_3<|.lo rfl<|.gT g7_3<|.q .eqS<|.q (.pickTh g7_3) ?_
 refine .ag rfl<|.nil ?_
 ·exact joinQ_n () trivial (kE.c.c.c.c.consB rfl (by unfold tokOK at hto; have e : tRp = (⟨#[41]⟩ : ByteArray) := rfl; grind)) rH
 refine .gF g7_3<|.gF g7_3<|.gF g7_3<|.q (.pickFh g7_3) ?_
 refine .ag rfl<|.nil ?_
 ·exact joinQ_n () trivial (kE.c.c.c.c.consB rfl (by unfold tokOK at hto; have e : tRp = (⟨#[41]⟩ : ByteArray) := rfl; grind)) rH
 intro y hy
 refine seqQ_n<|.condF<|.skip<|blkQ_n<|seqQ_n<|.sr<|.mo rfl<|.q .gtr<|.zn ?_
 refine .cond rfl (λ h4 => ?_) λ h4 => ?_
 ·simp at h4
 refine .skip<|blkQ_n<|seqQ_n<|.region ?_
 refine .ia (i + 1) .add ?_
 refine .mo rfl<|.nil ?_
 ·exact loopQ_i (i + 1) hlt (by omega) kE.c.c.c.c (HLe.none _)
 refine .exit<|seqQ_x<|loopQ_x<|blkQ_x<|seqQ_n<|.sr<|.az rfl ?_
 refine .ret (retQ_r _ (.one (.tmp rfl)) (HLe.none _) ?_)
 ·exact ⟨rfl, rfl⟩
theorem parse_spec (s : ByteArray) (hs : s.size <= 16384) (hp : Pl s) (L : List LTok) (hL : lexT s = some L) (hok : ∀ t ∈ L, tokOK t) (hl : L.length <= 1000000) (C : List Sp) (hC : pConfig isWord (L.length + 1) [] (L, false) = (C, ([], false))) (hm : (⟨C, []⟩ : Cf).much isWord = false) :
  Spec prog 64 [.string s] R [] λ u H' => ∃ T, H' = [T] /\ ∃ c : CfM, u = .tuple [.agg c.enc.toArray, .int .i64 0].toArray /\ c.is (sg T) /\ c.plain = ⟨C, []⟩ := by
 refine Spec.body Tryz.func64 rfl Tryz.results64 Tryz.ntmps64 rfl ?_
 refine .sr ?_
 refine .allocA (λ b2 => ?_)
 refine .ag rfl<|.z<|.mo rfl ?_
 refine .callN (lex_spec s hs hp L hL _) (λ u TL hu => ?_)
 obtain ⟨v, rfl, hO⟩ := hu
 obtain ⟨pv, cv, rfl, _⟩ := hO.shape
 refine .mo rfl<|.q .extract<|.q .extract<|.ag rfl<|.ag rfl<|.zs<|.block<|.sr<|.mo rfl<|.q .neI<|.az rfl ?_
 refine .cond rfl (λ h1 => ?_) λ h1 => ?_
 ·simp at h1
 refine .sr<|.mo rfl ?_
 refine .callR (nested_spec _ L (hO.sg.seg) hok) (λ u hu => ?_)
 subst hu
 refine .az rfl<|.condF<|.skip<|blkQ_n<|seqQ_n<|.sr<|.mo rfl ?_
 refine .q .bld ?_
 refine .boxA rfl (λ b24 => ?_)
 refine .ag rfl<|.z<|.mo rfl ?_
 refine .call [0] (config_spec (T := pblk b24 (.slice pv L.length cv) false) b24 (L, false) ⟨⟨_, rfl, hO.rs λ p hp => .inr (by simp [rest, dropAt, hp])⟩, hok⟩ hl) (λ u H' hu => ?_)
 obtain ⟨T', Ts, rfl, c, rfl, hc, hcp, hI⟩ := hu
 rw [hC] at hcp hI
 obtain ⟨⟨v9, rfl, hr9⟩, _⟩ := hI
 have i9 := hr9.oneCell
 have ic1 : One c.vs := RS.oneCell hc.ss
 have ic2 : One c.vc := RS.oneCell hc.sc
 have ice : Ones c.enc := ⟨hc.ones⟩
 conv => arg 8; simp only [rest, dropAt, List.cons_append, List.nil_append]
 refine .allocA (λ b7 => ?_)
 refine .storeA rfl rfl<|.zs<|.block<|.sr<|.mo rfl<|.nc rfl<|.fa rfl<|.lo rfl<|.az rfl<|.condF<|.sr<|.q (.loadA rfl) ?_
 refine .callR (within_spec c _ (hc.mono λ b o hb => .inr (by have hb' : (b, o) ∈ Ts := hb; simp [hb']))) (λ u hu => ?_)
 subst hu
 rw [hcp, hm]
 refine .q .not<|.az rfl<|.condF<|.skip<|blkQ_n<|seqQ_n<|.sr<|.q (.loadA rfl)<|.storeA rfl rfl<|.az rfl ?_
 refine .ret (retQ_r _ (.two (.cellA rfl rfl) (.tmp rfl)) (pkH [2]) ?_)
 ·exact ⟨Ts, rfl, c, rfl, hc, hcp⟩
end
def uoF (c : Cf) (k : Obr) (l : List Sub) : List ByteArray := ((l.filter (allowed c k)).filter λ s => !decide (s.us = ⟨#[]⟩)).map (·.us)
def soF (c : Cf) (k : Obr) (l : List Sub) : List Sub := (l.filter (allowed c k)).filter λ s => decide (s.us = ⟨#[]⟩)
theorem uoF_one {c : Cf} {k : Obr} {l : List Sub} {i : Nat} {s : Sub} (h : l[i]? = some s) : uoF c k (l.take (i + 1)) = uoF c k (l.take i) ++ if allowed c k s = true /\ s.us ≠ ⟨#[]⟩ then [s.us] else [] := by
 rw [take_next h]
 unfold uoF
 rw [List.filter_append, List.filter_append, List.map_append]
 congr 1
 by_cases h1 : allowed c k s = true <;> by_cases h2 : s.us = ⟨#[]⟩ <;> simp [h1, h2]
theorem soF_one {c : Cf} {k : Obr} {l : List Sub} {i : Nat} {s : Sub} (h : l[i]? = some s) : soF c k (l.take (i + 1)) = soF c k (l.take i) ++ if allowed c k s = true /\ s.us = ⟨#[]⟩ then [s] else [] := by
 rw [take_next h]
 unfold soF
 rw [List.filter_append, List.filter_append]
 congr 1
 by_cases h1 : allowed c k s = true <;> by_cases h2 : s.us = ⟨#[]⟩ <;> simp [h1, h2]
theorem XC.sub_len {x : XC} {R : Rds} (h : x.ok R) (k : Obr) : (x.sub k).length <= 512 := by
 unfold XC.sub
 split
 ·rw [List.length_map]
  have h1 := List.length_filter_le (λ y : SRow => y.there x.rev && decide (y.t.obr = k)) x.L
  have h2 := h.l.pm.length_eq
  have h3 := h.len
  omega
 ·simp
theorem subjects_spec (x : XC) (R : Rds) (h : x.ok R) (xb : Nat) (va vp : Value) (e : Nat) [iv : One va] [ip : One vp] [pc : PC R (pT xb) (x.cells va vp e)] (k : Obr) :
  Spec prog 165 [pT xb, .agg [.string k.os, .string k.oi].toArray, .string k.rel] R [] λ u H' => ∃ Tu Ts, H' = [Tu, Ts] /\ ∃ wu ws, u = .tuple [wu, ws].toArray /\ OS 9 1 encS wu (usersOf x.c.plain x.sub k) Tu /\ OS 149 4 Sub.enc ws (setsOf x.c.plain x.sub k) Ts := by
 have hal := allowed_spec x.c R h.c
 have i1 : One x.c.vs := RS.oneCell h.c.ss
 have i2 : One x.c.vc := RS.oneCell h.c.sc
 have i3 := h.n.one
 obtain ⟨ps, vf, vr, Mf, Mr, hSV⟩ := h.s
 have hsl := XC.sub_len h k
 have hl := h.l
 have hlen := h.len
 have hU : usersOf x.c.plain x.sub k = uoF x.c.plain k (x.sub k) := rfl
 have hS : setsOf x.c.plain x.sub k = soF x.c.plain k (x.sub k) := rfl
 have hsub : x.sub k = if scan x.S x.rev then (x.L.filter λ y => y.there x.rev && decide (y.t.obr = k)).map (·.t.sub) else [] := rfl
 have hul : ∀ i, (uoF x.c.plain k ((x.sub k).take i)).length <= 512 := λ i => by
  unfold uoF
  rw [List.length_map]
  refine Nat.le_trans (List.length_filter_le _ _) (Nat.le_trans (List.length_filter_le _ _) ?_)
  rw [List.length_take]; omega
 have hol : ∀ i, (soF x.c.plain k ((x.sub k).take i)).length <= 512 := λ i => by
  unfold soF
  refine Nat.le_trans (List.length_filter_le _ _) (Nat.le_trans (List.length_filter_le _ _) ?_)
  rw [List.length_take]; omega
 have hu1 := λ (l : List Sub) (i : Nat) (s : Sub) (h : l[i]? = some s) => uoF_one (c := x.c.plain) (k := k) h
 have hs1 := λ (l : List Sub) (i : Nat) (s : Sub) (h : l[i]? = some s) => soF_one (c := x.c.plain) (k := k) h
 rw [hU, hS]
 generalize hL : x.sub k = l at *
 refine Spec.body Tryz.func165 rfl Tryz.results165 Tryz.ntmps165 rfl<|.sr ?_
 refine .boxA rfl (λ b4 => ?_)
 refine .ag rfl<|.ag rfl<|.z<|.ag rfl<|.z<|.ag rfl<|.zs<|.seq<|.region_all [] mixed<|.tO 0 rfl .move<|.tO 1 rfl (.nilCheck rfl)<|.tO 2 rfl (.fieldAddr rfl)<|.tO 3 rfl (.load1 rfl)<|.tO 4 rfl (.loadA rfl)<|.tO 5 rfl .move<|.tO 6 rfl .move<|.tO 7 rfl (.nilCheck rfl)<|.tO 8 rfl (.fieldAddr rfl)<|.tO 9 rfl (.load1 rfl)<|.tO 12 rfl .move<|.sT 10 rfl<|.callN ((SV.subs (hSV.mono λ b o hb => .inl hb) (by omega) k x.rev hl).weaken λ b o hb => hb) (λ u T10 hu => ?_)
 rw [<- hsub] at hu
 have iu := hu.oneCell
 refine .nil<|Next.sub<|.tO 11 rfl (.lenO hu)<|RA.nil (by kernel_rfl)<|seqQ_n<|.block<|.loopS [(0, _), (2, _), (4, _), (22, _), (23, _)] (X := Nat × Value × Value × Seg × Seg) (λ y => y.1 <= l.length /\ OS 9 1 encS y.2.1 (uoF x.c.plain k (l.take y.1)) y.2.2.2.1 /\ OS 149 4 Sub.enc y.2.2.1 (soF x.c.plain k (l.take y.1)) y.2.2.2.2) (λ y E => (24, iN y.1) :: (8, y.2.1) :: (9, y.2.2.1) :: E) (λ y G => y.2.2.2.1 :: y.2.2.2.2 :: G) (λ y => l.length - y.1) (0, sZ, sZ, [], []) ⟨Nat.zero_le _, OS.nil, OS.nil⟩ kE.c.c.c.c.c.c.c.c HLe.new00 ?_
 rintro ⟨i, vu, vs, Tu, Ts⟩ ⟨hi, hOu, hOs⟩
 simp only at hi hOu hOs ⊢
 have iu1 := hOu.oneCell
 have iu2 := hOs.oneCell
 refine .sr<|.q .lss<|.zs<|.cond rfl (λ h1 => ?_) λ h1 => ?_
 have hlt : i < l.length := lt_i h1
 obtain ⟨s, hs⟩ := exg hlt
 have hul' := hul i
 have hol' := hol i
 have hu1' := hu1 l i s hs
 have hs1' := hs1 l i s hs
 obtain ⟨us, ss, si, sr⟩ := s
 refine .kn<|.seq<|.block<|.sr ?_
 refine .indexO i hu hs (λ p26 => ?_)
 refine .q (.loadA rfl) ?_
 refine .allocA (λ b11 => ?_)
 refine .storeA rfl rfl<|.zn<|.block<|.seq<|.region_tail 8 mixed (by kernel_rfl) ?_
 conv => arg 6; dsimp only [List.take]
 refine .mo rfl<|.nc rfl<|.fa rfl<|.q (.loadT rfl)<|.q (.loadA rfl)<|.mo rfl<|.q (.loadA rfl)<|.q .bld<|.nil<|.callR ((hal ⟨k.os, k.oi, k.rel, us, ss, si, sr⟩).weaken rxl) (λ w hw => ?_)
 subst hw
 refine .q .neI<|.az rfl<|.cond rfl (λ h2 => ?_) λ h2 => ?_
 have hna : allowed x.c.plain k ⟨us, ss, si, sr⟩ = false := by
  cases hq : allowed x.c.plain k ⟨us, ss, si, sr⟩ with
  | false => rfl
  | true =>
   have : allowed x.c.plain (⟨k.os, k.oi, k.rel, us, ss, si, sr⟩ : Tpl).obr (⟨k.os, k.oi, k.rel, us, ss, si, sr⟩ : Tpl).sub = true := hq
   rw [this] at h2; simp at h2
 rw [if_neg (by rw [hna]; simp), List.append_nil] at hu1' hs1'
 refine .skip<|blkQ_n<|blkQ_n<|seqQ_n<|.region<|.ia (i + 1) .add<|.mo rfl<|.nil ?_
 ·exact loopQ_i (i + 1, vu, vs, Tu, Ts) ⟨hlt, by rw [hu1']; exact hOu, by rw [hs1']; exact hOs⟩ (by simp only; omega) kE.c.c.c.c.c.c.c.c (HLe.drop [0] _)
 have hya : allowed x.c.plain k ⟨us, ss, si, sr⟩ = true := by
  cases hq : allowed x.c.plain k ⟨us, ss, si, sr⟩ with
  | true => rfl
  | false =>
   have : allowed x.c.plain (⟨k.os, k.oi, k.rel, us, ss, si, sr⟩ : Tpl).obr (⟨k.os, k.oi, k.rel, us, ss, si, sr⟩ : Tpl).sub = false := hq
   rw [this] at h2; simp at h2
 refine .sr<|.fa rfl<|.lo rfl<|.q .neS<|.az rfl<|.cond rfl (λ h3 => ?_) λ h3 => ?_
 have hun : us ≠ ⟨#[]⟩ := by simpa using h3
 rw [if_pos ⟨hya, hun⟩] at hu1'
 rw [if_neg (λ hh => hun hh.2), List.append_nil] at hs1'
 refine .region<|.mo rfl<|.fa rfl<|.lo rfl ?_
 refine .buildSlice11 (λ b50 => ?_)
 refine .append hOu (RS.lits (xs := [us]) rfl (by simp [encS]) (by simp [encS, oneCell])) (by simp only [List.length_singleton]; omega) (λ v5 T5 hv5 => ?_)
 rw [<- hu1'] at hv5
 refine .ag rfl<|.nil<|blkQ_n<|blkQ_n<|seqQ_n<|.region<|.ia (i + 1) .add<|.mo rfl<|.nil ?_
 ·exact loopQ_i (i + 1, v5, vs, T5, Ts) ⟨hlt, hv5, by rw [hs1']; exact hOs⟩ (by simp only; omega) kE.c.c.c.c.c.c.c.c (HLe.drop [0, 0] _)
 have hun : us = ⟨#[]⟩ := by simpa using h3
 rw [if_neg (λ hh => hh.2 hun), List.append_nil] at hu1'
 rw [if_pos ⟨hya, hun⟩] at hs1'
 refine .region<|.mo rfl<|.q (.loadA rfl) ?_
 refine .buildSlice1A (λ b30 => ?_)
 refine .append hOs (RS.lits (xs := [(⟨us, ss, si, sr⟩ : Sub)]) rfl (by simp [Sub.enc]) (by simp [Sub.enc, oneCell])) (by simp only [List.length_singleton]; omega) (λ v5 T5 hv5 => ?_)
 rw [<- hs1'] at hv5
 refine .ag rfl<|.nil<|blkQ_n<|blkQ_n<|seqQ_n<|.region<|.ia (i + 1) .add<|.mo rfl<|.nil ?_
 ·exact loopQ_i (i + 1, vu, v5, Tu, T5) ⟨hlt, by rw [hu1']; exact hOu, hv5⟩ (by simp only; omega) kE.c.c.c.c.c.c.c.c (HLe.drop [0, 0] _)
 refine .exit<|seqQ_x<|loopQ_x<|blkQ_x<|seqQ_n<|.sr<|.mo rfl<|.mo rfl<|.ag rfl<|.az rfl<|.ret (retQ_r _ (.two (.tmp rfl) (.tmp rfl)) (pkH [0, 0]) ?_)
 ·have hie : i = l.length := by have := odf h1; omega
  subst hie
  rw [List.take_length] at hOu hOs
  exact ⟨Tu, Ts, by simp [take, dropAt], vu, vs, rfl, hOu, hOs⟩
structure LdI (x : XC) (R : Rds) (ps : List PlM) (va : Value) (ks : List Obr) (ps' : List PlM) (vp : Value) (Ta To : Seg) (vo : Value) (Tl : Seg) : Prop where
 l : OS 3 1 encNt vo (addKs x.c.plain x.num (ps.map PlM.plain) ks).2 Tl
 eq : ps'.map PlM.plain = (addKs x.c.plain x.num (ps.map PlM.plain) ks).1
 at_ : AtM ps' va Ta
 o : OS 123 8 PlM.enc vp ps' To
 gr : ∃ l, ps' = ps ++ l /\ ∀ p ∈ l, p.is R
theorem LdI.len {x : XC} {R : Rds} {ps ps' : List PlM} {va vp vo : Value} {ks : List Obr} {Ta To Tl : Seg} (h : LdI x R ps va ks ps' vp Ta To vo Tl) : ps'.length = (addKs x.c.plain x.num (ps.map PlM.plain) ks).1.length := by rw [<- h.eq, List.length_map]
theorem LdI.next {x : XC} {R : Rds} {ps ps1 ps2 : List PlM} {va vp1 vp2 vo vo2 : Value} {ks : List Obr} {i : Nat} {k : Obr} {Ta1 To1 Ta2 To2 Tl Tl2 : Seg} (h : LdI x R ps va (ks.take i) ps1 vp1 Ta1 To1 vo Tl) (hk : ks[i]? = some k)
  (e : ps2.map PlM.plain = (addK x.c.plain x.num (ps1.map PlM.plain) k).1) (a : AtM ps2 va Ta2) (o : OS 123 8 PlM.enc vp2 ps2 To2) (g : ∃ l, ps2 = ps1 ++ l /\ ∀ p ∈ l, p.is R)
  (hv : OS 3 1 encNt vo2 ((addKs x.c.plain x.num (ps.map PlM.plain) (ks.take i)).2 ++ [(addK x.c.plain x.num (ps1.map PlM.plain) k).2]) Tl2) : LdI x R ps va (ks.take (i + 1)) ps2 vp2 Ta2 To2 vo2 Tl2 := by
 have hT := addKs_take (c := x.c.plain) (num := x.num) hk (ps.map PlM.plain)
 rw [h.eq] at e hv
 refine ⟨by rw [hT]; exact hv, by rw [hT]; exact e, a, o, ?_⟩
 obtain ⟨l1, rfl, h1⟩ := h.gr
 obtain ⟨l2, rfl, h2⟩ := g
 refine ⟨l1 ++ l2, by rw [List.append_assoc], λ p hp => ?_⟩
 rcases List.mem_append.1 hp with hp | hp
 ·exact h1 p hp
 ·exact h2 p hp
def LeadsT (x : XC) (R : Rds) (xb : Nat) (ps : List PlM) (e : Nat) (va : Value) (ks : List Obr) (u : Value) (H' : Segs) : Prop := ∃ ps' vp Ta To Tl, H' = [Tl, x.blk xb va vp e, Ta, To] /\ LdI x R ps va ks ps' vp Ta To u Tl
theorem leads_spec (x : XC) (R : Rds) (h : x.ok R) (xb : Nat) (ps : List PlM) (e : Nat) (va vp : Value) (Ta To : Seg) (hA : AtM ps va Ta) (hO : OS 123 8 PlM.enc vp ps To) (k : Obr) (ex : List Value) (n : Nd) [ie : Ones ex]
  (hl : (addKs x.c.plain x.num (ps.map PlM.plain) (aheadK x.c.plain x.sub k n)).1.length <= 3000000) (hex : ex.length = 5) :
  Spec prog 166 [pT xb, .agg (.string k.os :: .string k.oi :: .string k.rel :: ex).toArray, .agg n.enc.toArray] R [x.blk xb va vp e, Ta, To] (LeadsT x R xb ps e va (aheadK x.c.plain x.sub k n)) := by
 obtain ⟨x3, x4, x5, x6, x7, rfl⟩ : ∃ a b c d f, ex = [a, b, c, d, f] := by
  match ex, hex with
  | [a, b, c, d, f], _ => exact ⟨a, b, c, d, f, rfl⟩
 have iall : Ones (Value.string k.os :: .string k.oi :: .string k.rel :: [x3, x4, x5, x6, x7]) := ⟨λ u hu => by
  simp only [List.mem_cons, List.not_mem_nil, or_false] at hu
  rcases hu with rfl | rfl | rfl | hu
  ·rfl
  ·rfl
  ·rfl
  ·exact ie.h u (by simpa using hu)⟩
 have hsp := subjects_spec x
 have hplace := place_spec x R h xb
 have i1 : One x.c.vs := RS.oneCell h.c.ss
 have i2 : One x.c.vc := RS.oneCell h.c.sc
 have i3 := h.n.one
 obtain ⟨M0, hM0, _⟩ := id hA
 have iva := hM0.one
 have ivp := hO.oneCell
 have hdef : ∀ ks u H', LeadsT x R xb ps e va ks u H' ↔ ∃ ps' vp Ta To Tl, H' = [Tl, x.blk xb va vp e, Ta, To] /\ LdI x R ps va ks ps' vp Ta To u Tl := λ _ _ _ => Iff.rfl
 have hk0 : aheadK x.c.plain x.sub k n = if n.kind = 1 then (setsOf x.c.plain x.sub k).map λ s => ⟨s.ss, s.si, s.sr⟩
  else if n.kind = 3 then (setsOf x.c.plain x.sub ⟨k.os, k.oi, n.rel⟩).map λ s => ⟨s.ss, s.si, n.thn⟩
  else if n.kind = 2 then [⟨k.os, k.oi, n.rel⟩]
  else [] := rfl
 generalize hks : aheadK x.c.plain x.sub k n = ks at *
 have hle := λ i => addKs_le (c := x.c.plain) (num := x.num) ks i (ps.map PlM.plain)
 have hge := addKs_ge (c := x.c.plain) (num := x.num) ks (ps.map PlM.plain)
 rw [List.length_map] at hge
 have hln := λ i => addKs_len (c := x.c.plain) (num := x.num) (ks.take i) (ps.map PlM.plain)
 have hset : ∀ k', (setsOf x.c.plain x.sub k').length <= 512 := λ k' => by
  unfold setsOf fitting
  exact Nat.le_trans (List.length_filter_le _ _) (Nat.le_trans (List.length_filter_le _ _) (XC.sub_len h k'))
 have hst : LdI x R ps va (ks.take 0) ps vp Ta To (sZ) [] := ⟨OS.nil, by simp [addKs], hA, hO, [], by simp, by simp⟩
 refine Spec.segs (H' := [[], x.blk xb va vp e, Ta, To]) (by simp)<|Spec.body Tryz.func166 rfl Tryz.results166 Tryz.ntmps166 rfl<|.sr ?_
 refine .boxA rfl (λ b4 => ?_)
 refine .boxA rfl (λ b5 => ?_)
 refine .ag rfl<|.z<|.ag rfl<|.zs<|.sr<|.fa rfl<|.lo rfl<|.zn<|.block<|.sr<|.q .eqI<|.az rfl<|.cond rfl (λ h1 => ?_) λ h1 => ?_
 have hkd : n.kind = 1 := odt h1
 rw [if_pos hkd] at hk0
 have hsl := hset k
 refine .sr<|.mo rfl<|.fa rfl<|.q (.loadT rfl)<|.fa rfl<|.lo rfl<|.call [] (hsp _ (h.mono λ b o hb => .inl hb) xb va vp e (pc := PC.of (E := 217) (fr := (0, 0)) (.inr (by simp [rest]))) k) (λ u H' hu => ?_)
 obtain ⟨Tu, Ts, rfl, wu, ws, rfl, hOu, hOs⟩ := hu
 have iu1 := hOu.oneCell
 have iu2 := hOs.oneCell
 conv => arg 8; simp only [rest, dropAt, List.cons_append, List.nil_append]
 refine .mo rfl<|.q .extract<|.q .extract<|.ag rfl<|.ag rfl<|.z<|.mo rfl<|.q (.lenO hOs)<|.mo rfl<|.zn<|.block<|.loopS [(0, _), (29, _), (30, _)] (X := Nat × List PlM × Value × Seg × Seg × Value × Seg) (λ y => y.1 <= (setsOf x.c.plain x.sub k).length /\ LdI x R ps va (ks.take y.1) y.2.1 y.2.2.1 y.2.2.2.1 y.2.2.2.2.1 y.2.2.2.2.2.1 y.2.2.2.2.2.2) (λ y E => (31, iN y.1) :: (7, y.2.2.2.2.2.1) :: E) (G := [Ts, bl b5 n.enc 168, bl b4 (Value.string k.os :: .string k.oi :: .string k.rel :: [x3, x4, x5, x6, x7]) 123]) (λ y G => y.2.2.2.2.2.2 :: x.blk xb va y.2.2.1 e :: y.2.2.2.1 :: y.2.2.2.2.1 :: G) (λ y => (setsOf x.c.plain x.sub k).length - y.1) (0, ps, vp, Ta, To, sZ, []) ⟨Nat.zero_le _, hst⟩ kE.c.c.c.c.c (pkH [4, 4, 4, 4, 1, 1, 1]) ?_
 rintro ⟨i, ps1, vp1, Ta1, To1, vo, Tl⟩ ⟨hi, hI⟩
 simp only at hi hI ⊢
 have io := hI.l.oneCell
 have ip1 := hI.o.oneCell
 have hlen := hI.len
 have hle' := hle i
 have hln' := hln i
 rw [List.length_take] at hln'
 refine .sr<|.q .lss<|.zs<|.cond rfl (λ h2 => ?_) λ h2 => ?_
 have hlt : i < (setsOf x.c.plain x.sub k).length := by have := odt h2; omega
 obtain ⟨s, hs⟩ := exg hlt
 have hki : ks[i]? = some ⟨s.ss, s.si, s.sr⟩ := by rw [hk0, List.getElem?_map, hs]; rfl
 obtain ⟨us, ss, si, sr⟩ := s
 refine .kn<|.seq<|.block<|.sr ?_
 refine .indexO i hOs hs (λ p33 => ?_)
 refine .q (.loadA rfl) ?_
 refine .allocA (λ b11 => ?_)
 refine .storeA rfl rfl<|.zn<|.region<|.mo rfl<|.mo rfl<|.fa rfl<|.q (.loadT rfl)<|.fa rfl<|.lo rfl<|.call [2, 2, 2] ((hplace ps1 e va vp1 Ta1 To1 hI.at_ hI.o (by omega) ⟨ss, si, sr⟩).weaken rxl) (λ u H' hu => ?_)
 obtain ⟨ps2, vp2, Ta2, To2, rfl, rfl, he2, hA2, hO2, hg2⟩ := hu
 conv => arg 8; simp only [rest, dropAt, List.cons_append, List.nil_append]
 refine .buildSlice11 (λ b42 => ?_)
 refine .append hI.l (RS.lits (xs := [(addK x.c.plain x.num (ps1.map PlM.plain) ⟨ss, si, sr⟩).2]) rfl (by simp [encNt]) (by simp [encNt, oneCell])) (by simp only [List.length_singleton]; omega) (λ v5 T5 hv5 => ?_)
 refine .ag rfl<|.nil<|blkQ_n<|seqQ_n<|.region<|.ia (i + 1) .add<|.mo rfl<|.nil ?_
 ·exact loopQ_i (i + 1, ps2, vp2, Ta2, To2, v5, T5) ⟨hlt, hI.next hki he2 hA2 hO2 hg2 hv5⟩ (by simp only; omega) kE.c.c.c.c.c (pkH [5, 1, 1, 1, 2, 2, 2])
 have hie : i = ks.length := by rw [hk0, List.length_map]; have := odf h2; omega
 rw [hie, List.take_length] at hI
 refine .exit<|seqQ_x<|loopQ_x<|blkQ_x<|blkQ_n<|seqQ_n<|.sr<|.mo rfl<|.az rfl<|.ret (retQ_r _ (.one (.tmp rfl)) (pkH [0, 0, 0, 0]) ?_)
 ·exact (hdef _ _ _).2 ⟨ps1, vp1, Ta1, To1, Tl, by simp [take, dropAt], hI⟩
 refine .sr<|.q .eqI<|.az rfl<|.cond rfl (λ h3 => ?_) λ h3 => ?_
 have hkd : n.kind = 2 := odt h3
 rw [if_neg (by omega), if_neg (by omega), if_pos hkd] at hk0
 have hki : ks[0]? = some ⟨k.os, k.oi, n.rel⟩ := by rw [hk0]; rfl
 have hk1 : ks.take 1 = ks := by rw [hk0]; rfl
 refine .region<|.mo rfl<|.mo rfl<|.fa rfl<|.q (.loadT rfl)<|.fa rfl<|.lo rfl<|.call [3, 3, 3] ((hplace ps e va vp Ta To hA hO (by omega) ⟨k.os, k.oi, n.rel⟩).weaken rxl) (λ u H' hu => ?_)
 obtain ⟨ps2, vp2, Ta2, To2, rfl, rfl, he2, hA2, hO2, hg2⟩ := hu
 conv => arg 8; simp only [rest, dropAt, List.cons_append, List.nil_append]
 refine .buildSlice11 (λ b54 => ?_)
 refine .append hst.l (RS.lits (xs := [(addK x.c.plain x.num (ps.map PlM.plain) ⟨k.os, k.oi, n.rel⟩).2]) rfl (by simp [encNt]) (by simp [encNt, oneCell])) (by simp [addKs]) (λ v5 T5 hv5 => ?_)
 have hI2 := hst.next hki he2 hA2 hO2 hg2 hv5
 rw [show (0 : Nat) + 1 = 1 from rfl, hk1] at hI2
 refine .ag rfl<|.nil<|blkQ_n<|seqQ_n<|.sr<|.mo rfl<|.az rfl<|.ret (retQ_r _ (.one (.tmp rfl)) (pkH [6, 1, 1, 1]) ?_)
 ·exact (hdef _ _ _).2 ⟨ps2, vp2, Ta2, To2, T5, by simp [take, dropAt], hI2⟩
 refine .sr<|.q .eqI<|.az rfl<|.cond rfl (λ h4 => ?_) λ h4 => ?_
 have hkd : n.kind = 3 := odt h4
 rw [if_neg (by omega), if_pos hkd] at hk0
 have hsl := hset ⟨k.os, k.oi, n.rel⟩
 refine .sr<|.mo rfl<|.fa rfl<|.q (.loadT rfl)<|.fa rfl<|.lo rfl<|.call [] (hsp _ (h.mono λ b o hb => .inl hb) xb va vp e (pc := PC.of (E := 217) (fr := (0, 0)) (.inr (by simp [rest]))) ⟨k.os, k.oi, n.rel⟩) (λ u H' hu => ?_)
 obtain ⟨Tu, Ts, rfl, wu, ws, rfl, hOu, hOs⟩ := hu
 have iu1 := hOu.oneCell
 have iu2 := hOs.oneCell
 conv => arg 8; simp only [rest, dropAt, List.cons_append, List.nil_append]
 refine .mo rfl<|.q .extract<|.q .extract<|.ag rfl<|.ag rfl<|.z<|.mo rfl<|.q (.lenO hOs)<|.mo rfl<|.zn<|.block<|.loopS [(0, _), (5, _), (67, _), (68, _)] (X := Nat × List PlM × Value × Seg × Seg × Value × Seg) (λ y => y.1 <= (setsOf x.c.plain x.sub ⟨k.os, k.oi, n.rel⟩).length /\ LdI x R ps va (ks.take y.1) y.2.1 y.2.2.1 y.2.2.2.1 y.2.2.2.2.1 y.2.2.2.2.2.1 y.2.2.2.2.2.2) (λ y E => (69, iN y.1) :: (7, y.2.2.2.2.2.1) :: E) (G := [Ts, bl b5 n.enc 168, bl b4 (Value.string k.os :: .string k.oi :: .string k.rel :: [x3, x4, x5, x6, x7]) 123]) (λ y G => y.2.2.2.2.2.2 :: x.blk xb va y.2.2.1 e :: y.2.2.2.1 :: y.2.2.2.2.1 :: G) (λ y => (setsOf x.c.plain x.sub ⟨k.os, k.oi, n.rel⟩).length - y.1) (0, ps, vp, Ta, To, sZ, []) ⟨Nat.zero_le _, hst⟩ kE.c.c.c.c.c.c (pkH [4, 4, 4, 4, 1, 1, 1]) ?_
 rintro ⟨i, ps1, vp1, Ta1, To1, vo, Tl⟩ ⟨hi, hI⟩
 simp only at hi hI ⊢
 have io := hI.l.oneCell
 have ip1 := hI.o.oneCell
 have hlen := hI.len
 have hle' := hle i
 have hln' := hln i
 rw [List.length_take] at hln'
 refine .sr<|.q .lss<|.zs<|.cond rfl (λ h5 => ?_) λ h5 => ?_
 have hlt : i < (setsOf x.c.plain x.sub ⟨k.os, k.oi, n.rel⟩).length := by have := odt h5; omega
 obtain ⟨s, hs⟩ := exg hlt
 have hki : ks[i]? = some ⟨s.ss, s.si, n.thn⟩ := by rw [hk0, List.getElem?_map, hs]; rfl
 obtain ⟨us, ss, si, sr⟩ := s
 refine .kn<|.seq<|.block<|.sr ?_
 refine .indexO i hOs hs (λ p71 => ?_)
 refine .q (.loadA rfl) ?_
 refine .allocA (λ b15 => ?_)
 refine .storeA rfl rfl<|.zn<|.region<|.mo rfl<|.mo rfl<|.fa rfl<|.q (.loadT rfl)<|.fa rfl<|.lo rfl<|.call [2, 2, 2] ((hplace ps1 e va vp1 Ta1 To1 hI.at_ hI.o (by omega) ⟨ss, si, n.thn⟩).weaken rxl) (λ u H' hu => ?_)
 obtain ⟨ps2, vp2, Ta2, To2, rfl, rfl, he2, hA2, hO2, hg2⟩ := hu
 conv => arg 8; simp only [rest, dropAt, List.cons_append, List.nil_append]
 refine .buildSlice11 (λ b80 => ?_)
 refine .append hI.l (RS.lits (xs := [(addK x.c.plain x.num (ps1.map PlM.plain) ⟨ss, si, n.thn⟩).2]) rfl (by simp [encNt]) (by simp [encNt, oneCell])) (by simp only [List.length_singleton]; omega) (λ v5 T5 hv5 => ?_)
 refine .ag rfl<|.nil<|blkQ_n<|seqQ_n<|.region<|.ia (i + 1) .add<|.mo rfl<|.nil ?_
 ·exact loopQ_i (i + 1, ps2, vp2, Ta2, To2, v5, T5) ⟨hlt, hI.next hki he2 hA2 hO2 hg2 hv5⟩ (by simp only; omega) kE.c.c.c.c.c.c (pkH [5, 1, 1, 1, 2, 2, 2])
 have hie : i = ks.length := by rw [hk0, List.length_map]; have := odf h5; omega
 rw [hie, List.take_length] at hI
 refine .exit<|seqQ_x<|loopQ_x<|blkQ_x<|blkQ_n<|seqQ_n<|.sr<|.mo rfl<|.az rfl<|.ret (retQ_r _ (.one (.tmp rfl)) (pkH [0, 0, 0, 0]) ?_)
 ·exact (hdef _ _ _).2 ⟨ps1, vp1, Ta1, To1, Tl, by simp [take, dropAt], hI⟩
 have hks0 : ks = [] := by
  rw [hk0, if_neg (odf h1), if_neg (odf h4), if_neg (odf h3)]
 refine .skip<|blkQ_n<|seqQ_n<|.sr<|.mo rfl<|.az rfl<|.ret (retQ_r _ (.one (.tmp rfl)) (pkH [2, 2, 2, 2]) ?_)
 ·refine (hdef _ _ _).2 ⟨ps, vp, Ta, To, [], by simp [take, dropAt], ?_⟩
  have := hst
  rw [List.take_zero, <- hks0] at this
  exact this
instance keyIn : KeyT prog 3 (λ s : Int => .int .i64 s) := KeyT.int fU3 fA3
abbrev kI (n : Int) : Value := .int .i64 n
structure OpI (x : XC) (R : Rds) (ps : List PlM) (va : Value) (k : Obr) (ns : List Nd) (mp : Value) (ps1 : List PlM) (vp : Value) (Ta To : Seg) (vL : Value) (L : List NlM) (TL Tr : Seg) (M : List (Int × Bool)) (Tm : Seg) : Prop where
 eq : ps1.map PlM.plain = (addNs x.c.plain x.num x.sub k (ps.map PlM.plain) ns).1
 at_ : AtM ps1 va Ta
 o : OS 123 8 PlM.enc vp ps1 To
 gr : ∃ l, ps1 = ps ++ l /\ ∀ p ∈ l, p.is R
 le : OS 127 1 encV1 vL L TL
 rows : ∀ q ∈ L, RS (sg Tr) 1 encNt q.1 q.2
 ll : L.map (·.2) = (addNs x.c.plain x.num x.sub k (ps.map PlM.plain) ns).2
 ms : MS kI Value.bool mp M Tm
 mks : M.map (·.1) = (seenL [] (addNs x.c.plain x.num x.sub k (ps.map PlM.plain) ns).2.flatten).map λ n : Nat => (n : Int)
theorem mset_keysI {β : Type} {M : List (Int × β)} {l : List Nat} (h : M.map (·.1) = l.map λ n : Nat => (n : Int)) (y : β) (j : Nat) : (mset (j : Int) y M).map (·.1) = (if j ∈ l then l else l ++ [j]).map λ n : Nat => (n : Int) := by
 by_cases hj : j ∈ l
 ·rw [if_pos hj, <- h]
  have hm : (j : Int) ∈ M.map (·.1) := by rw [h]; exact List.mem_map.2 ⟨j, hj, rfl⟩
  clear h
  induction M with
  | nil => simp at hm
  | cons a M ih =>
   obtain ⟨a1, a2⟩ := a
   rw [mset]
   split
   ·rename_i e; simp [e]
   ·rename_i e
    simp only [List.map_cons, List.mem_cons] at hm ⊢
    rw [ih (hm.resolve_left e)]
 ·rw [if_neg hj, mset_new (λ hm => by
   rw [h] at hm
   obtain ⟨n, hn, e⟩ := List.mem_map.1 hm
   have e' : (n : Int) = (j : Int) := e
   have e2 : n = j := by omega
   exact hj (e2 ▸ hn)), List.map_append, List.map_append, h]
  rfl
theorem set_same {α : Type} {l : List α} {i : Nat} {x : α} (h : l[i]? = some x) : l.set i x = l := by
 obtain ⟨hi, e⟩ := List.getElem?_eq_some_iff.1 h
 rw [<- e]
 exact List.set_getElem_self hi
theorem OS.basep {α : Type} {E sz : Nat} {enc : α -> List Value} {v : Value} {xs : List α} {T : Seg} {i : Nat} {z : α} (h : OS E sz enc v xs T) (hz : xs[i]? = some z) : ∃ a, baseP v (i * sz) = .pointer (some a) := by
 rcases h.h with ⟨_, rfl, _⟩ | ⟨b, off, c, cap, rfl, _⟩
 ·simp at hz
 ·exact ⟨_, rfl⟩
theorem pfind_keys {a b : List Plc} (h : a.map (·.k) = b.map (·.k)) (k : Obr) : pfind a k = pfind b k := by
 have key : ∀ l : List Plc, pfind l k = (l.map (·.k)).findIdx? λ y => decide (y = k) := λ l => by
  unfold pfind
  rw [List.findIdx?_map]
  rfl
 rw [key, key, h]
theorem set_keys {ps : List PlM} {i : Nat} {p q : PlM} (hp : ps[i]? = some p) (hk : q.k = p.k) : ((ps.set i q).map PlM.plain).map (·.k) = (ps.map PlM.plain).map (·.k) := by
 rw [List.map_map, List.map_map]
 refine List.ext_getElem? λ j => ?_
 rw [List.getElem?_map, List.getElem?_map, List.getElem?_set]
 split
 ·rename_i e
  subst e
  rw [if_pos (List.getElem?_eq_some_iff.1 hp).1, hp]
  show some q.k = some p.k
  rw [hk]
 ·rfl
theorem AtM.set {ps : List PlM} {i : Nat} {p q : PlM} {va : Value} {T : Seg} (h : AtM ps va T) (hp : ps[i]? = some p) (hk : q.k = p.k) : AtM (ps.set i q) va T := by
 obtain ⟨M, hM, hA⟩ := h
 exact ⟨M, hM, λ k => by rw [hA]; exact pfind_keys (set_keys hp hk).symm k⟩
def OpenT (x : XC) (Rc : Rds) (xb : Nat) (ps : List PlM) (e : Nat) (va : Value) (i : Nat) (p : PlM) (H' : Segs) : Prop := ∃ vp Ta To TL Tr Tu l q,
 H' = [x.blk xb va vp (e + (openP x.c.plain x.num x.sub (ps.map PlM.plain) i).2), Ta, To, TL, Tr, Tu] /\ (∀ p ∈ l, PlM.is Rc p) /\ ((ps ++ l).set i q).map PlM.plain = (openP x.c.plain x.num x.sub (ps.map PlM.plain) i).1 /\ AtM ((ps ++ l).set i q) va Ta /\ OS 123 8 PlM.enc vp ((ps ++ l).set i q) To /\
 (q = p \/ q.vn = p.vn /\ q.nodes = p.nodes /\ RS (sg Tu) 1 encS q.vu q.users /\ RS (sg TL) 1 encV1 q.vl q.ll /\ ∀ y ∈ q.ll, RS (sg Tr) 1 encNt y.1 y.2)
theorem open_spec (x : XC) (Rc R : Rds) (hRc : ∀ b o, Rc b o -> R b o) (h : x.ok Rc) (xb : Nat) (ps : List PlM) (e : Nat) (va vp : Value) (Ta To : Seg) (hA : AtM ps va Ta) (hO : OS 123 8 PlM.enc vp ps To) (i : Nat) (p : PlM) (hp : ps[i]? = some p) (hn : RS R 5 Nd.enc p.vn p.nodes) (hfr : p.plain = one x.c.plain x.num p.k) (hnl : p.nodes.length <= 1000000)
  (hl : (openP x.c.plain x.num x.sub (ps.map PlM.plain) i).1.length <= 3000000) (he : e <= 1000000000000) :
  Spec prog 106 [pT xb, iN i] R [x.blk xb va vp e, Ta, To] λ _ H' => OpenT x Rc xb ps e va i p H' := by
 have hsp := subjects_spec x
 have hleads := leads_spec x Rc h xb
 have i1 : One x.c.vs := RS.oneCell h.c.ss
 have i2 : One x.c.vc := RS.oneCell h.c.sc
 have i3 := h.n.one
 obtain ⟨M0, hM0, _⟩ := id hA
 have iva := hM0.one
 have ivp := hO.oneCell
 have hpm := mog hp
 have ipp : Ones p.enc := ⟨hO.one p hpm⟩
 have hpl : (ps.map PlM.plain)[i]? = some p.plain := by rw [List.getElem?_map, hp]; rfl
 have hil := (List.getElem?_eq_some_iff.1 hp).1
 have hdef : ∀ H', OpenT x Rc xb ps e va i p H' ↔ ∃ vp Ta To TL Tr Tu l q,
  H' = [x.blk xb va vp (e + (openP x.c.plain x.num x.sub (ps.map PlM.plain) i).2), Ta, To, TL, Tr, Tu] /\ (∀ p ∈ l, PlM.is Rc p) /\ ((ps ++ l).set i q).map PlM.plain = (openP x.c.plain x.num x.sub (ps.map PlM.plain) i).1 /\ AtM ((ps ++ l).set i q) va Ta /\ OS 123 8 PlM.enc vp ((ps ++ l).set i q) To /\
  (q = p \/ q.vn = p.vn /\ q.nodes = p.nodes /\ RS (sg Tu) 1 encS q.vu q.users /\ RS (sg TL) 1 encV1 q.vl q.ll /\ ∀ y ∈ q.ll, RS (sg Tr) 1 encNt y.1 y.2) := λ _ => Iff.rfl
 have hopen := openP_eq (c := x.c.plain) (num := x.num) (sub := x.sub) hpl
 have hnf := openP_nf (c := x.c.plain) (num := x.num) (sub := x.sub) hpl hfr
 have hle8 := hn.le
 obtain ⟨k, fo, vn, nds, vu, us, vl, ll, nm⟩ := p
 have hpd : PlM.plain ⟨k, fo, vn, nds, vu, us, vl, ll, nm⟩ = ⟨k, fo, nds, nm, us, ll.map (·.2)⟩ := rfl
 rw [hpd] at hopen hnf hpl hfr
 simp only at hopen hnf hn hfr hle8 hnl
 have hle := λ j => addNs_le (c := x.c.plain) (num := x.num) (sub := x.sub) k nds j (ps.map PlM.plain)
 have hge := addNs_ge (c := x.c.plain) (num := x.num) (sub := x.sub) k nds (ps.map PlM.plain)
 have hlt := addNs_lt (c := x.c.plain) (num := x.num) (sub := x.sub) k nds (ps.map PlM.plain)
 have htk := λ (j : Nat) (n : Nd) (hj : nds[j]? = some n) => addNs_take (c := x.c.plain) (num := x.num) (sub := x.sub) hj k (ps.map PlM.plain)
 have hlt2 := λ j => addNs_lt (c := x.c.plain) (num := x.num) (sub := x.sub) k (nds.take j) (ps.map PlM.plain)
 have hl2 : (addNs x.c.plain x.num x.sub k (ps.map PlM.plain) nds).1.length <= 3000000 := by
  rw [hopen] at hl
  rwa [List.length_set] at hl
 refine Spec.body Tryz.func106 rfl Tryz.results106 Tryz.ntmps106 rfl<|.sr<|.mo rfl<|.nc rfl<|.fa rfl<|.fa rfl<|.lo rfl<|.mo rfl ?_
 refine .indexO i hO hp (λ p20 => ?_)
 refine .q (.loadA rfl) ?_
 refine .allocA (λ b4 => ?_)
 refine .storeA rfl rfl<|.zs<|.sr<|.fa rfl<|.lo rfl<|.q .not<|.zn<|.cond rfl (λ h1 => ?_) λ h1 => ?_
 have hf : fo = false := by simpa using h1
 have hnf' := hnf hf
 refine .ret (seqQ_r (retQ_r _ .none (HLe.new000.trans (pkH [4, 4, 4, 0, 0, 0])) ?_))
 ·refine (hdef _).2 ⟨vp, Ta, To, [], [], [], [], ⟨k, fo, vn, nds, vu, us, vl, ll, nm⟩, ?_, λ q hq => (by cases hq), ?_, ?_, ?_, .inl rfl⟩
  ·rw [hnf']; simp [take, dropAt]
  ·rw [hnf', List.append_nil]
   rw [set_same hp]
  ·rw [List.append_nil]; exact hA.set hp rfl
  ·rw [List.append_nil]
   rw [set_same hp]; exact hO
 have hf : fo = true := by simpa using h1
 refine .kn<|.sr<|.mo rfl<|.fa rfl<|.q (.loadT rfl)<|.fa rfl<|.lo rfl<|.call [] (hsp _ (h.mono λ b o hb => .inl (hRc b o hb)) xb va vp e (pc := PC.of (E := 217) (fr := (0, 0)) (.inr (by simp [rest]))) k) (λ u H' hu => ?_)
 obtain ⟨Tu, Ts, rfl, wu, ws, rfl, hOu, hOs⟩ := hu
 have iu1 := hOu.oneCell
 have iu2 := hOs.oneCell
 conv => arg 8; simp only [rest, dropAt, List.cons_append, List.nil_append]
 refine .mo rfl<|.q .extract<|.q .extract<|.ag rfl<|.ag rfl<|.z<|.ag rfl<|.z ?_
 refine .makeMap (λ b34 => ?_)
 refine .ag rfl<|.zs<|.sr<|.fa rfl<|.lo rfl<|.q (.lenR hn)<|.mo rfl<|.zn<|.block<|.loopS [(0, _), (1, _), (4, _), (5, _), (8, _), (36, _), (37, _)] (X := Nat × List PlM × Value × Seg × Seg × Value × List NlM × Seg × Seg × List (Int × Bool) × Seg) (λ y => y.1 <= nds.length /\ OpI x Rc ps va k (nds.take y.1) (.map (some b34)) y.2.1 y.2.2.1 y.2.2.2.1 y.2.2.2.2.1 y.2.2.2.2.2.1 y.2.2.2.2.2.2.1 y.2.2.2.2.2.2.2.1 y.2.2.2.2.2.2.2.2.1 y.2.2.2.2.2.2.2.2.2.1 y.2.2.2.2.2.2.2.2.2.2) (λ y E => (38, iN y.1) :: (7, y.2.2.2.2.2.1) :: E) (G := [Tu, bl b4 (PlM.enc ⟨k, fo, vn, nds, vu, us, vl, ll, nm⟩) 123]) (λ y G => x.blk xb va y.2.2.1 e :: y.2.2.2.1 :: y.2.2.2.2.1 :: y.2.2.2.2.2.2.2.1 :: y.2.2.2.2.2.2.2.2.1 :: y.2.2.2.2.2.2.2.2.2.2 :: G) (λ y => nds.length - y.1) (0, ps, vp, Ta, To, sZ, [], [], [], [], [(b34, .map #[] 0)]) ⟨Nat.zero_le _, ⟨rfl, hA, hO, ⟨[], by simp, λ q hq => (by cases hq)⟩, OS.nil, λ q hq => (by cases hq), rfl, MS.nil, rfl⟩⟩ kE.c.c.c.c.c.c.c.c.c (HLe.new00.trans (pkH [6, 6, 6, 0, 0, 0, 0, 1])) ?_
 rintro ⟨j, ps1, vp1, Ta1, To1, vL, L, TL, Tr, M, Tm⟩ ⟨hj, hI⟩
 simp only at hj hI ⊢
 have ivL := hI.le.oneCell
 have ip1 := hI.o.oneCell
 have hLl : L.length <= j := by
  have h9 := congrArg List.length hI.ll
  have h8 := (addNs_leads (c := x.c.plain) (num := x.num) (sub := x.sub) k (nds.take j) (ps.map PlM.plain)).1
  rw [List.length_map] at h9
  rw [List.length_take] at h8
  omega
 have h1l : ps1.length = (addNs x.c.plain x.num x.sub k (ps.map PlM.plain) (nds.take j)).1.length := by rw [<- hI.eq, List.length_map]
 have hlej := hle j
 refine .sr<|.q .lss<|.zs<|.cond rfl (λ h2 => ?_) λ h2 => ?_
 have hjt : j < nds.length := lt_i h2
 obtain ⟨n, hn0⟩ := exg hjt
 have htj := htk j n hn0
 have hlej1 := hle (j + 1)
 have hle1 : (addKs x.c.plain x.num (ps1.map PlM.plain) (aheadK x.c.plain x.sub k n)).1.length <= 3000000 := by
  rw [hI.eq]
  rw [htj] at hlej1
  exact Nat.le_trans hlej1 hl2
 refine .kn<|.seq<|.block<|.sr ?_
 refine .indexR j hn hn0 (λ p40 => ?_)
 refine .q (.loadA rfl) ?_
 refine .allocA (λ b10 => ?_)
 refine .storeA rfl rfl<|.z<|.mo rfl<|.q (.loadA rfl)<|.q (.loadA rfl)<|.call [1, 1, 1] ((hleads ps1 e va vp1 Ta1 To1 hI.at_ hI.o k [.bool fo, vn, vu, vl, iN nm] n (ie := ⟨λ u hu => ipp.h u (by simp only [PlM.enc]; simp only [List.mem_cons, List.not_mem_nil, or_false] at hu ⊢; simp [hu])⟩) hle1 rfl).weaken λ b o hb => .inl (hRc b o hb)) (λ u H' hu => ?_)
 obtain ⟨ps2, vp2, Ta2, To2, Tl, rfl, hD⟩ := hu
 have iu := hD.l.oneCell
 have hrow := hD.l
 have h2l := hD.len
 conv => arg 8; simp only [rest, dropAt, List.cons_append, List.nil_append]
 obtain ⟨row, hrw⟩ : ∃ row, row = (addKs x.c.plain x.num (ps1.map PlM.plain) (aheadK x.c.plain x.sub k n)).2 := ⟨_, rfl⟩
 rw [<- hrw] at hrow
 have hrle := hrow.le
 refine .ag rfl<|.zs<|.sr<|.mo rfl<|.q (.lenO hrow)<|.mo rfl<|.zn<|.block<|.loopS [(0, _), (1, _), (4, _), (5, _), (7, _), (8, _), (11, _), (36, _), (37, _), (38, _), (46, _), (47, _)] (X := Nat × List (Int × Bool) × Seg) (λ y => y.1 <= row.length /\ MS kI Value.bool (.map (some b34)) y.2.1 y.2.2 /\ y.2.1.map (·.1) = (seenL (seenL [] (addNs x.c.plain x.num x.sub k (ps.map PlM.plain) (nds.take j)).2.flatten) (row.take y.1)).map λ n : Nat => (n : Int)) (λ y E => (48, iN y.1) :: E) (G := [Tl, x.blk xb va vp2 e, Ta2, To2, bl b10 n.enc 168, TL, Tr, Tu, bl b4 (PlM.enc ⟨k, fo, vn, nds, vu, us, vl, ll, nm⟩) 123]) (λ y G => y.2.2 :: G) (λ y => row.length - y.1) (0, M, Tm) ⟨Nat.zero_le _, hI.ms, hI.mks⟩ kE.c.c.c.c.c.c.c.c.c.c.c.c.c (pkH [7, 0, 0, 0, 0, 0, 0, 0, 0, 0]) ?_
 rintro ⟨m, M2, Tm2⟩ ⟨hm, hM2, hk2⟩
 simp only at hm hM2 hk2 ⊢
 refine .sr<|.q .lss<|.zs<|.cond rfl (λ h3 => ?_) λ h3 => ?_
 have hmt : m < row.length := lt_i h3
 obtain ⟨to, hto⟩ := exg hmt
 have hst := seenL_take hto (seenL [] (addNs x.c.plain x.num x.sub k (ps.map PlM.plain) (nds.take j)).2.flatten)
 refine .kn<|.seq<|.block<|.sr ?_
 refine .indexO m hrow hto (λ p50 => ?_)
 refine .lo rfl<|.az rfl<|.region<|.mo rfl<|.mo rfl<|.update (key := (to : Int)) (u := true) hM2 rfl rfl rfl (λ T2 hM3 _ => ?_)
 have hk3 := mset_keysI hk2 true to
 rw [<- hst] at hk3
 refine .nil<|blkQ_n<|seqQ_n<|.region<|.ia (m + 1) .add<|.mo rfl<|.nil ?_
 ·exact loopQ_i (m + 1, mset (to : Int) true M2, T2) ⟨hmt, hM3, hk3⟩ (by simp only; omega) kE.c.c.c.c.c.c.c.c.c.c.c.c.c rH
 have hme : m = row.length := by have := odf h3; omega
 rw [hme, List.take_length] at hk2
 obtain ⟨pu, cu, rfl, _⟩ := hrow.shape
 refine .exit<|seqQ_x<|loopQ_x<|blkQ_x<|seqQ_n<|.region<|.mo rfl<|.mo rfl ?_
 refine .buildSlice11 (λ b57 => ?_)
 refine .append hI.le (RS.lits (xs := [((.slice pu row.length cu, row) : NlM)]) rfl (by simp [encV1]) (by simp [encV1, oneCell])) (by simp only [List.length_singleton]; omega) (λ v5 T5 hv5 => ?_)
 have i5 := hv5.oneCell
 refine .ag rfl<|.nil<|blkQ_n<|seqQ_n<|.region<|.ia (j + 1) .add<|.mo rfl<|.nil ?_
 ·exact loopQ_i (j + 1, ps2, vp2, Ta2, To2, v5, L ++ [(.slice pu row.length cu, row)], T5, Tl ++ Tr, M2, Tm2) ⟨hjt, ⟨by rw [htj, hD.eq, hI.eq], hD.at_, hD.o, by
   obtain ⟨l1, h11, h12⟩ := hI.gr
   obtain ⟨l2, h21, h22⟩ := hD.gr
   refine ⟨l1 ++ l2, by rw [h21, h11, List.append_assoc], λ q hq => ?_⟩
   rcases List.mem_append.1 hq with hq | hq
   ·exact h12 q hq
   ·exact h22 q hq, hv5, λ q hq => by
   rcases List.mem_append.1 hq with hq | hq
   ·exact (hI.rows q hq).mono λ b o hb => sg_right hb
   ·rw [List.mem_singleton] at hq
    subst hq
    exact hrow.sg.mono λ b o hb => sg_left hb, by rw [htj, List.map_append, hI.ll, hrw, hI.eq]; rfl, hM2, by rw [htj, List.flatten_append, seenL_app, hk2, hrw, hI.eq]; simp⟩⟩ (by simp only; omega) kE.c.c.c.c.c.c.c.c.c ((pkH [3, 3, 3, 4, 2, 3, 1, 2, 2]).trans (HLe.ofPerm (by simp [take, dropAt])))
 have hje : j = nds.length := by have := odf h2; omega
 rw [hje, List.take_length] at hI
 have hq1 : ps1[i]? = some ⟨k, fo, vn, nds, vu, us, vl, ll, nm⟩ := by
  obtain ⟨l, hl9, _⟩ := hI.gr
  rw [hl9, List.getElem?_append_left hil, hp]
 obtain ⟨a9, ha9⟩ := hI.o.basep hq1
 have hMl : M.length = ndiff (addNs x.c.plain x.num x.sub k (ps.map PlM.plain) nds).2.flatten := by
  have := congrArg List.length hI.mks
  rw [List.length_map, List.length_map] at this
  exact this
 have hMle : M.length <= 3000000 := by
  rw [hMl]
  refine Nat.le_trans (ndiff_le (n := (addNs x.c.plain x.num x.sub k (ps.map PlM.plain) nds).1.length) λ y hy => ?_) hl2
  obtain ⟨l, hl9, hy⟩ := List.mem_flatten.1 hy
  exact hlt l hl9 y hy
 refine .exit<|seqQ_x<|loopQ_x<|blkQ_x<|seqQ_n<|.seq<|.region_all [16, 19] mixed<|.tO 0 rfl .move<|.tO 1 rfl (.nilCheck rfl)<|.tO 2 rfl (.fieldAddr rfl)<|.tO 3 rfl (.fieldAddr rfl)<|.tO 4 rfl (.load1 rfl)<|.tO 5 rfl .move<|.tO 6 rfl .move<|.tO 7 rfl (.nilCheck rfl)<|.tO 8 rfl (.fieldAddr rfl)<|.tO 9 rfl (.fieldAddr rfl)<|.tO 10 rfl (.load1 rfl)<|.tK 11 rfl .move<|.tO 12 rfl .move<|.tK 13 rfl .move ?_
 refine RA.indexO 14 rfl i hI.o hq1 rfl rfl rfl (by kernel_rfl) (λ p74 => ?_)
 refine .tO 15 rfl (.fieldAddr rfl)<|.sT 16 rfl<|.storeO_gen (k := 5) (cs := [wu]) (z' := (⟨k, fo, vn, nds, wu, usersOf x.c.plain x.sub k, vl, ll, nm⟩ : PlM)) i hI.o hq1 rfl rfl rfl (cells_one iu1.h) rfl (by simpa using iu1.h) rfl (by simp) (λ Td hOd => ?_)
 have hq2 : (ps1.set i (⟨k, fo, vn, nds, wu, usersOf x.c.plain x.sub k, vl, ll, nm⟩ : PlM))[i]? = some ⟨k, fo, vn, nds, wu, usersOf x.c.plain x.sub k, vl, ll, nm⟩ := by rw [List.getElem?_set_self (List.getElem?_eq_some_iff.1 hq1).1]
 refine .nil (Next.mod rfl ?_)
 refine RA.indexO 17 rfl i hI.o hq1 rfl rfl rfl (by kernel_rfl) (λ p76 => ?_)
 refine .tK 18 rfl (.fieldAddrA rfl ha9)<|.sT 19 rfl<|.storeO_gen (k := 6) (cs := [vL]) (z' := (⟨k, fo, vn, nds, wu, usersOf x.c.plain x.sub k, vL, L, nm⟩ : PlM)) i hOd hq2 rfl rfl rfl (cells_one ivL.h) rfl (by simpa using ivL.h) rfl (by simp) (λ Te hOe => ?_)
 rw [List.set_set] at hOe
 refine .nil<|Next.mod rfl<|RA.nil (by kernel_rfl)<|seqQ_n<|.region_tail 11 mixed (by kernel_rfl) ?_
 conv => arg 6; dsimp only [List.take]
 refine .mo rfl<|.nc rfl<|.fa rfl<|.fa rfl<|.lo rfl<|.mo rfl<|.q (.lenM hI.ms.rx rfl) ?_
 refine .ia (e + M.length) .add ?_
 refine .nc rfl<|.fa rfl<|.fa rfl<|.nil<|.store1 rfl rfl<|.nil<|retQ_n _ .none (pkH [0, 0, 0, 0, 0, 1]) ?_
 ·obtain ⟨l, hl9, hl8⟩ := hI.gr
  refine (hdef _).2 ⟨vp1, Ta1, Te, TL, Tr, Tu, l, ⟨k, fo, vn, nds, wu, usersOf x.c.plain x.sub k, vL, L, nm⟩, ?_, hl8, ?_, ?_, ?_, .inr ⟨rfl, rfl, hOu.sg, hI.le.sg, hI.rows⟩⟩
  ·rw [hopen, <- hMl]; simp [take, dropAt]; rfl
  ·rw [hopen, <- hl9, List.map_set, hI.eq]
   simp only [hf, if_true]
   rw [<- hI.ll]
   rfl
  ·rw [<- hl9]; exact hI.at_.set hq1 rfl
  ·rw [<- hl9]; exact hOe
def DiscT (R : Rds) (out : List Plc × Nat × Int) (u : Value) (H' : Segs) : Prop := ∃ vp ps T, H' = [T] /\ u = .tuple [.agg [vp, iN out.2.1].toArray, .int .i64 out.2.2].toArray /\ RS (λ b o => R b o \/ (b, o) ∈ T) 8 PlM.enc vp ps /\ (∀ p ∈ ps, PlM.is (λ b o => R b o \/ (b, o) ∈ T) p) /\ ps.map PlM.plain = out.1
theorem one_len {W : ByteArray -> Bool} {F : ByteArray -> ByteArray -> Bool} {c : Cf} {num : List Nat} {k : Obr} (hc : c.right W F = true) : (one c num k).nodes.length <= 64 := by
 unfold one
 split
 ·simp
 ·rename_i i hi
  simp only [List.getD_eq_getElem?_getD, List.getElem?_map]
  cases hy : c.all[i]? with
  | none => simp
  | some y =>
   have h1 := (right_rel hc y (mog hy)).2
   unfold muchR at h1
   simp only [Bool.or_eq_false_iff, decide_eq_false_iff_not] at h1
   have h2 := h1.1.2
   simp only [Option.map_some, Option.getD_some]
   omega
theorem opened_here {c : Cf} {num : List Nat} {sub : Obr -> List Sub} {k : Obr} {N i : Nat} (hN : AtEnd c num sub k N) (h : ∀ j, j < i -> j < (opened c num sub k j).1.length) : i <= N := Nat.not_lt.1 λ h9 => by have := h N h9; have := hN.1; omega
theorem discover_spec {R : Rds} {hb : Nat} {vl : Value} {es : List EnM} {gone : Nat} (hV : HV R hb vl es gone) {g : Nat} {S : Sto} {ps0 : List RB} {vf vr : Value} {Mf : List (Obr × (Value × Seg))} {Mr : List (Sub × (Value × Seg))} (hS : SV R g S ps0 vf vr Mf Mr)
    {L : List SRow} (hL : RL S L) (hl : S.rows.length <= 512) (rev : Int) (en : EnM) (hat : atC es rev = some en) (num : List Nat) (hm : Means isWord isRef en.c.plain num) (hnum : en.ll.map (·.2) = rows en.c.plain.spaces num) (hgl : gone <= 1000000 /\ es.length <= 1000000) (hl8 : ∀ e ∈ es, e.ll.length <= 1000000 /\ ∀ q ∈ e.ll, q.2.length <= 1000000)
    (k : Obr) (b : Int) (hb63 : b <= 9223372036854775807) (sub : Obr -> List Sub) (hsub : sub = λ k => if scan S rev then (L.filter λ y => y.there rev && decide (y.t.obr = k)).map (·.t.sub) else [])
    (hlim : ∀ i, (∀ j, j < i -> j < (opened en.c.plain num sub k j).1.length) -> (opened en.c.plain num sub k i).1.length + (opened en.c.plain num sub k i).2 <= 1048576) (N : Nat) (hN : AtEnd en.c.plain num sub k N) :
    Spec prog 47 [pT hb, pT g, .int .u64 rev, .agg [.string k.os, .string k.oi].toArray, .string k.rel, .int .i64 b] R [] (DiscT R (disc en.c.plain num sub k b (scan S rev) N)) := by
  have hatc : ((atC es rev).map λ e => e.c.plain).getD ⟨[], []⟩ = en.c.plain := by rw [hat]; rfl
  have hatn : ((atC es rev).map λ e => e.ll.map (·.2)).getD [] = rows en.c.plain.spaces num := by rw [hat]; exact hnum
  have hdef : ∀ out u H', DiscT R out u H' ↔ ∃ vp ps T, H' = [T] /\ u = .tuple [.agg [vp, iN out.2.1].toArray, .int .i64 out.2.2].toArray /\ RS (λ b o => R b o \/ (b, o) ∈ T) 8 PlM.enc vp ps /\ (∀ p ∈ ps, PlM.is (λ b o => R b o \/ (b, o) ∈ T) p) /\ ps.map PlM.plain = out.1 := λ _ _ _ => Iff.rfl
  have hdisc : disc en.c.plain num sub k b (scan S rev) N = if b < 1 then ([], 0, 2) else if scan S rev = false then ([], 0, 12)
    else if (((opened en.c.plain num sub k N).1.length + (opened en.c.plain num sub k N).2 : Nat) : Int) <= b then ((opened en.c.plain num sub k N).1, (opened en.c.plain num sub k N).2, 0) else ([], 0, 16) := rfl
  generalize hc_ : en.c.plain = cp at *
  refine Spec.body Tryz.func47 rfl Tryz.results47 Tryz.ntmps47 rfl<|.sr ?_
  refine .boxA rfl (λ b9 => ?_)
  refine .allocA (λ b12 => ?_)
  refine .ag rfl<|.z<|.mo rfl<|.fa rfl<|.lo rfl<|.fa rfl<|.lo rfl<|.mo rfl ?_
  refine .q .bld ?_
  refine .mo rfl<|.callN ((read_spec hS (by omega) ⟨k.os, k.oi, k.rel, ⟨#[]⟩, ⟨#[]⟩, ⟨#[]⟩, ⟨#[]⟩⟩ rev).weaken rxl) (λ u T29 hu => ?_)
  obtain ⟨wr, ys, rfl, hOr, _⟩ := hu
  have iwr := hOr.oneCell
  refine .mo rfl<|.q .extract<|.q .extract<|.ag rfl<|.ag rfl<|.zs<|.block<|.sr<|.mo rfl<|.callR ((HV.made hV).weaken rxl) (λ u hu => ?_)
  subst hu
  refine .q .not<|.mo rfl<|.split (t := 36) rfl (λ g2_3 => ?_) (λ g2_3 => ?_)
  · simp at g2_3
  refine .gT g2_3<|.mo rfl<|.gT g2_3<|.q .eqI<|.q (.pickFh g2_3)<|.az rfl<|.cond rfl (λ h1 => ?_) λ h1 => ?_
  · cases hsc : scan S rev <;> simp [hsc] at h1
  refine .sr<|.mo rfl<|.q .lss<|.az rfl<|.cond rfl (λ h2 => ?_) λ h2 => ?_
  have hb1 : b < 1 := odt h2
  refine .sr<|.q .bld<|.storeA rfl rfl<|.az rfl ?_
  refine .ret (blkQ_r (seqQ_r (retQ_r _ (.two (.cellA rfl rfl) (.tmp rfl)) (HLe.one [] _) ?_)))
  · exact (hdef _ _ _).2 ⟨_, [], _, rfl, by rw [hdisc, if_pos hb1]; rfl, RS.nil0, λ p hp => (by cases hp), by rw [hdisc, if_pos hb1]; rfl⟩
  have hb1 : ¬ b < 1 := odf h2
  refine .sr<|.mo rfl<|.q .neI<|.az rfl<|.cond rfl (λ h3 => ?_) λ h3 => ?_
  have hsc : scan S rev = false := by
    cases hsc : scan S rev with
    | false => rfl
    | true => simp [hsc] at h3
  refine .sr<|.q .bld<|.mo rfl<|.storeA rfl rfl<|.az rfl ?_
  refine .ret (blkQ_r (seqQ_r (retQ_r _ (.two (.cellA rfl rfl) (.tmp rfl)) (HLe.one [] _) ?_)))
  · exact (hdef _ _ _).2 ⟨_, [], _, rfl, by rw [hdisc, if_neg hb1, if_pos hsc, hsc]; rfl, RS.nil0, λ p hp => (by cases hp), by rw [hdisc, if_neg hb1, if_pos hsc]; rfl⟩
  have hsc : scan S rev = true := by
    cases hsc : scan S rev with
    | true => rfl
    | false => simp [hsc] at h3
  rw [if_neg hb1, if_neg (by rw [hsc]; simp)] at hdisc
  refine .skip<|blkQ_n<|seqQ_n<|.sr<|.mo rfl<|.mo rfl<|.callN ((hV.at_ rev hgl).weaken rxl) (λ u Tc hu => ?_)
  obtain ⟨c', rfl, hc', hcp⟩ := hu
  rw [hatc] at hcp
  have ice : Ones c'.enc := ⟨hc'.ones⟩
  have ic1 : One c'.vs := RS.oneCell hc'.ss
  have ic2 : One c'.vc := RS.oneCell hc'.sc
  refine .mo rfl<|.q .extract<|.q .extract ?_
  refine .allocA (λ b16 => ?_)
  refine .storeA rfl rfl<|.ag rfl<|.zs ?_
  refine Tri.cutS [(4, _), (9, _), (12, _)] kE.c.c.c (X := Nat × Nat × Value × Seg) (λ y => MS kTy vNt y.2.2.1 (numM cp num) y.2.2.2) (λ y E => (18, .pointer (some ⟨y.1, 0, none⟩)) :: E) (λ y => [XC.blk ⟨c', num, y.2.2.1, g, S, L, rev, b⟩ y.1 (.map (some y.2.1)) (sZ) 0, [(y.2.1, .map #[] 0)], [], [], Tc, y.2.2.2, bl b12 [sZ, .int .i64 0] 55, bl b9 [.string k.os, .string k.oi] 30]) ?_ ?_
  refine .region_all [] mixed<|.tO 0 rfl (.loadA rfl)<|.tO 1 rfl (.loadA rfl)<|.tO 2 rfl .move<|.tO 3 rfl .move<|.tO 6 rfl .move<|.tO 7 rfl .move<|.tO 9 rfl .move<|RA.step2 4 8 rfl rfl (by kernel_rfl) rfl ?_ ?_
  refine .callN ((hV.numbers rev hl8).weaken rxl) (λ u Tn hu => ?_)
  obtain ⟨ll, hNN, hll⟩ := hu
  rw [hatn] at hll
  have inn := hNN.rs.oneCell
  refine .nil<|Next.sub<|RA.step2 5 8 rfl rfl (by kernel_rfl) rfl ?_ ?_
  refine .callN ((numbered_spec c' (λ b o => (b, o) ∈ Tc \/ (b, o) ∈ Tn) (hc'.mono λ b o hb => .inl hb) (by rw [hcp]; exact hm.uniq) _ ll num (hNN.mono λ b o hb => .inr hb) (by rw [hcp]; exact hll) (by rw [hcp]; exact hm.len)).weaken λ b o hb => .inr (by rcases hb with hb | hb <;> simp [hb])) (λ u Tm hu => ?_)
  obtain ⟨mn, rfl⟩ : ∃ m, u = .map (some m) := by obtain ⟨b, _, _, h, _⟩ := hu; exact ⟨b, h⟩
  refine .nil<|Next.sub<|.sT 8 rfl ?_
  refine .makeMap (λ b64 => ?_)
  refine .nil<|Next.sub<|.tO 10 rfl .bld<|.sT 11 rfl ?_
  refine .boxA rfl (λ b67 => ?_)
  refine .nil<|Next.sub<|.tO 12 rfl .assign<|RA.nil (by kernel_rfl) ?_
  · first
      | exact joinQ_n (b67, b64, _, Tm) (by rw [<- hcp]; exact hu) ((((kE.d rfl).d rfl).d rfl).d rfl) (HLe.new00.trans (pkH [2, 2, 0, 0, 3, 0, 3, 3]))
      | exact joinQ_n (b67, b64, _, Tm) (by rw [<- hcp]; exact hu) ((((kE.d rfl).d rfl).d rfl).d rfl) (HLe.new00.trans (pkH [2, 3, 0, 0, 3, 0, 3, 3]))
      | exact joinQ_n (b67, b64, _, Tm) (by rw [<- hcp]; exact hu) ((((kE.d rfl).d rfl).d rfl).d rfl) (HLe.new00.trans (pkH [2, 4, 0, 0, 3, 0, 3, 3]))
  refine .makeMap (λ b64 => ?_)
  refine .nil<|Next.sub<|.sT 5 rfl<|.callN ((numbered_spec c' (λ b o => (b, o) ∈ Tc \/ (b, o) ∈ Tn) (hc'.mono λ b o hb => .inl hb) (by rw [hcp]; exact hm.uniq) _ ll num (hNN.mono λ b o hb => .inr hb) (by rw [hcp]; exact hll) (by rw [hcp]; exact hm.len)).weaken λ b o hb => .inr (by rcases hb with hb | hb <;> simp [hb])) (λ u Tm hu => ?_)
  obtain ⟨mn, rfl⟩ : ∃ m, u = .map (some m) := by obtain ⟨b, _, _, h, _⟩ := hu; exact ⟨b, h⟩
  refine .nil<|Next.sub<|.tO 10 rfl .bld<|.sT 11 rfl ?_
  refine .boxA rfl (λ b67 => ?_)
  refine .nil<|Next.sub<|.tO 12 rfl .assign<|RA.nil (by kernel_rfl) ?_
  · first
      | exact joinQ_n (b67, b64, _, Tm) (by rw [<- hcp]; exact hu) ((((kE.d rfl).d rfl).d rfl).d rfl) (HLe.new00.trans (pkH [2, 2, 0, 0, 3, 0, 3, 3]))
      | exact joinQ_n (b67, b64, _, Tm) (by rw [<- hcp]; exact hu) ((((kE.d rfl).d rfl).d rfl).d rfl) (HLe.new00.trans (pkH [2, 3, 0, 0, 3, 0, 3, 3]))
      | exact joinQ_n (b67, b64, _, Tm) (by rw [<- hcp]; exact hu) ((((kE.d rfl).d rfl).d rfl).d rfl) (HLe.new00.trans (pkH [2, 4, 0, 0, 3, 0, 3, 3]))
  refine .makeMap (λ b64 => ?_)
  refine .nil<|Next.sub<|.sT 4 rfl<|.callN ((hV.numbers rev hl8).weaken rxl) (λ u Tn hu => ?_)
  obtain ⟨ll, hNN, hll⟩ := hu
  rw [hatn] at hll
  have inn := hNN.rs.oneCell
  refine .nil<|Next.sub<|.sT 5 rfl<|.callN ((numbered_spec c' (λ b o => (b, o) ∈ Tc \/ (b, o) ∈ Tn) (hc'.mono λ b o hb => .inl hb) (by rw [hcp]; exact hm.uniq) _ ll num (hNN.mono λ b o hb => .inr hb) (by rw [hcp]; exact hll) (by rw [hcp]; exact hm.len)).weaken λ b o hb => .inr (by rcases hb with hb | hb <;> simp [hb])) (λ u Tm hu => ?_)
  obtain ⟨mn, rfl⟩ : ∃ m, u = .map (some m) := by obtain ⟨b, _, _, h, _⟩ := hu; exact ⟨b, h⟩
  refine .nil<|Next.sub<|.tO 10 rfl .bld<|.sT 11 rfl ?_
  refine .boxA rfl (λ b67 => ?_)
  refine .nil<|Next.sub<|.tO 12 rfl .assign<|RA.nil (by kernel_rfl) ?_
  · first
      | exact joinQ_n (b67, b64, _, Tm) (by rw [<- hcp]; exact hu) ((((kE.d rfl).d rfl).d rfl).d rfl) (HLe.new00.trans (pkH [2, 2, 0, 0, 3, 0, 3, 3]))
      | exact joinQ_n (b67, b64, _, Tm) (by rw [<- hcp]; exact hu) ((((kE.d rfl).d rfl).d rfl).d rfl) (HLe.new00.trans (pkH [2, 3, 0, 0, 3, 0, 3, 3]))
      | exact joinQ_n (b67, b64, _, Tm) (by rw [<- hcp]; exact hu) ((((kE.d rfl).d rfl).d rfl).d rfl) (HLe.new00.trans (pkH [2, 4, 0, 0, 3, 0, 3, 3]))
  intro y hy
  obtain ⟨xb, mb, vn, Tm⟩ := y
  simp only at hy ⊢
  obtain ⟨x, hx9⟩ : ∃ x : XC, x = ⟨c', num, vn, g, S, L, rev, b⟩ := ⟨_, rfl⟩
  have ivn := hy.one
  have hxsub : x.sub = sub := by rw [hsub, hx9]; rfl
  have hxc : x.c.plain = cp := by rw [hx9]; exact hcp
  have hxn : x.num = num := by rw [hx9]
  have hxb : x.b = b := by rw [hx9]
  obtain ⟨Rc, hRc⟩ : ∃ Rc : Rds, Rc = λ b o => R b o \/ (b, o) ∈ Tc \/ (b, o) ∈ Tm := ⟨_, rfl⟩
  have hok : x.ok Rc := by
    rw [hx9, hRc]
    exact ⟨hc'.mono λ b o hb => .inr (.inl hb), by simp only; rw [hcp]; exact hy.rm λ p hp => .inr (.inr hp), by simp only; rw [hcp]; exact hm.len, ⟨ps0, vf, vr, Mf, Mr, hS.mono λ b o hb => .inl hb⟩, hL, hl⟩
  have hplace := place_spec x Rc hok xb
  have hopen := λ R h => open_spec x Rc R h hok xb
  have hover := λ R h => over_spec x R h xb
  rw [<- hx9]
  refine seqQ_n<|.sr<|.mo rfl<|.q (.loadA rfl)<|.mo rfl ?_
  refine .call [0, 0, 0] ((hplace [] 0 (.map (some mb)) (sZ) [(mb, .map #[] 0)] [] ⟨[], MS.nil, λ k => rfl⟩ OS.nil (by simp) k).weaken λ b o hb => by
    rw [hRc] at hb
    rcases hb with hb | hb | hb
    · exact .inl hb
    · exact .inr (by simp [rest, dropAt, hb])
    · exact .inr (by simp [rest, dropAt, hb])) (λ u H' hu => ?_)
  obtain ⟨ps1, vp1, Ta1, To1, rfl, rfl, he1, hA1, hO1, l1, hl1, hp1⟩ := hu
  rw [List.nil_append] at hl1
  subst hl1
  conv => arg 8; simp only [rest, dropAt, List.cons_append, List.nil_append]
  have h0 : ps1.map PlM.plain = (opened cp num sub k 0).1 := by rw [he1, hxc, hxn]; rfl
  refine .zs<|.sr<|.az rfl<|.block<|.loopS [(12, _), (18, _)] (X := Nat × List PlM × Value × Seg × Seg × Seg) (λ y => (∀ j, j < y.1 -> j < (opened cp num sub k j).1.length /\ (((opened cp num sub k j).1.length + (opened cp num sub k j).2 : Nat) : Int) <= b) /\ y.2.1.map PlM.plain = (opened cp num sub k y.1).1 /\ AtM y.2.1 (.map (some mb)) y.2.2.2.1 /\ OS 123 8 PlM.enc y.2.2.1 y.2.1 y.2.2.2.2.1 /\ ∀ q ∈ y.2.1, q.is λ b o => Rc b o \/ (b, o) ∈ y.2.2.2.2.2) (λ y E => (19, iN y.1) :: E) (G := [Tc, Tm, bl b12 [sZ, .int .i64 0] 55, bl b9 [.string k.os, .string k.oi] 30]) (λ y G => x.blk xb (.map (some mb)) y.2.2.1 (opened cp num sub k y.1).2 :: y.2.2.2.1 :: y.2.2.2.2.1 :: y.2.2.2.2.2 :: G) (λ y => N + 1 - y.1) (0, ps1, vp1, Ta1, To1, []) ⟨λ j hj => (by omega), h0, hA1, hO1, λ q hq => (hp1 q hq).mono λ b o hb => .inl hb⟩ kE.c.c.c rH ?_
  rintro ⟨i, ps, vp, Ta, To, Tp⟩ ⟨hj, heq, hA, hO, hP⟩
  simp only at hj heq hA hO hP ⊢
  have ivp := hO.oneCell
  have iog : Ones (List.take 2 (List.drop 6 (x.cells (.map (some mb)) vp (opened cp num sub k i).2))) := ⟨λ u hu => by
    simp [XC.cells] at hu
    rcases hu with rfl | rfl
    · exact ivp.h
    · rfl⟩
  have hj1 : ∀ j, j < i -> j < (opened cp num sub k j).1.length := λ j h9 => (hj j h9).1
  have hiN := opened_here hN hj1
  have hlm := hlim i hj1
  have hpl : ps.length = (opened cp num sub k i).1.length := by rw [<- heq, List.length_map]
  refine .seq<|.sr<|.mo rfl<|.mo rfl<|.nc rfl<|.fa rfl<|.fa rfl<|.lo rfl<|.q (.lenO hO)<|.q .lss<|.mo rfl<|.split (t := 80) rfl (λ g12_8 => ?_) (λ g12_8 => ?_)
  have hil : i < ps.length := by have := odt g12_8; omega
  refine .gT g12_8<|.mo rfl<|.gT g12_8 ?_
  refine .callR (hover _ (hok.mono λ b o hb => by
    rw [hRc] at hb
    rcases hb with hb | hb | hb
    · exact .inl hb
    · exact .inr (by simp [hb])
    · exact .inr (by simp [hb])) (.map (some mb)) vp (opened cp num sub k i).2 ps (pc := PC.of (E := 217) (fr := (0, 0)) (.inr (by simp))) hO.rx (by omega) (by rw [hxb]; omega)) (λ u hu => ?_)
  subst hu
  refine .gT g12_8<|.q .not<|.q (.pickTh g12_8)<|.zn<|.cond rfl (λ h4 => ?_) λ h4 => ?_
  have hnb : (((opened cp num sub k i).1.length + (opened cp num sub k i).2 : Nat) : Int) <= b := by
    have : ¬ x.b < (ps.length + (opened cp num sub k i).2 : Nat) := by simpa using h4
    rw [hxb] at this; omega
  obtain ⟨p, hp⟩ := exg hil
  have hfr : p.plain = one x.c.plain x.num p.k := by
    rw [hxc, hxn]
    exact opened_fresh (c := cp) (num := num) (sub := sub) (k := k) i i p.plain (Nat.le_refl _) (by rw [<- heq, List.getElem?_map, hp]; rfl)
  have hnl : p.nodes.length <= 1000000 := by
    have h9 := one_len (num := num) (k := p.k) hm.right
    rw [hxc, hxn] at hfr
    rw [<- hfr] at h9
    exact Nat.le_trans h9 (by omega)
  have hj2 : ∀ j, j < i + 1 -> j < (opened cp num sub k j).1.length /\ (((opened cp num sub k j).1.length + (opened cp num sub k j).2 : Nat) : Int) <= b := λ j h9 => by
    rcases Nat.lt_or_ge j i with h8 | h8
    · exact hj j h8
    · obtain rfl : j = i := by omega
      exact ⟨by omega, hnb⟩
  have hlm2 := hlim (i + 1) λ j h9 => (hj2 j h9).1
  have hos := opened_succ (c := cp) (num := num) (sub := sub) (k := k) i
  have ho1 : (openP cp num sub (ps.map PlM.plain) i).1 = (opened cp num sub k (i + 1)).1 := by rw [hos, heq]
  have ho2 : (opened cp num sub k i).2 + (openP cp num sub (ps.map PlM.plain) i).2 = (opened cp num sub k (i + 1)).2 := by rw [hos, heq]
  refine .kn<|.seq<|.block<|.region<|.mo rfl<|.mo rfl ?_
  refine .call [0, 0, 0] (hopen _ (λ b o hb => by
    rw [hRc] at hb
    rcases hb with hb | hb | hb
    · exact .inl hb
    · exact .inr (by simp [rest, dropAt, hb])
    · exact .inr (by simp [rest, dropAt, hb])) ps (opened cp num sub k i).2 (.map (some mb)) vp Ta To hA hO i p hp ((hP p (mog hp)).n.mono λ b o hb => by
    rw [hRc] at hb
    rcases hb with (hb | hb | hb) | hb
    · exact .inl hb
    · exact .inr (by simp [rest, dropAt, hb])
    · exact .inr (by simp [rest, dropAt, hb])
    · exact .inr (by simp [rest, dropAt, hb])) hfr hnl (by rw [hxc, hxn, hxsub, ho1]; omega) (by omega)) (λ u H' hu => ?_)
  rw [OpenT, hxc, hxn, hxsub, ho1, ho2] at hu
  obtain ⟨vp2, Ta2, To2, TL, Tr, Tu, l, q, rfl, hl9, he9, hA9, hO9, hq9⟩ := hu
  conv => arg 8; simp only [rest, dropAt, List.cons_append, List.nil_append]
  refine .nil<|blkQ_n<|seqQ_n<|.region<|.mo rfl<|.ia (i + 1) .add<|.ag rfl<|.nil ?_
  · exact loopQ_i (i + 1, (ps ++ l).set i q, vp2, Ta2, To2, TL ++ (Tr ++ (Tu ++ Tp))) ⟨hj2, he9, hA9, hO9, λ z hz => by
      rcases List.mem_or_eq_of_mem_set hz with hz | rfl
      · rcases List.mem_append.1 hz with hz | hz
        · exact (hP z hz).mono λ b o hb => hb.imp id λ hb => List.mem_append_right _ (List.mem_append_right _ (List.mem_append_right _ hb))
        · exact (hl9 z hz).mono λ b o hb => .inl hb
      · rcases hq9 with rfl | ⟨e1, e2, e3, e4, e5⟩
        · exact (hP _ (mog hp)).mono λ b o hb => hb.imp id λ hb => List.mem_append_right _ (List.mem_append_right _ (List.mem_append_right _ hb))
        · refine ⟨?_, e3.mono λ b o hb => .inr (List.mem_append_right _ (List.mem_append_right _ (List.mem_append_left _ hb))), e4.mono λ b o hb => .inr (List.mem_append_left _ hb), λ y hy => (e5 y hy).mono λ b o hb => .inr (List.mem_append_right _ (List.mem_append_left _ hb))⟩
          rw [e1, e2]
          exact (hP p (mog hp)).n.mono λ b o hb => hb.imp id λ hb => List.mem_append_right _ (List.mem_append_right _ (List.mem_append_right _ hb))⟩ (by simp only; omega) kE.c.c.c (HLe.ofPerm (by simp [setL]))
  refine .exit<|seqQ_x<|loopQ_x<|blkQ_x<|seqQ_n<|.seq<|.sr<|.mo rfl ?_
  refine .callR (hover _ (hok.mono λ b o hb => by
    rw [hRc] at hb
    rcases hb with hb | hb | hb
    · exact .inl hb
    · exact .inr (by simp [hb])
    · exact .inr (by simp [hb])) (.map (some mb)) vp (opened cp num sub k i).2 ps (pc := PC.of (E := 217) (fr := (0, 0)) (.inr (by simp))) hO.rx (by omega) (by rw [hxb]; omega)) (λ u hu => ?_)
  subst hu
  refine .zn<|.cond rfl (λ h5 => ?_) λ h5 => ?_
  have hov : b < (((opened cp num sub k i).1.length + (opened cp num sub k i).2 : Nat) : Int) := by
    have : x.b < (ps.length + (opened cp num sub k i).2 : Nat) := by simpa using h5
    rw [hxb] at this; omega
  obtain ⟨hg1, hg2⟩ := opened_mono (c := cp) (num := num) (sub := sub) (k := k) hiN
  rw [if_neg (by omega)] at hdisc
  refine .sr<|.q .bld<|.storeA rfl rfl<|.az rfl ?_
  refine .ret (seqQ_r (retQ_r _ (.two (.cellA rfl rfl) (.tmp rfl)) (HLe.one [2, 2, 2, 2] _) ?_))
  · first
      | exact (hdef _ _ _).2 ⟨_, [], _, rfl, by rw [hdisc]; rfl, RS.nil0, λ p hp => (by cases hp), by rw [hdisc]; rfl⟩
      | exact (hdef _ _ _).2 ⟨vp, ps, _, rfl, by rw [hdisc]; rfl, hO.rs λ p hp => .inr (by simp [take, dropAt, hp]), λ p hp => (hP p hp).mono λ b o hb => (by
          rw [hRc] at hb
          rcases hb with (hb | hb | hb) | hb
          · exact .inl hb
          · exact .inr (by simp [take, dropAt, hb])
          · exact .inr (by simp [take, dropAt, hb])
          · exact .inr (by simp [take, dropAt, hb])), by rw [hdisc]; exact heq⟩
  have hov : (((opened cp num sub k i).1.length + (opened cp num sub k i).2 : Nat) : Int) <= b := by
    have : ¬ x.b < (ps.length + (opened cp num sub k i).2 : Nat) := by simpa using h5
    rw [hxb] at this; omega
  have hiN2 : i = N := by
    refine AtEnd.uniq (c := cp) (num := num) (sub := sub) (k := k) ⟨?_, hj1⟩ hN
    (exfalso
     have : x.b < (ps.length + (opened cp num sub k i).2 : Nat) := by simpa using h4
     rw [hxb] at this
     omega)
  subst hiN2
  rw [if_pos hov] at hdisc
  refine .kn<|.sr<|.mo rfl<|.nc rfl<|.fa rfl<|.q (.loadT rfl)<|.storeA rfl rfl<|.az rfl ?_
  refine .ret (retQ_r _ (.two (.cellA rfl rfl) (.tmp rfl)) (HLe.one [2, 2, 2, 2] _) ?_)
  · first
      | exact (hdef _ _ _).2 ⟨_, [], _, rfl, by rw [hdisc]; rfl, RS.nil0, λ p hp => (by cases hp), by rw [hdisc]; rfl⟩
      | exact (hdef _ _ _).2 ⟨vp, ps, _, rfl, by rw [hdisc]; rfl, hO.rs λ p hp => .inr (by simp [take, dropAt, hp]), λ p hp => (hP p hp).mono λ b o hb => (by
          rw [hRc] at hb
          rcases hb with (hb | hb | hb) | hb
          · exact .inl hb
          · exact .inr (by simp [take, dropAt, hb])
          · exact .inr (by simp [take, dropAt, hb])
          · exact .inr (by simp [take, dropAt, hb])), by rw [hdisc]; exact heq⟩
  have hil : ¬ i < ps.length := by have := odf g12_8; omega
  refine .gF g12_8<|.gF g12_8<|.gF g12_8<|.q (.pickFh g12_8)<|.zn<|.condF<|.exit<|seqQ_x<|loopQ_x<|blkQ_x<|seqQ_n<|.seq<|.sr<|.mo rfl ?_
  refine .callR (hover _ (hok.mono λ b o hb => by
    rw [hRc] at hb
    rcases hb with hb | hb | hb
    · exact .inl hb
    · exact .inr (by simp [hb])
    · exact .inr (by simp [hb])) (.map (some mb)) vp (opened cp num sub k i).2 ps (pc := PC.of (E := 217) (fr := (0, 0)) (.inr (by simp))) hO.rx (by omega) (by rw [hxb]; omega)) (λ u hu => ?_)
  subst hu
  refine .zn<|.cond rfl (λ h5 => ?_) λ h5 => ?_
  have hov : b < (((opened cp num sub k i).1.length + (opened cp num sub k i).2 : Nat) : Int) := by
    have : x.b < (ps.length + (opened cp num sub k i).2 : Nat) := by simpa using h5
    rw [hxb] at this; omega
  obtain ⟨hg1, hg2⟩ := opened_mono (c := cp) (num := num) (sub := sub) (k := k) hiN
  rw [if_neg (by omega)] at hdisc
  refine .sr<|.q .bld<|.storeA rfl rfl<|.az rfl ?_
  refine .ret (seqQ_r (retQ_r _ (.two (.cellA rfl rfl) (.tmp rfl)) (HLe.one [2, 2, 2, 2] _) ?_))
  · first
      | exact (hdef _ _ _).2 ⟨_, [], _, rfl, by rw [hdisc]; rfl, RS.nil0, λ p hp => (by cases hp), by rw [hdisc]; rfl⟩
      | exact (hdef _ _ _).2 ⟨vp, ps, _, rfl, by rw [hdisc]; rfl, hO.rs λ p hp => .inr (by simp [take, dropAt, hp]), λ p hp => (hP p hp).mono λ b o hb => (by
          rw [hRc] at hb
          rcases hb with (hb | hb | hb) | hb
          · exact .inl hb
          · exact .inr (by simp [take, dropAt, hb])
          · exact .inr (by simp [take, dropAt, hb])
          · exact .inr (by simp [take, dropAt, hb])), by rw [hdisc]; exact heq⟩
  have hov : (((opened cp num sub k i).1.length + (opened cp num sub k i).2 : Nat) : Int) <= b := by
    have : ¬ x.b < (ps.length + (opened cp num sub k i).2 : Nat) := by simpa using h5
    rw [hxb] at this; omega
  have hiN2 : i = N := by
    refine AtEnd.uniq (c := cp) (num := num) (sub := sub) (k := k) ⟨?_, hj1⟩ hN
    (rw [<- hpl]; omega)
  subst hiN2
  rw [if_pos hov] at hdisc
  refine .kn<|.sr<|.mo rfl<|.nc rfl<|.fa rfl<|.q (.loadT rfl)<|.storeA rfl rfl<|.az rfl ?_
  refine .ret (retQ_r _ (.two (.cellA rfl rfl) (.tmp rfl)) (HLe.one [2, 2, 2, 2] _) ?_)
  · first
      | exact (hdef _ _ _).2 ⟨_, [], _, rfl, by rw [hdisc]; rfl, RS.nil0, λ p hp => (by cases hp), by rw [hdisc]; rfl⟩
      | exact (hdef _ _ _).2 ⟨vp, ps, _, rfl, by rw [hdisc]; rfl, hO.rs λ p hp => .inr (by simp [take, dropAt, hp]), λ p hp => (hP p hp).mono λ b o hb => (by
          rw [hRc] at hb
          rcases hb with (hb | hb | hb) | hb
          · exact .inl hb
          · exact .inr (by simp [take, dropAt, hb])
          · exact .inr (by simp [take, dropAt, hb])
          · exact .inr (by simp [take, dropAt, hb])), by rw [hdisc]; exact heq⟩
structure SolOK (ps : List PlM) (us : ByteArray) : Prop where
 ok : PsOK (ps.map PlM.plain) us
 tr : ∀ p ∈ ps, ∀ i, i < p.nodes.length -> (tree isWord p.nodes (i + 1)).isSome = true
 nl : ∀ p ∈ ps, p.nodes.length <= 1000000
 rl : ∀ p ∈ ps, ∀ q ∈ p.ll, q.2.length <= 1000000
 n : ps.length <= 2000000
 ed : nedges (ps.map PlM.plain) <= 1000000000
theorem SolOK.ll {ps : List PlM} {us : ByteArray} (h : SolOK ps us) : ∀ p ∈ ps, p.ll.length = p.nodes.length := λ p hp => by
 have := h.ok.ln p.plain (List.mem_map.2 ⟨p, hp, rfl⟩)
 have h2 : p.plain.leads.length = p.ll.length := by unfold PlM.plain; simp
 have h3 : p.plain.nodes = p.nodes := rfl
 rw [h2, h3] at this
 exact this
def solV (b : Int) (K : Nat) (v : List Bool) : List Bool × Nat × Int :=
 if b < 1 then ([], 0, 2) else if b < K then ([], b.toNat + 1, 16) else (v, K, 0)
theorem QRun.more {ps : List Plc} {us : ByteArray} {K k : Nat} {s t : QS} (h : QRun ps us K s) (hs : qnone s.2) (h' : QRun ps us k t) (ht : ¬ qnone t.2) : k < K := by
 rcases Nat.lt_trichotomy k K with h1 | h1 | h1
 ·exact h1
 ·subst h1
  rw [h.uniq h'] at hs
  exact absurd hs ht
 ·obtain ⟨u, i, hu, hi⟩ := h'.upto h1
  have e := h.uniq hu
  subst e
  have := hi.1
  rw [hs i] at this
  cases this
def PlM.zero (k : Obr) : PlM := ⟨k, false, sZ, [], sZ, [], sZ, [], 0⟩
def PU (R : Rds) (A : List (ByteArray × Rl)) (num : List Nat) (k : Obr) (m : Nat) (p : PlM) : Prop :=
 (p = PlM.zero k /\ ∀ j x, j < m -> A[j]? = some x -> rkey x ≠ ⟨k.os, k.rel⟩) \/
 ∃ j x vn, j < m /\ A[j]? = some x /\ rkey x = ⟨k.os, k.rel⟩ /\ p = ⟨k, true, vn, x.2.nodes, sZ, [], sZ, [], num.getD j 0⟩ /\ RS R 5 Nd.enc vn x.2.nodes
theorem no_other {A : List (ByteArray × Rl)} (hu : (A.map rkey).Nodup) {i j : Nat} {x y : ByteArray × Rl} {t : Ty} (hx : A[i]? = some x) (hy : A[j]? = some y) (h1 : rkey x = t) (h2 : rkey y = t) : i = j := by
 have hx' : (A.map rkey)[i]? = some t := by rw [List.getElem?_map, hx, <- h1]; rfl
 have hy' : (A.map rkey)[j]? = some t := by rw [List.getElem?_map, hy, <- h2]; rfl
 rcases Nat.lt_trichotomy i j with h | h | h
 ·exact absurd hu (not_nodup h hy' hx' rfl)
 ·exact h
 ·exact absurd hu (not_nodup h hx' hy' rfl)
theorem PU.same {R : Rds} {A : List (ByteArray × Rl)} {num : List Nat} {k : Obr} {m : Nat} {p : PlM} (h : PU R A num k m p) (hm : A.length <= m) (hu : (A.map rkey).Nodup) {c : Cf} (hA : c.all = A) : p.plain = one c num k /\ p.is R := by
 unfold one
 rw [hA]
 rcases h with ⟨rfl, h1⟩ | ⟨j, x, vn, h1, h2, h3, rfl, h4⟩
 ·rw [find_none λ j y hj hy => h1 j y (by omega) hy]
  exact ⟨rfl, RS.nil0, RS.nil0, NN.nil⟩
 ·rw [find_some h2 h3 λ i y hi hy he => by have := no_other hu h2 hy h3 he; omega]
  refine ⟨?_, h4, RS.nil0, NN.nil⟩
  simp only [PlM.plain, List.getD_eq_getElem?_getD, List.getElem?_map, h2]
  rfl
def subW (S : Sto) (L : List SRow) (rev : Int) (k : Obr) : List Sub := if scan S rev then (L.filter λ y => y.there rev && decide (y.t.obr = k)).map (·.t.sub) else []
structure WS (R : Rds) (cp : Cf) (c : CfM) (hb g x : Nat) (S : Sto) (num : List Nat) (L : List SRow) : Prop where
 ci : c.is R
 pl : c.plain = cp
 h : ∃ vl e, HV R hb vl [e] 0 /\ e.rev = 0 /\ e.c.plain = cp /\ e.ll.map (·.2) = rows cp.spaces num
 s : ∃ ps vf vr Mf Mr, SV R g S ps vf vr Mf Mr
 d : ∃ vL, DV R x S vL L
 rl : RL S L
 sok : SOK S
 len : S.rows.length <= 512
 m : Means isWord isRef cp num
 nm : (cp.numbers isWord isRef).2 = rows cp.spaces num
 six : cp.spaces.length <= 5 /\ ∀ y ∈ cp.spaces, y.rels.length <= 6
section
variable {R : Rds} {cp : Cf} {c : CfM} {hb g x : Nat} {S : Sto} {num : List Nat} {L : List SRow}
theorem WS.ll (h : WS R cp c hb g x S num L) : L.length <= 512 := by rw [h.rl.pm.length_eq]; exact h.len
theorem subW_mem {rev : Int} {k : Obr} {s : Sub} (h : s ∈ subW S L rev k) : ∃ r ∈ L, s = r.t.sub := by
 unfold subW at h
 split at h
 ·obtain ⟨r, hr, rfl⟩ := List.mem_map.1 h
  exact ⟨r, (List.mem_filter.1 hr).1, rfl⟩
 ·cases h
theorem WS.fin (h : WS R cp c hb g x S num L) (rev : Int) (k : Obr) : ∃ N, AtEnd cp num (subW S L rev) k N := by
 have hsub : ∀ k, ∀ s ∈ subW S L rev k, s ∈ L.map (·.t.sub) := λ k s hs => by
  obtain ⟨r, hr, rfl⟩ := subW_mem hs
  exact List.mem_map.2 ⟨r, hr, rfl⟩
 exact AtEnd.ex λ i => opened_len (reachU_closed hsub) self_reachU i
end
theorem discN_of {P : Program} {f : FuncId} {args : List Value} {R R0 : Rds} {H : Segs} {out : List Plc × Nat × Int} (h : Spec P f args R0 H (DiscT R out)) : Spec P f args R0 H λ u H' => ∃ T, H' = [T] /\ ∃ vp ps, u = .tuple [.agg [vp, iN out.2.1].toArray, .int .i64 out.2.2].toArray /\ RS (λ b o => R b o \/ (b, o) ∈ T) 8 PlM.enc vp ps /\ (∀ p ∈ ps, PlM.is (λ b o => R b o \/ (b, o) ∈ T) p) /\ ps.map PlM.plain = out.1 := h.mono λ u H' hu => by
 obtain ⟨vp, ps, T, h1, h2⟩ := hu
 exact ⟨T, h1, vp, ps, h2⟩
def DeadH (R : Rds) (p : Value) : Prop := p = .pointer none \/ ∃ q, p = pT q /\ R q (.cells [.bool false, sZ, .int .i64 0].toArray 116 (0, 0))
theorem hdmade_nil (R : Rds) : Spec prog 91 [.pointer none] R [] λ v H' => v = .bool false /\ H' = [] := by
 refine Spec.body Tryz.func91 rfl Tryz.results91 Tryz.ntmps91 rfl<|.sr<|.ag rfl<|.z<|.mo rfl<|.q (.neNilA rfl rfl)<|.mo rfl<|.gX<|.gX<|.gX<|.gX<|.q .pickF<|.az rfl<|.ret (rq1 rfl ?_)
 ·exact ⟨rfl, rfl⟩
theorem hdmade_zero (q : Nat) (R : Rds) [pc : PC R (pT q) [.bool false, sZ, .int .i64 0]] : Spec prog 91 [pT q] R [] λ v H' => v = .bool false /\ H' = [] := by
 refine Spec.body Tryz.func91 rfl Tryz.results91 Tryz.ntmps91 rfl<|.sr<|.ag rfl<|.z<|.mo rfl<|.q (.neNilP rfl rfl)<|.mo rfl<|.gt rfl<|.mo rfl<|.gt rfl<|.nc rfl<|.gt rfl<|.fa rfl<|.gt rfl<|.lo rfl<|.q .pickT<|.az rfl<|.ret (rq1 rfl ?_)
 ·exact ⟨rfl, rfl⟩
theorem hdmade_spec (p : Value) (R : Rds) (h : DeadH R p) : Spec prog 91 [p] R [] λ v H' => v = .bool false /\ H' = [] := by
 rcases h with rfl | ⟨q, rfl, hq⟩
 ·exact hdmade_nil R
 ·have pc := PC.of hq
  exact hdmade_zero q R
theorem ddisc_spec (ph pst : Value) [i1 : One ph] [i2 : One pst] (mk : Bool) (e : Int) (rev : Int) (k : Obr) (b : Int) (R : Rds) (hm : ∀ R', (∀ b o, R b o -> R' b o) -> Spec prog 91 [ph] R' [] λ u H' => u = .bool mk /\ H' = [])
  (hr : ∀ R', (∀ b o, R b o -> R' b o) -> Spec prog 92 [pst, .agg (Tpl.enc ⟨k.os, k.oi, k.rel, ⟨#[]⟩, ⟨#[]⟩, ⟨#[]⟩, ⟨#[]⟩⟩).toArray, .int .u64 rev] R' [] λ u H' => ∃ T, H' = [T] /\ ∃ w, One w /\ u = .tuple [w, .int .i64 e].toArray) (h : mk = false \/ e = 1) :
  Spec prog 47 [ph, pst, .int .u64 rev, .agg [.string k.os, .string k.oi].toArray, .string k.rel, .int .i64 b] R [] λ u H' => u = .tuple [.agg [sZ, .int .i64 0].toArray, .int .i64 1].toArray /\ H' = [] := by
 refine Spec.body Tryz.func47 rfl Tryz.results47 Tryz.ntmps47 rfl<|.sr ?_
 refine .boxA rfl (λ b9 => ?_)
 refine .allocA (λ b12 => ?_)
 refine .ag rfl<|.z<|.mo rfl<|.fa rfl<|.lo rfl<|.fa rfl<|.lo rfl<|.mo rfl ?_
 refine .q .bld ?_
 refine .mo rfl<|.callN (hr _ λ b o hb => .inl hb) (λ u T29 hu => ?_)
 obtain ⟨wr, iwr, rfl⟩ := hu
 refine .mo rfl<|.q .extract<|.q .extract<|.ag rfl<|.ag rfl<|.zs<|.block<|.sr<|.mo rfl<|.callR (hm _ λ b o hb => .inl hb) (λ u hu => ?_)
 subst hu
 refine .q .not<|.mo rfl<|.split (t := 36) rfl (λ g2_3 => ?_) (λ g2_3 => ?_)
 refine .gF g2_3<|.gF g2_3<|.q (.pickTh g2_3)<|.az rfl<|.condT<|.sr<|.q .bld<|.storeA rfl rfl<|.az rfl ?_
 refine .ret (blkQ_r (seqQ_r (retQ_r _ (.two (.cellA rfl rfl) (.tmp rfl)) (HLe.none _) ?_)))
 ·exact ⟨rfl, rfl⟩
 refine .gT g2_3<|.mo rfl<|.gT g2_3<|.q .eqI<|.q (.pickFh g2_3)<|.az rfl<|.cond rfl (λ h1 => ?_) λ h1 => ?_
 refine .sr<|.q .bld<|.storeA rfl rfl<|.az rfl ?_
 refine .ret (blkQ_r (seqQ_r (retQ_r _ (.two (.cellA rfl rfl) (.tmp rfl)) (HLe.none _) ?_)))
 ·exact ⟨rfl, rfl⟩
 ·exfalso
  rcases h with h | h
  ·subst h; simp_all
  ·subst h; simp_all
end Go.Proofs.YtenilfmlfldogaaGreat
