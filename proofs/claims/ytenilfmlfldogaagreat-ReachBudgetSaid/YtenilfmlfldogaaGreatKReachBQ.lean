/- What the law 'ReachB' uses. No condition. -/
import Derived.Test.YtenilfmlfldogaaGreatKReachBB
import Derived.Test.YtenilfmlfldogaaGreatKReachBF
import Derived.Test.YtenilfmlfldogaaGreatKReachBH
import Derived.Test.YtenilfmlfldogaaGreatKReachBI
import Derived.Test.YtenilfmlfldogaaGreatKReachBL
import Derived.Test.YtenilfmlfldogaaGreatKReachBN
import Derived.Test.YtenilfmlfldogaaGreatKReachBO
import Derived.Test.YtenilfmlfldogaaGreatKReachBP
namespace Go.Proofs.YtenilfmlfldogaaGreat
open Tryz (prog)
set_option linter.unusedVariables false
set_option linter.unusedSimpArgs false
set_option maxRecDepth 4000
def DiscT (R : Rds) (out : List Plc × Nat × Int) (u : Value) (H' : Segs) : Prop := ∃ vp ps T, H' = [T] /\ u = .tuple [.agg [vp, iN out.2.1].toArray, .int .i64 out.2.2].toArray /\ RS (λ b o => R b o \/ (b, o) ∈ T) 8 PlM.enc vp ps /\ (∀ p ∈ ps, PlM.is (λ b o => R b o \/ (b, o) ∈ T) p) /\ ps.map PlM.plain = out.1
theorem one_len {W : ByteArray -> Bool} {F : ByteArray -> ByteArray -> Bool} {c : Cf} {num : List Nat} {k : Obr} (hc : c.right W F = true) : (one c num k).nodes.length <= 64 := by
 unfold one
 split
 ·simp
 ·rename_i i hi
  simp only [List.getD_eq_getElem?_getD, List.getElem?_map]
  cases hy : c.all[i]? with
  | none => simp
  | some y =>
   have h1 := (right_rel hc y (mog hy)).2
   unfold muchR at h1
   simp only [Bool.or_eq_false_iff, decide_eq_false_iff_not] at h1
   have h2 := h1.1.2
   simp only [Option.map_some, Option.getD_some]
   omega
theorem opened_here {c : Cf} {num : List Nat} {sub : Obr -> List Sub} {k : Obr} {N i : Nat} (hN : AtEnd c num sub k N) (h : ∀ j, j < i -> j < (opened c num sub k j).1.length) : i <= N := Nat.not_lt.1 λ h9 => by have := h N h9; have := hN.1; omega
theorem discover_spec {R : Rds} {hb : Nat} {vl : Value} {es : List EnM} {gone : Nat} (hV : HV R hb vl es gone) {g : Nat} {S : Sto} {ps0 : List RB} {vf vr : Value} {Mf : List (Obr × (Value × Seg))} {Mr : List (Sub × (Value × Seg))} (hS : SV R g S ps0 vf vr Mf Mr)
    {L : List SRow} (hL : RL S L) (hl : S.rows.length <= 512) (rev : Int) (en : EnM) (hat : atC es rev = some en) (num : List Nat) (hm : Means isWord isRef en.c.plain num) (hnum : en.ll.map (·.2) = rows en.c.plain.spaces num) (hgl : gone <= 1000000 /\ es.length <= 1000000) (hl8 : ∀ e ∈ es, e.ll.length <= 1000000 /\ ∀ q ∈ e.ll, q.2.length <= 1000000)
    (k : Obr) (b : Int) (hb63 : b <= 9223372036854775807) (sub : Obr -> List Sub) (hsub : sub = λ k => if scan S rev then (L.filter λ y => y.there rev && decide (y.t.obr = k)).map (·.t.sub) else [])
    (hlim : ∀ i, (∀ j, j < i -> j < (opened en.c.plain num sub k j).1.length) -> (opened en.c.plain num sub k i).1.length + (opened en.c.plain num sub k i).2 <= 1048576) (N : Nat) (hN : AtEnd en.c.plain num sub k N) :
    Spec prog 47 [pT hb, pT g, .int .u64 rev, .agg [.string k.os, .string k.oi].toArray, .string k.rel, .int .i64 b] R [] (DiscT R (disc en.c.plain num sub k b (scan S rev) N)) := by
  have hatc : ((atC es rev).map λ e => e.c.plain).getD ⟨[], []⟩ = en.c.plain := by rw [hat]; rfl
  have hatn : ((atC es rev).map λ e => e.ll.map (·.2)).getD [] = rows en.c.plain.spaces num := by rw [hat]; exact hnum
  have hdef : ∀ out u H', DiscT R out u H' ↔ ∃ vp ps T, H' = [T] /\ u = .tuple [.agg [vp, iN out.2.1].toArray, .int .i64 out.2.2].toArray /\ RS (λ b o => R b o \/ (b, o) ∈ T) 8 PlM.enc vp ps /\ (∀ p ∈ ps, PlM.is (λ b o => R b o \/ (b, o) ∈ T) p) /\ ps.map PlM.plain = out.1 := λ _ _ _ => Iff.rfl
  have hdisc : disc en.c.plain num sub k b (scan S rev) N = if b < 1 then ([], 0, 2) else if scan S rev = false then ([], 0, 12)
    else if (((opened en.c.plain num sub k N).1.length + (opened en.c.plain num sub k N).2 : Nat) : Int) <= b then ((opened en.c.plain num sub k N).1, (opened en.c.plain num sub k N).2, 0) else ([], 0, 16) := rfl
  generalize hc_ : en.c.plain = cp at *
  refine Spec.body Tryz.func47 rfl Tryz.results47 Tryz.ntmps47 rfl<|.sr ?_
  refine .boxA rfl (λ b9 => ?_)
  refine .allocA (λ b12 => ?_)
  refine .ag rfl<|.z<|.mo rfl<|.fa rfl<|.lo rfl<|.fa rfl<|.lo rfl<|.mo rfl ?_
  refine .q .bld ?_
  refine .mo rfl<|.callN ((read_spec hS (by omega) ⟨k.os, k.oi, k.rel, ⟨#[]⟩, ⟨#[]⟩, ⟨#[]⟩, ⟨#[]⟩⟩ rev).weaken rxl) (λ u T29 hu => ?_)
  obtain ⟨wr, ys, rfl, hOr, _⟩ := hu
  have iwr := hOr.oneCell
  refine .mo rfl<|.q .extract<|.q .extract<|.ag rfl<|.ag rfl<|.zs<|.block<|.sr<|.mo rfl<|.callR ((HV.made hV).weaken rxl) (λ u hu => ?_)
  subst hu
  refine .q .not<|.mo rfl<|.split (t := 36) rfl (λ g2_3 => ?_) (λ g2_3 => ?_)
  · simp at g2_3
  refine .gT g2_3<|.mo rfl<|.gT g2_3<|.q .eqI<|.q (.pickFh g2_3)<|.az rfl<|.cond rfl (λ h1 => ?_) λ h1 => ?_
  · cases hsc : scan S rev <;> simp [hsc] at h1
  refine .sr<|.mo rfl<|.q .lss<|.az rfl<|.cond rfl (λ h2 => ?_) λ h2 => ?_
  have hb1 : b < 1 := odt h2
  refine .sr<|.q .bld<|.storeA rfl rfl<|.az rfl ?_
  refine .ret (blkQ_r (seqQ_r (retQ_r _ (.two (.cellA rfl rfl) (.tmp rfl)) (HLe.one [] _) ?_)))
  · exact (hdef _ _ _).2 ⟨_, [], _, rfl, by rw [hdisc, if_pos hb1]; rfl, RS.nil0, λ p hp => (by cases hp), by rw [hdisc, if_pos hb1]; rfl⟩
  have hb1 : ¬ b < 1 := odf h2
  refine .sr<|.mo rfl<|.q .neI<|.az rfl<|.cond rfl (λ h3 => ?_) λ h3 => ?_
  have hsc : scan S rev = false := by
    cases hsc : scan S rev with
    | false => rfl
    | true => simp [hsc] at h3
  refine .sr<|.q .bld<|.mo rfl<|.storeA rfl rfl<|.az rfl ?_
  refine .ret (blkQ_r (seqQ_r (retQ_r _ (.two (.cellA rfl rfl) (.tmp rfl)) (HLe.one [] _) ?_)))
  · exact (hdef _ _ _).2 ⟨_, [], _, rfl, by rw [hdisc, if_neg hb1, if_pos hsc, hsc]; rfl, RS.nil0, λ p hp => (by cases hp), by rw [hdisc, if_neg hb1, if_pos hsc]; rfl⟩
  have hsc : scan S rev = true := by
    cases hsc : scan S rev with
    | true => rfl
    | false => simp [hsc] at h3
  rw [if_neg hb1, if_neg (by rw [hsc]; simp)] at hdisc
  refine .skip<|blkQ_n<|seqQ_n<|.sr<|.mo rfl<|.mo rfl<|.callN ((hV.at_ rev hgl).weaken rxl) (λ u Tc hu => ?_)
  obtain ⟨c', rfl, hc', hcp⟩ := hu
  rw [hatc] at hcp
  have ice : Ones c'.enc := ⟨hc'.ones⟩
  have ic1 : One c'.vs := RS.oneCell hc'.ss
  have ic2 : One c'.vc := RS.oneCell hc'.sc
  refine .mo rfl<|.q .extract<|.q .extract ?_
  refine .allocA (λ b16 => ?_)
  refine .storeA rfl rfl<|.ag rfl<|.zs ?_
  refine Tri.cutS [(4, _), (9, _), (12, _)] kE.c.c.c (X := Nat × Nat × Value × Seg) (λ y => MS kTy vNt y.2.2.1 (numM cp num) y.2.2.2) (λ y E => (18, .pointer (some ⟨y.1, 0, none⟩)) :: E) (λ y => [XC.blk ⟨c', num, y.2.2.1, g, S, L, rev, b⟩ y.1 (.map (some y.2.1)) (sZ) 0, [(y.2.1, .map #[] 0)], [], [], Tc, y.2.2.2, bl b12 [sZ, .int .i64 0] 55, bl b9 [.string k.os, .string k.oi] 30]) ?_ ?_
  refine .region_all [] mixed<|.tO 0 rfl (.loadA rfl)<|.tO 1 rfl (.loadA rfl)<|.tO 2 rfl .move<|.tO 3 rfl .move<|.tO 6 rfl .move<|.tO 7 rfl .move<|.tO 9 rfl .move<|RA.step2 4 8 rfl rfl (by kernel_rfl) rfl ?_ ?_
  refine .callN ((hV.numbers rev hl8).weaken rxl) (λ u Tn hu => ?_)
  obtain ⟨ll, hNN, hll⟩ := hu
  rw [hatn] at hll
  have inn := hNN.rs.oneCell
  refine .nil<|Next.sub<|RA.step2 5 8 rfl rfl (by kernel_rfl) rfl ?_ ?_
  refine .callN ((numbered_spec c' (λ b o => (b, o) ∈ Tc \/ (b, o) ∈ Tn) (hc'.mono λ b o hb => .inl hb) (by rw [hcp]; exact hm.uniq) _ ll num (hNN.mono λ b o hb => .inr hb) (by rw [hcp]; exact hll) (by rw [hcp]; exact hm.len)).weaken λ b o hb => .inr (by rcases hb with hb | hb <;> simp [hb])) (λ u Tm hu => ?_)
  obtain ⟨mn, rfl⟩ : ∃ m, u = .map (some m) := by obtain ⟨b, _, _, h, _⟩ := hu; exact ⟨b, h⟩
  refine .nil<|Next.sub<|.sT 8 rfl ?_
  refine .makeMap (λ b64 => ?_)
  refine .nil<|Next.sub<|.tO 10 rfl .bld<|.sT 11 rfl ?_
  refine .boxA rfl (λ b67 => ?_)
  refine .nil<|Next.sub<|.tO 12 rfl .assign<|RA.nil (by kernel_rfl) ?_
  · first
      | exact joinQ_n (b67, b64, _, Tm) (by rw [<- hcp]; exact hu) ((((kE.d rfl).d rfl).d rfl).d rfl) (HLe.new00.trans (pkH [2, 2, 0, 0, 3, 0, 3, 3]))
      | exact joinQ_n (b67, b64, _, Tm) (by rw [<- hcp]; exact hu) ((((kE.d rfl).d rfl).d rfl).d rfl) (HLe.new00.trans (pkH [2, 3, 0, 0, 3, 0, 3, 3]))
      | exact joinQ_n (b67, b64, _, Tm) (by rw [<- hcp]; exact hu) ((((kE.d rfl).d rfl).d rfl).d rfl) (HLe.new00.trans (pkH [2, 4, 0, 0, 3, 0, 3, 3]))
  refine .makeMap (λ b64 => ?_)
  refine .nil<|Next.sub<|.sT 5 rfl<|.callN ((numbered_spec c' (λ b o => (b, o) ∈ Tc \/ (b, o) ∈ Tn) (hc'.mono λ b o hb => .inl hb) (by rw [hcp]; exact hm.uniq) _ ll num (hNN.mono λ b o hb => .inr hb) (by rw [hcp]; exact hll) (by rw [hcp]; exact hm.len)).weaken λ b o hb => .inr (by rcases hb with hb | hb <;> simp [hb])) (λ u Tm hu => ?_)
  obtain ⟨mn, rfl⟩ : ∃ m, u = .map (some m) := by obtain ⟨b, _, _, h, _⟩ := hu; exact ⟨b, h⟩
  refine .nil<|Next.sub<|.tO 10 rfl .bld<|.sT 11 rfl ?_
  refine .boxA rfl (λ b67 => ?_)
  refine .nil<|Next.sub<|.tO 12 rfl .assign<|RA.nil (by kernel_rfl) ?_
  · first
      | exact joinQ_n (b67, b64, _, Tm) (by rw [<- hcp]; exact hu) ((((kE.d rfl).d rfl).d rfl).d rfl) (HLe.new00.trans (pkH [2, 2, 0, 0, 3, 0, 3, 3]))
      | exact joinQ_n (b67, b64, _, Tm) (by rw [<- hcp]; exact hu) ((((kE.d rfl).d rfl).d rfl).d rfl) (HLe.new00.trans (pkH [2, 3, 0, 0, 3, 0, 3, 3]))
      | exact joinQ_n (b67, b64, _, Tm) (by rw [<- hcp]; exact hu) ((((kE.d rfl).d rfl).d rfl).d rfl) (HLe.new00.trans (pkH [2, 4, 0, 0, 3, 0, 3, 3]))
  refine .makeMap (λ b64 => ?_)
  refine .nil<|Next.sub<|.sT 4 rfl<|.callN ((hV.numbers rev hl8).weaken rxl) (λ u Tn hu => ?_)
  obtain ⟨ll, hNN, hll⟩ := hu
  rw [hatn] at hll
  have inn := hNN.rs.oneCell
  refine .nil<|Next.sub<|.sT 5 rfl<|.callN ((numbered_spec c' (λ b o => (b, o) ∈ Tc \/ (b, o) ∈ Tn) (hc'.mono λ b o hb => .inl hb) (by rw [hcp]; exact hm.uniq) _ ll num (hNN.mono λ b o hb => .inr hb) (by rw [hcp]; exact hll) (by rw [hcp]; exact hm.len)).weaken λ b o hb => .inr (by rcases hb with hb | hb <;> simp [hb])) (λ u Tm hu => ?_)
  obtain ⟨mn, rfl⟩ : ∃ m, u = .map (some m) := by obtain ⟨b, _, _, h, _⟩ := hu; exact ⟨b, h⟩
  refine .nil<|Next.sub<|.tO 10 rfl .bld<|.sT 11 rfl ?_
  refine .boxA rfl (λ b67 => ?_)
  refine .nil<|Next.sub<|.tO 12 rfl .assign<|RA.nil (by kernel_rfl) ?_
  · first
      | exact joinQ_n (b67, b64, _, Tm) (by rw [<- hcp]; exact hu) ((((kE.d rfl).d rfl).d rfl).d rfl) (HLe.new00.trans (pkH [2, 2, 0, 0, 3, 0, 3, 3]))
      | exact joinQ_n (b67, b64, _, Tm) (by rw [<- hcp]; exact hu) ((((kE.d rfl).d rfl).d rfl).d rfl) (HLe.new00.trans (pkH [2, 3, 0, 0, 3, 0, 3, 3]))
      | exact joinQ_n (b67, b64, _, Tm) (by rw [<- hcp]; exact hu) ((((kE.d rfl).d rfl).d rfl).d rfl) (HLe.new00.trans (pkH [2, 4, 0, 0, 3, 0, 3, 3]))
  intro y hy
  obtain ⟨xb, mb, vn, Tm⟩ := y
  simp only at hy ⊢
  obtain ⟨x, hx9⟩ : ∃ x : XC, x = ⟨c', num, vn, g, S, L, rev, b⟩ := ⟨_, rfl⟩
  have ivn := hy.one
  have hxsub : x.sub = sub := by rw [hsub, hx9]; rfl
  have hxc : x.c.plain = cp := by rw [hx9]; exact hcp
  have hxn : x.num = num := by rw [hx9]
  have hxb : x.b = b := by rw [hx9]
  obtain ⟨Rc, hRc⟩ : ∃ Rc : Rds, Rc = λ b o => R b o \/ (b, o) ∈ Tc \/ (b, o) ∈ Tm := ⟨_, rfl⟩
  have hok : x.ok Rc := by
    rw [hx9, hRc]
    exact ⟨hc'.mono λ b o hb => .inr (.inl hb), by simp only; rw [hcp]; exact hy.rm λ p hp => .inr (.inr hp), by simp only; rw [hcp]; exact hm.len, ⟨ps0, vf, vr, Mf, Mr, hS.mono λ b o hb => .inl hb⟩, hL, hl⟩
  have hplace := place_spec x Rc hok xb
  have hopen := λ R h => open_spec x Rc R h hok xb
  have hover := λ R h => over_spec x R h xb
  rw [<- hx9]
  refine seqQ_n<|.sr<|.mo rfl<|.q (.loadA rfl)<|.mo rfl ?_
  refine .call [0, 0, 0] ((hplace [] 0 (.map (some mb)) (sZ) [(mb, .map #[] 0)] [] ⟨[], MS.nil, λ k => rfl⟩ OS.nil (by simp) k).weaken λ b o hb => by
    rw [hRc] at hb
    rcases hb with hb | hb | hb
    · exact .inl hb
    · exact .inr (by simp [rest, dropAt, hb])
    · exact .inr (by simp [rest, dropAt, hb])) (λ u H' hu => ?_)
  obtain ⟨ps1, vp1, Ta1, To1, rfl, rfl, he1, hA1, hO1, l1, hl1, hp1⟩ := hu
  rw [List.nil_append] at hl1
  subst hl1
  conv => arg 8; simp only [rest, dropAt, List.cons_append, List.nil_append]
  have h0 : ps1.map PlM.plain = (opened cp num sub k 0).1 := by rw [he1, hxc, hxn]; rfl
  refine .zs<|.sr<|.az rfl<|.block<|.loopS [(12, _), (18, _)] (X := Nat × List PlM × Value × Seg × Seg × Seg) (λ y => (∀ j, j < y.1 -> j < (opened cp num sub k j).1.length /\ (((opened cp num sub k j).1.length + (opened cp num sub k j).2 : Nat) : Int) <= b) /\ y.2.1.map PlM.plain = (opened cp num sub k y.1).1 /\ AtM y.2.1 (.map (some mb)) y.2.2.2.1 /\ OS 123 8 PlM.enc y.2.2.1 y.2.1 y.2.2.2.2.1 /\ ∀ q ∈ y.2.1, q.is λ b o => Rc b o \/ (b, o) ∈ y.2.2.2.2.2) (λ y E => (19, iN y.1) :: E) (G := [Tc, Tm, bl b12 [sZ, .int .i64 0] 55, bl b9 [.string k.os, .string k.oi] 30]) (λ y G => x.blk xb (.map (some mb)) y.2.2.1 (opened cp num sub k y.1).2 :: y.2.2.2.1 :: y.2.2.2.2.1 :: y.2.2.2.2.2 :: G) (λ y => N + 1 - y.1) (0, ps1, vp1, Ta1, To1, []) ⟨λ j hj => (by omega), h0, hA1, hO1, λ q hq => (hp1 q hq).mono λ b o hb => .inl hb⟩ kE.c.c.c rH ?_
  rintro ⟨i, ps, vp, Ta, To, Tp⟩ ⟨hj, heq, hA, hO, hP⟩
  simp only at hj heq hA hO hP ⊢
  have ivp := hO.oneCell
  have iog : Ones (List.take 2 (List.drop 6 (x.cells (.map (some mb)) vp (opened cp num sub k i).2))) := ⟨λ u hu => by
    simp [XC.cells] at hu
    rcases hu with rfl | rfl
    · exact ivp.h
    · rfl⟩
  have hj1 : ∀ j, j < i -> j < (opened cp num sub k j).1.length := λ j h9 => (hj j h9).1
  have hiN := opened_here hN hj1
  have hlm := hlim i hj1
  have hpl : ps.length = (opened cp num sub k i).1.length := by rw [<- heq, List.length_map]
  refine .seq<|.sr<|.mo rfl<|.mo rfl<|.nc rfl<|.fa rfl<|.fa rfl<|.lo rfl<|.q (.lenO hO)<|.q .lss<|.mo rfl<|.split (t := 80) rfl (λ g12_8 => ?_) (λ g12_8 => ?_)
  have hil : i < ps.length := by have := odt g12_8; omega
  refine .gT g12_8<|.mo rfl<|.gT g12_8 ?_
  refine .callR (hover _ (hok.mono λ b o hb => by
    rw [hRc] at hb
    rcases hb with hb | hb | hb
    · exact .inl hb
    · exact .inr (by simp [hb])
    · exact .inr (by simp [hb])) (.map (some mb)) vp (opened cp num sub k i).2 ps (pc := PC.of (E := 217) (fr := (0, 0)) (.inr (by simp))) hO.rx (by omega) (by rw [hxb]; omega)) (λ u hu => ?_)
  subst hu
  refine .gT g12_8<|.q .not<|.q (.pickTh g12_8)<|.zn<|.cond rfl (λ h4 => ?_) λ h4 => ?_
  have hnb : (((opened cp num sub k i).1.length + (opened cp num sub k i).2 : Nat) : Int) <= b := by
    have : ¬ x.b < (ps.length + (opened cp num sub k i).2 : Nat) := by simpa using h4
    rw [hxb] at this; omega
  obtain ⟨p, hp⟩ := exg hil
  have hfr : p.plain = one x.c.plain x.num p.k := by
    rw [hxc, hxn]
    exact opened_fresh (c := cp) (num := num) (sub := sub) (k := k) i i p.plain (Nat.le_refl _) (by rw [<- heq, List.getElem?_map, hp]; rfl)
  have hnl : p.nodes.length <= 1000000 := by
    have h9 := one_len (num := num) (k := p.k) hm.right
    rw [hxc, hxn] at hfr
    rw [<- hfr] at h9
    exact Nat.le_trans h9 (by omega)
  have hj2 : ∀ j, j < i + 1 -> j < (opened cp num sub k j).1.length /\ (((opened cp num sub k j).1.length + (opened cp num sub k j).2 : Nat) : Int) <= b := λ j h9 => by
    rcases Nat.lt_or_ge j i with h8 | h8
    · exact hj j h8
    · obtain rfl : j = i := by omega
      exact ⟨by omega, hnb⟩
  have hlm2 := hlim (i + 1) λ j h9 => (hj2 j h9).1
  have hos := opened_succ (c := cp) (num := num) (sub := sub) (k := k) i
  have ho1 : (openP cp num sub (ps.map PlM.plain) i).1 = (opened cp num sub k (i + 1)).1 := by rw [hos, heq]
  have ho2 : (opened cp num sub k i).2 + (openP cp num sub (ps.map PlM.plain) i).2 = (opened cp num sub k (i + 1)).2 := by rw [hos, heq]
  refine .kn<|.seq<|.block<|.region<|.mo rfl<|.mo rfl ?_
  refine .call [0, 0, 0] (hopen _ (λ b o hb => by
    rw [hRc] at hb
    rcases hb with hb | hb | hb
    · exact .inl hb
    · exact .inr (by simp [rest, dropAt, hb])
    · exact .inr (by simp [rest, dropAt, hb])) ps (opened cp num sub k i).2 (.map (some mb)) vp Ta To hA hO i p hp ((hP p (mog hp)).n.mono λ b o hb => by
    rw [hRc] at hb
    rcases hb with (hb | hb | hb) | hb
    · exact .inl hb
    · exact .inr (by simp [rest, dropAt, hb])
    · exact .inr (by simp [rest, dropAt, hb])
    · exact .inr (by simp [rest, dropAt, hb])) hfr hnl (by rw [hxc, hxn, hxsub, ho1]; omega) (by omega)) (λ u H' hu => ?_)
  rw [OpenT, hxc, hxn, hxsub, ho1, ho2] at hu
  obtain ⟨vp2, Ta2, To2, TL, Tr, Tu, l, q, rfl, hl9, he9, hA9, hO9, hq9⟩ := hu
  conv => arg 8; simp only [rest, dropAt, List.cons_append, List.nil_append]
  refine .nil<|blkQ_n<|seqQ_n<|.region<|.mo rfl<|.ia (i + 1) .add<|.ag rfl<|.nil ?_
  · exact loopQ_i (i + 1, (ps ++ l).set i q, vp2, Ta2, To2, TL ++ (Tr ++ (Tu ++ Tp))) ⟨hj2, he9, hA9, hO9, λ z hz => by
      rcases List.mem_or_eq_of_mem_set hz with hz | rfl
      · rcases List.mem_append.1 hz with hz | hz
        · exact (hP z hz).mono λ b o hb => hb.imp id λ hb => List.mem_append_right _ (List.mem_append_right _ (List.mem_append_right _ hb))
        · exact (hl9 z hz).mono λ b o hb => .inl hb
      · rcases hq9 with rfl | ⟨e1, e2, e3, e4, e5⟩
        · exact (hP _ (mog hp)).mono λ b o hb => hb.imp id λ hb => List.mem_append_right _ (List.mem_append_right _ (List.mem_append_right _ hb))
        · refine ⟨?_, e3.mono λ b o hb => .inr (List.mem_append_right _ (List.mem_append_right _ (List.mem_append_left _ hb))), e4.mono λ b o hb => .inr (List.mem_append_left _ hb), λ y hy => (e5 y hy).mono λ b o hb => .inr (List.mem_append_right _ (List.mem_append_left _ hb))⟩
          rw [e1, e2]
          exact (hP p (mog hp)).n.mono λ b o hb => hb.imp id λ hb => List.mem_append_right _ (List.mem_append_right _ (List.mem_append_right _ hb))⟩ (by simp only; omega) kE.c.c.c (HLe.ofPerm (by simp [setL]))
  refine .exit<|seqQ_x<|loopQ_x<|blkQ_x<|seqQ_n<|.seq<|.sr<|.mo rfl ?_
  refine .callR (hover _ (hok.mono λ b o hb => by
    rw [hRc] at hb
    rcases hb with hb | hb | hb
    · exact .inl hb
    · exact .inr (by simp [hb])
    · exact .inr (by simp [hb])) (.map (some mb)) vp (opened cp num sub k i).2 ps (pc := PC.of (E := 217) (fr := (0, 0)) (.inr (by simp))) hO.rx (by omega) (by rw [hxb]; omega)) (λ u hu => ?_)
  subst hu
  refine .zn<|.cond rfl (λ h5 => ?_) λ h5 => ?_
  have hov : b < (((opened cp num sub k i).1.length + (opened cp num sub k i).2 : Nat) : Int) := by
    have : x.b < (ps.length + (opened cp num sub k i).2 : Nat) := by simpa using h5
    rw [hxb] at this; omega
  obtain ⟨hg1, hg2⟩ := opened_mono (c := cp) (num := num) (sub := sub) (k := k) hiN
  rw [if_neg (by omega)] at hdisc
  refine .sr<|.q .bld<|.storeA rfl rfl<|.az rfl ?_
  refine .ret (seqQ_r (retQ_r _ (.two (.cellA rfl rfl) (.tmp rfl)) (HLe.one [2, 2, 2, 2] _) ?_))
  · first
      | exact (hdef _ _ _).2 ⟨_, [], _, rfl, by rw [hdisc]; rfl, RS.nil0, λ p hp => (by cases hp), by rw [hdisc]; rfl⟩
      | exact (hdef _ _ _).2 ⟨vp, ps, _, rfl, by rw [hdisc]; rfl, hO.rs λ p hp => .inr (by simp [take, dropAt, hp]), λ p hp => (hP p hp).mono λ b o hb => (by
          rw [hRc] at hb
          rcases hb with (hb | hb | hb) | hb
          · exact .inl hb
          · exact .inr (by simp [take, dropAt, hb])
          · exact .inr (by simp [take, dropAt, hb])
          · exact .inr (by simp [take, dropAt, hb])), by rw [hdisc]; exact heq⟩
  have hov : (((opened cp num sub k i).1.length + (opened cp num sub k i).2 : Nat) : Int) <= b := by
    have : ¬ x.b < (ps.length + (opened cp num sub k i).2 : Nat) := by simpa using h5
    rw [hxb] at this; omega
  have hiN2 : i = N := by
    refine AtEnd.uniq (c := cp) (num := num) (sub := sub) (k := k) ⟨?_, hj1⟩ hN
    (exfalso
     have : x.b < (ps.length + (opened cp num sub k i).2 : Nat) := by simpa using h4
     rw [hxb] at this
     omega)
  subst hiN2
  rw [if_pos hov] at hdisc
  refine .kn<|.sr<|.mo rfl<|.nc rfl<|.fa rfl<|.q (.loadT rfl)<|.storeA rfl rfl<|.az rfl ?_
  refine .ret (retQ_r _ (.two (.cellA rfl rfl) (.tmp rfl)) (HLe.one [2, 2, 2, 2] _) ?_)
  · first
      | exact (hdef _ _ _).2 ⟨_, [], _, rfl, by rw [hdisc]; rfl, RS.nil0, λ p hp => (by cases hp), by rw [hdisc]; rfl⟩
      | exact (hdef _ _ _).2 ⟨vp, ps, _, rfl, by rw [hdisc]; rfl, hO.rs λ p hp => .inr (by simp [take, dropAt, hp]), λ p hp => (hP p hp).mono λ b o hb => (by
          rw [hRc] at hb
          rcases hb with (hb | hb | hb) | hb
          · exact .inl hb
          · exact .inr (by simp [take, dropAt, hb])
          · exact .inr (by simp [take, dropAt, hb])
          · exact .inr (by simp [take, dropAt, hb])), by rw [hdisc]; exact heq⟩
  have hil : ¬ i < ps.length := by have := odf g12_8; omega
  refine .gF g12_8<|.gF g12_8<|.gF g12_8<|.q (.pickFh g12_8)<|.zn<|.condF<|.exit<|seqQ_x<|loopQ_x<|blkQ_x<|seqQ_n<|.seq<|.sr<|.mo rfl ?_
  refine .callR (hover _ (hok.mono λ b o hb => by
    rw [hRc] at hb
    rcases hb with hb | hb | hb
    · exact .inl hb
    · exact .inr (by simp [hb])
    · exact .inr (by simp [hb])) (.map (some mb)) vp (opened cp num sub k i).2 ps (pc := PC.of (E := 217) (fr := (0, 0)) (.inr (by simp))) hO.rx (by omega) (by rw [hxb]; omega)) (λ u hu => ?_)
  subst hu
  refine .zn<|.cond rfl (λ h5 => ?_) λ h5 => ?_
  have hov : b < (((opened cp num sub k i).1.length + (opened cp num sub k i).2 : Nat) : Int) := by
    have : x.b < (ps.length + (opened cp num sub k i).2 : Nat) := by simpa using h5
    rw [hxb] at this; omega
  obtain ⟨hg1, hg2⟩ := opened_mono (c := cp) (num := num) (sub := sub) (k := k) hiN
  rw [if_neg (by omega)] at hdisc
  refine .sr<|.q .bld<|.storeA rfl rfl<|.az rfl ?_
  refine .ret (seqQ_r (retQ_r _ (.two (.cellA rfl rfl) (.tmp rfl)) (HLe.one [2, 2, 2, 2] _) ?_))
  · first
      | exact (hdef _ _ _).2 ⟨_, [], _, rfl, by rw [hdisc]; rfl, RS.nil0, λ p hp => (by cases hp), by rw [hdisc]; rfl⟩
      | exact (hdef _ _ _).2 ⟨vp, ps, _, rfl, by rw [hdisc]; rfl, hO.rs λ p hp => .inr (by simp [take, dropAt, hp]), λ p hp => (hP p hp).mono λ b o hb => (by
          rw [hRc] at hb
          rcases hb with (hb | hb | hb) | hb
          · exact .inl hb
          · exact .inr (by simp [take, dropAt, hb])
          · exact .inr (by simp [take, dropAt, hb])
          · exact .inr (by simp [take, dropAt, hb])), by rw [hdisc]; exact heq⟩
  have hov : (((opened cp num sub k i).1.length + (opened cp num sub k i).2 : Nat) : Int) <= b := by
    have : ¬ x.b < (ps.length + (opened cp num sub k i).2 : Nat) := by simpa using h5
    rw [hxb] at this; omega
  have hiN2 : i = N := by
    refine AtEnd.uniq (c := cp) (num := num) (sub := sub) (k := k) ⟨?_, hj1⟩ hN
    (rw [<- hpl]; omega)
  subst hiN2
  rw [if_pos hov] at hdisc
  refine .kn<|.sr<|.mo rfl<|.nc rfl<|.fa rfl<|.q (.loadT rfl)<|.storeA rfl rfl<|.az rfl ?_
  refine .ret (retQ_r _ (.two (.cellA rfl rfl) (.tmp rfl)) (HLe.one [2, 2, 2, 2] _) ?_)
  · first
      | exact (hdef _ _ _).2 ⟨_, [], _, rfl, by rw [hdisc]; rfl, RS.nil0, λ p hp => (by cases hp), by rw [hdisc]; rfl⟩
      | exact (hdef _ _ _).2 ⟨vp, ps, _, rfl, by rw [hdisc]; rfl, hO.rs λ p hp => .inr (by simp [take, dropAt, hp]), λ p hp => (hP p hp).mono λ b o hb => (by
          rw [hRc] at hb
          rcases hb with (hb | hb | hb) | hb
          · exact .inl hb
          · exact .inr (by simp [take, dropAt, hb])
          · exact .inr (by simp [take, dropAt, hb])
          · exact .inr (by simp [take, dropAt, hb])), by rw [hdisc]; exact heq⟩
def encBo (b : Bool) : List Value := [.bool b]
structure SolOK (ps : List PlM) (us : ByteArray) : Prop where
 ok : PsOK (ps.map PlM.plain) us
 tr : ∀ p ∈ ps, ∀ i, i < p.nodes.length -> (tree isWord p.nodes (i + 1)).isSome = true
 nl : ∀ p ∈ ps, p.nodes.length <= 1000000
 rl : ∀ p ∈ ps, ∀ q ∈ p.ll, q.2.length <= 1000000
 n : ps.length <= 2000000
 ed : nedges (ps.map PlM.plain) <= 1000000000
theorem SolOK.ll {ps : List PlM} {us : ByteArray} (h : SolOK ps us) : ∀ p ∈ ps, p.ll.length = p.nodes.length := λ p hp => by
 have := h.ok.ln p.plain (List.mem_map.2 ⟨p, hp, rfl⟩)
 have h2 : p.plain.leads.length = p.ll.length := by unfold PlM.plain; simp
 have h3 : p.plain.nodes = p.nodes := rfl
 rw [h2, h3] at this
 exact this
def solV (b : Int) (K : Nat) (v : List Bool) : List Bool × Nat × Int :=
 if b < 1 then ([], 0, 2) else if b < K then ([], b.toNat + 1, 16) else (v, K, 0)
theorem QRun.more {ps : List Plc} {us : ByteArray} {K k : Nat} {s t : QS} (h : QRun ps us K s) (hs : qnone s.2) (h' : QRun ps us k t) (ht : ¬ qnone t.2) : k < K := by
 rcases Nat.lt_trichotomy k K with h1 | h1 | h1
 ·exact h1
 ·subst h1
  rw [h.uniq h'] at hs
  exact absurd hs ht
 ·obtain ⟨u, i, hu, hi⟩ := h'.upto h1
  have e := h.uniq hu
  subst e
  have := hi.1
  rw [hs i] at this
  cases this
theorem Ref.eqv (a b a' b' : ByteArray) : cellsEq [Value.string a, .string b] [Value.string a', .string b'] = decide (a = a' /\ b = b') := by
 have := Ty.eq ⟨a, b⟩ ⟨a', b'⟩
 simp only [Ty.enc, Ty.mk.injEq] at this
 exact this
def PlM.zero (k : Obr) : PlM := ⟨k, false, sZ, [], sZ, [], sZ, [], 0⟩
def subW (S : Sto) (L : List SRow) (rev : Int) (k : Obr) : List Sub := if scan S rev then (L.filter λ y => y.there rev && decide (y.t.obr = k)).map (·.t.sub) else []
structure WS (R : Rds) (cp : Cf) (c : CfM) (hb g x : Nat) (S : Sto) (num : List Nat) (L : List SRow) : Prop where
 ci : c.is R
 pl : c.plain = cp
 h : ∃ vl e, HV R hb vl [e] 0 /\ e.rev = 0 /\ e.c.plain = cp /\ e.ll.map (·.2) = rows cp.spaces num
 s : ∃ ps vf vr Mf Mr, SV R g S ps vf vr Mf Mr
 d : ∃ vL, DV R x S vL L
 rl : RL S L
 sok : SOK S
 len : S.rows.length <= 512
 m : Means isWord isRef cp num
 nm : (cp.numbers isWord isRef).2 = rows cp.spaces num
 six : cp.spaces.length <= 5 /\ ∀ y ∈ cp.spaces, y.rels.length <= 6
theorem cfFew_six (c : Cf) : (cfFew c).spaces.length <= 5 /\ ∀ y ∈ (cfFew c).spaces, y.rels.length <= 6 := by
 unfold cfFew
 refine ⟨by simp only [List.length_map, List.length_take]; omega, λ y hy => ?_⟩
 simp only at hy
 obtain ⟨s, _, rfl⟩ := List.mem_map.1 hy
 unfold fewS
 simp only [List.length_map, List.length_take]
 omega
section
variable {R : Rds} {cp : Cf} {c : CfM} {hb g x : Nat} {S : Sto} {num : List Nat} {L : List SRow}
theorem WS.ll (h : WS R cp c hb g x S num L) : L.length <= 512 := by rw [h.rl.pm.length_eq]; exact h.len
theorem subW_of (S : Sto) (L : List SRow) (rev : Int) : ∃ M : List (Obr × Sub), M.length <= L.length /\ (∀ y ∈ M, ∃ r ∈ L, y = (r.t.obr, r.t.sub)) /\ subOf M = subW S L rev := by
 refine ⟨if scan S rev then (L.filter λ y => y.there rev).map λ y => (y.t.obr, y.t.sub) else [], ?_, ?_, ?_⟩
 ·split
  ·rw [List.length_map]; exact List.length_filter_le _ _
  ·simp
 ·intro y hy
  split at hy
  ·obtain ⟨r, hr, rfl⟩ := List.mem_map.1 hy
   exact ⟨r, (List.mem_filter.1 hr).1, rfl⟩
  ·cases hy
 ·funext k
  unfold subOf subW
  split
  ·rw [List.filter_map, List.map_map, List.filter_filter]
   have : (λ a : SRow => ((λ x : Obr × Sub => decide (x.1 = k)) ∘ λ y : SRow => (y.t.obr, y.t.sub)) a && a.there rev) = λ y : SRow => y.there rev && decide (y.t.obr = k) := by
    funext y
    simp [Bool.and_comm]
   rw [this]
   rfl
  ·rfl
theorem subW_mem {rev : Int} {k : Obr} {s : Sub} (h : s ∈ subW S L rev k) : ∃ r ∈ L, s = r.t.sub := by
 unfold subW at h
 split at h
 ·obtain ⟨r, hr, rfl⟩ := List.mem_map.1 h
  exact ⟨r, (List.mem_filter.1 hr).1, rfl⟩
 ·cases h
theorem WS.lim (h : WS R cp c hb g x S num L) (rev : Int) (k : Obr) (i : Nat) (hi : ∀ j, j < i -> j < (opened cp num (subW S L rev) k j).1.length) : (opened cp num (subW S L rev) k i).1.length + (opened cp num (subW S L rev) k i).2 <= 1048576 := by
 obtain ⟨M, h1, _, h2⟩ := subW_of S L rev
 rw [<- h2] at hi ⊢
 obtain ⟨E, hE, _⟩ := h.m.ex
 exact total_le hE h.m.right h.m.uniq h.six.2 (Nat.le_trans h1 h.ll) k i hi
theorem WS.fin (h : WS R cp c hb g x S num L) (rev : Int) (k : Obr) : ∃ N, AtEnd cp num (subW S L rev) k N := by
 have hsub : ∀ k, ∀ s ∈ subW S L rev k, s ∈ L.map (·.t.sub) := λ k s hs => by
  obtain ⟨r, hr, rfl⟩ := subW_mem hs
  exact List.mem_map.2 ⟨r, hr, rfl⟩
 exact AtEnd.ex λ i => opened_len (reachU_closed hsub) self_reachU i
theorem WS.sets_le (h : WS R cp c hb g x S num L) (rev : Int) (k : Obr) : (fitting cp (subW S L rev) k).length <= 512 := by
 unfold fitting
 refine Nat.le_trans (List.length_filter_le _ _) ?_
 unfold subW
 split
 ·rw [List.length_map]
  exact Nat.le_trans (List.length_filter_le _ _) h.ll
 ·simp
theorem WS.disc (h : WS R cp c hb g x S num L) (rev : Int) (hr : 0 <= rev) (k : Obr) (b : Int) (hb63 : b <= 9223372036854775807) {N : Nat} (hN : AtEnd cp num (subW S L rev) k N) :
  Spec prog 47 [pT hb, pT g, .int .u64 rev, .agg [.string k.os, .string k.oi].toArray, .string k.rel, .int .i64 b] R [] (DiscT R (disc cp num (subW S L rev) k b (scan S rev) N)) := by
 obtain ⟨vl, e, hV, he1, he2, he3⟩ := h.h
 obtain ⟨ps, vf, vr, Mf, Mr, hS⟩ := h.s
 have hat : atC [e] rev = some e := by
  unfold atC
  have : hl [e] rev 1 = some 0 := by
   simp only [hl, List.getElem?_cons_zero, he1]
   simp [hr]
  rw [show ([e] : List EnM).length = 1 from rfl, this]
  rfl
 have hlim := h.lim rev k
 subst he2
 exact discover_spec hV hS h.rl h.len rev e hat num h.m he3 (by simp) (λ e' h' => by
  rw [List.mem_singleton] at h'
  subst h'
  have hl0 : e'.ll.length = e'.c.plain.spaces.length := by rw [<- rows_len e'.c.plain.spaces num, <- he3, List.length_map]
  refine ⟨by have := h.six.1; omega, λ q hq => ?_⟩
  have hq2 : q.2 ∈ rows e'.c.plain.spaces num := by rw [<- he3]; exact List.mem_map.2 ⟨q, hq, rfl⟩
  obtain ⟨i, hi, e9⟩ := List.mem_iff_getElem.1 hq2
  rw [rows_len] at hi
  have h1 := rows_at (n := num) (gge hi)
  rw [gge (by rw [rows_len]; exact hi), e9] at h1
  have h2 := Option.some.inj h1
  rw [h2, List.length_take]
  have := h.six.2 _ (List.getElem_mem hi)
  omega) k b hb63 (subW S L rev) rfl hlim N hN
end
theorem made_flat (w : WoM) (R : Rds) (h : w.is R) : Spec prog 19 [.agg w.enc.toArray] R [] λ u H' => ∃ T, H' = [T] /\ ∃ (c : CfM) (p1 p2 p3 : Value) (ok : Bool), u = .tuple [p1, p2, .agg c.enc.toArray, p3, .bool ok].toArray /\ One p1 /\ One p2 /\ One p3 /\ c.is (λ b o => R b o \/ (b, o) ∈ T) /\ c.plain = cfFew w.c.plain /\ ok = decide (((cfFew w.c.plain).numbers isWord isRef).1 = 0) /\
  (ok = true -> ∃ hb g x S num L, p1 = pT hb /\ p2 = pT g /\ p3 = pT x /\ WS (λ b o => R b o \/ (b, o) ∈ T) (cfFew w.c.plain) c hb g x S num L) := by
 refine Spec.flat ((made_spec w R h).mono λ u H' hu => ?_)
 rcases hu with hu | ⟨T, c, x, rfl, rfl, hc, hp, hn⟩
 ·obtain ⟨Tc, Th, Ts, Tx, hb, g, x, e, S, c, rfl, rfl, hc, hp, hn, her, hec, hH, hS, hSO, hD, hl⟩ := hu
  obtain ⟨num, hnm, hmn⟩ := numbers_means hn
  refine ⟨_, Tc ++ (Th ++ (Ts ++ Tx)), rfl, by simp, _, rfl, c, _, _, _, true, rfl, ⟨rfl⟩, ⟨rfl⟩, ⟨rfl⟩, hc.mono λ b o hb => hb.imp id λ hb => List.mem_append_left _ hb, hp, by rw [hn]; rfl, λ _ => ?_⟩
  obtain ⟨vl, hV⟩ := hH.view (R := λ b o => R b o \/ (b, o) ∈ Tc ++ (Th ++ (Ts ++ Tx))) λ p hp => .inr (List.mem_append_right _ (List.mem_append_left _ hp))
  obtain ⟨ps, vf, vr, Mf, Mr, hSV⟩ := hS.view (R := λ b o => R b o \/ (b, o) ∈ Tc ++ (Th ++ (Ts ++ Tx))) λ p hp => .inr (List.mem_append_right _ (List.mem_append_right _ (List.mem_append_left _ hp)))
  obtain ⟨vL, L, hDV, hRL⟩ := hD.view (R := λ b o => R b o \/ (b, o) ∈ Tc ++ (Th ++ (Ts ++ Tx))) λ p hp => .inr (List.mem_append_right _ (List.mem_append_right _ (List.mem_append_right _ hp)))
  have he := hV.all e (by simp)
  exact ⟨hb, g, x, S, num, L, rfl, rfl, rfl, hc.mono λ b o hb => hb.imp id λ hb => List.mem_append_left _ hb, hp, ⟨vl, e, hV, her, hec, by rw [he.eq, hec, hnm]⟩, ⟨ps, vf, vr, Mf, Mr, hSV⟩, ⟨vL, hDV⟩, hRL, hSO, hl, hmn, hnm, cfFew_six _⟩
 ·exact ⟨_, T, rfl, by simp, _, rfl, c, _, _, _, false, rfl, ⟨rfl⟩, ⟨rfl⟩, ⟨rfl⟩, hc, hp, (decide_eq_false hn).symm, λ h => (by cases h)⟩
theorem discN_of {P : Program} {f : FuncId} {args : List Value} {R R0 : Rds} {H : Segs} {out : List Plc × Nat × Int} (h : Spec P f args R0 H (DiscT R out)) : Spec P f args R0 H λ u H' => ∃ T, H' = [T] /\ ∃ vp ps, u = .tuple [.agg [vp, iN out.2.1].toArray, .int .i64 out.2.2].toArray /\ RS (λ b o => R b o \/ (b, o) ∈ T) 8 PlM.enc vp ps /\ (∀ p ∈ ps, PlM.is (λ b o => R b o \/ (b, o) ∈ T) p) /\ ps.map PlM.plain = out.1 := h.mono λ u H' hu => by
 obtain ⟨vp, ps, T, h1, h2⟩ := hu
 exact ⟨T, h1, vp, ps, h2⟩
theorem opened_pos (c : Cf) (num : List Nat) (sub : Obr -> List Sub) (k : Obr) (N : Nat) : 0 < (opened c num sub k N).1.length := by
 have := (opened_mono (c := c) (num := num) (sub := sub) (k := k) (Nat.zero_le N)).1
 have h0 : (opened c num sub k 0).1.length = 1 := by simp [opened]
 omega
theorem ty_of {H : Type} {enc : TypeId × Value -> H} {W : World} {f : Nat} {cs : List Value} {x : DataW H × List MemPlace} (h : DataW.trod enc prog W 0 (λ _ => true) true f 252 cs = some x) : ∃ t : Ty, cs = t.enc /\ t.fits := by
 obtain ⟨hl, hp⟩ := parts_of Tryz.underlying252 h
 have hc : Tryz.prog.cellsOf 252 = 2 := by kernel_rfl
 rw [hc] at hl
 have c9 : Tryz.prog.cellsOf 9 = 1 := by kernel_rfl
 match cs, hl with
 | [a0, a1], _ =>
  obtain ⟨n0, y0, h0⟩ : ∃ n y, DataW.trod enc prog W 0 (λ _ => true) true n 9 (([a0, a1].drop 0).take (Tryz.prog.cellsOf 9)) = some y := hp 0 _ rfl
  obtain ⟨n1, y1, h1⟩ : ∃ n y, DataW.trod enc prog W 0 (λ _ => true) true n 9 (([a0, a1].drop 1).take (Tryz.prog.cellsOf 9)) = some y := hp 1 _ rfl
  simp only [c9, List.drop_zero, List.drop_succ_cons, List.take_succ_cons, List.take_zero] at h0 h1
  obtain ⟨s0, e0, l0⟩ := str_fit h0
  obtain ⟨s1, e1, l1⟩ := str_fit h1
  cases e0; cases e1
  exact ⟨⟨s0, s1⟩, rfl, l0, l1⟩
theorem nd_of {H : Type} {enc : TypeId × Value -> H} {W : World} {f : Nat} {cs : List Value} {x : DataW H × List MemPlace} (h : DataW.trod enc prog W 0 (λ _ => true) true f 168 cs = some x) : ∃ t : Nd, cs = t.enc /\ t.fits := by
 obtain ⟨hl, hp⟩ := parts_of Tryz.underlying168 h
 have hc : Tryz.prog.cellsOf 168 = 5 := by kernel_rfl
 rw [hc] at hl
 have c3 : Tryz.prog.cellsOf 3 = 1 := by kernel_rfl
 have c9 : Tryz.prog.cellsOf 9 = 1 := by kernel_rfl
 match cs, hl with
 | [a0, a1, a2, a3, a4], _ =>
  obtain ⟨n0, y0, h0⟩ : ∃ n y, DataW.trod enc prog W 0 (λ _ => true) true n 3 (([a0, a1, a2, a3, a4].drop 0).take (Tryz.prog.cellsOf 3)) = some y := hp 0 _ rfl
  obtain ⟨n1, y1, h1⟩ : ∃ n y, DataW.trod enc prog W 0 (λ _ => true) true n 9 (([a0, a1, a2, a3, a4].drop 1).take (Tryz.prog.cellsOf 9)) = some y := hp 1 _ rfl
  obtain ⟨n2, y2, h2⟩ : ∃ n y, DataW.trod enc prog W 0 (λ _ => true) true n 9 (([a0, a1, a2, a3, a4].drop 2).take (Tryz.prog.cellsOf 9)) = some y := hp 2 _ rfl
  obtain ⟨n3, y3, h3⟩ : ∃ n y, DataW.trod enc prog W 0 (λ _ => true) true n 3 (([a0, a1, a2, a3, a4].drop 3).take (Tryz.prog.cellsOf 3)) = some y := hp 3 _ rfl
  obtain ⟨n4, y4, h4⟩ : ∃ n y, DataW.trod enc prog W 0 (λ _ => true) true n 3 (([a0, a1, a2, a3, a4].drop 4).take (Tryz.prog.cellsOf 3)) = some y := hp 4 _ rfl
  simp only [c3, c9, List.drop_zero, List.drop_succ_cons, List.take_succ_cons, List.take_zero] at h0 h1 h2 h3 h4
  obtain ⟨z0, e0⟩ := int_of (k := .i64) h0
  obtain ⟨s1, e1, l1⟩ := str_fit h1
  obtain ⟨s2, e2, l2⟩ := str_fit h2
  obtain ⟨z3, e3⟩ := int_of (k := .i64) h3
  obtain ⟨z4, e4⟩ := int_of (k := .i64) h4
  cases e0; cases e1; cases e2; cases e3; cases e4
  exact ⟨⟨z0, s1, s2, z3, z4⟩, rfl, l1, l2⟩
theorem sc_of {H : Type} {enc : TypeId × Value -> H} {W : World} {f : Nat} {cs : List Value} {x : DataW H × List MemPlace} (h : DataW.trod enc prog W 0 (λ _ => true) true f 209 cs = some x) : ∃ t : Sc, cs = t.enc /\ t.fits := by
 obtain ⟨hl, hp⟩ := parts_of Tryz.underlying209 h
 have hc : Tryz.prog.cellsOf 209 = 4 := by kernel_rfl
 rw [hc] at hl
 have c9 : Tryz.prog.cellsOf 9 = 1 := by kernel_rfl
 have c30 : Tryz.prog.cellsOf 30 = 2 := by kernel_rfl
 match cs, hl with
 | [a0, a1, a2, a3], _ =>
  obtain ⟨n0, y0, h0⟩ : ∃ n y, DataW.trod enc prog W 0 (λ _ => true) true n 9 (([a0, a1, a2, a3].drop 0).take (Tryz.prog.cellsOf 9)) = some y := hp 0 _ rfl
  obtain ⟨n1, y1, h1⟩ : ∃ n y, DataW.trod enc prog W 0 (λ _ => true) true n 30 (([a0, a1, a2, a3].drop 1).take (Tryz.prog.cellsOf 30)) = some y := hp 1 _ rfl
  obtain ⟨n2, y2, h2⟩ : ∃ n y, DataW.trod enc prog W 0 (λ _ => true) true n 9 (([a0, a1, a2, a3].drop 3).take (Tryz.prog.cellsOf 9)) = some y := hp 2 _ rfl
  simp only [c9, c30, List.drop_zero, List.drop_succ_cons, List.take_succ_cons, List.take_zero] at h0 h1 h2
  obtain ⟨s0, e0, l0⟩ := str_fit h0
  obtain ⟨s1, s2, e1, l1, l2⟩ := ref_of h1
  obtain ⟨s3, e2, l3⟩ := str_fit h2
  cases e0; cases e1; cases e2
  exact ⟨⟨s0, s1, s2, s3⟩, rfl, l0, l1, l2, l3⟩
theorem tys_of {H : Type} {enc : TypeId × Value -> H} {W : World} {f : Nat} {cs : List Value} {x : DataW H × List MemPlace} (h : DataW.trod enc prog W 0 (λ _ => true) true f 205 cs = some x) : ∃ v l, cs = [v] /\ RS (Rw W) 2 Ty.enc v l /\ ∀ t ∈ l, t.fits :=
 RS.ofCells (D := λ t : Ty => t.fits) (sz := 2) (en := Ty.enc) Tryz.underlying205 (by kernel_rfl) (by omega) h λ n cs x hx => by
  obtain ⟨t, rfl, ht⟩ := ty_of hx
  exact ⟨rfl, (Ty.one t).h, t, rfl, ht⟩
theorem nds_of {H : Type} {enc : TypeId × Value -> H} {W : World} {f : Nat} {cs : List Value} {x : DataW H × List MemPlace} (h : DataW.trod enc prog W 0 (λ _ => true) true f 119 cs = some x) : ∃ v l, cs = [v] /\ RS (Rw W) 5 Nd.enc v l /\ ∀ t ∈ l, t.fits :=
 RS.ofCells (D := λ t : Nd => t.fits) (sz := 5) (en := Nd.enc) Tryz.underlying119 (by kernel_rfl) (by omega) h λ n cs x hx => by
  obtain ⟨t, rfl, ht⟩ := nd_of hx
  exact ⟨rfl, (Nd.one t).h, t, rfl, ht⟩
theorem scs_of {H : Type} {enc : TypeId × Value -> H} {W : World} {f : Nat} {cs : List Value} {x : DataW H × List MemPlace} (h : DataW.trod enc prog W 0 (λ _ => true) true f 23 cs = some x) : ∃ v l, cs = [v] /\ RS (Rw W) 4 Sc.enc v l /\ ∀ t ∈ l, t.fits :=
 RS.ofCells (D := λ t : Sc => t.fits) (sz := 4) (en := Sc.enc) Tryz.underlying23 (by kernel_rfl) (by omega) h λ n cs x hx => by
  obtain ⟨t, rfl, ht⟩ := sc_of hx
  exact ⟨rfl, (Sc.one t).h, t, rfl, ht⟩
theorem rl_of {H : Type} {enc : TypeId × Value -> H} {W : World} {f : Nat} {cs : List Value} {x : DataW H × List MemPlace} (h : DataW.trod enc prog W 0 (λ _ => true) true f 207 cs = some x) : ∃ t : RlM, cs = t.enc /\ t.is (Rw W) := by
 obtain ⟨hl, hp⟩ := parts_of Tryz.underlying207 h
 have hc : Tryz.prog.cellsOf 207 = 3 := by kernel_rfl
 rw [hc] at hl
 have c9 : Tryz.prog.cellsOf 9 = 1 := by kernel_rfl
 have c119 : Tryz.prog.cellsOf 119 = 1 := by kernel_rfl
 have c205 : Tryz.prog.cellsOf 205 = 1 := by kernel_rfl
 match cs, hl with
 | [a0, a1, a2], _ =>
  obtain ⟨n0, y0, h0⟩ : ∃ n y, DataW.trod enc prog W 0 (λ _ => true) true n 9 (([a0, a1, a2].drop 0).take (Tryz.prog.cellsOf 9)) = some y := hp 0 _ rfl
  obtain ⟨n1, y1, h1⟩ : ∃ n y, DataW.trod enc prog W 0 (λ _ => true) true n 205 (([a0, a1, a2].drop 1).take (Tryz.prog.cellsOf 205)) = some y := hp 1 _ rfl
  obtain ⟨n2, y2, h2⟩ : ∃ n y, DataW.trod enc prog W 0 (λ _ => true) true n 119 (([a0, a1, a2].drop 2).take (Tryz.prog.cellsOf 119)) = some y := hp 2 _ rfl
  simp only [c9, c119, c205, List.drop_zero, List.drop_succ_cons, List.take_succ_cons, List.take_zero] at h0 h1 h2
  obtain ⟨s0, e0, l0⟩ := str_fit h0
  obtain ⟨v1, l1, e1, r1, f1⟩ := tys_of h1
  obtain ⟨v2, l2, e2, r2, f2⟩ := nds_of h2
  cases e0; cases e1; cases e2
  exact ⟨⟨_, _, ⟨s0, l1, l2⟩⟩, rfl, l0, r1, r2, f1, f2⟩
theorem rls_of {H : Type} {enc : TypeId × Value -> H} {W : World} {f : Nat} {cs : List Value} {x : DataW H × List MemPlace} (h : DataW.trod enc prog W 0 (λ _ => true) true f 185 cs = some x) : ∃ v l, cs = [v] /\ RS (Rw W) 3 RlM.enc v l /\ ∀ t ∈ l, t.is (Rw W) :=
 RS.ofCells (D := λ t : RlM => t.is (Rw W)) (sz := 3) (en := RlM.enc) Tryz.underlying185 (by kernel_rfl) (by omega) h λ n cs x hx => by
  obtain ⟨t, rfl, ht⟩ := rl_of hx
  exact ⟨rfl, ht.ones, t, rfl, ht⟩
theorem sp_of {H : Type} {enc : TypeId × Value -> H} {W : World} {f : Nat} {cs : List Value} {x : DataW H × List MemPlace} (h : DataW.trod enc prog W 0 (λ _ => true) true f 187 cs = some x) : ∃ t : SpM, cs = t.enc /\ t.is (Rw W) := by
 obtain ⟨hl, hp⟩ := parts_of Tryz.underlying187 h
 have hc : Tryz.prog.cellsOf 187 = 2 := by kernel_rfl
 rw [hc] at hl
 have c9 : Tryz.prog.cellsOf 9 = 1 := by kernel_rfl
 have c185 : Tryz.prog.cellsOf 185 = 1 := by kernel_rfl
 match cs, hl with
 | [a0, a1], _ =>
  obtain ⟨n0, y0, h0⟩ : ∃ n y, DataW.trod enc prog W 0 (λ _ => true) true n 9 (([a0, a1].drop 0).take (Tryz.prog.cellsOf 9)) = some y := hp 0 _ rfl
  obtain ⟨n1, y1, h1⟩ : ∃ n y, DataW.trod enc prog W 0 (λ _ => true) true n 185 (([a0, a1].drop 1).take (Tryz.prog.cellsOf 185)) = some y := hp 1 _ rfl
  simp only [c9, c185, List.drop_zero, List.drop_succ_cons, List.take_succ_cons, List.take_zero] at h0 h1
  obtain ⟨s0, e0, l0⟩ := str_fit h0
  obtain ⟨v1, l1, e1, r1, f1⟩ := rls_of h1
  cases e0; cases e1
  exact ⟨⟨s0, _, l1⟩, rfl, l0, r1, f1⟩
theorem sps_of {H : Type} {enc : TypeId × Value -> H} {W : World} {f : Nat} {cs : List Value} {x : DataW H × List MemPlace} (h : DataW.trod enc prog W 0 (λ _ => true) true f 22 cs = some x) : ∃ v l, cs = [v] /\ RS (Rw W) 2 SpM.enc v l /\ ∀ t ∈ l, t.is (Rw W) :=
 RS.ofCells (D := λ t : SpM => t.is (Rw W)) (sz := 2) (en := SpM.enc) Tryz.underlying22 (by kernel_rfl) (by omega) h λ n cs x hx => by
  obtain ⟨t, rfl, ht⟩ := sp_of hx
  exact ⟨rfl, ht.ones, t, rfl, ht⟩
theorem cf_of {H : Type} {enc : TypeId × Value -> H} {W : World} {f : Nat} {cs : List Value} {x : DataW H × List MemPlace} (h : DataW.trod enc prog W 0 (λ _ => true) true f 25 cs = some x) : ∃ c : CfM, cs = c.enc /\ c.is (Rw W) := by
 obtain ⟨hl, hp⟩ := parts_of Tryz.underlying25 h
 have hc : Tryz.prog.cellsOf 25 = 2 := by kernel_rfl
 rw [hc] at hl
 have c22 : Tryz.prog.cellsOf 22 = 1 := by kernel_rfl
 have c23 : Tryz.prog.cellsOf 23 = 1 := by kernel_rfl
 match cs, hl with
 | [a0, a1], _ =>
  obtain ⟨n0, y0, h0⟩ : ∃ n y, DataW.trod enc prog W 0 (λ _ => true) true n 22 (([a0, a1].drop 0).take (Tryz.prog.cellsOf 22)) = some y := hp 0 _ rfl
  obtain ⟨n1, y1, h1⟩ : ∃ n y, DataW.trod enc prog W 0 (λ _ => true) true n 23 (([a0, a1].drop 1).take (Tryz.prog.cellsOf 23)) = some y := hp 1 _ rfl
  simp only [c22, c23, List.drop_zero, List.drop_succ_cons, List.take_succ_cons, List.take_zero] at h0 h1
  obtain ⟨v0, l0, e0, r0, f0⟩ := sps_of h0
  obtain ⟨v1, l1, e1, r1, f1⟩ := scs_of h1
  cases e0; cases e1
  exact ⟨⟨_, _, l0, l1⟩, rfl, r0, r1, f0, f1⟩
theorem world_of {H : Type} {enc : TypeId × Value -> H} {W : World} {f : Nat} {cs : List Value} {x : DataW H × List MemPlace} (h : DataW.trod enc prog W 0 (λ _ => true) true f 28 cs = some x) : ∃ w : WoM, cs = w.enc /\ w.is (Rw W) := by
 obtain ⟨hl, hp⟩ := parts_of Tryz.underlying28 h
 have hc : Tryz.prog.cellsOf 28 = 3 := by kernel_rfl
 rw [hc] at hl
 have c25 : Tryz.prog.cellsOf 25 = 2 := by kernel_rfl
 have c26 : Tryz.prog.cellsOf 26 = 1 := by kernel_rfl
 match cs, hl with
 | [a0, a1, a2], _ =>
  obtain ⟨n0, y0, h0⟩ : ∃ n y, DataW.trod enc prog W 0 (λ _ => true) true n 25 (([a0, a1, a2].drop 0).take (Tryz.prog.cellsOf 25)) = some y := hp 0 _ rfl
  obtain ⟨n1, y1, h1⟩ : ∃ n y, DataW.trod enc prog W 0 (λ _ => true) true n 26 (([a0, a1, a2].drop 2).take (Tryz.prog.cellsOf 26)) = some y := hp 1 _ rfl
  simp only [c25, c26, List.drop_zero, List.drop_succ_cons, List.take_succ_cons, List.take_zero] at h0 h1
  obtain ⟨c, e0, hc⟩ := cf_of h0
  obtain ⟨v1, l1, e1, r1, f1⟩ := scalls_of h1
  cases e0; cases e1
  exact ⟨⟨c, _, l1⟩, rfl, hc, r1, f1⟩
end Go.Proofs.YtenilfmlfldogaaGreat
