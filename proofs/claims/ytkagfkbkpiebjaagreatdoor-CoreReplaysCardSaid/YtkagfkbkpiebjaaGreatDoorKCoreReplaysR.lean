/- What the law 'CoreReplays' uses of this prover's engine, facts and walks. No condition. -/
import Derived.Test.YtkagfkbkpiebjaaGreatDoorKCoreReplaysP
import Derived.Test.YtkagfkbkpiebjaaGreatDoorKCoreReplaysQ
set_option linter.unusedVariables false
set_option maxRecDepth 4000
namespace Go.Proofs.YtkagfkbkpiebjaaGreatDoor
theorem svalues_spec (sv : Value) (hv : One sv) (R : Rds) : Spec Tryz.prog 167 [sv] R [] fun u H' => ∃ T, H' = [T] ∧ ∃ b, u = .func (.func 225) #[] #[.pointer (some ⟨b, 0, none⟩)] ∧ T = [(b, .cells [sv].toArray 28 (0, 0))] := by
 refine Spec.body Tryz.func167 rfl Tryz.results167 Tryz.ntmps167 rfl ?_
 refine .sr ?_
 refine .box1 rfl (fun b1 => ?_)
 refine .ag rfl<|.z<|.q .makeFunc<|.ag rfl<|.zn ?_
 refine .ret (retQ_r _ (.one (.tmp rfl)) (.one [0] _) ?_)
 ·exact ⟨_, rfl, b1, rfl, by simp [take]⟩
theorem ssorted_spec (sv : Value) (l : List ByteArray) (hl : l.length ≤ 1000000) (b : Nat) (R : Rds) (h : RS R 1 encS sv l) [pc : PC R (.pointer (some ⟨b, 0, none⟩)) [sv]] :
  Spec Tryz.prog 166 [.func (.func 225) #[] #[.pointer (some ⟨b, 0, none⟩)]] R [] fun u H' => ∃ T, H' = [T] ∧ ∃ ys, OS 9 1 encS u ys T ∧ ys.Perm l ∧ ys.Pairwise (fun a b => sLt b a = false) := by
 refine Spec.body Tryz.func166 rfl Tryz.results166 Tryz.ntmps166 rfl ?_
 refine .sr<|.ag rfl<|.z<|.mo rfl ?_
 refine .callN (scollect_spec sv l hl b _ h.rx) (fun u T hO => ?_)
 have io := hO.oneCell
 refine .ag rfl<|.z<|.mo rfl ?_
 refine .callM (SST.sort_spec (c := scmp) (ok := fun _ => True) u l T _ hO (by omega) rfl (fun _ _ => trivial) scmp_ok.so) (fun u2 T2 hu => ?_)
 obtain ⟨rfl, ys, hO2, hpy, hsy⟩ := hu
 refine .z<|.mo rfl<|.ag rfl<|.zn ?_
 refine .ret (retQ_r _ (.one (.tmp rfl)) (.one [0] _) ?_)
 ·exact ⟨_, rfl, ys, by simpa [take] using hO2, hpy, hsy.ordered.imp fun {a b} hab => by rw [ltc_scmp] at hab; exact hab⟩
theorem cpt_full : ∀ {l : List ByteArray}, (l.Pairwise fun a b => sLt b a = false) → ((cpt l).length = l.length ↔ l.Nodup)
 | [], _ => by simp [cpt]
 | [x], _ => by simp [cpt]
 | x :: y :: r, h => by
  have h2 := List.pairwise_cons.1 h
  have ih := cpt_full h2.2
  have hle := cpt_len (y :: r)
  simp only [cpt]
  split
  ·rename_i e
   subst e
   constructor
   ·intro h9; simp only [List.length_cons] at h9 hle; omega
   ·intro h9; simp at h9
  ·rename_i hne
   have hx : x ∉ y :: r := fun hm => by
    rcases List.mem_cons.1 hm with h9 | h9
    ·exact hne h9
    ·exact hne (sLt_conn ((List.pairwise_cons.1 h2.2).1 x h9) (h2.1 y (by simp)))
   rw [List.length_cons, List.nodup_cons, List.length_cons (a := x)]
   constructor
   ·intro h9; exact ⟨hx, ih.1 (by omega)⟩
   ·intro h9; rw [ih.2 h9.2]
theorem odistinct_spec (sv : Value) (l : List ByteArray) (hl : l.length ≤ 1000000) (R : Rds) (h : RS R 1 encS sv l) :
  Spec Tryz.prog 104 [sv] R [] fun u H' => u = .bool (decide l.Nodup) ∧ H' = [] := by
 have iv := h.oneCell
 refine Spec.body Tryz.func104 rfl Tryz.results104 Tryz.ntmps104 rfl ?_
 refine .sr<|.ag rfl<|.z<|.mo rfl ?_
 refine .callN (svalues_spec sv iv _) (fun u T hu => ?_)
 obtain ⟨b, rfl, rfl⟩ := hu
 refine .callN (ssorted_spec sv l hl b _ h.rx) (fun u T2 hu => ?_)
 obtain ⟨ys, hO, hpy, hsy⟩ := hu
 have hyl := hpy.length_eq
 have io := hO.oneCell
 refine .callM (compact_spec u ys T2 _ hO (by omega)) (fun u2 T3 hO2 => ?_)
 have io2 := hO2.oneCell
 refine .q (.lenO hO2) ?_
 refine .mo rfl<|.q (.lenR h) ?_
 refine .q .eqI<|.ag rfl<|.zn ?_
 refine .ret (retQ_r _ (.one (.tmp rfl)) (.none _) ?_)
 ·refine ⟨congrArg Value.bool ?_, rfl⟩
  have e := cpt_full hsy
  rw [hpy.nodup_iff, hyl] at e
  rw [Bool.eq_iff_iff]
  simp only [beq_iff_eq, decide_eq_true_eq]
  constructor
  ·intro h9; exact e.1 (by omega)
  ·intro h9; have := e.2 h9; omega
theorem trot_ok {V : List (ByteArray × Tok)} {text id : ByteArray} {now : Int} {t : Tok} (h : mget text V = some t) (h1 : t.kind = 2) (h2 : t.client = id) (h3 : t.used = false) (h4 : now < t.expires) : trot V text id now = (t.mark, 0, kset text t.mark V) := by
 unfold trot
 rw [h]
 simp only
 rw [if_neg (by simp [h1, h2]), if_neg (by simp [h3]), if_neg (by omega)]
theorem trot_used {V : List (ByteArray × Tok)} {text id : ByteArray} {now : Int} {t : Tok} (h : mget text V = some t) (h1 : t.kind = 2) (h2 : t.client = id) (h3 : t.used = true) : trot V text id now = (t, 10, V.filter fun x => !(x.2.family == t.family)) := by
 unfold trot
 rw [h]
 simp only
 rw [if_neg (by simp [h1, h2]), if_pos (by simp [h3])]
theorem tfind_some {V : List (ByteArray × Tok)} {text : ByteArray} {now : Int} {t : Tok} (h : tfind V text now = some t) : mget text V = some t ∧ now < t.expires := by
 unfold tfind at h
 obtain ⟨h1, h2⟩ := Option.filter_eq_some_iff.1 h
 exact ⟨h1, by simpa using h2⟩
theorem pOwn_of {V : List (ByteArray × Tok)} {text id : ByteArray} {t : Tok} (h : mget text V = some t) (h1 : t.kind = 2) (h2 : t.client = id) : pOwn V text id = some t := by
 unfold pOwn
 rw [h, Option.filter_some, if_pos (by simp [h1, h2])]
theorem own_cases {V : List (ByteArray × Tok)} {text id : ByteArray} {now : Int} (hs : ((pOwn V text id).filter fun t => t.used).isSome = false) :
  (∃ t, tfind V text now = some t ∧ t.kind = 2 ∧ t.client = id ∧ t.used = false ∧ pOwn V text id = some t ∧ now < t.expires ∧ mget text V = some t) ∨
  (¬ (∃ t, tfind V text now = some t ∧ t.kind = 2 ∧ t.client = id) ∧ ∀ t, pOwn V text id = some t → t.used = false ∧ t.expires ≤ now) := by
 have hu : ∀ t, pOwn V text id = some t → t.used = false := fun t ht => by
  rw [ht, Option.filter_some] at hs
  cases e : t.used
  ·rfl
  ·rw [e] at hs; simp at hs
 by_cases h : ∃ t, tfind V text now = some t ∧ t.kind = 2 ∧ t.client = id
 ·obtain ⟨t, h1, h2, h3⟩ := h
  obtain ⟨h4, h5⟩ := tfind_some h1
  have h6 := pOwn_of h4 h2 h3
  exact .inl ⟨t, h1, h2, h3, hu t h6, h6, h5, h4⟩
 ·refine .inr ⟨h, fun t ht => ⟨hu t ht, ?_⟩⟩
  obtain ⟨h1, h2, h3⟩ := pOwn_some ht
  by_cases h4 : now < t.expires
  ·exact absurd ⟨t, by unfold tfind; rw [h1, Option.filter_some, if_pos (by simpa using h4)], h2, h3⟩ h
  ·omega
theorem orefr_spec (q : Nat) (s : OSt) (T : Seg) (h : CIs q s T) (k : Nat) (hb : OB s k) (hk : k ≤ 1000) (id sec text : ByteArray) (vs : Value) (scopes : List ByteArray) (va vr : Value) (a r : List UInt8) (rev : Int) (hsl : scopes.length ≤ 1000000) (hla : a.length ≤ 1000) (hlr : r.length ≤ 1000) (R : Rds) (hs : RS R 1 encS vs scopes) (ha : RS R 1 encU va a) (hrr : RS R 1 encU vr r) :
  Spec Tryz.prog 42 [.pointer (some ⟨q, 0, none⟩), .string id, .string sec, .string text, vs, va, vr, .int .u64 rev] R [T] fun v H' => ∃ T', H' = [T'] ∧ v = .tuple [.string (pRefr s id sec text scopes a r rev).1, .string (pRefr s id sec text scopes a r rev).2.1, .int .i64 (pRefr s id sec text scopes a r rev).2.2.1].toArray ∧ CIs q (pRefr s id sec text scopes a r rev).2.2.2 T' := by
 have h0 := h
 obtain ⟨gc, gb, gv, Tc, Tb, Tv, rfl, hR, hG, hV⟩ := h
 obtain ⟨pvs, kvs, hvs⟩ := hs.val
 have i0 := hs.oneCell
 have i1 := ha.oneCell
 have i2 := hrr.oneCell
 have hn0 := hb.n0
 have hn1 := hb.n1
 have hVl : s.V.length ≤ 1000000 := by have := hb.V; omega
 refine Spec.segs (H' := [[(q, .cells [.pointer (some ⟨gc, 0, none⟩), .pointer (some ⟨gb, 0, none⟩), .pointer (some ⟨gv, 0, none⟩), .int .i64 s.now].toArray 63 (0, 0))], Tc, Tb, Tv]) (by simp) ?_
 refine Spec.body Tryz.func42 rfl Tryz.results42 Tryz.ntmps42 rfl ?_
 refine .sr<|.ag rfl<|.ag rfl<|.ag rfl<|.zs<|.sr<|.mo rfl<|.mo rfl<|.mo rfl<|.mo rfl<|.mo rfl ?_
 refine .callR (obegin_spec q s _ h0 id sec va vr a r _ (fun p hp => .inr (show p ∈ List.flatten _ from by simpa using hp)) ha.rx hrr.rx) (fun v hv => ?_)
 subst hv
 refine .ag rfl<|.z<|.mo rfl<|.q .neI<|.zn ?_
 refine .cond rfl (fun h1 => ?_) (fun h1 => ?_)
 refine .sr<|.mo rfl<|.ag rfl<|.ag rfl<|.ag rfl<|.zn ?_
 refine .ret (seqQ_r (retQ_r _ (.three (.tmp rfl) (.tmp rfl) (.tmp rfl)) (.one [0, 0, 0, 0] _) ?_))
 ·have e : pRefr s id sec text scopes a r rev = (e0, e0, pBegin s id sec a r, s) := by unfold pRefr; rw [if_pos (by simpa using h1)]
  rw [e]
  exact ⟨_, rfl, rfl, gc, gb, gv, Tc, Tb, Tv, by simp [take, dropAt], hR, hG, hV⟩
 refine .kn<|.seq<|.sr<|.mo rfl<|.mo rfl<|.mo rfl ?_
 refine .callR (ospent_spec q s _ h0 hVl text id _ (fun p hp => .inr (show p ∈ List.flatten _ from by simpa using hp))) (fun v hv => ?_)
 subst hv
 refine .zn ?_
 refine .cond rfl (fun h2 => ?_) (fun h2 => ?_)
 obtain ⟨t, ht⟩ := Option.isSome_iff_exists.1 h2
 obtain ⟨ht1, ht2⟩ := Option.filter_eq_some_iff.1 ht
 obtain ⟨ht3, ht4, ht5⟩ := pOwn_some ht1
 have hrot := trot_used (now := s.now) ht3 ht4 ht5 ht2
 refine .seq ?_
 refine .region_tail 10 mixed (by kernel_rfl) ?_
 conv => arg 6; dsimp only [List.take]
 refine .mo rfl<|.nc rfl<|.fa rfl<|.lo rfl<|.mo rfl<|.mo rfl<|.mo rfl<|.nc rfl<|.fa rfl<|.lo rfl<|.nil ?_
 refine .callM (vrotate1_spec gv s.V s.last Tv hV text id s.now R) (fun v T1 hv => ?_)
 obtain ⟨Tv1, Tn, rfl, w1, rfl, _, hV1⟩ := hv
 rw [hrot] at hV1
 refine .z<|.ag rfl<|.ag rfl<|.ag rfl<|.zn ?_
 refine .ret (seqQ_r (retQ_r _ (.three (.tmp rfl) (.tmp rfl) (.tmp rfl)) (⟨Tn, by first | (simp; done) | (simp; exact List.Perm.append_left _ (List.Perm.append_left _ List.perm_append_comm))⟩ : HLe _ [(q, .cells [.pointer (some ⟨gc, 0, none⟩), .pointer (some ⟨gb, 0, none⟩), .pointer (some ⟨gv, 0, none⟩), .int .i64 s.now].toArray 63 (0, 0)) :: (Tc ++ (Tb ++ Tv1))]) ?_))
 ·have e : pRefr s id sec text scopes a r rev = (e0, e0, 18, { s with V := s.V.filter fun x => !(x.2.family == t.family) }) := by
   unfold pRefr; rw [if_neg (by simpa using h1), ht1]; simp only; rw [if_pos ht2]
  rw [e]
  exact ⟨_, rfl, rfl, gc, gb, gv, Tc, Tb, Tv1, rfl, hR, hG, hV1⟩
 refine .kn<|.sr<|.mo rfl<|.mo rfl ?_
 refine .callR (opairOf_spec va vr a r _ ha.rx hrr.rx hla hlr) (fun v hv => ?_)
 subst hv
 refine .allocA (fun b20 => ?_)
 refine .storeA rfl rfl<|.zs<|.sr<|.mo rfl<|.q (.loadA rfl) ?_
 refine .callR (oroom_spec q s _ h0 hVl (dtext 97 a) (dtext 114 r) _ (fun p hp => .inr (show p ∈ List.flatten _ from by simp at hp ⊢; exact .inr hp))) (fun v hv => ?_)
 subst hv
 refine .ag rfl<|.z<|.mo rfl<|.q .neI<|.zn ?_
 refine .cond rfl (fun h3 => ?_) (fun h3 => ?_)
 refine .sr<|.mo rfl<|.ag rfl<|.ag rfl<|.ag rfl<|.zn ?_
 refine .ret (seqQ_r (retQ_r _ (.three (.tmp rfl) (.tmp rfl) (.tmp rfl)) (.one [1, 1, 1, 1] _) ?_))
 ·have e : pRefr s id sec text scopes a r rev = (e0, e0, pRoom s (dtext 97 a) (dtext 114 r), s) := by
   unfold pRefr; rw [if_neg (by simpa using h1)]
   rcases own_cases (now := s.now) h2 with ⟨t, _, _, _, e4, e5, _, _⟩ | ⟨_, hu⟩
   ·rw [e5]; simp only; rw [if_neg (by simp [e4]), if_pos (by simpa using h3)]
   ·cases e5 : pOwn s.V text id with
    | none => simp only; rw [if_pos (by simpa using h3)]
    | some t => simp only; rw [if_neg (by simp [(hu t e5).1]), if_pos (by simpa using h3)]
  rw [e]
  exact ⟨_, rfl, rfl, gc, gb, gv, Tc, Tb, Tv, by simp [take, dropAt], hR, hG, hV⟩
 refine .kn<|.seq ?_
 refine Tri.cut (X := Nat × Value × Tok × Seg) (fun y => TokR (sg0 y.2.2.2) (y.2.1, y.2.2.1) ∧ (tfind s.V text s.now).getD Tok.zero = y.2.2.1) (fun y => [(0, .pointer (some ⟨q, 0, none⟩)), (1, .string id), (3, .string text), (4, vs), (7, .int .u64 rev), (20, .pointer (some ⟨b20, 0, none⟩)), (22, .pointer (some ⟨y.1, 0, none⟩)), (23, .bool (tfind s.V text s.now).isSome)]) (fun y => [[(y.1, .cells (encT (y.2.1, y.2.2.1)).toArray 48 (0, 0))], y.2.2.2, [(b20, .cells [.string (dtext 97 a), .string (dtext 114 r)].toArray 160 (0, 0))], [(q, .cells [.pointer (some ⟨gc, 0, none⟩), .pointer (some ⟨gb, 0, none⟩), .pointer (some ⟨gv, 0, none⟩), .int .i64 s.now].toArray 63 (0, 0))], Tc, Tb, Tv]) ?_ ?_
 refine .region_all [14] mixed ?_
 refine .takeO 0 rfl .move (by kernel_rfl)<|.takeO 1 rfl (.nilCheck rfl) (by kernel_rfl)<|.takeO 2 rfl (.fieldAddr rfl) (by kernel_rfl)<|.takeO 3 rfl (.load1 rfl) (by kernel_rfl)<|.takeO 4 rfl .move (by kernel_rfl)<|.takeO 5 rfl .move (by kernel_rfl)<|.takeO 6 rfl (.nilCheck rfl) (by kernel_rfl)<|.takeO 7 rfl (.fieldAddr rfl) (by kernel_rfl)<|.takeO 8 rfl (.load1 rfl) (by kernel_rfl) ?_
 refine RA.step2 9 13 rfl rfl (by kernel_rfl) rfl ?_ ?_
 refine .callN (vfind_spec gv s.V s.last Tv hV text s.now _ (fun p hp => .inr (by simp [hp]))) (fun v T1 hv => ?_)
 obtain ⟨w1, t1, rfl, ht1, hf1⟩ := hv
 have j1 : Ones (encT (w1, t1)) := ⟨ht1.ones⟩
 refine .nil (Next.sub ?_)
 refine .takeO 10 rfl .move (by kernel_rfl)<|.takeO 11 rfl .extract (by kernel_rfl)<|.take 12 rfl .extract (by kernel_rfl) ?_
 refine RA.step 13 rfl (by kernel_rfl) rfl ?_
 refine .allocA (fun b22 => ?_)
 refine .nil (Next.sub ?_)
 refine RA.step 14 rfl (by kernel_rfl) rfl ?_
 refine .storeA rfl rfl ?_
 refine .nil (Next.mod rfl ?_)
 refine .take 15 rfl .assign (by kernel_rfl) ?_
 refine RA.nil (by kernel_rfl) ?_
 ·exact joinQ_n (b22, w1, t1, T1) ⟨ht1, hf1⟩ (EnvLe.k8 rfl rfl rfl rfl rfl rfl rfl rfl) (HLe.refl _)
 refine .allocA (fun b22 => ?_)
 refine .nil (Next.sub ?_)
 refine RA.step 9 rfl (by kernel_rfl) rfl ?_
 refine .callN (vfind_spec gv s.V s.last Tv hV text s.now _ (fun p hp => .inr (by simp [hp]))) (fun v T1 hv => ?_)
 obtain ⟨w1, t1, rfl, ht1, hf1⟩ := hv
 have j1 : Ones (encT (w1, t1)) := ⟨ht1.ones⟩
 refine .nil (Next.sub ?_)
 refine .takeO 10 rfl .move (by kernel_rfl)<|.takeO 11 rfl .extract (by kernel_rfl)<|.take 12 rfl .extract (by kernel_rfl) ?_
 refine RA.step 14 rfl (by kernel_rfl) rfl ?_
 refine .storeA rfl rfl ?_
 refine .nil (Next.mod rfl ?_)
 refine .take 15 rfl .assign (by kernel_rfl) ?_
 refine RA.nil (by kernel_rfl) ?_
 ·exact joinQ_n (b22, w1, t1, T1) ⟨ht1, hf1⟩ (EnvLe.k8 rfl rfl rfl rfl rfl rfl rfl rfl) (HLe.pick [1, 0, 0, 0, 0, 0, 0] _)
 intro y hy
 obtain ⟨b22, w1, t1, T1⟩ := y
 obtain ⟨ht1, hf1⟩ := hy
 simp only at ht1 hf1 ⊢
 have ht1' : RS (sg0 T1) 1 encS w1 t1.scopes := ht1
 obtain ⟨pw1, kw1, hw1⟩ := ht1'.val
 have j1 : Ones (encT (w1, t1)) := ⟨ht1.ones⟩
 have j2 : One w1 := ht1.oneCell
 have hcs := own_cases (now := s.now) h2
 refine seqQ_n<|.seq<|.block<|.sr<|.mo rfl<|.q .not<|.mo rfl ?_
 refine .split (t := 75) rfl (fun g12_2 => ?_) (fun g12_2 => ?_)
 refine .gF g12_2<|.gF g12_2<|.gF g12_2<|.q (.pickTh g12_2) ?_
 refine .mo rfl<|.gf rfl rfl<|.gf rfl rfl<|.gf rfl rfl<|.gf rfl rfl<|.q .pickT<|.ag rfl<|.zn<|.condT<|.sr<|.ag rfl<|.ag rfl<|.ag rfl<|.zn ?_
 refine .ret (blkQ_r (seqQ_r (retQ_r _ (.three (.tmp rfl) (.tmp rfl) (.tmp rfl)) (.one [3, 3, 3, 3] _) ?_)))
 ·have hno : ∀ t, pOwn s.V text id = some t → t.used = false ∧ t.expires ≤ s.now := by
   rcases hcs with ⟨t, e1, e2, e3, _⟩ | h9
   ·exfalso
    rw [e1, Option.getD_some] at hf1
    subst hf1
    (rw [e1] at g12_2; simp at g12_2; done)
   ·exact h9.2
  have e : pRefr s id sec text scopes a r rev = (e0, e0, 18, s) := by
   unfold pRefr; rw [if_neg (by simpa using h1)]
   cases e5 : pOwn s.V text id with
   | none => simp only; rw [if_neg (by simpa using h3)]
   | some t => simp only; rw [if_neg (by simp [(hno t e5).1]), if_neg (by simpa using h3), if_pos (hno t e5).2]
  rw [e]
  exact ⟨_, rfl, rfl, gc, gb, gv, Tc, Tb, Tv, by simp [take, dropAt], hR, hG, hV⟩
 refine .gT g12_2<|.fa rfl<|.gT g12_2<|.lo rfl<|.gT g12_2<|.q .neI<|.q (.pickFh g12_2) ?_
 refine .mo rfl ?_
 refine .split (t := 80) rfl (fun g12_7 => ?_) (fun g12_7 => ?_)
 refine .gF g12_7<|.gF g12_7<|.gF g12_7<|.gF g12_7<|.q (.pickTh g12_7) ?_
 refine .ag rfl<|.zn<|.condT<|.sr<|.ag rfl<|.ag rfl<|.ag rfl<|.zn ?_
 refine .ret (blkQ_r (seqQ_r (retQ_r _ (.three (.tmp rfl) (.tmp rfl) (.tmp rfl)) (.one [3, 3, 3, 3] _) ?_)))
 ·have hno : ∀ t, pOwn s.V text id = some t → t.used = false ∧ t.expires ≤ s.now := by
   rcases hcs with ⟨t, e1, e2, e3, _⟩ | h9
   ·exfalso
    rw [e1, Option.getD_some] at hf1
    subst hf1
    (rw [e2] at g12_7; simp at g12_7; done)
   ·exact h9.2
  have e : pRefr s id sec text scopes a r rev = (e0, e0, 18, s) := by
   unfold pRefr; rw [if_neg (by simpa using h1)]
   cases e5 : pOwn s.V text id with
   | none => simp only; rw [if_neg (by simpa using h3)]
   | some t => simp only; rw [if_neg (by simp [(hno t e5).1]), if_neg (by simpa using h3), if_pos (hno t e5).2]
  rw [e]
  exact ⟨_, rfl, rfl, gc, gb, gv, Tc, Tb, Tv, by simp [take, dropAt], hR, hG, hV⟩
 refine .gT g12_7<|.fa rfl<|.gT g12_7<|.lo rfl<|.gT g12_7<|.mo rfl<|.gT g12_7<|.q .neS<|.q (.pickFh g12_7) ?_
 refine .ag rfl<|.zn ?_
 refine .cond rfl (fun h4 => ?_) (fun h4 => ?_)
 refine .sr<|.ag rfl<|.ag rfl<|.ag rfl<|.zn ?_
 refine .ret (blkQ_r (seqQ_r (retQ_r _ (.three (.tmp rfl) (.tmp rfl) (.tmp rfl)) (.one [3, 3, 3, 3] _) ?_)))
 ·have hno : ∀ t, pOwn s.V text id = some t → t.used = false ∧ t.expires ≤ s.now := by
   rcases hcs with ⟨t, e1, e2, e3, _⟩ | h9
   ·exfalso
    rw [e1, Option.getD_some] at hf1
    subst hf1
    (rw [e3] at h4; simp at h4; done)
   ·exact h9.2
  have e : pRefr s id sec text scopes a r rev = (e0, e0, 18, s) := by
   unfold pRefr; rw [if_neg (by simpa using h1)]
   cases e5 : pOwn s.V text id with
   | none => simp only; rw [if_neg (by simpa using h3)]
   | some t => simp only; rw [if_neg (by simp [(hno t e5).1]), if_neg (by simpa using h3), if_pos (hno t e5).2]
  rw [e]
  exact ⟨_, rfl, rfl, gc, gb, gv, Tc, Tb, Tv, by simp [take, dropAt], hR, hG, hV⟩
 obtain ⟨t, e1, e2, e3, e4, e5, e6, e7⟩ := hcs.resolve_right (fun h9 => h9.1 (by
  have h10 : (tfind s.V text s.now).isSome = true := by simpa using g12_2
  obtain ⟨t, ht⟩ := Option.isSome_iff_exists.1 h10
  rw [ht, Option.getD_some] at hf1
  subst hf1
  exact ⟨t, ht, by simpa using g12_7, by simpa using h4⟩))
 rw [e1, Option.getD_some] at hf1
 subst hf1
 have hrot := trot_ok (now := s.now) e7 e2 e3 e4 e6
 refine .sr<|.mo rfl<|.fa rfl<|.lo rfl ?_
 refine .callR (owithin_spec vs w1 scopes t.scopes _ hs.rx (ht1'.mono fun b o hb => .inr (by have hb' : (b, o) ∈ T1 := hb.1; simp [hb']))) (fun v hv => ?_)
 subst hv
 refine .q .not<|.mo rfl ?_
 refine .split (t := 92) rfl (fun g14_5 => ?_) (fun g14_5 => ?_)
 refine .gF g14_5<|.gF g14_5<|.gF g14_5<|.q (.pickTh g14_5) ?_
 refine .ag rfl<|.zn<|.condT<|.sr<|.ag rfl<|.ag rfl<|.ag rfl<|.zn ?_
 refine .ret (blkQ_r (seqQ_r (retQ_r _ (.three (.tmp rfl) (.tmp rfl) (.tmp rfl)) (.one [3, 3, 3, 3] _) ?_)))
 ·have e : pRefr s id sec text scopes a r rev = (e0, e0, 19, s) := by
   unfold pRefr; rw [if_neg (by simpa using h1), e5]; simp only
   rw [if_neg (by simp [e4]), if_neg (by simpa using h3), if_neg (by omega), if_pos (by first | (exact .inl (by simpa using g14_5)) | (exact .inr (by simpa using h5)))]
  rw [e]
  exact ⟨_, rfl, rfl, gc, gb, gv, Tc, Tb, Tv, by simp [take, dropAt], hR, hG, hV⟩
 refine .gT g14_5<|.mo rfl<|.gT g14_5 ?_
 refine .callR (odistinct_spec vs scopes hsl _ hs.rx) (fun v hv => ?_)
 subst hv
 refine .gT g14_5<|.q .not<|.q (.pickFh g14_5) ?_
 refine .ag rfl<|.zn ?_
 refine .cond rfl (fun h5 => ?_) (fun h5 => ?_)
 refine .sr<|.ag rfl<|.ag rfl<|.ag rfl<|.zn ?_
 refine .ret (blkQ_r (seqQ_r (retQ_r _ (.three (.tmp rfl) (.tmp rfl) (.tmp rfl)) (.one [3, 3, 3, 3] _) ?_)))
 ·have e : pRefr s id sec text scopes a r rev = (e0, e0, 19, s) := by
   unfold pRefr; rw [if_neg (by simpa using h1), e5]; simp only
   rw [if_neg (by simp [e4]), if_neg (by simpa using h3), if_neg (by omega), if_pos (by first | (exact .inl (by simpa using g14_5)) | (exact .inr (by simpa using h5)))]
  rw [e]
  exact ⟨_, rfl, rfl, gc, gb, gv, Tc, Tb, Tv, by simp [take, dropAt], hR, hG, hV⟩
 refine .skip<|blkQ_n<|seqQ_n<|.seq<|.seq ?_
 refine Tri.cut (X := Seg × Seg) (fun y => VI gv (kset text t.mark s.V) s.last y.1) (fun y => [(0, .pointer (some ⟨q, 0, none⟩)), (1, .string id), (4, vs), (7, .int .u64 rev), (20, .pointer (some ⟨b20, 0, none⟩)), (22, .pointer (some ⟨b22, 0, none⟩)), (25, .int .i64 0)]) (fun y => [[(b22, .cells (encT (w1, t)).toArray 48 (0, 0))], T1, [(b20, .cells [.string (dtext 97 a), .string (dtext 114 r)].toArray 160 (0, 0))], [(q, .cells [.pointer (some ⟨gc, 0, none⟩), .pointer (some ⟨gb, 0, none⟩), .pointer (some ⟨gv, 0, none⟩), .int .i64 s.now].toArray 63 (0, 0))], Tc, Tb, y.1 ++ y.2]) ?_ ?_
 refine .region_all [10, 15] mixed ?_
 refine .takeO 0 rfl .move (by kernel_rfl)<|.takeO 1 rfl (.nilCheck rfl) (by kernel_rfl)<|.takeO 2 rfl (.fieldAddr rfl) (by kernel_rfl)<|.takeO 3 rfl (.load1 rfl) (by kernel_rfl)<|.takeO 4 rfl .move (by kernel_rfl)<|.takeO 5 rfl .move (by kernel_rfl)<|.takeO 6 rfl .move (by kernel_rfl)<|.takeO 7 rfl (.nilCheck rfl) (by kernel_rfl)<|.takeO 8 rfl (.fieldAddr rfl) (by kernel_rfl)<|.takeO 9 rfl (.load1 rfl) (by kernel_rfl) ?_
 refine RA.step2 10 14 rfl rfl (by kernel_rfl) rfl ?_ ?_
 refine .callM (vrotate1_spec gv s.V s.last Tv hV text id s.now R) (fun v T1 hv => ?_)
 obtain ⟨Tv1, Tn, rfl, w2, rfl, ht2, hV1⟩ := hv
 rw [hrot] at hV1 ht2 ⊢
 have j3 : Ones (encT (w2, t.mark)) := ⟨ht2.ones⟩
 refine .nil (Next.mod rfl ?_)
 refine .take 11 rfl .move (by kernel_rfl)<|.take 12 rfl .extract (by kernel_rfl)<|.take 13 rfl .extract (by kernel_rfl) ?_
 refine RA.step 14 rfl (by kernel_rfl) rfl ?_
 refine .allocA (fun b24 => ?_)
 refine .nil (Next.mod rfl ?_)
 refine RA.step 15 rfl (by kernel_rfl) rfl ?_
 refine .storeA rfl rfl ?_
 refine .nil (Next.mod rfl ?_)
 refine .take 16 rfl .assign (by kernel_rfl) ?_
 refine RA.nil (by kernel_rfl) ?_
 ·exact joinQ_n (Tv1, Tn) hV1 (EnvLe.k7 rfl rfl rfl rfl rfl rfl rfl) (HLe.pick [1, 1, 1, 1, 1, 1, 1] _)
 refine .allocA (fun b24 => ?_)
 refine .nil (Next.sub ?_)
 refine RA.step 10 rfl (by kernel_rfl) rfl ?_
 refine .callM (vrotate1_spec gv s.V s.last Tv hV text id s.now R) (fun v T1 hv => ?_)
 obtain ⟨Tv1, Tn, rfl, w2, rfl, ht2, hV1⟩ := hv
 rw [hrot] at hV1 ht2 ⊢
 have j3 : Ones (encT (w2, t.mark)) := ⟨ht2.ones⟩
 refine .nil (Next.mod rfl ?_)
 refine .take 11 rfl .move (by kernel_rfl)<|.take 12 rfl .extract (by kernel_rfl)<|.take 13 rfl .extract (by kernel_rfl) ?_
 refine RA.step 15 rfl (by kernel_rfl) rfl ?_
 refine .storeA rfl rfl ?_
 refine .nil (Next.mod rfl ?_)
 refine .take 16 rfl .assign (by kernel_rfl) ?_
 refine RA.nil (by kernel_rfl) ?_
 ·exact joinQ_n (Tv1, Tn) hV1 (EnvLe.k7 rfl rfl rfl rfl rfl rfl rfl) (HLe.pick [1, 1, 1, 1, 1, 1, 1] _)
 intro y hy
 obtain ⟨Tv1, Tn⟩ := y
 simp only at hy ⊢
 have hV1 := hy
 refine seqQ_n<|.sr<|.mo rfl<|.q .neI<|.zn ?_
 refine .cond rfl (fun h6 => ?_) (fun h6 => ?_)
 ·simp at h6
 refine .kn<|.seq<|.sr<|.mo rfl<|.q (.lenR hs) ?_
 refine .q .gtr<|.zn ?_
 refine Tri.cut (X := Option Addr × Nat) (fun y => (Value.slice y.1 (if scopes = [] then t.scopes else scopes).length y.2 = vs ∧ scopes ≠ []) ∨ (Value.slice y.1 (if scopes = [] then t.scopes else scopes).length y.2 = w1 ∧ scopes = [])) (fun y => [(0, .pointer (some ⟨q, 0, none⟩)), (1, .string id), (7, .int .u64 rev), (20, .pointer (some ⟨b20, 0, none⟩)), (22, .pointer (some ⟨b22, 0, none⟩))]) (fun y => [[(b22, .cells (encT (.slice y.1 (if scopes = [] then t.scopes else scopes).length y.2, t)).toArray 48 (0, 0))], T1, [(b20, .cells [.string (dtext 97 a), .string (dtext 114 r)].toArray 160 (0, 0))], (q, .cells [.pointer (some ⟨gc, 0, none⟩), .pointer (some ⟨gb, 0, none⟩), .pointer (some ⟨gv, 0, none⟩), .int .i64 s.now].toArray 63 (0, 0)) :: (Tc ++ (Tb ++ Tv1)), Tn]) ?_ ?_
 refine .cond rfl (fun h7 => ?_) (fun h7 => ?_)
 have hne : scopes ≠ [] := fun e => by rw [e] at h7; simp at h7
 have e9 : Value.slice pvs (if scopes = [] then t.scopes else scopes).length kvs = vs := by rw [if_neg hne]; exact hvs.symm
 refine .region<|.mo rfl<|.fa rfl<|.store1 rfl rfl<|.nil ?_
 ·refine joinQ_n (pvs, kvs) (.inl ⟨e9, hne⟩) (EnvLe.k5 rfl rfl rfl rfl rfl) ?_
  simp only [e9]
  refine HLe.ofPerm ?_
  simp [encT, setL]
 have he : scopes = [] := by
  cases scopes with
  | nil => rfl
  | cons x l => simp at h7
 have e9 : Value.slice pw1 (if scopes = [] then t.scopes else scopes).length kw1 = w1 := by rw [if_pos he]; exact hw1.symm
 refine .skip ?_
 ·refine joinQ_n (pw1, kw1) (.inr ⟨e9, he⟩) (EnvLe.k5 rfl rfl rfl rfl rfl) ?_
  simp only [e9]
  refine HLe.ofPerm ?_
  simp [encT, setL]
 intro x hx
 obtain ⟨pu, ku⟩ := x
 simp only at hx ⊢
 have ps2 : PS ((q, .cells [.pointer (some ⟨gc, 0, none⟩), .pointer (some ⟨gb, 0, none⟩), .pointer (some ⟨gv, 0, none⟩), .int .i64 s.now].toArray 63 (0, 0)) :: (Tc ++ (Tb ++ Tv1))) (.pointer (some ⟨q, 0, none⟩)) [.pointer (some ⟨gc, 0, none⟩), .pointer (some ⟨gb, 0, none⟩), .pointer (some ⟨gv, 0, none⟩), .int .i64 s.now] := PS.of (E := 63) (fr := (0, 0)) (by simp)
 have hsc : ∀ (R' : Rds), (∀ b o, R b o → R' b o) → (∀ b o, (b, o) ∈ T1 → R' b o) → RS R' 1 encS (.slice pu (if scopes = [] then t.scopes else scopes).length ku) (if scopes = [] then t.scopes else scopes) := fun R' g1 g2 => by
  rcases hx with ⟨e9, hne⟩ | ⟨e9, he⟩
  ·rw [e9, if_neg hne]; exact hs.mono g1
  ·rw [e9, if_pos he]; exact ht1'.mono fun b o hb => g2 b o hb.1
 have hsf : (if scopes = [] then t.scopes else scopes).length ≤ 1000000 := by
  split
  ·exact hV.few _ (mget_some e7)
  ·exact hsl
 refine seqQ_n<|.sr<|.mo rfl<|.q (.loadA rfl)<|.mo rfl<|.fa rfl<|.lo rfl<|.fa rfl<|.lo rfl<|.fa rfl<|.lo rfl<|.mo rfl ?_
 refine .q .bld ?_
 refine .callW (oput_spec q { s with V := kset text t.mark s.V } _ ⟨gc, gb, gv, Tc, Tb, Tv1, rfl, hR, hG, hV1⟩ hn0 hn1 (dtext 97 a) (dtext 114 r) (.slice pu (if scopes = [] then t.scopes else scopes).length ku) ⟨e0, 0, id, t.user, if scopes = [] then t.scopes else scopes, t.family, 0, rev, false⟩ _ (hsc _ (fun b o hb => .inl hb) (fun b o hb => .inr (by simp [hb]))) hsf) (fun v T3 hv => ?_)
 refine .zs ?_
 refine .region_still mixed (by kernel_rfl) ?_
 refine .fa rfl<|.lo rfl<|.fa rfl<|.lo rfl<|.ag rfl<|.ag rfl<|.ag rfl<|.zn ?_
 refine .ret (retQ_r _ (.three (.tmp rfl) (.tmp rfl) (.tmp rfl)) (.one [3] _) ?_)
 ·have e : pRefr s id sec text scopes a r rev = (dtext 97 a, dtext 114 r, 0, { s with V := pPut (kset text t.mark s.V) s.last s.now (dtext 97 a) (dtext 114 r) ⟨e0, 0, id, t.user, if scopes = [] then t.scopes else scopes, t.family, 0, rev, false⟩ }) := by
   unfold pRefr; rw [if_neg (by simpa using h1), e5]; simp only
   rw [if_neg (by simp [e4]), if_neg (by simpa using h3), if_neg (by omega), if_neg (by
    rintro (h9 | h9)
    ·rw [h9] at g14_5; simp at g14_5
    ·exact h9 (by simpa using h5))]
  rw [e]
  exact ⟨_, rfl, rfl, by simpa [take, dropAt] using hv⟩
end Go.Proofs.YtkagfkbkpiebjaaGreatDoor
