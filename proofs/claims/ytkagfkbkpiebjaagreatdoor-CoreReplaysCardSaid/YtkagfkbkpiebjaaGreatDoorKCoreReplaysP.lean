/- What the law 'CoreReplays' uses of this prover's engine, facts and walks. No condition. -/
import Derived.Test.YtkagfkbkpiebjaaGreatDoorKCoreReplaysH
import Derived.Test.YtkagfkbkpiebjaaGreatDoorKCoreReplaysJ
import Derived.Test.YtkagfkbkpiebjaaGreatDoorKCoreReplaysL
import Derived.Test.YtkagfkbkpiebjaaGreatDoorKCoreReplaysM
import Derived.Test.YtkagfkbkpiebjaaGreatDoorKCoreReplaysO
set_option linter.unusedVariables false
set_option maxRecDepth 4000
namespace Go.Proofs.YtkagfkbkpiebjaaGreatDoor
def CI (q : Nat) (cs : List Cli) (C : List (Who × List ByteArray)) (A : List (ByteArray × Cod)) (V : List (ByteArray × Tok)) (last now : Int) (T : Seg) : Prop :=
 ∃ gc gb gv Tc Tb Tv, T = (q, .cells [.pointer (some ⟨gc, 0, none⟩), .pointer (some ⟨gb, 0, none⟩), .pointer (some ⟨gv, 0, none⟩), .int .i64 now].toArray 63 (0, 0)) :: (Tc ++ (Tb ++ Tv)) ∧ RI gc cs Tc ∧ GI gb C A Tb ∧ VI gv V last Tv
theorem onew_spec (R : Rds) : Spec Tryz.prog 9 [] R [] fun v H' => ∃ T, H' = [T] ∧ ∃ q, v = .pointer (some ⟨q, 0, none⟩) ∧ CI q [] [] [] [] 0 0 T := by
 refine Spec.body Tryz.func9 rfl Tryz.results9 Tryz.ntmps9 rfl ?_
 refine .sr<|.ag rfl<|.z ?_
 refine .callN (cnew_spec _) (fun u T1 hu => ?_)
 obtain ⟨g1, rfl, h1⟩ := hu
 refine .callN (gnew_spec _) (fun u T2 hu => ?_)
 obtain ⟨g2, rfl, h2⟩ := hu
 refine .callN (vnew_spec _) (fun u T3 hu => ?_)
 obtain ⟨g3, rfl, h3⟩ := hu
 refine .q .bld ?_
 refine .boxA rfl (fun b5 => ?_)
 refine .ag rfl<|.zn ?_
 refine .ret (retQ_r _ (.one (.tmp rfl)) (.one [0, 2, 1, 0] _) ?_)
 ·exact ⟨_, rfl, _, rfl, g1, g2, g3, T1, T2, T3, by simp [take, dropAt, setL], h1, h2, h3⟩
theorem ook_spec (q a : Nat) (b c d : Value) (R : Rds) [pc : PC R (.pointer (some ⟨q, 0, none⟩)) [.pointer (some ⟨a, 0, none⟩), b, c, d]] : Spec Tryz.prog 44 [.pointer (some ⟨q, 0, none⟩)] R [] fun v H' => v = .bool true ∧ H' = [] := by
 refine Spec.body Tryz.func44 rfl Tryz.results44 Tryz.ntmps44 rfl ?_
 refine .sr<|.ag rfl<|.z<|.mo rfl<|.q (.neNilA rfl rfl) ?_
 refine .mo rfl<|.gt rfl ?_
 refine .mo rfl<|.gt rfl ?_
 refine .nc rfl<|.gt rfl ?_
 refine .fa rfl<|.gt rfl ?_
 refine .lo rfl<|.gt rfl ?_
 refine .q (.neNilA rfl rfl) ?_
 refine .q .pickT<|.ag rfl<|.zn ?_
 refine .ret (retQ_r _ (.one (.tmp rfl)) (.none _) ?_)
 ·exact ⟨rfl, rfl⟩
theorem onow_spec (q a : Nat) (b c : Value) (now : Int) (R : Rds) [pc : PC R (.pointer (some ⟨q, 0, none⟩)) [.pointer (some ⟨a, 0, none⟩), b, c, .int .i64 now]] : Spec Tryz.prog 19 [.pointer (some ⟨q, 0, none⟩)] R [] fun v H' => v = .int .i64 now ∧ H' = [] := by
 refine Spec.body Tryz.func19 rfl Tryz.results19 Tryz.ntmps19 rfl ?_
 refine .sr<|.ag rfl<|.zs<|.sr<|.mo rfl ?_
 refine .callR (ook_spec q a b c _ _) (fun v hv => ?_)
 subst hv
 refine .q .not<|.zn<|.condF<|.kn<|.sr<|.mo rfl<|.nc rfl<|.fa rfl<|.lo rfl<|.ag rfl<|.zn ?_
 refine .ret (retQ_r _ (.one (.tmp rfl)) (.none _) ?_)
 ·exact ⟨rfl, rfl⟩
theorem obook_spec (q a g : Nat) (c d : Value) (R : Rds) [pc : PC R (.pointer (some ⟨q, 0, none⟩)) [.pointer (some ⟨a, 0, none⟩), .pointer (some ⟨g, 0, none⟩), c, d]] : Spec Tryz.prog 13 [.pointer (some ⟨q, 0, none⟩)] R [] fun v H' => v = .pointer (some ⟨g, 0, none⟩) ∧ H' = [] := by
 refine Spec.body Tryz.func13 rfl Tryz.results13 Tryz.ntmps13 rfl ?_
 refine .sr<|.ag rfl<|.zs<|.sr<|.mo rfl ?_
 refine .callR (ook_spec q a _ c d _) (fun v hv => ?_)
 subst hv
 refine .q .not<|.zn<|.condF<|.kn<|.sr<|.mo rfl<|.nc rfl<|.fa rfl<|.lo rfl<|.ag rfl<|.zn ?_
 refine .ret (retQ_r _ (.one (.tmp rfl)) (.none _) ?_)
 ·exact ⟨rfl, rfl⟩
theorem oadd_spec (q : Nat) (cs : List Cli) (C : List (Who × List ByteArray)) (A : List (ByteArray × Cod)) (V : List (ByteArray × Tok)) (last now : Int) (T : Seg) (h : CI q cs C A V last now T) (r : CR) (c : Cli) (R : Rds) (hc : CliR R r c) (hf : c.fits) (hw : c.few) :
  Spec Tryz.prog 36 [.pointer (some ⟨q, 0, none⟩), .agg r.cells.toArray] R [T] fun v H' => ∃ T', H' = [T'] ∧ v = .int .i64 (cadd cs c).1 ∧ CI q (cadd cs c).2 C A V last now T' := by
 obtain ⟨gc, gb, gv, Tc, Tb, Tv, rfl, hR, hG, hV⟩ := h
 have i1 : Ones r.cells := ⟨hc.ones⟩
 refine Spec.segs (H' := [[(q, .cells [.pointer (some ⟨gc, 0, none⟩), .pointer (some ⟨gb, 0, none⟩), .pointer (some ⟨gv, 0, none⟩), .int .i64 now].toArray 63 (0, 0))], Tc, Tb, Tv]) (by simp) ?_
 refine Spec.body Tryz.func36 rfl Tryz.results36 Tryz.ntmps36 rfl ?_
 refine .sr ?_
 refine .boxA rfl (fun b3 => ?_)
 refine .ag rfl<|.zs<|.sr<|.mo rfl ?_
 refine .callR (ook_spec q gc _ _ _ _) (fun v hv => ?_)
 subst hv
 refine .q .not<|.zn<|.condF<|.kn<|.seq ?_
 refine .region_tail 5 mixed (by kernel_rfl) ?_
 conv => arg 6; dsimp only [List.take]
 refine .mo rfl<|.nc rfl<|.fa rfl<|.lo rfl<|.q (.loadA rfl)<|.nil ?_
 refine .callM (cadd_spec gc cs Tc hR r c R hc hf hw) (fun u T1 hu => ?_)
 obtain ⟨rfl, hR1⟩ := hu
 refine .ag rfl<|.zn ?_
 refine .ret (retQ_r _ (.one (.tmp rfl)) (.one [1, 1, 1, 1] _) ?_)
 ·exact ⟨_, rfl, rfl, gc, gb, gv, T1, Tb, Tv, by simp [take, dropAt], hR1, hG, hV⟩
theorem oknown_spec (q gc : Nat) (b c d : Value) (cs : List Cli) (Tc : Seg) (hR : RI gc cs Tc) (id : ByteArray) (R : Rds) (hr : ∀ p ∈ Tc, R p.1 p.2) [pc : PC R (.pointer (some ⟨q, 0, none⟩)) [.pointer (some ⟨gc, 0, none⟩), b, c, d]] : Spec Tryz.prog 86 [.pointer (some ⟨q, 0, none⟩), .string id] R [] fun v H' => v = .bool (cget id cs).isSome ∧ H' = [] := by
 refine Spec.body Tryz.func86 rfl Tryz.results86 Tryz.ntmps86 rfl ?_
 refine .sr<|.ag rfl<|.z<|.mo rfl<|.nc rfl<|.fa rfl<|.lo rfl<|.mo rfl ?_
 refine .callN (cget_spec gc cs Tc hR id _ fun p hp => .inl (hr p hp)) (fun u T1 hu => ?_)
 obtain ⟨r1, rfl, hc1⟩ := hu
 have i1 : Ones r1.cells := ⟨hc1.ones⟩
 refine .mo rfl<|.q .extract<|.q .extract ?_
 refine .allocA (fun b5 => ?_)
 refine .storeA rfl rfl<|.ag rfl<|.z<|.mo rfl<|.ag rfl<|.zn ?_
 refine .ret (retQ_r _ (.one (.tmp rfl)) (.none _) ?_)
 ·exact ⟨rfl, rfl⟩
def oconE (cs : List Cli) (user id : ByteArray) (scopes : List ByteArray) : Int := if isID user = false then 9 else if (cget id cs).isSome = false then 17 else if casks id scopes cs = false then 19 else 0
theorem oconsent_spec (q : Nat) (cs : List Cli) (C : List (Who × List ByteArray)) (A : List (ByteArray × Cod)) (V : List (ByteArray × Tok)) (last now : Int) (T : Seg) (h : CI q cs C A V last now T) (user id : ByteArray) (hu : user.size ≤ 9223372036854775807) (vs : Value) (scopes : List ByteArray) (R : Rds) (hs : RS R 1 encS vs scopes) (hsl : scopes.length ≤ 100000) (hb : ∀ p ∈ C, p.2.length ≤ 1000000) :
  Spec Tryz.prog 38 [.pointer (some ⟨q, 0, none⟩), .string user, .string id, vs] R [T] fun v H' => ∃ T', H' = [T'] ∧ v = .int .i64 (oconE cs user id scopes) ∧ ∃ C', (oconE cs user id scopes ≠ 0 → C' = C) ∧ (oconE cs user id scopes = 0 → ∃ l, Rise l ∧ (∀ s, s ∈ l ↔ s ∈ (mget (user, id) C).getD [] ∨ s ∈ scopes) ∧ l.length ≤ ((mget (user, id) C).getD []).length + scopes.length ∧ C' = if l = [] then C else kset (user, id) l C) ∧ CI q cs C' A V last now T' := by
 obtain ⟨gc, gb, gv, Tc, Tb, Tv, rfl, hR, hG, hV⟩ := h
 have i1 := hs.oneCell
 refine Spec.segs (H' := [[(q, .cells [.pointer (some ⟨gc, 0, none⟩), .pointer (some ⟨gb, 0, none⟩), .pointer (some ⟨gv, 0, none⟩), .int .i64 now].toArray 63 (0, 0))], Tc, Tb, Tv]) (by simp) ?_
 refine Spec.body Tryz.func38 rfl Tryz.results38 Tryz.ntmps38 rfl ?_
 refine .sr<|.ag rfl<|.zs<|.block<|.sr<|.mo rfl ?_
 refine .callR (ook_spec q gc _ _ _ _) (fun v hv => ?_)
 subst hv
 refine .q .not<|.ag rfl<|.zn<|.condF<|.sr<|.mo rfl ?_
 refine .callR (id_spec user hu _) (fun v hv => ?_)
 subst hv
 refine .q .not<|.ag rfl<|.zn ?_
 refine .cond rfl (fun h2 => ?_) (fun h2 => ?_)
 refine .sr<|.ag rfl<|.zn ?_
 refine .ret (blkQ_r (seqQ_r (retQ_r _ (.one (.tmp rfl)) (.one [0, 0, 0, 0] _) ?_)))
 ·have e : oconE cs user id scopes = 9 := by unfold oconE; rw [if_pos (by simpa using h2)]
  rw [e]
  exact ⟨_, rfl, rfl, C, fun _ => rfl, fun h9 => by simp at h9, gc, gb, gv, Tc, Tb, Tv, by simp [take, dropAt], hR, hG, hV⟩
 refine .sr<|.mo rfl<|.mo rfl ?_
 refine .callR (oknown_spec q gc _ _ _ cs Tc hR id _ (fun p hp => .inr (by simp [hp]))) (fun v hv => ?_)
 subst hv
 refine .q .not<|.ag rfl<|.zn ?_
 refine .cond rfl (fun h3 => ?_) (fun h3 => ?_)
 refine .sr<|.ag rfl<|.zn ?_
 refine .ret (blkQ_r (seqQ_r (retQ_r _ (.one (.tmp rfl)) (.one [0, 0, 0, 0] _) ?_)))
 ·have e : oconE cs user id scopes = 17 := by unfold oconE; rw [if_neg (by simpa using h2), if_pos (by simpa using h3)]
  rw [e]
  exact ⟨_, rfl, rfl, C, fun _ => rfl, fun h9 => by simp at h9, gc, gb, gv, Tc, Tb, Tv, by simp [take, dropAt], hR, hG, hV⟩
 refine .sr<|.mo rfl<|.nc rfl<|.fa rfl<|.lo rfl<|.mo rfl<|.mo rfl ?_
 refine .callR (casks_spec gc cs Tc hR id vs scopes _ (fun p hp => .inr (by simp [hp])) hs.rx) (fun v hv => ?_)
 subst hv
 refine .q .not<|.ag rfl<|.zn ?_
 refine .cond rfl (fun h4 => ?_) (fun h4 => ?_)
 refine .sr<|.ag rfl<|.zn ?_
 refine .ret (blkQ_r (seqQ_r (retQ_r _ (.one (.tmp rfl)) (.one [0, 0, 0, 0] _) ?_)))
 ·have e : oconE cs user id scopes = 19 := by unfold oconE; rw [if_neg (by simpa using h2), if_neg (fun h9 => by rw [show (cget id cs).isSome = true by simpa using h3] at h9; cases h9), if_pos (by simpa using h4)]
  rw [e]
  exact ⟨_, rfl, rfl, C, fun _ => rfl, fun h9 => by simp at h9, gc, gb, gv, Tc, Tb, Tv, by simp [take, dropAt], hR, hG, hV⟩
 refine .skip<|blkQ_n<|seqQ_n<|.sr<|.mo rfl<|.nc rfl<|.fa rfl<|.lo rfl<|.mo rfl<|.mo rfl<|.mo rfl ?_
 refine .callM (gconsent_spec gb C A Tb hG user id vs scopes R hs hsl hb) (fun u T1 hu => ?_)
 obtain ⟨rfl, l, hl1, hl2, hl3, hG1⟩ := hu
 refine .z<|.ag rfl<|.zn ?_
 refine .ret (retQ_r _ (.one (.tmp rfl)) (.one [0, 0, 0, 0] _) ?_)
 ·have e : oconE cs user id scopes = 0 := by unfold oconE; rw [if_neg (by simpa using h2), if_neg (fun h9 => by rw [show (cget id cs).isSome = true by simpa using h3] at h9; cases h9), if_neg (by simpa using h4)]
  rw [e]
  exact ⟨_, rfl, rfl, _, fun h9 => absurd rfl h9, fun _ => ⟨l, hl1, hl2, hl3, rfl⟩, gc, gb, gv, Tc, T1, Tv, by simp [take, dropAt], hR, hG1, hV⟩
theorem gsweep_spec (g : Nat) (C : List (Who × List ByteArray)) (A : List (ByteArray × Cod)) (T : Seg) (h : GI g C A T) (now : Int) (R : Rds) :
  Spec Tryz.prog 80 [.pointer (some ⟨g, 0, none⟩), .int .i64 now] R [T] fun v H' => ∃ T', H' = [T'] ∧ v = .tuple #[] ∧ GI g C (A.filter fun x => decide (now < x.2.expires)) T' := by
 have hAn := h.nd
 obtain ⟨Td, _, rfl, vc, MC, vm, M, q, Tc, Tm, Tq, rfl, hCC, hM, hI, hA, hQ⟩ := h
 obtain ⟨bm, rfl⟩ : ∃ b, vm = .map (some b) := by obtain ⟨b, es, clock, h1, _⟩ := hM; exact ⟨b, h1⟩
 have ic : One vc := ⟨by obtain ⟨b, es, clock, h1, _⟩ := hCC.1; subst h1; rfl⟩
 refine Spec.segs (H' := [[(g, .cells [vc, .map (some bm), .pointer (some ⟨q, 0, none⟩)].toArray 110 (0, 0))], Tc, Tm, Tq, Td]) (by simp) ?_
 refine Spec.body Tryz.func80 rfl Tryz.results80 Tryz.ntmps80 rfl ?_
 refine .seq<|.sr<|.mo rfl ?_
 refine .callR (gok_spec g bm _ _ _) (fun v hv => ?_)
 subst hv
 refine .q .not<|.zn<|.condF<|.kn<|.sr<|.mo rfl<|.nc rfl<|.fa rfl<|.lo rfl<|.mo rfl ?_
 refine .call [3] (qdue_spec q _ Tq hQ now _) (fun u H' hu => ?_)
 obtain ⟨Tq2, To, B, A', rfl, hO, hQ2, hD, hD2⟩ := hu
 show TriOps _ _ _ _ _ _ _ [Tq2, To, [(g, .cells [vc, .map (some bm), .pointer (some ⟨q, 0, none⟩)].toArray 110 (0, 0))], Tc, Tm, Td] _
 have hOl := hO.le
 refine .q (.lenO hO) ?_
 refine .mo rfl<|.zn<|.block ?_
 refine .loop (X := Nat × List (ByteArray × GP) × Seg) (fun y => (y.1 ≤ B.length ∧ y.2.1 = M.filter fun x => decide (x.1 ∉ (B.map (·.1)).take y.1)) ∧ MS (fun s : ByteArray => .string s) (fun p : GP => .agg (encG p).toArray) (.map (some bm)) y.2.1 y.2.2) (fun y => [(0, .pointer (some ⟨g, 0, none⟩)), (14, u), (15, .int .i64 ((B.map (·.1)).length : Nat)), (16, .int .i64 (y.1 : Nat))]) (fun y => [Tq2, To, [(g, .cells [vc, .map (some bm), .pointer (some ⟨q, 0, none⟩)].toArray 110 (0, 0))], Tc, y.2.2, Td]) (fun y => B.length - y.1) (0, M, Tm) ⟨⟨by omega, by simp only [List.take_zero]; exact (List.filter_eq_self.2 fun x _ => by simp).symm⟩, hM⟩ (EnvLe.k4 rfl rfl rfl rfl) (HLe.refl _) ?_
 rintro ⟨i, M1, Tm1⟩ ⟨⟨hi, hM1e⟩, hM1⟩
 simp only at hi hM1e hM1 ⊢
 refine .sr<|.q .lss<|.zs ?_
 refine .cond rfl (fun h2 => ?_) (fun h2 => ?_)
 have hlt : i < (B.map (·.1)).length := by have := of_decide_eq_true h2; omega
 obtain ⟨k, hk⟩ : ∃ k, (B.map (·.1))[i]? = some k := ⟨_, List.getElem?_eq_getElem hlt⟩
 have hlt2 : i < B.length := by simpa using hlt
 refine .kn<|.seq<|.block<|.sr ?_
 refine .indexO i hO hk (fun p18 => ?_)
 refine .lo rfl<|.ag rfl<|.zn<|.region<|.mo rfl<|.nc rfl<|.fa rfl<|.lo rfl<|.mo rfl ?_
 refine .delete hM1 rfl (show _ = some (Value.string k) from rfl) (fun Tm2 hM2 _ => ?_)
 refine .nil<|blkQ_n<|seqQ_n<|.region ?_
 refine .q (.i64 ((i + 1 : Nat) : Int) .add ⟨by omega, by omega, by omega⟩) ?_
 refine .mo rfl<|.nil ?_
 ·exact loopQ_i (i + 1, mdel k M1, Tm2) ⟨⟨by simp only; omega, by simp only; rw [mdel_kdel hM1.nd, hM1e, sweep_step, List.take_add_one, hk]; rfl⟩, hM2⟩ (by simp only; omega) (EnvLe.k4 rfl rfl rfl rfl) (HLe.refl _)
 have hiB : i = B.length := by have := of_decide_eq_false h2; simp at this; omega
 have hM1f : M1 = M.filter fun x => decide (now < x.2.2.expires) := by
  rw [hM1e, hiB, List.take_of_length_le (by simp)]
  refine List.filter_congr fun x hx => ?_
  have hpm := hD.pm
  have hxA : (x.1, x.2.2) ∈ A := hA.mem_iff.1 (kmap_mem hx)
  have hxe : (x.1, x.2.2.expires) ∈ kmap (fun t : Cod => t.expires) A := kmap_mem hxA
  by_cases hle : now < x.2.2.expires
  ·have : x.1 ∉ B.map (·.1) := fun hm => by
    obtain ⟨p, hp, hpe⟩ := List.mem_map.1 hm
    have h5 : p ∈ kmap (fun t : Cod => t.expires) A := hpm.mem_iff.2 (List.mem_append_left _ hp)
    have h6 : mget x.1 (kmap (fun t : Cod => t.expires) A) = some p.2 := mget_of_mem (by rw [kmap_keys]; exact hAn) (by rw [← hpe]; exact h5)
    have h7 : mget x.1 (kmap (fun t : Cod => t.expires) A) = some x.2.2.expires := mget_of_mem (by rw [kmap_keys]; exact hAn) hxe
    rw [h6] at h7
    have h8 := hD.le p hp
    simp only [Option.some.injEq] at h7
    omega
   rw [decide_eq_true this, decide_eq_true hle]
  ·have : x.1 ∈ B.map (·.1) := by
    rcases List.mem_append.1 (hpm.mem_iff.1 hxe) with h5 | h5
    ·exact List.mem_map.2 ⟨_, h5, rfl⟩
    ·exact absurd (hD2 _ h5) hle
   rw [decide_eq_false hle, decide_eq_false (fun hh => hh this)]
 refine .exit<|seqQ_x<|loopQ_x<|blkQ_x ?_
 refine retQ_n _ .none ((HLe.pick [2, 2, 2, 0, 1] _).trans (HLe.ofPerm (H' := [((g, .cells [vc, .map (some bm), .pointer (some ⟨q, 0, none⟩)].toArray 110 (0, 0)) :: (Tc ++ (Tm1 ++ Tq2))) ++ Td]) (by simp [take, dropAt]))) ?_
 ·refine ⟨_, rfl, rfl, Td, _, rfl, vc, MC, _, M1, q, Tc, Tm1, Tq2, rfl, hCC, hM1, fun p hp => hI p (List.mem_filter.1 (hM1f ▸ hp)).1, ?_, ?_⟩
  ·rw [hM1f, ← kmap_filter (q := fun t : Cod => decide (now < t.expires))]
   exact hA.filter _
  ·refine hQ2.perm ((hD.filter hD2).trans (List.Perm.of_eq ?_))
   exact kmap_filter (f := fun t : Cod => t.expires) (q := fun z : Int => decide (now < z))
def otickE (n now : Int) : Int := if n < 0 ∨ n > 1073741824 then 2 else if now > 1125899906842624 - n then 8 else 0
theorem otick_spec (q : Nat) (cs : List Cli) (C : List (Who × List ByteArray)) (A : List (ByteArray × Cod)) (V : List (ByteArray × Tok)) (last now : Int) (T : Seg) (h : CI q cs C A V last now T) (hn0 : 0 ≤ now) (hn1 : now ≤ 1125899906842624) (n : Int) (R : Rds) :
  Spec Tryz.prog 35 [.pointer (some ⟨q, 0, none⟩), .int .i64 n] R [T] fun v H' => ∃ T', H' = [T'] ∧ v = .int .i64 (otickE n now) ∧ (otickE n now ≠ 0 → CI q cs C A V last now T') ∧ (otickE n now = 0 → (0 ≤ now + n ∧ now + n ≤ 1125899906842624) ∧ CI q cs C (A.filter fun x => decide (now + n < x.2.expires)) (V.filter fun x => decide (now + n < x.2.expires)) last (now + n) T') := by
 obtain ⟨gc, gb, gv, Tc, Tb, Tv, rfl, hR, hG, hV⟩ := h
 refine Spec.segs (H' := [[(q, .cells [.pointer (some ⟨gc, 0, none⟩), .pointer (some ⟨gb, 0, none⟩), .pointer (some ⟨gv, 0, none⟩), .int .i64 now].toArray 63 (0, 0))], Tc, Tb, Tv]) (by simp) ?_
 refine Spec.body Tryz.func35 rfl Tryz.results35 Tryz.ntmps35 rfl ?_
 refine .sr<|.ag rfl<|.zs<|.block<|.sr<|.mo rfl ?_
 refine .callR (ook_spec q gc _ _ _ _) (fun v hv => ?_)
 subst hv
 refine .q .not<|.ag rfl<|.zn<|.condF<|.sr<|.mo rfl<|.q .lss<|.mo rfl ?_
 refine .split (t := 12) rfl (fun g3_2 => ?_) (fun g3_2 => ?_)
 refine .gF g3_2<|.gF g3_2<|.q (.pickTh g3_2) ?_
 refine .ag rfl<|.zn<|.condT<|.sr<|.ag rfl<|.zn ?_
 refine .ret (blkQ_r (seqQ_r (retQ_r _ (.one (.tmp rfl)) (.one [0, 0, 0, 0] _) ?_)))
 ·have e : otickE n now = 2 := by
   unfold otickE
   rw [if_pos (by first | (exact .inl (by simpa using g3_2)) | (exact .inr (by simpa using h2)))]
  rw [e]
  exact ⟨_, rfl, rfl, fun _ => ⟨gc, gb, gv, Tc, Tb, Tv, by simp [take, dropAt], hR, hG, hV⟩, fun h9 => by simp at h9⟩
 refine .gT g3_2<|.mo rfl<|.gT g3_2<|.q .gtr<|.q (.pickFh g3_2) ?_
 refine .ag rfl<|.zn ?_
 refine .cond rfl (fun h2 => ?_) (fun h2 => ?_)
 refine .sr<|.ag rfl<|.zn ?_
 refine .ret (blkQ_r (seqQ_r (retQ_r _ (.one (.tmp rfl)) (.one [0, 0, 0, 0] _) ?_)))
 ·have e : otickE n now = 2 := by
   unfold otickE
   rw [if_pos (by first | (exact .inl (by simpa using g3_2)) | (exact .inr (by simpa using h2)))]
  rw [e]
  exact ⟨_, rfl, rfl, fun _ => ⟨gc, gb, gv, Tc, Tb, Tv, by simp [take, dropAt], hR, hG, hV⟩, fun h9 => by simp at h9⟩
 have hb : 0 ≤ n ∧ n ≤ 1073741824 := by simp at g3_2 h2; omega
 refine .sr<|.mo rfl<|.nc rfl<|.fa rfl<|.lo rfl<|.mo rfl ?_
 refine .q (.i64 (1125899906842624 - n) .sub ⟨by omega, by omega, by omega⟩) ?_
 refine .q .gtr<|.ag rfl<|.zn ?_
 refine .cond rfl (fun h3 => ?_) (fun h3 => ?_)
 refine .sr<|.ag rfl<|.zn ?_
 refine .ret (blkQ_r (seqQ_r (retQ_r _ (.one (.tmp rfl)) (.one [0, 0, 0, 0] _) ?_)))
 ·have e : otickE n now = 8 := by unfold otickE; rw [if_neg (by omega), if_pos (by simpa using h3)]
  rw [e]
  exact ⟨_, rfl, rfl, fun _ => ⟨gc, gb, gv, Tc, Tb, Tv, by simp [take, dropAt], hR, hG, hV⟩, fun h9 => by simp at h9⟩
 have hc : ¬ now > 1125899906842624 - n := by simpa using h3
 refine .skip<|blkQ_n<|seqQ_n<|.sr<|.mo rfl<|.nc rfl<|.fa rfl<|.lo rfl<|.mo rfl ?_
 refine .q (.i64 (now + n) .add ⟨by omega, by omega, by omega⟩) ?_
 refine .nc rfl<|.fa rfl<|.store1 rfl rfl<|.zs ?_
 refine .region_tail 8 mixed (by kernel_rfl) ?_
 conv => arg 6; dsimp only [List.take]
 refine .mo rfl<|.nc rfl<|.fa rfl<|.lo rfl<|.mo rfl<|.nc rfl<|.fa rfl<|.lo rfl<|.nil ?_
 refine .callM (gsweep_spec gb C A Tb hG (now + n) R) (fun u T1 hu => ?_)
 obtain ⟨rfl, hG1⟩ := hu
 refine .zs ?_
 refine .region_tail 8 mixed (by kernel_rfl) ?_
 conv => arg 6; dsimp only [List.take]
 refine .mo rfl<|.nc rfl<|.fa rfl<|.lo rfl<|.mo rfl<|.nc rfl<|.fa rfl<|.lo rfl<|.nil ?_
 refine .callM (vsweep_spec gv V last Tv hV (now + n) R) (fun u T2 hu => ?_)
 obtain ⟨rfl, hV1⟩ := hu
 refine .z<|.ag rfl<|.zn ?_
 refine .ret (retQ_r _ (.one (.tmp rfl)) (.one [0, 0, 0, 0] _) ?_)
 ·have e : otickE n now = 0 := by unfold otickE; rw [if_neg (by omega), if_neg hc]
  rw [e]
  exact ⟨_, rfl, rfl, fun h9 => absurd rfl h9, fun _ => ⟨by omega, gc, gb, gv, Tc, T1, T2, by simp [take, dropAt, setL], hR, hG1, hV1⟩⟩
def sins (s : ByteArray) : List ByteArray → List ByteArray
 | [] => [s]
 | t :: l => if s = t then t :: l else if sLt s t = true then s :: t :: l else t :: sins s l
theorem mem_sins {s x : ByteArray} : ∀ {l : List ByteArray}, x ∈ sins s l ↔ x = s ∨ x ∈ l
 | [] => by simp [sins]
 | t :: l => by
  unfold sins
  split
  ·rename_i h; subst h; simp
  ·split
   ·simp
   ·rw [List.mem_cons, mem_sins (l := l), List.mem_cons]
    constructor <;> (rintro (h | h | h) <;> simp [h])
theorem rise_sins {s : ByteArray} : ∀ {l : List ByteArray}, Rise l → Rise (sins s l)
 | [], _ => by simp [sins, Rise]
 | t :: l, h => by
  have h2 := List.pairwise_cons.1 h
  unfold sins
  split
  ·exact h
  ·rename_i hne
   split
   ·rename_i hl
    refine List.pairwise_cons.2 ⟨fun x hx => ?_, h⟩
    rcases List.mem_cons.1 hx with rfl | hx
    ·exact hl
    ·exact sLt_trans hl (h2.1 x hx)
   ·rename_i hl
    refine List.pairwise_cons.2 ⟨fun x hx => ?_, rise_sins h2.2⟩
    rcases mem_sins.1 hx with rfl | hx
    ·by_cases h9 : sLt t x = true
     ·exact h9
     ·exact absurd (sLt_conn (by simpa using hl) (by simpa using h9)) hne
    ·exact h2.1 x hx
def uni (a b : List ByteArray) : List ByteArray := (a ++ b).foldl (fun l s => sins s l) []
theorem mem_unif {x : ByteArray} : ∀ {l m : List ByteArray}, x ∈ l.foldl (fun l s => sins s l) m ↔ x ∈ m ∨ x ∈ l
 | [], m => by simp
 | s :: l, m => by
  rw [List.foldl_cons, mem_unif (l := l), mem_sins, List.mem_cons]
  constructor
  ·rintro ((h | h) | h) <;> simp [h]
  ·rintro (h | h | h) <;> simp [h]
theorem rise_unif : ∀ {l m : List ByteArray}, Rise m → Rise (l.foldl (fun l s => sins s l) m)
 | [], m, h => h
 | s :: l, m, h => rise_unif (l := l) (rise_sins h)
theorem mem_uni {a b : List ByteArray} {x : ByteArray} : x ∈ uni a b ↔ x ∈ a ∨ x ∈ b := by
 unfold uni
 rw [mem_unif, List.mem_append]
 simp
theorem rise_uni (a b : List ByteArray) : Rise (uni a b) := rise_unif (by simp [Rise])
theorem sins_length {s : ByteArray} : ∀ {l : List ByteArray}, (sins s l).length ≤ l.length + 1
 | [] => by simp [sins]
 | t :: l => by
  unfold sins
  split
  ·simp
  ·split
   ·simp
   ·simp only [List.length_cons]; have := sins_length (s := s) (l := l); omega
theorem unif_length : ∀ {l m : List ByteArray}, (l.foldl (fun l s => sins s l) m).length ≤ m.length + l.length
 | [], m => by simp
 | s :: l, m => by
  rw [List.foldl_cons]
  have h1 := unif_length (l := l) (m := sins s m)
  have h2 := sins_length (s := s) (l := m)
  simp only [List.length_cons]
  omega
theorem uni_length {a b : List ByteArray} : (uni a b).length ≤ a.length + b.length := by
 have := unif_length (l := a ++ b) (m := [])
 rw [List.length_append] at this
 simpa [uni] using this
theorem uni_of {l a b : List ByteArray} (h : Rise l) (hm : ∀ s, s ∈ l ↔ s ∈ a ∨ s ∈ b) : l = uni a b :=
 rise_ext h (rise_uni a b) fun s => by rw [hm, mem_uni]
structure OSt where
 cs : List Cli
 C : List (Who × List ByteArray)
 A : List (ByteArray × Cod)
 V : List (ByteArray × Tok)
 last : Int
 now : Int
def CIs (q : Nat) (s : OSt) (T : Seg) : Prop := CI q s.cs s.C s.A s.V s.last s.now T
def OSt.zero : OSt := ⟨[], [], [], [], 0, 0⟩
def gdropB (client user : ByteArray) (t : Cod) : Bool := decide (t.client = client) && (decide (user = ⟨#[]⟩) || decide (t.user = user))
def wdropB (client user : ByteArray) (k : Who) : Bool := decide (k.2 = client) && (decide (user = ⟨#[]⟩) || decide (k.1 = user))
def OSt.drop (s : OSt) (id user : ByteArray) : OSt := { s with C := s.C.filter fun x => !wdropB id user x.1, A := s.A.filter fun x => !gdropB id user x.2, V := s.V.filter fun x => !tdropB id user x.2 }
abbrev e0 : ByteArray := ⟨#[]⟩
def dtext (k : UInt8) (d : List UInt8) : ByteArray := ⟨(k :: 46 :: e64 d).toArray⟩
def owithin (l all : List ByteArray) : Bool := l.all fun s => decide (s ∈ all)
def scopesOf (C : List (Who × List ByteArray)) (user id : ByteArray) : List ByteArray := (mget (user, id) C).getD []
def cauthE (id sec : ByteArray) (cs : List Cli) : Int := if (cget id cs).map (·.secret) = some sec then 0 else 17
def pTick (s : OSt) (n : Int) : Int × OSt :=
 if otickE n s.now ≠ 0 then (otickE n s.now, s) else (0, { s with now := s.now + n, A := s.A.filter fun x => decide (s.now + n < x.2.expires), V := s.V.filter fun x => decide (s.now + n < x.2.expires) })
def pAdd (s : OSt) (c : Cli) : Int × OSt := ((cadd s.cs c).1, { s with cs := (cadd s.cs c).2 })
def pRemove (s : OSt) (id : ByteArray) : Int × OSt := if (cget id s.cs).isSome then (0, ({ s with cs := cdel id s.cs } : OSt).drop id e0) else (11, s)
def pConsent (s : OSt) (user id : ByteArray) (scopes : List ByteArray) : Int × OSt :=
 if oconE s.cs user id scopes ≠ 0 then (oconE s.cs user id scopes, s) else (0, { s with C := kset (user, id) (uni (scopesOf s.C user id) scopes) s.C })
def pWithdraw (s : OSt) (user id : ByteArray) : Int × OSt := if (mget (user, id) s.C).isSome then (0, ({ s with C := kdel (user, id) s.C } : OSt).drop id user) else (11, s)
def n64 (c : UInt8) : Int := Lib.indexByte L64 c
def last64 (l : List UInt8) : Nat → Nat
 | 0 => 0
 | j + 1 => (n64 (l.getD j 0)).toNat
def is64 (l : List UInt8) : Bool := (l.all fun c => decide (0 ≤ n64 c)) && (decide (6 * l.length % 8 < 6) && (last64 l l.length % 2 ^ (6 * l.length % 8) == 0))
def pis (s : ByteArray) : Bool := is64 s.data.toList && decide (6 * s.size / 8 = 32)
def pMay (s : OSt) (user id uri : ByteArray) (scopes : List ByteArray) (ch : ByteArray) : Int :=
 if (cget id s.cs).isSome = false then 17 else if credi id uri s.cs = false then 21 else if casks id scopes s.cs = false then 19 else if pis ch = false then 21 else if isID user = false then 9 else if owithin scopes (scopesOf s.C user id) = false then 20 else 0
def pCode (s : OSt) (user id uri : ByteArray) (scopes : List ByteArray) (ch : ByteArray) (d : List UInt8) : Cod := ⟨dtext 99 d, id, user, uri, scopes, ch, s.now + 60, s.last + 1, false⟩
def pAuth (s : OSt) (user id uri : ByteArray) (scopes : List ByteArray) (ch : ByteArray) (d : List UInt8) : ByteArray × Int × OSt :=
 if d.length ≠ 24 then (e0, 2, s) else if pMay s user id uri scopes ch ≠ 0 then (e0, pMay s user id uri scopes ch, s)
 else if (gissue s.A (pCode s user id uri scopes ch d)).1 ≠ 0 then (e0, (gissue s.A (pCode s user id uri scopes ch d)).1, s)
 else (dtext 99 d, 0, { s with A := (gissue s.A (pCode s user id uri scopes ch d)).2, last := s.last + 1 })
def pRoom (s : OSt) (a r : ByteArray) : Int := if (mget a s.V).isSome ∨ (mget r s.V).isSome then 22 else if 4094 < s.V.length then 8 else 0
def pBegin (s : OSt) (id sec : ByteArray) (a r : List UInt8) : Int := if a.length ≠ 24 ∨ r.length ≠ 24 then 2 else cauthE id sec s.cs
def pTok (text : ByteArray) (kind : Int) (ends : Int) (t : Tok) : Tok := ⟨text, kind, t.client, t.user, t.scopes, t.family, ends, t.rev, t.used⟩
def pPut (V : List (ByteArray × Tok)) (last now : Int) (a r : ByteArray) (t : Tok) : List (ByteArray × Tok) :=
 (tput (tput V last (pTok a 1 (now + 600) t)).2 last (pTok r 2 (now + 100000) t)).2
def pUsed (A : List (ByteArray × Cod)) (code id : ByteArray) : Option Cod := (mget code A).filter fun c => decide (c.client = id) && c.used
def pExch (s : OSt) (id sec code uri ver : ByteArray) (a r : List UInt8) (rev : Int) : ByteArray × ByteArray × Int × OSt :=
 if pBegin s id sec a r ≠ 0 then (e0, e0, pBegin s id sec a r, s) else
 match pUsed s.A code id with
 | some c => (e0, e0, 18, { s with V := s.V.filter fun x => !(x.2.family == c.family) })
 | none =>
  if pRoom s (dtext 97 a) (dtext 114 r) ≠ 0 then (e0, e0, pRoom s (dtext 97 a) (dtext 114 r), s)
  else if (gredeem s.A code id uri ver s.now).2.1 ≠ 0 then (e0, e0, 18, { s with A := (gredeem s.A code id uri ver s.now).2.2 })
  else (dtext 97 a, dtext 114 r, 0, { s with A := (gredeem s.A code id uri ver s.now).2.2, V := pPut s.V s.last s.now (dtext 97 a) (dtext 114 r) ⟨e0, 0, id, (gredeem s.A code id uri ver s.now).1.user, (gredeem s.A code id uri ver s.now).1.scopes, (gredeem s.A code id uri ver s.now).1.family, 0, rev, false⟩ })
def pOwn (V : List (ByteArray × Tok)) (text id : ByteArray) : Option Tok := (mget text V).filter fun t => (t.kind == 2) && decide (t.client = id)
def pRefr (s : OSt) (id sec text : ByteArray) (scopes : List ByteArray) (a r : List UInt8) (rev : Int) : ByteArray × ByteArray × Int × OSt :=
 if pBegin s id sec a r ≠ 0 then (e0, e0, pBegin s id sec a r, s) else
 match pOwn s.V text id with
 | none => if pRoom s (dtext 97 a) (dtext 114 r) ≠ 0 then (e0, e0, pRoom s (dtext 97 a) (dtext 114 r), s) else (e0, e0, 18, s)
 | some t =>
  if t.used then (e0, e0, 18, { s with V := s.V.filter fun x => !(x.2.family == t.family) })
  else if pRoom s (dtext 97 a) (dtext 114 r) ≠ 0 then (e0, e0, pRoom s (dtext 97 a) (dtext 114 r), s)
  else if t.expires ≤ s.now then (e0, e0, 18, s)
  else if owithin scopes t.scopes = false ∨ ¬ scopes.Nodup then (e0, e0, 19, s)
  else (dtext 97 a, dtext 114 r, 0, { s with V := pPut (kset text t.mark s.V) s.last s.now (dtext 97 a) (dtext 114 r) ⟨e0, 0, id, t.user, if scopes = [] then t.scopes else scopes, t.family, 0, rev, false⟩ })
def pRevoke (s : OSt) (id sec text : ByteArray) : Int × OSt :=
 if cauthE id sec s.cs ≠ 0 then (cauthE id sec s.cs, s) else ((trev s.V text id).1, { s with V := (trev s.V text id).2 })
def pDo (s : OSt) (x : OC) : ByteArray × ByteArray × Int × OSt :=
 if x.kind = 0 then (e0, e0, pTick s x.n)
 else if x.kind = 1 then (e0, e0, pAdd s x.cl)
 else if x.kind = 2 then (e0, e0, pRemove s x.id)
 else if x.kind = 3 then (e0, e0, pConsent s x.user x.id x.scopes)
 else if x.kind = 4 then (e0, e0, pWithdraw s x.user x.id)
 else if x.kind = 5 then ((pAuth s x.user x.id x.uri x.scopes x.word x.a).1, e0, (pAuth s x.user x.id x.uri x.scopes x.word x.a).2)
 else if x.kind = 6 then pExch s x.id x.secret x.text x.uri x.word x.a x.r x.rev
 else if x.kind = 7 then pRefr s x.id x.secret x.text x.scopes x.a x.r x.rev
 else if x.kind = 8 then (e0, e0, pRevoke s x.id x.secret x.text)
 else (e0, e0, 0, s)
theorem gwithdraw_spec (g : Nat) (C : List (Who × List ByteArray)) (A : List (ByteArray × Cod)) (T : Seg) (h : GI g C A T) (user client : ByteArray) (R : Rds) :
  Spec Tryz.prog 89 [.pointer (some ⟨g, 0, none⟩), .string user, .string client] R [T] fun v H' => ∃ T', H' = [T'] ∧ v = .bool (mget (user, client) C).isSome ∧ GI g (kdel (user, client) C) A T' := by
 obtain ⟨Td, _, rfl, vc, MC, vm, M, q, Tc, Tm, Tq, rfl, ⟨hMC, hIC, hC⟩, hM, hI, hA, hQ⟩ := h
 obtain ⟨bm, rfl⟩ : ∃ b, vm = .map (some b) := by obtain ⟨b, es, clock, h1, _⟩ := hM; exact ⟨b, h1⟩
 have ic : One vc := ⟨by obtain ⟨b, es, clock, h1, _⟩ := hMC; subst h1; rfl⟩
 obtain ⟨w0, l0, hw0, hr0, hl0, hss⟩ := gc_get hMC.nd hIC hC (user, client)
 refine Spec.segs (H' := [[(g, .cells [vc, .map (some bm), .pointer (some ⟨q, 0, none⟩)].toArray 110 (0, 0))], Tc, Tm ++ Tq, Td]) (by simp) ?_
 refine Spec.body Tryz.func89 rfl Tryz.results89 Tryz.ntmps89 rfl ?_
 refine .sr<|.ag rfl<|.zs<|.sr<|.mo rfl ?_
 refine .callR (gok_spec g bm _ _ _) (fun v hv => ?_)
 subst hv
 refine .q .not<|.zn<|.condF<|.kn<|.sr<|.mo rfl<|.nc rfl<|.fa rfl<|.lo rfl<|.mo rfl<|.mo rfl ?_
 refine .q .bld ?_
 refine .q (.lookup2 (key := ((user, client) : Who)) hMC.rx rfl rfl) ?_
 refine .mo rfl<|.q .extract<|.q .extract<|.ag rfl<|.ag rfl<|.z<|.mo rfl<|.nc rfl<|.fa rfl<|.lo rfl<|.mo rfl<|.mo rfl ?_
 refine .q .bld ?_
 refine .delete hMC rfl (show _ = some (Value.agg (encWho (user, client)).toArray) from rfl) (fun Tc2 hMC2 _ => ?_)
 refine .z<|.mo rfl<|.ag rfl<|.zn ?_
 refine .ret (retQ_r _ (.one (.tmp rfl)) ((HLe.pick [0, 0, 0, 0] _).trans (HLe.ofPerm (H' := [((g, .cells [vc, .map (some bm), .pointer (some ⟨q, 0, none⟩)].toArray 110 (0, 0)) :: (Tc2 ++ (Tm ++ Tq))) ++ Td]) (by simp [take, dropAt]))) ?_)
 ·refine ⟨_, rfl, by rw [hss], Td, _, rfl, vc, mdel (user, client) MC, _, M, q, Tc2, Tm, Tq, rfl, ⟨hMC2, fun p hp => hIC p (mdel_sub p hp), ?_⟩, hM, hI, hA, hQ⟩
  rw [mdel_kdel hMC.nd, kmap_del]
  exact kdel_perm hC
theorem gdrop1_spec (client user c u : ByteArray) (b b' : Nat) (R : Rds) [pc : PC R (.pointer (some ⟨b, 0, none⟩)) [.string client]] [pd : PC R (.pointer (some ⟨b', 0, none⟩)) [.string user]] :
  Spec Tryz.prog 207 [.string c, .string u, .pointer (some ⟨b, 0, none⟩), .pointer (some ⟨b', 0, none⟩)] R [] fun v H' => v = .bool (decide (c = client) && (decide (user = ⟨#[]⟩) || decide (u = user))) ∧ H' = [] := by
 refine Spec.body Tryz.func207 rfl Tryz.results207 Tryz.ntmps207 rfl ?_
 refine .sr<|.ag rfl<|.z<|.mo rfl<|.lo rfl<|.q .eqS<|.mo rfl ?_
 refine .split (t := 10) rfl (fun g1_3 => ?_) (fun g1_3 => ?_)
 refine .gT g1_3<|.lo rfl<|.gT g1_3<|.q .eqS<|.gT g1_3<|.mo rfl ?_
 refine .split (t := 13) rfl (fun g1_6 => ?_) (fun g1_6 => ?_)
 refine .gF g1_6<|.gF g1_6<|.gF g1_6<|.gT g1_3<|.q (.pickTh g1_6) ?_
 refine .q (.pickTh g1_3) ?_
 refine .ag rfl<|.zn ?_
 refine .ret (retQ_r _ (.one (.tmp rfl)) (.none _) ?_)
 ·refine ⟨congrArg _ ?_, rfl⟩
  simp_all
 refine .gT g1_6<|.mo rfl<|.gT g1_6<|.lo rfl<|.gT g1_6<|.q .eqS<|.gT g1_3<|.q (.pickFh g1_6) ?_
 refine .q (.pickTh g1_3) ?_
 refine .ag rfl<|.zn ?_
 refine .ret (retQ_r _ (.one (.tmp rfl)) (.none _) ?_)
 ·refine ⟨congrArg _ ?_, rfl⟩
  simp_all
 refine .gF g1_3<|.gF g1_3<|.gF g1_3<|.gfU rfl ?_
 refine .gfU rfl ?_
 refine .gfU rfl ?_
 refine .gF g1_3<|.q (.pickFh g1_3) ?_
 refine .ag rfl<|.zn ?_
 refine .ret (retQ_r _ (.one (.tmp rfl)) (.none _) ?_)
 ·refine ⟨congrArg _ ?_, rfl⟩
  simp_all
instance decMemW (k : Who) (l : List Who) : Decidable (k ∈ l) := decidable_of_iff (l.any (fun x => decide (x = k)) = true) (by simp)
section
variable {κ β : Type} [DecidableEq κ] [dm : ∀ (k : κ) (l : List κ), Decidable (k ∈ l)]
theorem rmg_hit {M : List (κ × β)} (hn : (M.map (·.1)).Nodup) {todo : List κ} {q : κ × β → Bool} {k : κ} {x : β} (hk : k ∈ todo) (hx : (k, x) ∈ M) (hq : q (k, x) = true) :
  kdel k (M.filter fun y => decide (y.1 ∈ todo) || !q y) = M.filter fun y => decide (y.1 ∈ todo.filter fun k' => decide (k' ≠ k)) || !q y := by
 unfold kdel
 rw [List.filter_filter]
 refine List.filter_congr fun y hy => ?_
 by_cases h : y.1 = k
 ·have h1 : mget k M = some y.2 := mget_of_mem hn (by rw [← h]; exact hy)
  have h2 : mget k M = some x := mget_of_mem hn hx
  rw [h1] at h2
  simp only [Option.some.injEq] at h2
  have e : y = (k, x) := by rw [← h, ← h2]
  rw [e]
  simp [hq]
 ·simp [h, List.mem_filter]
theorem rmg_miss {M : List (κ × β)} (hn : (M.map (·.1)).Nodup) {todo : List κ} {q : κ × β → Bool} {k : κ} {x : β} (hk : k ∈ todo) (hx : (k, x) ∈ M) (hq : q (k, x) = false) :
  (M.filter fun y => decide (y.1 ∈ todo) || !q y) = M.filter fun y => decide (y.1 ∈ todo.filter fun k' => decide (k' ≠ k)) || !q y := by
 refine List.filter_congr fun y hy => ?_
 by_cases h : y.1 = k
 ·have h1 : mget k M = some y.2 := mget_of_mem hn (by rw [← h]; exact hy)
  have h2 : mget k M = some x := mget_of_mem hn hx
  rw [h1] at h2
  simp only [Option.some.injEq] at h2
  have e : y = (k, x) := by rw [← h, ← h2]
  rw [e]
  simp [hq]
 ·simp [h, List.mem_filter]
omit dm
theorem fne_twice {l : List κ} {k : κ} : ((l.filter fun k' => decide (k' ≠ k)).filter fun k' => decide (k' ≠ k)) = l.filter fun k' => decide (k' ≠ k) := by
 rw [List.filter_filter]
 exact List.filter_congr fun x _ => by simp
theorem fne_lt {l : List κ} {k : κ} (h : k ∈ l) : (l.filter fun k' => decide (k' ≠ k)).length < l.length := by
 refine List.length_filter_lt_length_iff_exists.2 ⟨k, h, by simp⟩
omit [DecidableEq κ] in
theorem kmap_filterK {γ : Type} {f : β → γ} {q : κ → Bool} {A : List (κ × β)} : (kmap f A).filter (fun x => q x.1) = kmap f (A.filter fun x => q x.1) := by
 unfold kmap
 rw [List.filter_map]
 rfl
end
theorem gdrop_spec (g : Nat) (C : List (Who × List ByteArray)) (A : List (ByteArray × Cod)) (T : Seg) (h : GI g C A T) (client user : ByteArray) (R : Rds) :
  Spec Tryz.prog 141 [.pointer (some ⟨g, 0, none⟩), .string client, .string user] R [T] fun v H' => ∃ T', H' = [T'] ∧ v = .tuple #[] ∧ GI g (C.filter fun x => !wdropB client user x.1) (A.filter fun x => !gdropB client user x.2) T' := by
 obtain ⟨Td, _, rfl, vc, MC, vm, M, q, Tc, Tm, Tq, rfl, ⟨hMC, hIC, hC⟩, hM, hI, hA, hQ⟩ := h
 obtain ⟨bm, rfl⟩ : ∃ b, vm = .map (some b) := by obtain ⟨b, es, clock, h1, _⟩ := hM; exact ⟨b, h1⟩
 have ic : One vc := ⟨by obtain ⟨b, es, clock, h1, _⟩ := hMC; subst h1; rfl⟩
 have hQ0 := hQ.perm (kmap_perm hA.symm)
 refine Spec.segs (H' := [[(g, .cells [vc, .map (some bm), .pointer (some ⟨q, 0, none⟩)].toArray 110 (0, 0))], Tc, Tm, Tq, Td]) (by simp) ?_
 refine Spec.body Tryz.func141 rfl Tryz.results141 Tryz.ntmps141 rfl ?_
 refine .sr ?_
 refine .box1 rfl (fun b4 => ?_)
 refine .box1 rfl (fun b5 => ?_)
 refine .zs<|.sr<|.mo rfl ?_
 refine .callR (gok_spec g bm _ _ _) (fun v hv => ?_)
 subst hv
 refine .q .not<|.zn<|.condF<|.kn<|.sr<|.q .makeFunc<|.ag rfl<|.zs<|.sr<|.mo rfl<|.nc rfl<|.fa rfl<|.lo rfl ?_
 refine .range (hMC.rm (R := sg Tc) fun p hp => hp) (fun b o hb => .inr (by have hb' : (b, o) ∈ Tc := hb; simp [hb'])) rfl (fun it Ti0 hit0 => ?_)
 refine .zn<|.block ?_
 refine .loop (X := List Who × List (Who × WS) × Seg × Seg) (fun y => y.1.Nodup ∧ (y.2.1 = MC.filter fun x => decide (x.1 ∈ y.1) || !wdropB client user x.1) ∧ MS (fun k : Who => .agg (encWho k).toArray) (fun p : WS => p.1) vc y.2.1 y.2.2.1 ∧ It (sg y.2.2.1) (fun k : Who => .agg (encWho k).toArray) (fun p : WS => p.1) vc y.2.1 it y.1 y.2.2.2) (fun y => [(0, .pointer (some ⟨g, 0, none⟩)), (6, .func (.func 207) #[] [.pointer (some ⟨b4, 0, none⟩), .pointer (some ⟨b5, 0, none⟩)].toArray), (18, it)]) (fun y => [y.2.2.2, [(b5, .cells [.string user].toArray 9 (0, 0))], [(b4, .cells [.string client].toArray 9 (0, 0))], [(g, .cells [vc, .map (some bm), .pointer (some ⟨q, 0, none⟩)].toArray 110 (0, 0))], y.2.2.1, Tm, Tq, Td]) (fun y => y.1.length) (MC.map (·.1), MC, Tc, Ti0) ⟨hMC.nd, (List.filter_eq_self.2 fun x hx => by
  have hx' : x.1 ∈ MC.map (·.1) := List.mem_map.2 ⟨x, hx, rfl⟩
  show (decide (x.1 ∈ MC.map (·.1)) || _) = true
  rw [decide_eq_true hx']; rfl).symm, hMC, hit0⟩ (EnvLe.k3 rfl rfl rfl) (HLe.refl _) ?_
 rintro ⟨todo, M1, Tc1, Ti1⟩ ⟨hnd, hM1e, hM1, hit⟩
 simp only at hnd hM1e hM1 hit ⊢
 refine .sr ?_
 refine .nextB hit (fun b o hb => .inr (by have hb' : (b, o) ∈ Tc1 := hb; simp [hb'])) rfl (fun b rest Ti2 hfe ht => ?_)
 refine .q .extract<|.zs ?_
 refine .cond rfl (fun h2 => ?_) (fun h2 => ?_)
 obtain ⟨k, w0, hk, hku, hitc⟩ := ht h2
 have hkM : (k, w0) ∈ MC := (List.mem_filter.1 (hM1e ▸ mget_some hku)).1
 have hnd2 : (todo.filter fun k' => decide (k' ≠ k)).Nodup := hnd.sublist List.filter_sublist
 have hlt := fne_lt hk
 have ik : Ones (encWho k) := inferInstance
 refine .kn<|.block<|.sr ?_
 refine .q (.entry hitc (fun b o hb => .inr (by have hb' : (b, o) ∈ Tc1 := hb; simp [hb'])) rfl) ?_
 refine .q .extract ?_
 refine .allocA (fun b7 => ?_)
 refine .storeA (cs := encWho k) rfl rfl ?_
 refine .z<|.mo rfl<|.fa rfl<|.lo rfl<|.fa rfl<|.lo rfl ?_
 refine .callRV (first := []) (captured := [.pointer (some ⟨b4, 0, none⟩), .pointer (some ⟨b5, 0, none⟩)]) (vs := [.string k.2, .string k.1]) (gdrop1_spec client user k.2 k.1 b4 b5 _) (fun u hu => ?_)
 subst hu
 refine .zn ?_
 refine .cond rfl (fun h3 => ?_) (fun h3 => ?_)
 refine .region_tail 5 mixed (by kernel_rfl) ?_
 conv => arg 6; dsimp only [List.take]
 refine .mo rfl<|.nc rfl<|.fa rfl<|.lo rfl<|.q (.loadA rfl)<|.nil ?_
 refine .delete hM1 rfl (show _ = some (Value.agg (encWho k).toArray) from rfl) (fun Tc2 hM2 hit2 => ?_)
 have hit3 := hit2 it _ Ti2 hitc.it
 rw [fne_twice] at hit3
 have hdel : mdel k M1 = kdel k M1 := mdel_kdel hM1.nd
 have hM2e := rmg_hit (q := fun x : Who × WS => wdropB client user x.1) hMC.nd hk hkM h3
 rw [← hM1e, ← hdel] at hM2e
 refine .nil<|blkQ_n ?_
 ·exact loopQ_i (todo.filter fun k' => decide (k' ≠ k), mdel k M1, Tc2, Ti2) ⟨hnd2, hM2e, hM2, hit3⟩ hlt (EnvLe.k3 rfl rfl rfl) (HLe.pick [1, 1, 1, 1, 1, 1, 1, 1] _)
 have hM1e2 := rmg_miss (q := fun x : Who × WS => wdropB client user x.1) hMC.nd hk hkM h3
 rw [← hM1e] at hM1e2
 refine .skip<|blkQ_n ?_
 ·exact loopQ_i (todo.filter fun k' => decide (k' ≠ k), M1, Tc1, Ti2) ⟨hnd2, hM1e2, hM1, hitc.it⟩ hlt (EnvLe.k3 rfl rfl rfl) (HLe.pick [1, 1, 1, 1, 1, 1, 1, 1] _)
 have ht0 := hfe h2
 subst ht0
 have hM1f : M1 = MC.filter fun x => !wdropB client user x.1 := by rw [hM1e]; exact List.filter_congr fun x _ => by simp
 refine .exit<|seqQ_x<|loopQ_x<|blkQ_x<|seqQ_n<|.sr<|.mo rfl<|.nc rfl<|.fa rfl<|.lo rfl ?_
 refine .range (hM.rm (R := sg Tm) fun p hp => hp) (fun b o hb => .inr (by have hb' : (b, o) ∈ Tm := hb; simp [hb'])) rfl (fun it2 Ti3 hit3 => ?_)
 refine .zn<|.block ?_
 refine .loop (X := List ByteArray × List (ByteArray × GP) × Seg × Seg × Seg) (fun y => y.1.Nodup ∧ (y.2.1 = M.filter fun x => decide (x.1 ∈ y.1) || !gdropB client user x.2.2) ∧ MS (fun s : ByteArray => .string s) (fun p : GP => .agg (encG p).toArray) (.map (some bm)) y.2.1 y.2.2.1 ∧ It (sg y.2.2.1) (fun s : ByteArray => .string s) (fun p : GP => .agg (encG p).toArray) (.map (some bm)) y.2.1 it2 y.1 y.2.2.2.2 ∧ QI q (kmap (fun t : Cod => t.expires) (kmap (fun p : GP => p.2) y.2.1)) y.2.2.2.1) (fun y => [(0, .pointer (some ⟨g, 0, none⟩)), (6, .func (.func 207) #[] [.pointer (some ⟨b4, 0, none⟩), .pointer (some ⟨b5, 0, none⟩)].toArray), (38, it2)]) (fun y => [y.2.2.2.2, [(b5, .cells [.string user].toArray 9 (0, 0))], [(b4, .cells [.string client].toArray 9 (0, 0))], [(g, .cells [vc, .map (some bm), .pointer (some ⟨q, 0, none⟩)].toArray 110 (0, 0))], Tc1, y.2.2.1, y.2.2.2.1, Td]) (fun y => y.1.length) (M.map (·.1), M, Tm, Tq, Ti3) ⟨hM.nd, (List.filter_eq_self.2 fun x hx => by
  have hx' : x.1 ∈ M.map (·.1) := List.mem_map.2 ⟨x, hx, rfl⟩
  show (decide (x.1 ∈ M.map (·.1)) || _) = true
  rw [decide_eq_true hx']; rfl).symm, hM, hit3, hQ0⟩ (EnvLe.k3 rfl rfl rfl) (HLe.pick [0, 1, 1, 1, 1, 1, 1, 1] _) ?_
 rintro ⟨todo2, M2, Tm1, Tq1, Ti4⟩ ⟨hnd, hM2e, hM2, hit, hQ1⟩
 simp only at hnd hM2e hM2 hit hQ1 ⊢
 refine .sr ?_
 refine .nextB hit (fun b o hb => .inr (by have hb' : (b, o) ∈ Tm1 := hb; simp [hb'])) rfl (fun b rest Ti5 hfe ht => ?_)
 refine .q .extract<|.zs ?_
 refine .cond rfl (fun h4 => ?_) (fun h4 => ?_)
 obtain ⟨k, ⟨w0, t0⟩, hk, hku, hitc⟩ := ht h4
 have hkM : (k, ((w0, t0) : GP)) ∈ M := (List.mem_filter.1 (hM2e ▸ mget_some hku)).1
 obtain ⟨_, hc0, hf0⟩ := hI _ hkM
 have i0 : Ones (encG (w0, t0)) := ⟨hc0.ones⟩
 have hnd2 : (todo2.filter fun k' => decide (k' ≠ k)).Nodup := hnd.sublist List.filter_sublist
 have hlt := filter_ne_lt hk
 refine .kn<|.block<|.sr ?_
 refine .q (.entry hitc (fun b o hb => .inr (by have hb' : (b, o) ∈ Tm1 := hb; simp [hb'])) rfl) ?_
 refine .q .extract<|.q .extract ?_
 refine .allocA (fun b9 => ?_)
 refine .ag rfl<|.storeA (cs := encG (w0, t0)) rfl rfl ?_
 refine .z<|.mo rfl<|.fa rfl<|.lo rfl<|.fa rfl<|.lo rfl ?_
 refine .callRV (first := []) (captured := [.pointer (some ⟨b4, 0, none⟩), .pointer (some ⟨b5, 0, none⟩)]) (vs := [.string t0.client, .string t0.user]) (gdrop1_spec client user t0.client t0.user b4 b5 _) (fun u hu => ?_)
 subst hu
 refine .zn ?_
 refine .cond rfl (fun h5 => ?_) (fun h5 => ?_)
 refine .sr<|.mo rfl<|.nc rfl<|.fa rfl<|.lo rfl<|.mo rfl ?_
 refine .delete hM2 rfl (show _ = some (Value.string k) from rfl) (fun Tm2 hM3 hit4 => ?_)
 have hit5 := hit4 it2 _ Ti5 hitc.it
 rw [filter_ne_twice] at hit5
 have hdel : mdel k M2 = kdel k M2 := mdel_kdel hM2.nd
 have hM3e := rmg_hit (q := fun x : ByteArray × GP => gdropB client user x.2.2) hM.nd hk hkM h5
 rw [← hM2e, ← hdel] at hM3e
 refine .zn<|.region<|.mo rfl<|.nc rfl<|.fa rfl<|.lo rfl<|.mo rfl ?_
 refine .callM (qdrop_spec q _ Tq1 hQ1 k _) (fun v Tq2 hv => ?_)
 obtain ⟨rfl, hQ2⟩ := hv
 rw [← kmap_del, ← kmap_del, ← hdel] at hQ2
 refine .nil<|blkQ_n ?_
 ·exact loopQ_i (todo2.filter fun k' => decide (k' ≠ k), mdel k M2, Tm2, Tq2, Ti5) ⟨hnd2, hM3e, hM3, hit5, hQ2⟩ hlt (EnvLe.k3 rfl rfl rfl) (HLe.pick [1, 1, 1, 1, 1, 1, 1, 1] _)
 have hM2e2 := rmg_miss (q := fun x : ByteArray × GP => gdropB client user x.2.2) hM.nd hk hkM h5
 rw [← hM2e] at hM2e2
 refine .skip<|blkQ_n ?_
 ·exact loopQ_i (todo2.filter fun k' => decide (k' ≠ k), M2, Tm1, Tq1, Ti5) ⟨hnd2, hM2e2, hM2, hitc.it, hQ1⟩ hlt (EnvLe.k3 rfl rfl rfl) (HLe.pick [1, 1, 1, 1, 1, 1, 1, 1] _)
 have ht1 := hfe h4
 subst ht1
 have hM2f : M2 = M.filter fun x => !gdropB client user x.2.2 := by rw [hM2e]; exact List.filter_congr fun x _ => by simp
 refine .exit<|seqQ_x<|loopQ_x<|blkQ_x ?_
 refine retQ_n _ .none ((HLe.pick [3, 3, 3, 3, 3] _).trans (HLe.ofPerm (H' := [((g, .cells [vc, .map (some bm), .pointer (some ⟨q, 0, none⟩)].toArray 110 (0, 0)) :: (Tc1 ++ (Tm1 ++ Tq1))) ++ Td]) (by simp [take, dropAt]))) ?_
 ·refine ⟨_, rfl, rfl, Td, _, rfl, vc, M1, _, M2, q, Tc1, Tm1, Tq1, rfl, ⟨hM1, fun p hp => hIC p (List.mem_filter.1 (hM1f ▸ hp)).1, ?_⟩, hM2, fun p hp => hI p (List.mem_filter.1 (hM2f ▸ hp)).1, ?_, ?_⟩
  ·rw [hM1f, ← kmap_filterK (q := fun k : Who => !wdropB client user k)]
   exact hC.filter _
  ·rw [hM2f, ← kmap_filter (q := fun t : Cod => !gdropB client user t)]
   exact hA.filter _
  ·refine hQ1.perm (kmap_perm ?_)
   rw [hM2f, ← kmap_filter (q := fun t : Cod => !gdropB client user t)]
   exact hA.filter _
theorem n64_lt (c : UInt8) : n64 c < 64 := by
 have e : ∀ k : Fin 256, n64 (UInt8.ofNat k.val) < 64 := by decide +kernel
 have := e ⟨c.toNat, c.toNat_lt⟩
 simpa using this
theorem all64 {l : List UInt8} : (l.all fun c => decide (0 ≤ n64 c)) = true ↔ ∀ j, j < l.length → 0 ≤ n64 (l.getD j 0) := by
 rw [List.all_eq_true]
 constructor
 ·intro h j hj
  have := h (l.getD j 0) (by rw [List.getD_eq_getElem?_getD, List.getElem?_eq_getElem hj]; exact List.getElem_mem hj)
  simpa using this
 ·intro h c hc
  obtain ⟨j, hj, rfl⟩ := List.getElem_of_mem hc
  have := h j hj
  rw [List.getD_eq_getElem?_getD, List.getElem?_eq_getElem hj] at this
  simpa using this
theorem bdec_spec (s : ByteArray) (hs : s.size ≤ 1000000) (R : Rds) : Spec Tryz.prog 213 [.string s] R [] fun v H' => ∃ T, H' = [T] ∧ ∃ w xs, v = .tuple [w, .int .i64 (if is64 s.data.toList then 0 else 4)].toArray ∧ OS 5 1 encU w xs T ∧ (is64 s.data.toList = true → xs.length = 6 * s.size / 8) := by
 have hlen : s.data.toList.length = s.size := rfl
 obtain ⟨l, hl⟩ : ∃ l, l = s.data.toList := ⟨_, rfl⟩
 rw [← hl] at hlen ⊢
 refine Spec.body Tryz.func213 rfl Tryz.results213 Tryz.ntmps213 rfl ?_
 refine .sr<|.ag rfl<|.ag rfl<|.z<|.ag rfl<|.z<|.ag rfl<|.ag rfl<|.zs<|.sr<|.mo rfl<|.q .lenS<|.mo rfl<|.zn<|.block ?_
 refine .loop (X := Nat × Nat × List UInt8 × Value × Seg) (fun y => y.1 ≤ s.size ∧ (∀ j, j < y.1 → 0 ≤ n64 (l.getD j 0)) ∧ (y.2.1 < M64 ∧ y.2.1 % 64 = last64 l y.1) ∧ OS 5 1 encU y.2.2.2.1 y.2.2.1 y.2.2.2.2 ∧ y.2.2.1.length = 6 * y.1 / 8) (fun y => [(0, .string s), (4, y.2.2.2.1), (5, .int .u64 (y.2.1 : Nat)), (6, .int .i64 ((6 * y.1 % 8 : Nat) : Int)), (10, .int .i64 (s.size : Nat)), (11, .int .i64 (y.1 : Nat))]) (fun y => [y.2.2.2.2]) (fun y => s.size - y.1) (0, 0, [], .slice none 0 0, []) ⟨Nat.zero_le _, fun j hj => absurd hj (by simp), ⟨by decide, rfl⟩, OS.nil, rfl⟩ (EnvLe.k6 rfl rfl rfl rfl rfl rfl) (HLe.ofPerm (by simp)) ?_
 rintro ⟨i, h, xs, vo, T⟩ ⟨hi, hall, ⟨hh, hm⟩, hO, hxl⟩
 simp only at hi hall hh hm hO hxl ⊢
 have io := hO.oneCell
 refine .sr<|.q .lss<|.zs ?_
 refine .cond rfl (fun h1 => ?_) (fun h1 => ?_)
 have hlt : i < s.size := by have := of_decide_eq_true h1; omega
 have hg : s[i]'hlt = l.getD i 0 := by
  subst hl
  rw [List.getD_eq_getElem?_getD, List.getElem?_eq_getElem (by rw [hlen]; exact hlt)]
  rfl
 refine .kn<|.seq<|.block<|.sr<|.mo rfl<|.ag rfl<|.z<|.mo rfl<|.mo rfl<|.q (.indexS (p := s) i hlt) ?_
 refine .callR (sindexByte_spec LBA _ _) (fun v hv => ?_)
 subst hv
 have hb : ((s[i]'hlt).toNat : Int).toNat.toUInt8 = s[i]'hlt := by simp
 rw [hb, hg]
 have hx : Lib.indexByte LBA.data.toList (l.getD i 0) = n64 (l.getD i 0) := rfl
 rw [hx]
 refine .ag rfl<|.zs<|.sr<|.mo rfl<|.q .lss<|.zn ?_
 refine .cond rfl (fun h2 => ?_) (fun h2 => ?_)
 have hbad : is64 l = false := by
  have hn : n64 (l.getD i 0) < 0 := by simpa using h2
  unfold is64
  rw [show (l.all fun c => decide (0 ≤ n64 c)) = false from Bool.eq_false_iff.2 (fun h9 => by have := all64.1 h9 i (by omega); omega), Bool.false_and]
 refine .sr<|.ag rfl<|.ag rfl<|.zn ?_
 refine .ret (seqQ_r (blkQ_r (seqQ_r (loopQ_r (blkQ_r (seqQ_r (retQ_r _ (.two (.tmp rfl) (.tmp rfl)) (.one [] _) ?_)))))))
 ·exact ⟨_, rfl, _, [], by rw [hbad]; rfl, OS.nil, fun h9 => by rw [hbad] at h9; cases h9⟩
 have hn : 0 ≤ n64 (l.getD i 0) := by simpa using h2
 have hn2 := n64_lt (l.getD i 0)
 obtain ⟨x, hx⟩ : ∃ x : Nat, n64 (l.getD i 0) = (x : Int) := ⟨_, (Int.toNat_of_nonneg hn).symm⟩
 rw [hx] at hn2 ⊢
 have hor : h * 2 ^ 6 % M64 ||| x = (h % 2 ^ 58) * 2 ^ 6 + x := by
  rw [show h * 2 ^ 6 % M64 = (h % 2 ^ 58) * 2 ^ 6 from by simp only [M64]; omega, or_low (by omega)]
 have hm2 : ((h % 2 ^ 58) * 2 ^ 6 + x) % 64 = last64 l (i + 1) := by
  show _ = (n64 (l.getD i 0)).toNat
  rw [hx]
  simp; omega
 have hh2 : (h % 2 ^ 58) * 2 ^ 6 + x < M64 := by simp only [M64]; omega
 have hall2 : ∀ j, j < i + 1 → 0 ≤ n64 (l.getD j 0) := fun j hj => by
  rcases Nat.lt_or_ge j i with h9 | h9
  ·exact hall j h9
  ·obtain rfl : j = i := by omega
   exact hn
 refine .kn<|.sr<|.mo rfl ?_
 refine .q (.shlU (a := h) (n := 6) rfl rfl (by decide)) ?_
 refine .mo rfl ?_
 refine .q (.toU (a := x) rfl (by simp only [M64]; omega)) ?_
 refine .q (.orU rfl rfl (Nat.mod_lt _ (by decide)) (by simp only [M64]; omega)) ?_
 rw [hor]
 refine .ag rfl<|.z<|.mo rfl ?_
 refine .q (.i64 ((6 * i % 8 + 6 : Nat) : Int) .add ⟨by omega, by omega, by omega⟩) ?_
 refine .ag rfl<|.z<|.mo rfl<|.q .geq<|.zn ?_
 refine .cond rfl (fun h3 => ?_) (fun h3 => ?_)
 have h8 : 8 ≤ 6 * i % 8 + 6 := by simp at h3; omega
 refine .sr<|.mo rfl ?_
 refine .q (.i64 ((6 * (i + 1) % 8 : Nat) : Int) .sub ⟨by omega, by omega, by omega⟩) ?_
 refine .ag rfl<|.zn<|.region<|.mo rfl<|.mo rfl<|.mo rfl ?_
 refine .q (.shrU rfl rfl (by omega)) ?_
 refine .q (.to8 rfl) ?_
 refine .buildSlice11 (fun b36 => ?_)
 refine .append hO (RS.lits (xs := [UInt8.ofNat (((h % 2 ^ 58) * 2 ^ 6 + x) / 2 ^ (6 * (i + 1) % 8))]) rfl (by simp [encU]) (by simp [encU, oneCell])) (by simp; omega) (fun v5 T5 hO5 => ?_)
 refine .ag rfl<|.nil<|blkQ_n<|seqQ_n<|.region ?_
 refine .q (.i64 ((i + 1 : Nat) : Int) .add ⟨by omega, by omega, by omega⟩) ?_
 refine .mo rfl<|.nil ?_
 ·exact loopQ_i (i + 1, (h % 2 ^ 58) * 2 ^ 6 + x, xs ++ [UInt8.ofNat (((h % 2 ^ 58) * 2 ^ 6 + x) / 2 ^ (6 * (i + 1) % 8))], v5, T5) ⟨hlt, hall2, ⟨hh2, hm2⟩, hO5, by simp; omega⟩ (by simp only; omega) (EnvLe.k6 rfl rfl rfl rfl rfl rfl) (HLe.pick [1] _)
 have h8 : ¬ 8 ≤ 6 * i % 8 + 6 := by simp at h3; omega
 rw [show 6 * i % 8 + 6 = 6 * (i + 1) % 8 from by omega]
 refine .skip<|blkQ_n<|seqQ_n<|.region ?_
 refine .q (.i64 ((i + 1 : Nat) : Int) .add ⟨by omega, by omega, by omega⟩) ?_
 refine .mo rfl<|.nil ?_
 ·exact loopQ_i (i + 1, (h % 2 ^ 58) * 2 ^ 6 + x, xs, vo, T) ⟨hlt, hall2, ⟨hh2, hm2⟩, hO, by simp only; omega⟩ (by simp only; omega) (EnvLe.k6 rfl rfl rfl rfl rfl rfl) (HLe.refl _)
 have hi9 : i = s.size := by have := of_decide_eq_false h1; omega
 subst hi9
 have hgood : (l.all fun c => decide (0 ≤ n64 c)) = true := all64.2 fun j hj => hall j (by omega)
 have h68 : is64 l = (decide (6 * s.size % 8 < 6) && (last64 l s.size % 2 ^ (6 * s.size % 8) == 0)) := by unfold is64; rw [hgood, hlen, Bool.true_and]
 refine .exit<|seqQ_x<|loopQ_x<|blkQ_x<|seqQ_n<|.seq<|.sr<|.mo rfl<|.q .geq<|.mo rfl ?_
 refine .split (t := 41) rfl (fun g15_2 => ?_) (fun g15_2 => ?_)
 refine .gF g15_2<|.gF g15_2<|.gF g15_2<|.gF g15_2<|.gF g15_2<|.gF g15_2<|.q (.pickTh g15_2) ?_
 refine .zn<|.condT<|.sr<|.ag rfl<|.ag rfl<|.zn ?_
 refine .ret (seqQ_r (retQ_r _ (.two (.tmp rfl) (.tmp rfl)) (.one [] _) ?_))
 ·have hbad : is64 l = false := by
   rw [h68, decide_eq_false (by simp at g15_2; omega), Bool.false_and]
  exact ⟨_, rfl, _, [], by rw [hbad]; rfl, OS.nil, fun h9 => by rw [hbad] at h9; cases h9⟩
 have hk6 : 6 * s.size % 8 < 6 := by simp at g15_2; omega
 have hk32 : 2 ^ (6 * s.size % 8) ≤ 32 := Nat.le_trans (Nat.pow_le_pow_right (by decide) (show 6 * s.size % 8 ≤ 5 by omega)) (by decide)
 have hk1 : 1 ≤ 2 ^ (6 * s.size % 8) := Nat.one_le_two_pow
 refine .gT g15_2<|.mo rfl<|.gT g15_2<|.mo rfl<|.gT g15_2 ?_
 refine .q (.shlU (a := 1) (n := 6 * s.size % 8) rfl rfl (by omega)) ?_
 rw [show 1 * 2 ^ (6 * s.size % 8) % M64 = 2 ^ (6 * s.size % 8) from by rw [Nat.one_mul]; exact Nat.mod_eq_of_lt (by simp only [M64]; omega)]
 refine .gT g15_2 ?_
 refine .q (.u64 (((2 ^ (6 * s.size % 8) - 1 : Nat)) : Int) .sub ⟨by omega, by omega, by omega⟩) ?_
 refine .gT g15_2 ?_
 refine .q (.andU rfl rfl hh (by simp only [M64]; omega)) ?_
 rw [Nat.and_two_pow_sub_one_eq_mod, ← Nat.mod_mod_of_dvd h (Nat.pow_dvd_pow 2 (show 6 * s.size % 8 ≤ 6 by omega)), show h % 2 ^ 6 = last64 l s.size from hm]
 refine .gT g15_2<|.q .neI<|.q (.pickFh g15_2) ?_
 refine .zn ?_
 refine .cond rfl (fun h4 => ?_) (fun h4 => ?_)
 refine .sr<|.ag rfl<|.ag rfl<|.zn ?_
 refine .ret (seqQ_r (retQ_r _ (.two (.tmp rfl) (.tmp rfl)) (.one [] _) ?_))
 ·have hbad : is64 l = false := by
   rw [h68]
   have : ¬ last64 l s.size % 2 ^ (6 * s.size % 8) = 0 := fun e => by rw [e] at h4; simp at h4
   simp [this]
  exact ⟨_, rfl, _, [], by rw [hbad]; rfl, OS.nil, fun h9 => by rw [hbad] at h9; cases h9⟩
 refine .kn<|.sr<|.mo rfl<|.ag rfl<|.ag rfl<|.zn ?_
 refine .ret (retQ_r _ (.two (.tmp rfl) (.tmp rfl)) (.one [0] _) ?_)
 ·have hok : is64 l = true := by
   rw [h68, decide_eq_true hk6]
   obtain ⟨m, hm9⟩ : ∃ m, last64 l s.size % 2 ^ (6 * s.size % 8) = m := ⟨_, rfl⟩
   rw [hm9] at h4 ⊢
   simp at h4 ⊢
   omega
  exact ⟨_, rfl, _, xs, by rw [hok]; rfl, by simpa [take] using hO, fun _ => hxl⟩
theorem pis_spec (s : ByteArray) (hs : s.size ≤ 1000000) (R : Rds) : Spec Tryz.prog 154 [.string s] R [] fun v H' => v = .bool (pis s) ∧ H' = [] := by
  refine Spec.body Tryz.func154 rfl Tryz.results154 Tryz.ntmps154 rfl ?_
  refine .sr<|.ag rfl<|.z<|.mo rfl ?_
  refine .callN (bdec_spec s hs _) (fun v T hv => ?_)
  obtain ⟨w, xs, rfl, hO, hx⟩ := hv
  have io := hO.oneCell
  refine .mo rfl<|.q .extract<|.q .extract<|.ag rfl<|.ag rfl<|.z<|.mo rfl<|.q .eqI<|.mo rfl ?_
  refine .split (t := 12) rfl (fun g2_2 => ?_) (fun g2_2 => ?_)
  refine .gT g2_2<|.mo rfl<|.gT g2_2<|.q (.lenO hO) ?_
  refine .gT g2_2<|.q .eqI<|.q (.pickTh g2_2) ?_
  refine .ag rfl<|.zn ?_
  refine .ret (retQ_r _ (.one (.tmp rfl)) (.none _) ?_)
  · refine ⟨congrArg Value.bool ?_, rfl⟩
    unfold pis
    cases e : is64 s.data.toList
    · simp_all
    · have h9 := hx e
      (rw [Bool.true_and, Bool.eq_iff_iff]
       simp
       omega)
  refine .gF g2_2<|.gF g2_2<|.gF g2_2<|.q (.pickFh g2_2) ?_
  refine .ag rfl<|.zn ?_
  refine .ret (retQ_r _ (.one (.tmp rfl)) (.none _) ?_)
  · refine ⟨congrArg Value.bool ?_, rfl⟩
    unfold pis
    cases e : is64 s.data.toList
    · simp_all
    · have h9 := hx e
      (rw [e] at g2_2; simp at g2_2; done)
theorem otext_spec (k : UInt8) (v : Value) (d : List UInt8) (R : Rds) (h : RS R 1 encU v d) (hl : d.length ≤ 1000) : Spec Tryz.prog 91 [.string ⟨#[k]⟩, v] R [] fun u H' => u = .string (dtext k d) ∧ H' = [] := by
 have iv := h.oneCell
 have he := e64_len d
 refine Spec.body Tryz.func91 rfl Tryz.results91 Tryz.ntmps91 rfl ?_
 refine .sr<|.ag rfl<|.z<|.mo rfl<|.q (.addS (p := ⟨#[k]⟩) (q := ⟨#[46]⟩) (Nat.le_of_ble_eq_true rfl) rfl rfl) ?_
 refine .mo rfl ?_
 refine .callR (benc_spec v d _ h.rx (by omega)) (fun u hu => ?_)
 subst hu
 refine .q (.addS (p := ⟨#[k]⟩ ++ ⟨#[46]⟩) (q := ⟨(e64 d).toArray⟩) (by rw [ByteArray.size_append, size_of (e64 d)]; show 1 + 1 + _ ≤ _; omega) rfl rfl) ?_
 refine .ag rfl<|.zn ?_
 refine .ret (retQ_r _ (.one (.tmp rfl)) (.none _) ?_)
 ·refine ⟨congrArg Value.string ?_, rfl⟩
  rw [show (⟨#[k]⟩ : ByteArray) = ⟨[k].toArray⟩ from rfl, show (⟨#[46]⟩ : ByteArray) = ⟨[46].toArray⟩ from rfl, bs_app, bs_app]
  rfl
theorem owithin1_spec (all : Value) (l : List ByteArray) (s : ByteArray) (b : Nat) (R : Rds) (h : RS R 1 encS all l) [pc : PC R (.pointer (some ⟨b, 0, none⟩)) [all]] : Spec Tryz.prog 165 [.string s, .pointer (some ⟨b, 0, none⟩)] R [] fun u H' => u = .bool (!decide (s ∈ l)) ∧ H' = [] := by
 have i0 := h.oneCell
 refine Spec.body Tryz.func165 rfl Tryz.results165 Tryz.ntmps165 rfl ?_
 refine .sr<|.ag rfl<|.z<|.lo rfl<|.mo rfl ?_
 refine .callR (scontains_spec all l s _ h.rx) (fun u hu => ?_)
 subst hu
 refine .q .not<|.ag rfl<|.zn ?_
 refine .ret (retQ_r _ (.one (.tmp rfl)) (.none _) ?_)
 ·exact ⟨rfl, rfl⟩
theorem owithin_spec (v all : Value) (l m : List ByteArray) (R : Rds) (h : RS R 1 encS v l) (h' : RS R 1 encS all m) : Spec Tryz.prog 103 [v, all] R [] fun u H' => u = .bool (owithin l m) ∧ H' = [] := by
 have i0 := h.oneCell
 have i1 := h'.oneCell
 refine Spec.body Tryz.func103 rfl Tryz.results103 Tryz.ntmps103 rfl ?_
 refine .sr ?_
 refine .box1 rfl (fun b3 => ?_)
 refine .ag rfl<|.z<|.mo rfl<|.q .makeFunc ?_
 refine .callR (scontainsF_spec 165 [.pointer (some ⟨b3, 0, none⟩)] (fun s => !decide (s ∈ m)) v l _ h.rx fun s hs R' hR => by
  have : PC R' (.pointer (some ⟨b3, 0, none⟩)) [all] := PC.of (E := 28) (fr := (0, 0)) (hR _ _ (.inr (by simp)))
  exact owithin1_spec all m s b3 R' (h'.mono fun b o hb => hR b o (.inl hb))) (fun u hu => ?_)
 subst hu
 refine .q .not<|.ag rfl<|.zn ?_
 refine .ret (retQ_r _ (.one (.tmp rfl)) (.none _) ?_)
 ·exact ⟨by unfold owithin; rw [List.all_eq_not_any_not], rfl⟩
theorem isID_e0 : isID e0 = false := by decide +kernel
theorem isID_ne {s : ByteArray} (h : isID s = true) : s ≠ e0 := fun e => by rw [e, isID_e0] at h; cases h
theorem mget_filterK {κ β : Type} [DecidableEq κ] {q : κ → Bool} {k : κ} : ∀ {A : List (κ × β)}, mget k (A.filter fun x => q x.1) = if q k = true then mget k A else none
 | [] => by simp [mget]
 | (k', x) :: A => by
  have ih := mget_filterK (q := q) (k := k) (A := A)
  by_cases hq : q k' = true
  ·rw [List.filter_cons_of_pos (by exact hq)]
   unfold mget
   rw [ih]
   by_cases e : k = k'
   ·subst e; simp [hq]
   ·simp [e]
  ·rw [List.filter_cons_of_neg (by simpa using hq), ih]
   by_cases e : k = k'
   ·subst e; simp [hq]
   ·rw [show mget k ((k', x) :: A) = mget k A from by rw [mget, if_neg e]]
theorem cget_cdel {id k : ByteArray} (hne : k ≠ id) : ∀ {A : List Cli}, cget k (cdel id A) = cget k A
 | [] => rfl
 | c :: A => by
  have ih := cget_cdel hne (A := A)
  unfold cget cdel at *
  by_cases h : c.id = id
  ·rw [List.filter_cons_of_neg (by simp [h]), ih, List.find?_cons_of_neg (by simp only [decide_eq_true_eq]; exact fun e => hne (by rw [← e, h]))]
  ·rw [List.filter_cons_of_pos (by simp [h])]
   by_cases h2 : c.id = k
   ·rw [List.find?_cons_of_pos (by simp [h2]), List.find?_cons_of_pos (by simp [h2])]
   ·rw [List.find?_cons_of_neg (by simp [h2]), List.find?_cons_of_neg (by simp [h2]), ih]
theorem tput_mem {A : List (ByteArray × Tok)} {last : Int} {t : Tok} {p : ByteArray × Tok} (h : p ∈ (tput A last t).2) : p ∈ A ∨ p = (t.text, t.fresh) := by
 unfold tput at h
 split at h
 ·exact .inl h
 ·split at h
  ·exact .inl h
  ·split at h
   ·exact .inl h
   ·exact (kset_mem h).imp (fun h => h.1) id
theorem pPut_mem {V : List (ByteArray × Tok)} {last now : Int} {a r : ByteArray} {t : Tok} {p : ByteArray × Tok} (h : p ∈ pPut V last now a r t) :
  p ∈ V ∨ p = (a, (pTok a 1 (now + 600) t).fresh) ∨ p = (r, (pTok r 2 (now + 100000) t).fresh) := by
 rcases tput_mem h with h | h
 ·exact (tput_mem h).imp id .inl
 ·exact .inr (.inr h)
theorem gissue_cases (A : List (ByteArray × Cod)) (t : Cod) : (gissue A t).1 ≠ 0 ∧ (gissue A t).2 = A ∨ (gissue A t).1 = 0 ∧ (gissue A t).2 = kset t.text t.fresh A ∧ mget t.text A = none ∧ A.length < 4096 := by
 unfold gissue
 split
 ·exact .inl ⟨by simp, rfl⟩
 ·rename_i h
  split
  ·exact .inl ⟨by simp, rfl⟩
  ·exact .inr ⟨rfl, rfl, by simpa using h, by omega⟩
theorem gredeem_cases (A : List (ByteArray × Cod)) (k client uri ver : ByteArray) (now : Int) : ((gredeem A k client uri ver now).2.1 ≠ 0 ∧ (gredeem A k client uri ver now).2.2 = A) ∨
  ((gredeem A k client uri ver now).2.1 = 0 ∧ ∃ t, mget k A = some t ∧ t.client = client ∧ t.used = false ∧ now < t.expires ∧ (gredeem A k client uri ver now).1 = t.mark ∧ (gredeem A k client uri ver now).2.2 = kset k t.mark A) := by
 unfold gredeem
 split
 ·exact .inl ⟨by simp, rfl⟩
 ·rename_i t ht
  split
  ·exact .inl ⟨by simp, rfl⟩
  ·rename_i hc
   split
   ·exact .inl ⟨by simp, rfl⟩
   ·rename_i hu
    split
    ·exact .inl ⟨by simp, rfl⟩
    ·rename_i hx
     exact .inr ⟨rfl, t, ht, by simpa using hc, by simpa using hu, by omega, rfl, rfl⟩
theorem trev_mem {A : List (ByteArray × Tok)} {k client : ByteArray} {p : ByteArray × Tok} (h : p ∈ (trev A k client).2) : p ∈ A := by
 unfold trev at h
 split at h
 ·exact h
 ·split at h
  ·exact h
  ·split at h
   ·exact (List.mem_filter.1 h).1
   ·exact (List.mem_filter.1 h).1
theorem pOwn_some {V : List (ByteArray × Tok)} {text id : ByteArray} {t : Tok} (h : pOwn V text id = some t) : mget text V = some t ∧ t.kind = 2 ∧ t.client = id := by
 unfold pOwn at h
 obtain ⟨h1, h2⟩ := Option.filter_eq_some_iff.1 h
 simp at h2
 exact ⟨h1, h2⟩
def OKf (cs : List Cli) (C : List (Who × List ByteArray)) (cl us : ByteArray) (l : List ByteArray) : Prop := ∃ c, cget cl cs = some c ∧ (∀ x ∈ l, x ∈ c.scopes) ∧ ∀ x ∈ l, x ∈ scopesOf C us cl
theorem OKf.mono {cs cs' : List Cli} {C C' : List (Who × List ByteArray)} {cl us : ByteArray} {l l' : List ByteArray} (h : OKf cs C cl us l) (h1 : ∀ c, cget cl cs = some c → cget cl cs' = some c) (h2 : ∀ x ∈ scopesOf C us cl, x ∈ scopesOf C' us cl) (h3 : ∀ x ∈ l', x ∈ l) : OKf cs' C' cl us l' := by
 obtain ⟨c, hc, ha, hb⟩ := h
 exact ⟨c, h1 c hc, fun x hx => ha x (h3 x hx), fun x hx => h2 x (hb x (h3 x hx))⟩
structure WI (s : OSt) : Prop where
 cn : ∀ p ∈ s.C, p.1.1 ≠ e0
 v : ∀ p ∈ s.V, OKf s.cs s.C p.2.client p.2.user p.2.scopes ∧ s.now < p.2.expires
 a : ∀ p ∈ s.A, OKf s.cs s.C p.2.client p.2.user p.2.scopes
section
variable {s : OSt}
theorem WI.tick (h : WI s) (n : Int) : WI (pTick s n).2 := by
 unfold pTick
 split
 ·exact h
 ·exact ⟨h.cn, fun p hp => ⟨(h.v p (List.mem_filter.1 hp).1).1, by simpa using (List.mem_filter.1 hp).2⟩, fun p hp => h.a p (List.mem_filter.1 hp).1⟩
theorem drop_scopes {C : List (Who × List ByteArray)} {id user us cl : ByteArray} (h : wdropB id user (us, cl) = false) : scopesOf (C.filter fun x => !wdropB id user x.1) us cl = scopesOf C us cl := by
 unfold scopesOf
 rw [mget_filterK (q := fun k => !wdropB id user k), if_pos (by simp [h])]
theorem WI.remove (h : WI s) (id : ByteArray) : WI (pRemove s id).2 := by
 unfold pRemove
 split
 ·have hk : ∀ cl us l, cl ≠ id → OKf s.cs s.C cl us l → OKf (cdel id s.cs) (s.C.filter fun x => !wdropB id e0 x.1) cl us l := fun cl us l hne ho =>
   ho.mono (fun c hc => by rw [cget_cdel hne]; exact hc) (fun x hx => by rw [drop_scopes (by simp [wdropB, hne])]; exact hx) (fun _ h => h)
  refine ⟨fun p hp => h.cn p (List.mem_filter.1 hp).1, fun p hp => ?_, fun p hp => ?_⟩
  ·obtain ⟨h1, h2⟩ := List.mem_filter.1 hp
   exact ⟨hk _ _ _ (by simpa [tdropB, e0] using h2) (h.v p h1).1, (h.v p h1).2⟩
  ·obtain ⟨h1, h2⟩ := List.mem_filter.1 hp
   exact hk _ _ _ (by simpa [gdropB, e0] using h2) (h.a p h1)
 ·exact h
theorem oconE_zero {cs : List Cli} {user id : ByteArray} {scopes : List ByteArray} (h : oconE cs user id scopes = 0) : isID user = true ∧ (cget id cs).isSome = true ∧ casks id scopes cs = true := by
 unfold oconE at h
 split at h
 ·cases h
 ·split at h
  ·cases h
  ·split at h
   ·cases h
   ·rename_i h1 h2 h3
    exact ⟨by simpa using h1, by cases h9 : (cget id cs).isSome with
     | true => rfl
     | false => exact absurd h9 h2, by simpa using h3⟩
theorem scopes_kset {C : List (Who × List ByteArray)} {k : Who} {l : List ByteArray} {us cl : ByteArray} : scopesOf (kset k l C) us cl = if (us, cl) = k then l else scopesOf C us cl := by
 unfold scopesOf
 rw [mget_kset]
 split <;> rfl
theorem WI.consent (h : WI s) (user id : ByteArray) (scopes : List ByteArray) : WI (pConsent s user id scopes).2 := by
 unfold pConsent
 split
 ·exact h
 ·rename_i h0
  have h0 : oconE s.cs user id scopes = 0 := by simpa using h0
  have hk : ∀ us cl, ∀ x ∈ scopesOf s.C us cl, x ∈ scopesOf (kset (user, id) (uni (scopesOf s.C user id) scopes) s.C) us cl := fun us cl x hx => by
   rw [scopes_kset]
   split
   ·rename_i e
    cases e
    exact mem_uni.2 (.inl hx)
   ·exact hx
  refine ⟨fun p hp => ?_, fun p hp => ⟨(h.v p hp).1.mono (fun _ h => h) (hk _ _) (fun _ h => h), (h.v p hp).2⟩, fun p hp => (h.a p hp).mono (fun _ h => h) (hk _ _) (fun _ h => h)⟩
  rcases kset_mem hp with h1 | h1
  ·exact h.cn p h1.1
  ·rw [h1]; exact isID_ne (oconE_zero h0).1
theorem WI.withdraw (h : WI s) (user id : ByteArray) : WI (pWithdraw s user id).2 := by
 unfold pWithdraw
 split
 ·rename_i h0
  obtain ⟨l0, hl0⟩ := Option.isSome_iff_exists.1 h0
  have hne : user ≠ e0 := h.cn _ (mget_some hl0)
  have hk : ∀ cl us l, ¬ (cl = id ∧ us = user) → OKf s.cs s.C cl us l → OKf s.cs ((kdel (user, id) s.C).filter fun x => !wdropB id user x.1) cl us l := fun cl us l hn ho =>
   ho.mono (fun _ h => h) (fun x hx => by
    rw [drop_scopes (by simp only [wdropB, Bool.and_eq_false_iff, Bool.or_eq_false_iff, decide_eq_false_iff_not]; by_cases e : cl = id; exact .inr ⟨hne, fun e2 => hn ⟨e, e2⟩⟩; exact .inl e)]
    unfold scopesOf
    rw [mget_kdel, if_neg (fun e => by cases e; exact hn ⟨rfl, rfl⟩)]
    exact hx) (fun _ h => h)
  refine ⟨fun p hp => h.cn p (List.mem_filter.1 (List.mem_filter.1 hp).1).1, fun p hp => ?_, fun p hp => ?_⟩
  ·obtain ⟨h1, h2⟩ := List.mem_filter.1 hp
   refine ⟨hk _ _ _ (fun e => ?_) (h.v p h1).1, (h.v p h1).2⟩
   simp [tdropB, e.1, e.2] at h2
  ·obtain ⟨h1, h2⟩ := List.mem_filter.1 hp
   refine hk _ _ _ (fun e => ?_) (h.a p h1)
   simp [gdropB, e.1, e.2] at h2
 ·exact h
theorem casks_has {cs : List Cli} {id : ByteArray} {l : List ByteArray} (h : casks id l cs = true) : ∃ c, cget id cs = some c ∧ ∀ x ∈ l, x ∈ c.scopes := by
 unfold casks at h
 simp only [Bool.and_eq_true, List.all_eq_true, decide_eq_true_eq] at h
 obtain ⟨c, hc⟩ := Option.isSome_iff_exists.1 h.1
 rw [hc] at h
 exact ⟨c, hc, fun x hx => h.2.2.2 x hx⟩
theorem owithin_iff {l all : List ByteArray} : owithin l all = true ↔ ∀ x ∈ l, x ∈ all := by simp [owithin]
theorem pMay_zero {user id uri ch : ByteArray} {scopes : List ByteArray} (h : pMay s user id uri scopes ch = 0) : casks id scopes s.cs = true ∧ owithin scopes (scopesOf s.C user id) = true := by
 unfold pMay at h
 split at h
 ·cases h
 ·split at h
  ·cases h
  ·split at h
   ·cases h
   ·split at h
    ·cases h
    ·split at h
     ·cases h
     ·split at h
      ·cases h
      ·rename_i h1 h2 h3 h4 h5 h6
       exact ⟨by simpa using h3, by simpa using h6⟩
theorem WI.auth (h : WI s) (user id uri : ByteArray) (scopes : List ByteArray) (ch : ByteArray) (d : List UInt8) : WI (pAuth s user id uri scopes ch d).2.2 := by
 unfold pAuth
 split
 ·exact h
 ·split
  ·exact h
  ·rename_i h0
   have h0 : pMay s user id uri scopes ch = 0 := by simpa using h0
   split
   ·exact h
   ·rcases gissue_cases s.A (pCode s user id uri scopes ch d) with ⟨_, e⟩ | ⟨_, e, _⟩
    ·exact ⟨h.cn, h.v, fun p hp => h.a p (e ▸ hp)⟩
    ·refine ⟨h.cn, h.v, fun p hp => ?_⟩
     have hp : p ∈ kset (pCode s user id uri scopes ch d).text (pCode s user id uri scopes ch d).fresh s.A := e ▸ hp
     rcases kset_mem hp with h1 | h1
     ·exact h.a p h1.1
     ·rw [h1]
      obtain ⟨hz1, hz2⟩ := pMay_zero h0
      obtain ⟨c, hc, hcs⟩ := casks_has hz1
      exact ⟨c, hc, hcs, owithin_iff.1 hz2⟩
theorem WI.put (h : WI s) {V : List (ByteArray × Tok)} (hV : ∀ p ∈ V, OKf s.cs s.C p.2.client p.2.user p.2.scopes ∧ s.now < p.2.expires) {A : List (ByteArray × Cod)} (hA : ∀ p ∈ A, OKf s.cs s.C p.2.client p.2.user p.2.scopes) {a r : ByteArray} {t : Tok} (ht : OKf s.cs s.C t.client t.user t.scopes) : WI { s with A := A, V := pPut V s.last s.now a r t } := by
 refine ⟨h.cn, fun p hp => ?_, hA⟩
 rcases pPut_mem hp with h1 | h1 | h1
 ·exact hV p h1
 ·rw [h1]; exact ⟨ht, by show s.now < s.now + 600; omega⟩
 ·rw [h1]; exact ⟨ht, by show s.now < s.now + 100000; omega⟩
theorem WI.exch (h : WI s) (id sec code uri ver : ByteArray) (a r : List UInt8) (rev : Int) : WI (pExch s id sec code uri ver a r rev).2.2.2 := by
 unfold pExch
 split
 ·exact h
 ·split
  ·exact ⟨h.cn, fun p hp => h.v p (List.mem_filter.1 hp).1, h.a⟩
  ·split
   ·exact h
   ·rcases gredeem_cases s.A code id uri ver s.now with ⟨h1, e⟩ | ⟨h1, t, ht, hc, hu, hx, e1, e2⟩
    ·rw [if_pos h1]; exact ⟨h.cn, h.v, fun p hp => h.a p (e ▸ hp)⟩
    ·rw [if_neg (by simp [h1])]
     have hA := h.a _ (mget_some ht)
     refine h.put h.v (fun p hp => ?_) ?_
     ·rw [e2] at hp
      rcases kset_mem hp with h2 | h2
      ·exact h.a p h2.1
      ·rw [h2]; exact hA
     ·rw [e1]
      subst hc
      exact hA
theorem WI.refr (h : WI s) (id sec text : ByteArray) (scopes : List ByteArray) (a r : List UInt8) (rev : Int) : WI (pRefr s id sec text scopes a r rev).2.2.2 := by
 unfold pRefr
 split
 ·exact h
 ·split
  ·split <;> exact h
  ·rename_i t ht
   obtain ⟨h1, h2, h3⟩ := pOwn_some ht
   split
   ·exact ⟨h.cn, fun p hp => h.v p (List.mem_filter.1 hp).1, h.a⟩
   ·split
    ·exact h
    ·split
     ·exact h
     ·split
      ·exact h
      ·rename_i hx hw
       have ho := h.v _ (mget_some h1)
       refine h.put (fun p hp => ?_) h.a ?_
       ·rcases kset_mem hp with h4 | h4
        ·exact h.v p h4.1
        ·rw [h4]; exact ho
       ·subst h3
        refine ho.1.mono (fun _ h => h) (fun _ h => h) ?_
        show ∀ x ∈ (if scopes = [] then t.scopes else scopes), x ∈ t.scopes
        split
        ·exact fun _ h => h
        ·refine owithin_iff.1 ?_
         by_cases hh : owithin scopes t.scopes = true
         ·exact hh
         ·exact absurd (.inl (by simpa using hh)) hw
theorem WI.revoke (h : WI s) (id sec text : ByteArray) : WI (pRevoke s id sec text).2 := by
 unfold pRevoke
 split
 ·exact h
 ·exact ⟨h.cn, fun p hp => h.v p (trev_mem hp), h.a⟩
end
section
variable {s : OSt}
theorem auth_cases (s : OSt) (user id uri : ByteArray) (scopes : List ByteArray) (ch : ByteArray) (d : List UInt8) :
  ((pAuth s user id uri scopes ch d).1 = e0 ∧ (pAuth s user id uri scopes ch d).2.1 ≠ 0 ∧ (pAuth s user id uri scopes ch d).2.2 = s) ∨
  ((pAuth s user id uri scopes ch d).1 = dtext 99 d ∧ (pAuth s user id uri scopes ch d).2.1 = 0 ∧ (pAuth s user id uri scopes ch d).2.2 = { s with A := kset (dtext 99 d) (pCode s user id uri scopes ch d) s.A, last := s.last + 1 }) := by
 unfold pAuth
 split
 ·exact .inl ⟨rfl, by simp, rfl⟩
 ·split
  ·rename_i h; exact .inl ⟨rfl, h, rfl⟩
  ·rcases gissue_cases s.A (pCode s user id uri scopes ch d) with ⟨h1, e⟩ | ⟨h1, e, _⟩
   ·rw [if_pos h1]; exact .inl ⟨rfl, h1, rfl⟩
   ·rw [if_neg (by simp [h1])]; exact .inr ⟨rfl, rfl, by rw [e]; rfl⟩
structure Less (s s' : OSt) : Prop where
 v : ∀ p ∈ s'.V, p ∈ s.V
 a : ∀ p ∈ s'.A, p ∈ s.A
theorem Less.refl (s : OSt) : Less s s := ⟨fun _ h => h, fun _ h => h⟩
theorem tick_less (s : OSt) (n : Int) : Less s (pTick s n).2 := by
 unfold pTick; split
 ·exact .refl s
 ·exact ⟨fun p hp => (List.mem_filter.1 hp).1, fun p hp => (List.mem_filter.1 hp).1⟩
theorem drop_less (s : OSt) (id user : ByteArray) : Less s (s.drop id user) := ⟨fun p hp => (List.mem_filter.1 hp).1, fun p hp => (List.mem_filter.1 hp).1⟩
theorem remove_less (s : OSt) (id : ByteArray) : Less s (pRemove s id).2 := by
 unfold pRemove; split
 ·exact ⟨(drop_less { s with cs := cdel id s.cs } id e0).v, (drop_less { s with cs := cdel id s.cs } id e0).a⟩
 ·exact .refl s
theorem consent_less (s : OSt) (user id : ByteArray) (l : List ByteArray) : Less s (pConsent s user id l).2 := by
 unfold pConsent; split
 ·exact .refl s
 ·exact ⟨fun _ h => h, fun _ h => h⟩
theorem withdraw_less (s : OSt) (user id : ByteArray) : Less s (pWithdraw s user id).2 := by
 unfold pWithdraw; split
 ·exact ⟨(drop_less { s with C := kdel (user, id) s.C } id user).v, (drop_less { s with C := kdel (user, id) s.C } id user).a⟩
 ·exact .refl s
theorem revoke_less (s : OSt) (id sec text : ByteArray) : Less s (pRevoke s id sec text).2 := by
 unfold pRevoke; split
 ·exact .refl s
 ·exact ⟨fun p hp => trev_mem hp, fun _ h => h⟩
end
structure OB (s : OSt) (k : Nat) : Prop where
 n0 : 0 ≤ s.now
 n1 : s.now ≤ 1125899906842624
 l0 : 0 ≤ s.last
 l1 : s.last ≤ k
 A : s.A.length ≤ k
 V : s.V.length ≤ 3 * k
 C : s.C.length ≤ k
 cl : ∀ p ∈ s.C, p.2.length ≤ 6 * k
 cs : s.cs.length ≤ 64
theorem OB.zero : OB OSt.zero 0 := ⟨by decide, by decide, by decide, by decide, by decide, by decide, by decide, by simp [OSt.zero], by decide⟩
section
variable {s : OSt} {k : Nat}
theorem OB.up (h : OB s k) : OB s (k + 1) := ⟨h.n0, h.n1, h.l0, by have := h.l1; omega, by have := h.A; omega, by have := h.V; omega, by have := h.C; omega, fun p hp => by have := h.cl p hp; omega, h.cs⟩
theorem OB.less (h : OB s k) {A : List (ByteArray × Cod)} {V : List (ByteArray × Tok)} {C : List (Who × List ByteArray)} {cs : List Cli} (hA : A.length ≤ s.A.length) (hV : V.length ≤ s.V.length) (hC : C.Sublist s.C) (hcs : cs.length ≤ 64) : OB ⟨cs, C, A, V, s.last, s.now⟩ k :=
 ⟨h.n0, h.n1, h.l0, h.l1, Nat.le_trans hA h.A, Nat.le_trans hV h.V, Nat.le_trans hC.length_le h.C, fun p hp => h.cl p (hC.subset hp), hcs⟩
theorem otickE_zero {n now : Int} (h : otickE n now = 0) : 0 ≤ n ∧ n ≤ 1073741824 ∧ now + n ≤ 1125899906842624 := by
 unfold otickE at h
 split at h
 ·cases h
 ·split at h
  ·cases h
  ·omega
theorem OB.tick (h : OB s k) (n : Int) : OB (pTick s n).2 k := by
 unfold pTick
 split
 ·exact h
 ·rename_i h0
  have h0 := otickE_zero (by simpa using h0)
  have := h.n0
  exact ⟨by show 0 ≤ s.now + n; omega, h0.2.2, h.l0, h.l1, Nat.le_trans (List.length_filter_le _ _) h.A, Nat.le_trans (List.length_filter_le _ _) h.V, h.C, h.cl, h.cs⟩
theorem OB.add (h : OB s k) (c : Cli) : OB (pAdd s c).2 k := by
 refine ⟨h.n0, h.n1, h.l0, h.l1, h.A, h.V, h.C, h.cl, ?_⟩
 show (cadd s.cs c).2.length ≤ 64
 have := h.cs
 unfold cadd
 split
 ·exact this
 ·split
  ·exact this
  ·split
   ·exact this
   ·simp; omega
theorem OB.remove (h : OB s k) (id : ByteArray) : OB (pRemove s id).2 k := by
 unfold pRemove
 split
 ·exact h.less (List.length_filter_le _ _) (List.length_filter_le _ _) List.filter_sublist (Nat.le_trans (List.length_filter_le _ _) h.cs)
 ·exact h
theorem scopesOf_len (h : OB s k) (us cl : ByteArray) : (scopesOf s.C us cl).length ≤ 6 * k := by
 unfold scopesOf
 cases e : mget (us, cl) s.C with
 | none => simp
 | some l => exact h.cl _ (mget_some e)
theorem OB.consent (h : OB s k) (user id : ByteArray) (l : List ByteArray) (hl : l.length ≤ 6) : OB (pConsent s user id l).2 (k + 1) := by
 unfold pConsent
 split
 ·exact h.up
 ·have hu := h.up
  refine ⟨hu.n0, hu.n1, hu.l0, hu.l1, hu.A, hu.V, Nat.le_trans kset_length (by have := h.C; omega), fun p hp => ?_, hu.cs⟩
  rcases kset_mem hp with h1 | h1
  ·exact hu.cl p h1.1
  ·rw [h1]
   have := scopesOf_len h user id
   have := uni_length (a := scopesOf s.C user id) (b := l)
   show (uni (scopesOf s.C user id) l).length ≤ 6 * (k + 1)
   omega
theorem OB.withdraw (h : OB s k) (user id : ByteArray) : OB (pWithdraw s user id).2 k := by
 unfold pWithdraw
 split
 ·exact h.less (List.length_filter_le _ _) (List.length_filter_le _ _) (List.filter_sublist.trans List.filter_sublist) h.cs
 ·exact h
theorem OB.auth (h : OB s k) (user id uri : ByteArray) (scopes : List ByteArray) (ch : ByteArray) (d : List UInt8) : OB (pAuth s user id uri scopes ch d).2.2 (k + 1) := by
 have hu := h.up
 rcases auth_cases s user id uri scopes ch d with ⟨_, _, e⟩ | ⟨_, _, e⟩
 ·rw [e]; exact hu
 ·rw [e]
  exact ⟨hu.n0, hu.n1, by show 0 ≤ s.last + 1; have := h.l0; omega, by show s.last + 1 ≤ _; have := h.l1; omega, Nat.le_trans kset_length (by have := h.A; omega), hu.V, hu.C, hu.cl, hu.cs⟩
theorem pPut_len {V : List (ByteArray × Tok)} {last now : Int} {a r : ByteArray} {t : Tok} : (pPut V last now a r t).length ≤ V.length + 2 := by
 unfold pPut
 have h1 := tput_len (A := (tput V last (pTok a 1 (now + 600) t)).2) (last := last) (t := pTok r 2 (now + 100000) t)
 have h2 := tput_len (A := V) (last := last) (t := pTok a 1 (now + 600) t)
 omega
theorem OB.exch (h : OB s k) (id sec code uri ver : ByteArray) (a r : List UInt8) (rev : Int) : OB (pExch s id sec code uri ver a r rev).2.2.2 (k + 1) := by
 have hu := h.up
 have hA : (gredeem s.A code id uri ver s.now).2.2.length ≤ s.A.length + 1 := by
  rcases gredeem_cases s.A code id uri ver s.now with ⟨_, e⟩ | ⟨_, t, _, _, _, _, _, e⟩
  ·rw [e]; omega
  ·rw [e]; exact kset_length
 unfold pExch
 split
 ·exact hu
 ·split
  ·exact ⟨hu.n0, hu.n1, hu.l0, hu.l1, hu.A, Nat.le_trans (List.length_filter_le _ _) hu.V, hu.C, hu.cl, hu.cs⟩
  ·split
   ·exact hu
   ·split
    ·exact ⟨hu.n0, hu.n1, hu.l0, hu.l1, Nat.le_trans hA (by have := h.A; omega), hu.V, hu.C, hu.cl, hu.cs⟩
    ·exact ⟨hu.n0, hu.n1, hu.l0, hu.l1, Nat.le_trans hA (by have := h.A; omega), Nat.le_trans pPut_len (by have := h.V; omega), hu.C, hu.cl, hu.cs⟩
theorem OB.refr (h : OB s k) (id sec text : ByteArray) (scopes : List ByteArray) (a r : List UInt8) (rev : Int) : OB (pRefr s id sec text scopes a r rev).2.2.2 (k + 1) := by
 have hu := h.up
 unfold pRefr
 split
 ·exact hu
 ·split
  ·split <;> exact hu
  ·split
   ·exact ⟨hu.n0, hu.n1, hu.l0, hu.l1, hu.A, Nat.le_trans (List.length_filter_le _ _) hu.V, hu.C, hu.cl, hu.cs⟩
   ·split
    ·exact hu
    ·split
     ·exact hu
     ·split
      ·exact hu
      ·refine ⟨hu.n0, hu.n1, hu.l0, hu.l1, hu.A, Nat.le_trans pPut_len ?_, hu.C, hu.cl, hu.cs⟩
       rename_i t _ _ _ _ _
       have h1 := kset_length (k := text) (x := t.mark) (A := s.V)
       have := h.V
       omega
theorem trev_len {A : List (ByteArray × Tok)} {k client : ByteArray} : (trev A k client).2.length ≤ A.length := by
 unfold trev
 split
 ·exact Nat.le_refl _
 ·split
  ·exact Nat.le_refl _
  ·split <;> exact List.length_filter_le _ _
theorem OB.revoke (h : OB s k) (id sec text : ByteArray) : OB (pRevoke s id sec text).2 k := by
 unfold pRevoke
 split
 ·exact h
 ·exact h.less (Nat.le_refl _) trev_len (List.Sublist.refl _) h.cs
theorem OB.step (h : OB s k) (x : OC) (hx : x.scopes.length ≤ 6) : OB (pDo s x).2.2.2 (k + 1) := by
 unfold pDo
 split
 ·exact (h.tick _).up
 split
 ·exact (h.add _).up
 split
 ·exact (h.remove _).up
 split
 ·exact h.consent _ _ _ hx
 split
 ·exact (h.withdraw _ _).up
 split
 ·exact h.auth _ _ _ _ _ _
 split
 ·exact h.exch _ _ _ _ _ _ _ _
 split
 ·exact h.refr _ _ _ _ _ _ _
 split
 ·exact (h.revoke _ _ _).up
 ·exact h.up
end
theorem odrop_spec (q : Nat) (s : OSt) (T : Seg) (h : CIs q s T) (id user : ByteArray) (R : Rds) :
  Spec Tryz.prog 84 [.pointer (some ⟨q, 0, none⟩), .string id, .string user] R [T] fun v H' => ∃ T', H' = [T'] ∧ CIs q (s.drop id user) T' := by
 obtain ⟨gc, gb, gv, Tc, Tb, Tv, rfl, hR, hG, hV⟩ := h
 refine Spec.segs (H' := [[(q, .cells [.pointer (some ⟨gc, 0, none⟩), .pointer (some ⟨gb, 0, none⟩), .pointer (some ⟨gv, 0, none⟩), .int .i64 s.now].toArray 63 (0, 0))], Tc, Tb, Tv]) (by simp) ?_
 refine Spec.body Tryz.func84 rfl Tryz.results84 Tryz.ntmps84 rfl ?_
 refine .sr<|.mo rfl<|.nc rfl<|.fa rfl<|.lo rfl<|.mo rfl<|.mo rfl ?_
 refine .callM (gdrop_spec gb s.C s.A Tb hG id user R) (fun u T1 hu => ?_)
 obtain ⟨rfl, hG1⟩ := hu
 refine .zn<|.region<|.mo rfl<|.nc rfl<|.fa rfl<|.lo rfl<|.mo rfl<|.mo rfl ?_
 refine .callM (vdrop_spec gv s.V s.last Tv hV id user R) (fun u T2 hu => ?_)
 obtain ⟨rfl, hV1⟩ := hu
 refine .nil<|retQ_n _ .none (.one [0, 0, 0, 0] _) ?_
 ·exact ⟨_, rfl, gc, gb, gv, Tc, T1, T2, by simp [take, dropAt, OSt.drop], hR, hG1, hV1⟩
theorem oremove_spec (q : Nat) (s : OSt) (T : Seg) (h : CIs q s T) (id : ByteArray) (R : Rds) :
  Spec Tryz.prog 37 [.pointer (some ⟨q, 0, none⟩), .string id] R [T] fun v H' => ∃ T', H' = [T'] ∧ v = .int .i64 (pRemove s id).1 ∧ CIs q (pRemove s id).2 T' := by
 obtain ⟨gc, gb, gv, Tc, Tb, Tv, rfl, hR, hG, hV⟩ := h
 refine Spec.segs (H' := [[(q, .cells [.pointer (some ⟨gc, 0, none⟩), .pointer (some ⟨gb, 0, none⟩), .pointer (some ⟨gv, 0, none⟩), .int .i64 s.now].toArray 63 (0, 0))], Tc, Tb ++ Tv]) (by simp) ?_
 refine Spec.body Tryz.func37 rfl Tryz.results37 Tryz.ntmps37 rfl ?_
 refine .sr<|.ag rfl<|.zs<|.sr<|.mo rfl ?_
 refine .callR (ook_spec q gc _ _ _ _) (fun v hv => ?_)
 subst hv
 refine .q .not<|.zn<|.condF<|.kn<|.seq<|.sr<|.mo rfl<|.nc rfl<|.fa rfl<|.lo rfl<|.mo rfl ?_
 refine .callM (cremove_spec gc s.cs Tc hR id R) (fun u T1 hu => ?_)
 obtain ⟨rfl, hR1⟩ := hu
 refine .ag rfl<|.z<|.mo rfl<|.q .neI<|.zn ?_
 refine .cond rfl (fun h2 => ?_) (fun h2 => ?_)
 refine .sr<|.mo rfl<|.ag rfl<|.zn ?_
 refine .ret (seqQ_r (retQ_r _ (.one (.tmp rfl)) (.one [0, 0, 0] _) ?_))
 ·have hs : (cget id s.cs).isSome = false := by
   cases e : (cget id s.cs).isSome
   ·rfl
   ·rw [e] at h2; simp at h2
  have e : pRemove s id = (11, s) := by unfold pRemove; rw [if_neg (by simp [hs])]
  have hd : cdel id s.cs = s.cs := List.filter_eq_self.2 fun c hc => by
   have : ¬ (c.id = id) := fun e9 => by
    have : (s.cs.find? fun c => decide (c.id = id)).isSome = true := List.find?_isSome.2 ⟨c, hc, by simpa using e9⟩
    rw [show (cget id s.cs).isSome = true from this] at hs; cases hs
   simpa using this
  rw [e]
  rw [hd] at hR1
  exact ⟨_, rfl, by rw [hs]; rfl, gc, gb, gv, T1, Tb, Tv, by simp [take, dropAt], hR1, hG, hV⟩
 have hs : (cget id s.cs).isSome = true := by
  cases e : (cget id s.cs).isSome
  ·rw [e] at h2; simp at h2
  ·rfl
 refine Tri.le (EnvLe.refl _) (HLe.ofPerm (H' := [(q, .cells [.pointer (some ⟨gc, 0, none⟩), .pointer (some ⟨gb, 0, none⟩), .pointer (some ⟨gv, 0, none⟩), .int .i64 s.now].toArray 63 (0, 0)) :: (T1 ++ (Tb ++ Tv))]) (by simp)) ?_
 refine .kn<|.sr<|.mo rfl<|.mo rfl ?_
 refine .callM (odrop_spec q { s with cs := cdel id s.cs } _ ⟨gc, gb, gv, T1, Tb, Tv, rfl, hR1, hG, hV⟩ id ⟨#[]⟩ R) (fun u T2 hu => ?_)
 refine .z<|.ag rfl<|.zn ?_
 refine .ret (retQ_r _ (.one (.tmp rfl)) (.one [0] _) ?_)
 ·have e : pRemove s id = (0, ({ s with cs := cdel id s.cs } : OSt).drop id e0) := by unfold pRemove; rw [if_pos hs]
  rw [e]
  exact ⟨_, rfl, rfl, by simpa [take] using hu⟩
theorem owithdraw_spec (q : Nat) (s : OSt) (T : Seg) (h : CIs q s T) (user id : ByteArray) (R : Rds) :
  Spec Tryz.prog 39 [.pointer (some ⟨q, 0, none⟩), .string user, .string id] R [T] fun v H' => ∃ T', H' = [T'] ∧ v = .int .i64 (pWithdraw s user id).1 ∧ CIs q (pWithdraw s user id).2 T' := by
 obtain ⟨gc, gb, gv, Tc, Tb, Tv, rfl, hR, hG, hV⟩ := h
 refine Spec.segs (H' := [[(q, .cells [.pointer (some ⟨gc, 0, none⟩), .pointer (some ⟨gb, 0, none⟩), .pointer (some ⟨gv, 0, none⟩), .int .i64 s.now].toArray 63 (0, 0))], Tc, Tb, Tv]) (by simp) ?_
 refine Spec.body Tryz.func39 rfl Tryz.results39 Tryz.ntmps39 rfl ?_
 refine .sr<|.ag rfl<|.zs<|.block<|.sr<|.mo rfl ?_
 refine .callR (ook_spec q gc _ _ _ _) (fun v hv => ?_)
 subst hv
 refine .q .not<|.ag rfl<|.zn<|.condF<|.sr<|.mo rfl<|.nc rfl<|.fa rfl<|.lo rfl<|.mo rfl<|.mo rfl ?_
 refine .callM (gwithdraw_spec gb s.C s.A Tb hG user id R) (fun u T1 hu => ?_)
 obtain ⟨rfl, hG1⟩ := hu
 refine .q .not<|.ag rfl<|.zn ?_
 refine .cond rfl (fun h2 => ?_) (fun h2 => ?_)
 refine .sr<|.ag rfl<|.zn ?_
 refine .ret (blkQ_r (seqQ_r (retQ_r _ (.one (.tmp rfl)) (.one [0, 0, 0, 0] _) ?_)))
 ·have hs : (mget (user, id) s.C).isSome = false := by simpa using h2
  have e : pWithdraw s user id = (11, s) := by unfold pWithdraw; rw [if_neg (by simp [hs])]
  have hn : mget (user, id) s.C = none := by cases e9 : mget (user, id) s.C with
   | none => rfl
   | some x => rw [e9] at hs; cases hs
  have hd : kdel (user, id) s.C = s.C := kdel_none (mget_none.1 hn)
  rw [e]
  rw [hd] at hG1
  exact ⟨_, rfl, rfl, gc, gb, gv, Tc, T1, Tv, by simp [take, dropAt], hR, hG1, hV⟩
 have hs : (mget (user, id) s.C).isSome = true := by simpa using h2
 refine Tri.le (EnvLe.refl _) (HLe.ofPerm (H' := [(q, .cells [.pointer (some ⟨gc, 0, none⟩), .pointer (some ⟨gb, 0, none⟩), .pointer (some ⟨gv, 0, none⟩), .int .i64 s.now].toArray 63 (0, 0)) :: (Tc ++ (T1 ++ Tv))]) (by simp)) ?_
 refine .skip<|blkQ_n<|seqQ_n<|.sr<|.mo rfl<|.mo rfl<|.mo rfl ?_
 refine .callM (odrop_spec q { s with C := kdel (user, id) s.C } _ ⟨gc, gb, gv, Tc, T1, Tv, rfl, hR, hG1, hV⟩ id user R) (fun u T2 hu => ?_)
 refine .z<|.ag rfl<|.zn ?_
 refine .ret (retQ_r _ (.one (.tmp rfl)) (.one [0] _) ?_)
 ·have e : pWithdraw s user id = (0, ({ s with C := kdel (user, id) s.C } : OSt).drop id user) := by unfold pWithdraw; rw [if_pos hs]
  rw [e]
  exact ⟨_, rfl, rfl, by simpa [take] using hu⟩
theorem omay_spec (q : Nat) (s : OSt) (T : Seg) (h : CIs q s T) (hb : ∀ p ∈ s.C, p.2.length ≤ 1000000) (user id uri : ByteArray) (vs : Value) (scopes : List ByteArray) (ch : ByteArray) (hu : user.size ≤ 9223372036854775807) (hch : ch.size ≤ 1000000) (R : Rds) (hr : ∀ p ∈ T, R p.1 p.2) (hs : RS R 1 encS vs scopes) :
  Spec Tryz.prog 90 [.pointer (some ⟨q, 0, none⟩), .string user, .string id, .string uri, vs, .string ch] R [] fun v H' => v = .int .i64 (pMay s user id uri scopes ch) ∧ H' = [] := by
 obtain ⟨gc, gb, gv, Tc, Tb, Tv, rfl, hR, hG, hV⟩ := h
 have pq : PC R (.pointer (some ⟨q, 0, none⟩)) [.pointer (some ⟨gc, 0, none⟩), .pointer (some ⟨gb, 0, none⟩), .pointer (some ⟨gv, 0, none⟩), .int .i64 s.now] := PC.of (E := 63) (fr := (0, 0)) (hr (q, .cells [.pointer (some ⟨gc, 0, none⟩), .pointer (some ⟨gb, 0, none⟩), .pointer (some ⟨gv, 0, none⟩), .int .i64 s.now].toArray 63 (0, 0)) (by simp))
 have iv := hs.oneCell
 refine Spec.body Tryz.func90 rfl Tryz.results90 Tryz.ntmps90 rfl ?_
 refine .sr<|.ag rfl<|.zs<|.block<|.sr<|.mo rfl<|.mo rfl ?_
 refine .callR (oknown_spec q gc _ _ _ s.cs Tc hR id _ (fun p hp => .inl (hr p (by simp [hp])))) (fun v hv => ?_)
 subst hv
 refine .q .not<|.ag rfl<|.zn ?_
 refine .cond rfl (fun h1 => ?_) (fun h1 => ?_)
 refine .sr<|.ag rfl<|.zn ?_
 refine .ret (blkQ_r (seqQ_r (retQ_r _ (.one (.tmp rfl)) (.none _) ?_)))
 ·refine ⟨congrArg (Value.int .i64) ?_, rfl⟩
  unfold pMay
  simp_all
 refine .sr<|.mo rfl<|.nc rfl<|.fa rfl<|.lo rfl<|.mo rfl<|.mo rfl ?_
 refine .callR (credirect_spec gc s.cs Tc hR id uri _ (fun p hp => .inl (hr p (by simp [hp])))) (fun v hv => ?_)
 subst hv
 refine .q .not<|.ag rfl<|.zn ?_
 refine .cond rfl (fun h2 => ?_) (fun h2 => ?_)
 refine .sr<|.ag rfl<|.zn ?_
 refine .ret (blkQ_r (seqQ_r (retQ_r _ (.one (.tmp rfl)) (.none _) ?_)))
 ·refine ⟨congrArg (Value.int .i64) ?_, rfl⟩
  unfold pMay
  simp_all
 refine .sr<|.mo rfl<|.nc rfl<|.fa rfl<|.lo rfl<|.mo rfl<|.mo rfl ?_
 refine .callR (casks_spec gc s.cs Tc hR id vs scopes _ (fun p hp => .inl (hr p (by simp [hp]))) hs.rx) (fun v hv => ?_)
 subst hv
 refine .q .not<|.ag rfl<|.zn ?_
 refine .cond rfl (fun h3 => ?_) (fun h3 => ?_)
 refine .sr<|.ag rfl<|.zn ?_
 refine .ret (blkQ_r (seqQ_r (retQ_r _ (.one (.tmp rfl)) (.none _) ?_)))
 ·refine ⟨congrArg (Value.int .i64) ?_, rfl⟩
  unfold pMay
  simp_all
 refine .sr<|.mo rfl ?_
 refine .callR (pis_spec ch hch _) (fun v hv => ?_)
 subst hv
 refine .q .not<|.ag rfl<|.zn ?_
 refine .cond rfl (fun h4 => ?_) (fun h4 => ?_)
 refine .sr<|.ag rfl<|.zn ?_
 refine .ret (blkQ_r (seqQ_r (retQ_r _ (.one (.tmp rfl)) (.none _) ?_)))
 ·refine ⟨congrArg (Value.int .i64) ?_, rfl⟩
  unfold pMay
  simp_all
 refine .sr<|.mo rfl ?_
 refine .callR (id_spec user hu _) (fun v hv => ?_)
 subst hv
 refine .q .not<|.ag rfl<|.zn ?_
 refine .cond rfl (fun h5 => ?_) (fun h5 => ?_)
 refine .sr<|.ag rfl<|.zn ?_
 refine .ret (blkQ_r (seqQ_r (retQ_r _ (.one (.tmp rfl)) (.none _) ?_)))
 ·refine ⟨congrArg (Value.int .i64) ?_, rfl⟩
  unfold pMay
  simp_all
 refine .sr<|.mo rfl<|.mo rfl<|.nc rfl<|.fa rfl<|.lo rfl<|.mo rfl<|.mo rfl ?_
 refine .callN (gscopes_spec gb s.C s.A Tb hG user id _ (fun p hp => .inl (hr p (by simp [hp]))) hb) (fun w T2 hO0 => ?_)
 have hO : OS 9 1 encS w (scopesOf s.C user id) T2 := hO0
 have iw := hO.oneCell
 refine .callR (owithin_spec vs w scopes _ _ hs.rx hO.rx) (fun v hv => ?_)
 subst hv
 refine .q .not<|.ag rfl<|.zn ?_
 refine .cond rfl (fun h6 => ?_) (fun h6 => ?_)
 refine .sr<|.ag rfl<|.zn ?_
 refine .ret (blkQ_r (seqQ_r (retQ_r _ (.one (.tmp rfl)) (.none _) ?_)))
 ·refine ⟨congrArg (Value.int .i64) ?_, rfl⟩
  unfold pMay
  simp_all
 refine .skip<|blkQ_n<|seqQ_n<|.sr<|.ag rfl<|.zn ?_
 refine .ret (retQ_r _ (.one (.tmp rfl)) (.none _) ?_)
 ·refine ⟨congrArg (Value.int .i64) ?_, rfl⟩
  unfold pMay
  simp_all
theorem oauth_spec (q : Nat) (s : OSt) (T : Seg) (h : CIs q s T) (k : Nat) (hb : OB s k) (hk : k ≤ 1000) (user id uri : ByteArray) (vs : Value) (scopes : List ByteArray) (ch : ByteArray) (vd : Value) (d : List UInt8) (hu : user.size ≤ 9223372036854775807) (hch : ch.size ≤ 1000000) (hsl : scopes.length ≤ 100000) (hdl : d.length ≤ 1000) (R : Rds) (hs : RS R 1 encS vs scopes) (hd : RS R 1 encU vd d) :
  Spec Tryz.prog 40 [.pointer (some ⟨q, 0, none⟩), .string user, .string id, .string uri, vs, .string ch, vd] R [T] fun v H' => ∃ T', H' = [T'] ∧ v = .tuple [.string (pAuth s user id uri scopes ch d).1, .int .i64 (pAuth s user id uri scopes ch d).2.1].toArray ∧ CIs q (pAuth s user id uri scopes ch d).2.2 T' := by
 have h0 := h
 obtain ⟨gc, gb, gv, Tc, Tb, Tv, rfl, hR, hG, hV⟩ := h
 obtain ⟨pvs, kvs, rfl⟩ := hs.val
 have iv := hs.oneCell
 have id2 := hd.oneCell
 have hn0 := hb.n0
 have hn1 := hb.n1
 have hl0 := hb.l0
 have hl1 := hb.l1
 refine Spec.segs (H' := [[(q, .cells [.pointer (some ⟨gc, 0, none⟩), .pointer (some ⟨gb, 0, none⟩), .pointer (some ⟨gv, 0, none⟩), .int .i64 s.now].toArray 63 (0, 0))], Tc, Tb, Tv]) (by simp) ?_
 refine Spec.body Tryz.func40 rfl Tryz.results40 Tryz.ntmps40 rfl ?_
 refine .sr<|.ag rfl<|.ag rfl<|.zs<|.block<|.sr<|.mo rfl ?_
 refine .callR (ook_spec q gc _ _ _ _) (fun v hv => ?_)
 subst hv
 refine .q .not<|.ag rfl<|.zn<|.condF<|.sr<|.mo rfl<|.q (.lenR hd) ?_
 refine .q .neI<|.ag rfl<|.zn ?_
 refine .cond rfl (fun h2 => ?_) (fun h2 => ?_)
 refine .sr<|.ag rfl<|.ag rfl<|.zn ?_
 refine .ret (blkQ_r (seqQ_r (retQ_r _ (.two (.tmp rfl) (.tmp rfl)) (.one [0, 0, 0, 0] _) ?_)))
 ·have e : pAuth s user id uri scopes ch d = (e0, 2, s) := by
   unfold pAuth
   rw [if_pos (by simp at h2; omega)]
  rw [e]
  exact ⟨_, rfl, rfl, gc, gb, gv, Tc, Tb, Tv, by simp [take, dropAt], hR, hG, hV⟩
 refine .skip<|blkQ_n<|seqQ_n<|.seq<|.sr<|.mo rfl<|.mo rfl<|.mo rfl<|.mo rfl<|.mo rfl<|.mo rfl ?_
 refine .callR (omay_spec q s _ h0 (fun p hp => by have := hb.cl p hp; omega) user id uri _ scopes ch hu hch _ (fun p hp => .inr (show p ∈ List.flatten _ from by simpa using hp)) hs.rx) (fun v hv => ?_)
 subst hv
 refine .ag rfl<|.z<|.mo rfl<|.q .neI<|.zn ?_
 refine .cond rfl (fun h3 => ?_) (fun h3 => ?_)
 refine .sr<|.mo rfl<|.ag rfl<|.ag rfl<|.zn ?_
 refine .ret (seqQ_r (retQ_r _ (.two (.tmp rfl) (.tmp rfl)) (.one [0, 0, 0, 0] _) ?_))
 ·have e : pAuth s user id uri scopes ch d = (e0, pMay s user id uri scopes ch, s) := by
   unfold pAuth
   rw [if_neg (by simp at h2; omega), if_pos (by simpa using h3)]
  rw [e]
  exact ⟨_, rfl, rfl, gc, gb, gv, Tc, Tb, Tv, by simp [take, dropAt], hR, hG, hV⟩
 refine .kn<|.seq ?_
 refine Tri.cut (X := Nat) (fun _ => True) (fun b => [(0, .pointer (some ⟨q, 0, none⟩)), (17, .pointer (some ⟨b, 0, none⟩))]) (fun b => [[(b, .cells (encG (.slice pvs scopes.length kvs, pCode s user id uri scopes ch d)).toArray 53 (0, 0))], [(q, .cells [.pointer (some ⟨gc, 0, none⟩), .pointer (some ⟨gb, 0, none⟩), .pointer (some ⟨gv, 0, none⟩), .int .i64 s.now].toArray 63 (0, 0))], Tc, Tb, Tv]) ?_ ?_
 refine .region_all [20] mixed ?_
 refine .takeO 0 rfl .move (by kernel_rfl)<|.takeO 2 rfl .move (by kernel_rfl)<|.takeO 3 rfl .move (by kernel_rfl)<|.takeO 4 rfl .move (by kernel_rfl)<|.takeO 5 rfl .move (by kernel_rfl)<|.takeO 6 rfl .move (by kernel_rfl)<|.takeO 7 rfl .move (by kernel_rfl)<|.takeO 8 rfl (.nilCheck rfl) (by kernel_rfl)<|.takeO 9 rfl (.fieldAddr rfl) (by kernel_rfl)<|.takeO 10 rfl (.load1 rfl) (by kernel_rfl) ?_
 refine .takeO 11 rfl (.i64 (s.now + 60) .add ⟨rfl, by omega, by omega⟩) (by kernel_rfl) ?_
 refine .takeO 12 rfl .move (by kernel_rfl)<|.takeO 13 rfl (.nilCheck rfl) (by kernel_rfl)<|.takeO 14 rfl (.fieldAddr rfl) (by kernel_rfl)<|.takeO 15 rfl (.load1 rfl) (by kernel_rfl) ?_
 refine RA.step2 1 19 rfl rfl (by kernel_rfl) rfl ?_ ?_
 refine .callR (otext_spec 99 vd d _ hd.rx hdl) (fun v hv => ?_)
 subst hv
 refine .nil (Next.sub ?_)
 refine RA.step2 16 19 rfl rfl (by kernel_rfl) rfl ?_ ?_
 refine .callR (vlast_spec gv s.V s.last Tv hV _ (fun p hp => .inr (by simp [hp]))) (fun v hv => ?_)
 subst hv
 refine .nil (Next.sub ?_)
 refine .takeO 17 rfl (.i64 (s.last + 1) .add ⟨rfl, by omega, by omega⟩) (by kernel_rfl) ?_
 refine .takeO 18 rfl .bld (by kernel_rfl) ?_
 refine RA.step 19 rfl (by kernel_rfl) rfl ?_
 refine .allocA (fun b17 => ?_)
 refine .nil (Next.sub ?_)
 refine RA.step 20 rfl (by kernel_rfl) rfl ?_
 refine .storeA rfl rfl ?_
 refine .nil (Next.mod rfl ?_)
 refine RA.nil (by kernel_rfl) ?_
 ·exact joinQ_n b17 trivial (EnvLe.k2 rfl rfl) (HLe.refl _)
 refine .allocA (fun b17 => ?_)
 refine .nil (Next.sub ?_)
 refine RA.step 16 rfl (by kernel_rfl) rfl ?_
 refine .callR (vlast_spec gv s.V s.last Tv hV _ (fun p hp => .inr (by simp [hp]))) (fun v hv => ?_)
 subst hv
 refine .nil (Next.sub ?_)
 refine .takeO 17 rfl (.i64 (s.last + 1) .add ⟨rfl, by omega, by omega⟩) (by kernel_rfl) ?_
 refine .takeO 18 rfl .bld (by kernel_rfl) ?_
 refine RA.step 20 rfl (by kernel_rfl) rfl ?_
 refine .storeA rfl rfl ?_
 refine .nil (Next.mod rfl ?_)
 refine RA.nil (by kernel_rfl) ?_
 ·exact joinQ_n b17 trivial (EnvLe.k2 rfl rfl) (HLe.refl _)
 refine .allocA (fun b17 => ?_)
 refine .nil (Next.sub ?_)
 refine RA.step 1 rfl (by kernel_rfl) rfl ?_
 refine .callR (otext_spec 99 vd d _ hd.rx hdl) (fun v hv => ?_)
 subst hv
 refine .nil (Next.sub ?_)
 refine RA.step 16 rfl (by kernel_rfl) rfl ?_
 refine .callR (vlast_spec gv s.V s.last Tv hV _ (fun p hp => .inr (by simp [hp]))) (fun v hv => ?_)
 subst hv
 refine .nil (Next.sub ?_)
 refine .takeO 17 rfl (.i64 (s.last + 1) .add ⟨rfl, by omega, by omega⟩) (by kernel_rfl) ?_
 refine .takeO 18 rfl .bld (by kernel_rfl) ?_
 refine RA.step 20 rfl (by kernel_rfl) rfl ?_
 refine .storeA rfl rfl ?_
 refine .nil (Next.mod rfl ?_)
 refine RA.nil (by kernel_rfl) ?_
 ·exact joinQ_n b17 trivial (EnvLe.k2 rfl rfl) (HLe.refl _)
 intro y hy
 have io : Ones (encG (.slice pvs scopes.length kvs, pCode s user id uri scopes ch d)) := encG_ones iv
 refine seqQ_n<|.seq<|.seq ?_
 refine .region_tail 5 mixed (by kernel_rfl) ?_
 conv => arg 6; dsimp only [List.take]
 refine .mo rfl<|.nc rfl<|.fa rfl<|.lo rfl<|.q (.loadA rfl)<|.nil ?_
 refine .callW (gissue_spec gb s.C s.A Tb hG (.slice pvs scopes.length kvs) (pCode s user id uri scopes ch d) _ (show RS _ 1 encS _ scopes from hs.mono fun b o hb => .inl hb) (show scopes.length ≤ 1000000 by omega)) (fun v T1 hv => ?_)
 obtain ⟨rfl, hG1⟩ := hv
 refine .ag rfl<|.z<|.mo rfl<|.q .neI<|.zn ?_
 refine .cond rfl (fun h4 => ?_) (fun h4 => ?_)
 refine .sr<|.mo rfl<|.ag rfl<|.ag rfl<|.zn ?_
 refine .ret (seqQ_r (retQ_r _ (.two (.tmp rfl) (.tmp rfl)) (.one [1, 1, 1, 1] _) ?_))
 ·have e : pAuth s user id uri scopes ch d = (e0, (gissue s.A (pCode s user id uri scopes ch d)).1, s) := by
   unfold pAuth
   rw [if_neg (by simp at h2; omega), if_neg (by simpa using h3), if_pos (by simpa using h4)]
  rw [e]
  have e2 : (gissue s.A (pCode s user id uri scopes ch d)).2 = s.A := by
   rcases gissue_cases s.A (pCode s user id uri scopes ch d) with ⟨_, e⟩ | ⟨e, _⟩
   ·exact e
   ·rw [e] at h4; simp at h4
  rw [e2] at hG1
  exact ⟨_, rfl, rfl, gc, gb, gv, Tc, T1, Tv, by simp [take, dropAt], hR, hG1, hV⟩
 refine .kn<|.sr<|.mo rfl<|.nc rfl<|.fa rfl<|.lo rfl ?_
 refine .callM (vfamily_spec gv s.V s.last Tv hV hl0 (by omega) R) (fun v T2 hv => ?_)
 obtain ⟨rfl, hV1⟩ := hv
 refine .z<|.fa rfl<|.lo rfl<|.ag rfl<|.ag rfl<|.zn ?_
 refine .ret (retQ_r _ (.two (.tmp rfl) (.tmp rfl)) (.one [1, 1, 1, 1] _) ?_)
 ·have e : pAuth s user id uri scopes ch d = (dtext 99 d, 0, { s with A := (gissue s.A (pCode s user id uri scopes ch d)).2, last := s.last + 1 }) := by
   unfold pAuth
   rw [if_neg (by simp at h2; omega), if_neg (by simpa using h3), if_neg (by simpa using h4)]
  rw [e]
  exact ⟨_, rfl, rfl, gc, gb, gv, Tc, T1, T2, by simp [take, dropAt], hR, hG1, hV1⟩
theorem obegin_spec (q : Nat) (s : OSt) (T : Seg) (h : CIs q s T) (id sec : ByteArray) (va vr : Value) (a r : List UInt8) (R : Rds) (hr : ∀ p ∈ T, R p.1 p.2) (ha : RS R 1 encU va a) (hrr : RS R 1 encU vr r) :
  Spec Tryz.prog 94 [.pointer (some ⟨q, 0, none⟩), .string id, .string sec, va, vr] R [] fun v H' => v = .int .i64 (pBegin s id sec a r) ∧ H' = [] := by
 obtain ⟨gc, gb, gv, Tc, Tb, Tv, rfl, hR, hG, hV⟩ := h
 have pq : PC R (.pointer (some ⟨q, 0, none⟩)) [.pointer (some ⟨gc, 0, none⟩), .pointer (some ⟨gb, 0, none⟩), .pointer (some ⟨gv, 0, none⟩), .int .i64 s.now] := PC.of (E := 63) (fr := (0, 0)) (hr (q, .cells [.pointer (some ⟨gc, 0, none⟩), .pointer (some ⟨gb, 0, none⟩), .pointer (some ⟨gv, 0, none⟩), .int .i64 s.now].toArray 63 (0, 0)) (by simp))
 have i1 := ha.oneCell
 have i2 := hrr.oneCell
 refine Spec.body Tryz.func94 rfl Tryz.results94 Tryz.ntmps94 rfl ?_
 refine .sr<|.ag rfl<|.zs<|.block<|.sr<|.mo rfl ?_
 refine .callR (ook_spec q gc _ _ _ _) (fun v hv => ?_)
 subst hv
 refine .q .not<|.ag rfl<|.zn<|.condF<|.sr<|.mo rfl<|.q (.lenR ha) ?_
 refine .q .neI<|.mo rfl ?_
 refine .split (t := 19) rfl (fun g3_3 => ?_) (fun g3_3 => ?_)
 refine .gF g3_3<|.gF g3_3<|.gF g3_3<|.q (.pickTh g3_3) ?_
 refine .ag rfl<|.zn<|.condT<|.sr<|.ag rfl<|.zn ?_
 refine .ret (blkQ_r (seqQ_r (retQ_r _ (.one (.tmp rfl)) (.none _) ?_)))
 ·refine ⟨congrArg (Value.int .i64) ?_, rfl⟩
  unfold pBegin
  exact (if_pos (by first | (exact .inl (by simp at g3_3; omega)) | (exact .inr (by simp at h2; omega)))).symm
 refine .gT g3_3<|.mo rfl<|.gT g3_3<|.q (.lenR hrr) ?_
 refine .gT g3_3<|.q .neI<|.q (.pickFh g3_3) ?_
 refine .ag rfl<|.zn ?_
 refine .cond rfl (fun h2 => ?_) (fun h2 => ?_)
 refine .sr<|.ag rfl<|.zn ?_
 refine .ret (blkQ_r (seqQ_r (retQ_r _ (.one (.tmp rfl)) (.none _) ?_)))
 ·refine ⟨congrArg (Value.int .i64) ?_, rfl⟩
  unfold pBegin
  exact (if_pos (by first | (exact .inl (by simp at g3_3; omega)) | (exact .inr (by simp at h2; omega)))).symm
 refine .skip<|blkQ_n<|seqQ_n<|.sr<|.mo rfl<|.nc rfl<|.fa rfl<|.lo rfl<|.mo rfl<|.mo rfl ?_
 refine .callR (cauth_spec gc s.cs Tc hR id sec _ (fun p hp => .inl (hr p (by simp [hp])))) (fun v hv => ?_)
 subst hv
 refine .ag rfl<|.zn ?_
 refine .ret (retQ_r _ (.one (.tmp rfl)) (.none _) ?_)
 ·refine ⟨congrArg (Value.int .i64) ?_, rfl⟩
  unfold pBegin
  exact (if_neg (by simp at g3_3 h2; omega)).symm
theorem orevoke_spec (q : Nat) (s : OSt) (T : Seg) (h : CIs q s T) (id sec text : ByteArray) (R : Rds) :
  Spec Tryz.prog 43 [.pointer (some ⟨q, 0, none⟩), .string id, .string sec, .string text] R [T] fun v H' => ∃ T', H' = [T'] ∧ v = .int .i64 (pRevoke s id sec text).1 ∧ CIs q (pRevoke s id sec text).2 T' := by
 obtain ⟨gc, gb, gv, Tc, Tb, Tv, rfl, hR, hG, hV⟩ := h
 refine Spec.segs (H' := [[(q, .cells [.pointer (some ⟨gc, 0, none⟩), .pointer (some ⟨gb, 0, none⟩), .pointer (some ⟨gv, 0, none⟩), .int .i64 s.now].toArray 63 (0, 0))], Tc, Tb, Tv]) (by simp) ?_
 refine Spec.body Tryz.func43 rfl Tryz.results43 Tryz.ntmps43 rfl ?_
 refine .sr<|.ag rfl<|.zs<|.sr<|.mo rfl ?_
 refine .callR (ook_spec q gc _ _ _ _) (fun v hv => ?_)
 subst hv
 refine .q .not<|.zn<|.condF<|.kn<|.seq<|.sr<|.mo rfl<|.nc rfl<|.fa rfl<|.lo rfl<|.mo rfl<|.mo rfl ?_
 refine .callR (cauth_spec gc s.cs Tc hR id sec _ (fun p hp => .inr (by simp [hp]))) (fun v hv => ?_)
 subst hv
 refine .ag rfl<|.z<|.mo rfl<|.q .neI<|.zn ?_
 refine .cond rfl (fun h2 => ?_) (fun h2 => ?_)
 refine .sr<|.mo rfl<|.ag rfl<|.zn ?_
 refine .ret (seqQ_r (retQ_r _ (.one (.tmp rfl)) (.one [0, 0, 0, 0] _) ?_))
 ·have e : pRevoke s id sec text = (cauthE id sec s.cs, s) := by unfold pRevoke; rw [if_pos (by unfold cauthE; simpa using h2)]
  rw [e]
  exact ⟨_, rfl, rfl, gc, gb, gv, Tc, Tb, Tv, by simp [take, dropAt], hR, hG, hV⟩
 refine .kn<|.sr<|.mo rfl<|.nc rfl<|.fa rfl<|.lo rfl<|.mo rfl<|.mo rfl ?_
 refine .callM (vrevoke_spec gv s.V s.last Tv hV text id R) (fun u T1 hu => ?_)
 obtain ⟨rfl, hV1⟩ := hu
 refine .ag rfl<|.zn ?_
 refine .ret (retQ_r _ (.one (.tmp rfl)) (.one [0, 0, 0, 0] _) ?_)
 ·have e : pRevoke s id sec text = ((trev s.V text id).1, { s with V := (trev s.V text id).2 }) := by unfold pRevoke; rw [if_neg (by unfold cauthE; simpa using h2)]
  rw [e]
  exact ⟨_, rfl, rfl, gc, gb, gv, Tc, Tb, T1, by simp [take, dropAt], hR, hG, hV1⟩
theorem tindexF_spec (f : FuncId) (caps : List Value) [e : Ent Tryz.prog f] (p : TP → Bool) (v : Value) (l : List TP) (R : Rds) (h : RS R 9 encT v l) (hf : ∀ s ∈ l, ∀ R', (∀ b o, R b o → R' b o) → Spec Tryz.prog f (.agg (encT s).toArray :: caps) R' [] fun u H' => u = .bool (p s) ∧ H' = []) :
  Spec Tryz.prog 222 [v, .func (.func f) #[] caps.toArray] R [] fun u H' => (∃ k : Int, u = .int .i64 k ∧ (decide (0 ≤ k) = l.any p)) ∧ H' = [] := by
 have hle := h.le
 have iv := h.oneCell
 refine Spec.body Tryz.func222 rfl Tryz.results222 Tryz.ntmps222 rfl ?_
 refine .sr<|.ag rfl<|.zs<|.sr<|.mo rfl<|.q (.lenR h) ?_
 refine .mo rfl<|.zn<|.block ?_
 refine .loop (X := Nat) (fun i => i ≤ l.length ∧ (l.take i).any p = false) (fun i => [(0, v), (1, .func (.func f) #[] caps.toArray), (7, .int .i64 l.length), (8, .int .i64 (i : Nat))]) (fun _ => []) (fun i => l.length - i) 0 ⟨by omega, by simp⟩ (EnvLe.k4 rfl rfl rfl rfl) (HLe.refl _) ?_
 rintro i ⟨hi, hn⟩
 refine .sr<|.q .lss<|.zs ?_
 refine .cond rfl (fun h1 => ?_) (fun h1 => ?_)
 have hlt : i < l.length := by simp at h1; omega
 obtain ⟨z, hz⟩ : ∃ z, l[i]? = some z := ⟨_, List.getElem?_eq_getElem hlt⟩
 have hzm := List.mem_of_getElem? hz
 have hta : (l.take (i + 1)).any p = ((l.take i).any p || p z) := by rw [List.take_add_one, hz, List.any_append]; simp
 refine .kn<|.seq<|.block<|.sr<|.mo rfl<|.ag rfl<|.z<|.mo rfl<|.mo rfl<|.mo rfl ?_
 refine .indexR i h hz (fun pz => ?_)
 refine .q (.loadA rfl) ?_
 refine .callRV (first := []) (captured := caps) (vs := [.agg (encT z).toArray]) (hf z hzm _ fun b o hb => .inl hb) (fun u hu => ?_)
 subst hu
 refine .zn ?_
 refine .cond rfl (fun h2 => ?_) (fun h2 => ?_)
 refine .sr<|.mo rfl<|.ag rfl<|.zn ?_
 refine .ret (blkQ_r (seqQ_r (loopQ_r (blkQ_r (seqQ_r (retQ_r _ (.one (.tmp rfl)) (.none _) ?_))))))
 ·refine ⟨⟨_, rfl, ?_⟩, rfl⟩
  rw [List.any_eq_true.2 ⟨z, hzm, h2⟩]; simp
 refine .skip<|blkQ_n<|seqQ_n<|.region ?_
 refine .q (.inc (n := i) (by omega)) ?_
 refine .mo rfl<|.nil ?_
 ·exact loopQ_i (i + 1) ⟨by omega, by rw [hta, hn, h2]; rfl⟩ (by omega) (EnvLe.k4 rfl rfl rfl rfl) (HLe.refl _)
 refine .exit<|seqQ_x<|loopQ_x<|blkQ_x<|seqQ_n<|.sr<|.ag rfl<|.zn ?_
 refine .ret (retQ_r _ (.one (.tmp rfl)) (.none _) ?_)
 ·have he : i = l.length := by simp at h1; omega
  rw [he, List.take_length] at hn
  exact ⟨⟨_, rfl, by rw [hn]; rfl⟩, rfl⟩
theorem tcontF_spec (f : FuncId) (caps : List Value) [e : Ent Tryz.prog f] (p : TP → Bool) (v : Value) (l : List TP) (R : Rds) (h : RS R 9 encT v l) (hf : ∀ s ∈ l, ∀ R', (∀ b o, R b o → R' b o) → Spec Tryz.prog f (.agg (encT s).toArray :: caps) R' [] fun u H' => u = .bool (p s) ∧ H' = []) :
  Spec Tryz.prog 162 [v, .func (.func f) #[] caps.toArray] R [] fun u H' => u = .bool (l.any p) ∧ H' = [] := by
 have iv := h.oneCell
 refine Spec.body Tryz.func162 rfl Tryz.results162 Tryz.ntmps162 rfl ?_
 refine .sr<|.ag rfl<|.z<|.mo rfl<|.mo rfl ?_
 refine .callR (tindexF_spec f caps p v l _ h.rx fun s hs R' hR => hf s hs R' fun b o hb => hR b o (.inl hb)) (fun u hu => ?_)
 obtain ⟨k, rfl, hk⟩ := hu
 refine .q .geq<|.ag rfl<|.zn ?_
 refine .ret (retQ_r _ (.one (.tmp rfl)) (.none _) ?_)
 ·exact ⟨by simp only [hk], rfl⟩
theorem any_kv {ps : List TP} {V : List (ByteArray × Tok)} (hp : (kv (toks ps)).Perm V) (hn : (V.map (·.1)).Nodup) (k : ByteArray) (g : Tok → Bool) : ps.any (fun p => decide (p.2.text = k) && g p.2) = ((mget k V).filter g).isSome := by
 rw [Bool.eq_iff_iff, List.any_eq_true, Option.isSome_iff_exists]
 constructor
 ·rintro ⟨p, hpm, hpk⟩
  simp only [Bool.and_eq_true, decide_eq_true_eq] at hpk
  have h1 : (k, p.2) ∈ V := hp.mem_iff.1 (List.mem_map.2 ⟨p.2, List.mem_map.2 ⟨p, hpm, rfl⟩, by rw [hpk.1]⟩)
  exact ⟨p.2, Option.filter_eq_some_iff.2 ⟨mget_of_mem hn h1, hpk.2⟩⟩
 ·rintro ⟨t, ht⟩
  obtain ⟨h1, h2⟩ := Option.filter_eq_some_iff.1 ht
  obtain ⟨u, hu, hue⟩ := List.mem_map.1 (hp.mem_iff.2 (mget_some h1))
  obtain ⟨p, hpm, rfl⟩ := List.mem_map.1 hu
  cases hue
  exact ⟨p, hpm, by simp [h2]⟩
theorem ohas1_spec (text : ByteArray) (b : Nat) (w : Value) (t : Tok) (hw : One w) (R : Rds) [pc : PC R (.pointer (some ⟨b, 0, none⟩)) [.string text]] :
  Spec Tryz.prog 217 [.agg (encT (w, t)).toArray, .pointer (some ⟨b, 0, none⟩)] R [] fun v H' => v = .bool (decide (t.text = text)) ∧ H' = [] := by
 have i0 := encT_ones (t := t) hw
 refine Spec.body Tryz.func217 rfl Tryz.results217 Tryz.ntmps217 rfl ?_
 refine .sr ?_
 refine .boxA rfl (fun b2 => ?_)
 refine .ag rfl<|.z<|.fa rfl<|.lo rfl<|.lo rfl<|.q .eqS<|.ag rfl<|.zn ?_
 refine .ret (retQ_r _ (.one (.tmp rfl)) (.none _) ?_)
 ·exact ⟨rfl, rfl⟩
theorem ospent1_spec (text id : ByteArray) (b b' : Nat) (w : Value) (t : Tok) (hw : One w) (R : Rds) [pc : PC R (.pointer (some ⟨b, 0, none⟩)) [.string text]] [pd : PC R (.pointer (some ⟨b', 0, none⟩)) [.string id]] :
  Spec Tryz.prog 163 [.agg (encT (w, t)).toArray, .pointer (some ⟨b, 0, none⟩), .pointer (some ⟨b', 0, none⟩)] R [] fun v H' => v = .bool (decide (t.text = text) && (t.kind == 2 && decide (t.client = id) && t.used)) ∧ H' = [] := by
 have i0 := encT_ones (t := t) hw
 refine Spec.body Tryz.func163 rfl Tryz.results163 Tryz.ntmps163 rfl ?_
 refine .sr ?_
 refine .boxA rfl (fun b3 => ?_)
 refine .ag rfl<|.z<|.fa rfl<|.lo rfl<|.lo rfl<|.q .eqS<|.mo rfl ?_
 refine .split (t := 9) rfl (fun g1_4 => ?_) (fun g1_4 => ?_)
 refine .gT g1_4<|.fa rfl<|.gT g1_4<|.lo rfl<|.gT g1_4<|.q .eqI<|.q (.pickTh g1_4) ?_
 refine .mo rfl ?_
 refine .split (t := 14) rfl (fun g1_9 => ?_) (fun g1_9 => ?_)
 refine .gT g1_9<|.fa rfl<|.gT g1_9<|.lo rfl<|.gT g1_9<|.lo rfl<|.gT g1_9<|.q .eqS<|.q (.pickTh g1_9) ?_
 refine .mo rfl ?_
 refine .split (t := 20) rfl (fun g1_15 => ?_) (fun g1_15 => ?_)
 refine .gT g1_15<|.fa rfl<|.gT g1_15<|.lo rfl<|.q (.pickTh g1_15) ?_
 refine .ag rfl<|.zn ?_
 refine .ret (retQ_r _ (.one (.tmp rfl)) (.none _) ?_)
 ·refine ⟨congrArg _ ?_, rfl⟩
  simp_all
 refine .gF g1_15<|.gF g1_15<|.q (.pickFh g1_15) ?_
 refine .ag rfl<|.zn ?_
 refine .ret (retQ_r _ (.one (.tmp rfl)) (.none _) ?_)
 ·refine ⟨congrArg _ ?_, rfl⟩
  simp_all
 refine .gF g1_9<|.gF g1_9<|.gF g1_9<|.gF g1_9<|.q (.pickFh g1_9) ?_
 refine .mo rfl<|.gf rfl rfl<|.gf rfl rfl<|.q .pickF<|.ag rfl<|.zn ?_
 refine .ret (retQ_r _ (.one (.tmp rfl)) (.none _) ?_)
 ·refine ⟨congrArg _ ?_, rfl⟩
  simp_all
 refine .gF g1_4<|.gF g1_4<|.gF g1_4<|.q (.pickFh g1_4) ?_
 refine .mo rfl<|.gf rfl rfl<|.gf rfl rfl<|.gf rfl rfl<|.gf rfl rfl<|.q .pickF<|.mo rfl<|.gf rfl rfl<|.gf rfl rfl<|.q .pickF<|.ag rfl<|.zn ?_
 refine .ret (retQ_r _ (.one (.tmp rfl)) (.none _) ?_)
 ·refine ⟨congrArg _ ?_, rfl⟩
  simp_all
theorem ohas_spec (q : Nat) (s : OSt) (T : Seg) (h : CIs q s T) (hl : s.V.length ≤ 1000000) (text : ByteArray) (R : Rds) (hr : ∀ p ∈ T, R p.1 p.2) :
  Spec Tryz.prog 159 [.pointer (some ⟨q, 0, none⟩), .string text] R [] fun v H' => v = .bool (mget text s.V).isSome ∧ H' = [] := by
 obtain ⟨gc, gb, gv, Tc, Tb, Tv, rfl, hR, hG, hV⟩ := h
 have pq : PC R (.pointer (some ⟨q, 0, none⟩)) [.pointer (some ⟨gc, 0, none⟩), .pointer (some ⟨gb, 0, none⟩), .pointer (some ⟨gv, 0, none⟩), .int .i64 s.now] := PC.of (E := 63) (fr := (0, 0)) (hr (q, .cells [.pointer (some ⟨gc, 0, none⟩), .pointer (some ⟨gb, 0, none⟩), .pointer (some ⟨gv, 0, none⟩), .int .i64 s.now].toArray 63 (0, 0)) (by simp))
 refine Spec.body Tryz.func159 rfl Tryz.results159 Tryz.ntmps159 rfl ?_
 refine .sr ?_
 refine .box1 rfl (fun b3 => ?_)
 refine .ag rfl<|.z<|.mo rfl<|.nc rfl<|.fa rfl<|.lo rfl ?_
 refine .callN (vlist_spec gv s.V s.last Tv hV hl _ (fun p hp => .inl (hr p (by simp [hp])))) (fun w T2 hw => ?_)
 obtain ⟨ps, To, Ti, rfl, hO, hps, hperm, _⟩ := hw
 have iw := hO.oneCell
 refine .q .makeFunc ?_
 refine .callR (tcontF_spec 217 [.pointer (some ⟨b3, 0, none⟩)] (fun p => decide (p.2.text = text)) w ps _ (hO.rs fun p hp => .inr (by simp [hp])) fun p hp R' hR' => by
  have : PC R' (.pointer (some ⟨b3, 0, none⟩)) [.string text] := PC.of (E := 9) (fr := (0, 0)) (hR' _ _ (.inr (by simp)))
  exact ohas1_spec text b3 p.1 p.2 (hps p hp).oneCell R') (fun v hv => ?_)
 subst hv
 refine .ag rfl<|.zn ?_
 refine .ret (retQ_r _ (.one (.tmp rfl)) (.none _) ?_)
 ·refine ⟨congrArg Value.bool ?_, rfl⟩
  have e := any_kv hperm hV.nd text (fun _ => true)
  simp only [Bool.and_true] at e
  rw [e]
  cases mget text s.V <;> rfl
theorem ospent_spec (q : Nat) (s : OSt) (T : Seg) (h : CIs q s T) (hl : s.V.length ≤ 1000000) (text id : ByteArray) (R : Rds) (hr : ∀ p ∈ T, R p.1 p.2) :
  Spec Tryz.prog 101 [.pointer (some ⟨q, 0, none⟩), .string text, .string id] R [] fun v H' => v = .bool ((pOwn s.V text id).filter fun t => t.used).isSome ∧ H' = [] := by
 obtain ⟨gc, gb, gv, Tc, Tb, Tv, rfl, hR, hG, hV⟩ := h
 have pq : PC R (.pointer (some ⟨q, 0, none⟩)) [.pointer (some ⟨gc, 0, none⟩), .pointer (some ⟨gb, 0, none⟩), .pointer (some ⟨gv, 0, none⟩), .int .i64 s.now] := PC.of (E := 63) (fr := (0, 0)) (hr (q, .cells [.pointer (some ⟨gc, 0, none⟩), .pointer (some ⟨gb, 0, none⟩), .pointer (some ⟨gv, 0, none⟩), .int .i64 s.now].toArray 63 (0, 0)) (by simp))
 refine Spec.body Tryz.func101 rfl Tryz.results101 Tryz.ntmps101 rfl ?_
 refine .sr ?_
 refine .box1 rfl (fun b4 => ?_)
 refine .box1 rfl (fun b5 => ?_)
 refine .ag rfl<|.z<|.mo rfl<|.nc rfl<|.fa rfl<|.lo rfl ?_
 refine .callN (vlist_spec gv s.V s.last Tv hV hl _ (fun p hp => .inl (hr p (by simp [hp])))) (fun w T2 hw => ?_)
 obtain ⟨ps, To, Ti, rfl, hO, hps, hperm, _⟩ := hw
 have iw := hO.oneCell
 refine .q .makeFunc ?_
 refine .callR (tcontF_spec 163 [.pointer (some ⟨b4, 0, none⟩), .pointer (some ⟨b5, 0, none⟩)] (fun p => decide (p.2.text = text) && (p.2.kind == 2 && decide (p.2.client = id) && p.2.used)) w ps _ (hO.rs fun p hp => .inr (by simp [hp])) fun p hp R' hR' => by
  have : PC R' (.pointer (some ⟨b4, 0, none⟩)) [.string text] := PC.of (E := 9) (fr := (0, 0)) (hR' _ _ (.inr (by simp)))
  have : PC R' (.pointer (some ⟨b5, 0, none⟩)) [.string id] := PC.of (E := 9) (fr := (0, 0)) (hR' _ _ (.inr (by simp)))
  exact ospent1_spec text id b4 b5 p.1 p.2 (hps p hp).oneCell R') (fun v hv => ?_)
 subst hv
 refine .ag rfl<|.zn ?_
 refine .ret (retQ_r _ (.one (.tmp rfl)) (.none _) ?_)
 ·refine ⟨congrArg Value.bool ?_, rfl⟩
  rw [any_kv hperm hV.nd text (fun t => t.kind == 2 && decide (t.client = id) && t.used)]
  unfold pOwn
  rw [Option.filter_filter]
theorem oroom_spec (q : Nat) (s : OSt) (T : Seg) (h : CIs q s T) (hl : s.V.length ≤ 1000000) (a r : ByteArray) (R : Rds) (hr : ∀ p ∈ T, R p.1 p.2) :
  Spec Tryz.prog 98 [.pointer (some ⟨q, 0, none⟩), .agg [.string a, .string r].toArray] R [] fun v H' => v = .int .i64 (pRoom s a r) ∧ H' = [] := by
 have h0 := h
 obtain ⟨gc, gb, gv, Tc, Tb, Tv, rfl, hR, hG, hV⟩ := h
 have pq : PC R (.pointer (some ⟨q, 0, none⟩)) [.pointer (some ⟨gc, 0, none⟩), .pointer (some ⟨gb, 0, none⟩), .pointer (some ⟨gv, 0, none⟩), .int .i64 s.now] := PC.of (E := 63) (fr := (0, 0)) (hr (q, .cells [.pointer (some ⟨gc, 0, none⟩), .pointer (some ⟨gb, 0, none⟩), .pointer (some ⟨gv, 0, none⟩), .int .i64 s.now].toArray 63 (0, 0)) (by simp))
 refine Spec.body Tryz.func98 rfl Tryz.results98 Tryz.ntmps98 rfl ?_
 refine .sr ?_
 refine .boxA rfl (fun b3 => ?_)
 refine .ag rfl<|.zs<|.block<|.sr<|.mo rfl<|.fa rfl<|.lo rfl ?_
 refine .callR (ohas_spec q s _ h0 hl a _ (fun p hp => .inl (hr p hp))) (fun v hv => ?_)
 subst hv
 refine .mo rfl ?_
 refine .split (t := 10) rfl (fun g1_4 => ?_) (fun g1_4 => ?_)
 refine .gF g1_4<|.gF g1_4<|.gF g1_4<|.gF g1_4<|.q (.pickTh g1_4) ?_
 refine .ag rfl<|.zn<|.condT<|.sr<|.ag rfl<|.zn ?_
 refine .ret (blkQ_r (seqQ_r (retQ_r _ (.one (.tmp rfl)) (.none _) ?_)))
 ·refine ⟨congrArg (Value.int .i64) ?_, rfl⟩
  unfold pRoom
  (rw [if_pos (by first | (exact .inl g1_4) | (exact .inr h1))]; done)
 refine .gT g1_4<|.mo rfl<|.gT g1_4<|.fa rfl<|.gT g1_4<|.lo rfl<|.gT g1_4 ?_
 refine .callR (ohas_spec q s _ h0 hl r _ (fun p hp => .inl (hr p hp))) (fun v hv => ?_)
 subst hv
 refine .q (.pickFh g1_4) ?_
 refine .ag rfl<|.zn ?_
 refine .cond rfl (fun h1 => ?_) (fun h1 => ?_)
 refine .sr<|.ag rfl<|.zn ?_
 refine .ret (blkQ_r (seqQ_r (retQ_r _ (.one (.tmp rfl)) (.none _) ?_)))
 ·refine ⟨congrArg (Value.int .i64) ?_, rfl⟩
  unfold pRoom
  (rw [if_pos (by first | (exact .inl g1_4) | (exact .inr h1))]; done)
 refine .sr<|.mo rfl<|.nc rfl<|.fa rfl<|.lo rfl ?_
 refine .callN (vlist_spec gv s.V s.last Tv hV hl _ (fun p hp => .inl (hr p (by simp [hp])))) (fun w T2 hw => ?_)
 obtain ⟨ps, To, Ti, rfl, hO, hps, hperm, _⟩ := hw
 have iw := hO.oneCell
 have hpl : s.V.length = ps.length := by have := hperm.length_eq; simp [kv] at this; omega
 refine .q (.lenO hO) ?_
 refine .q .gtr<|.ag rfl<|.zn ?_
 refine .cond rfl (fun h2 => ?_) (fun h2 => ?_)
 refine .sr<|.ag rfl<|.zn ?_
 refine .ret (blkQ_r (seqQ_r (retQ_r _ (.one (.tmp rfl)) (.none _) ?_)))
 ·refine ⟨congrArg (Value.int .i64) ?_, rfl⟩
  unfold pRoom
  (rw [if_neg (by rw [g1_4, h1]; simp), if_pos (by simp at h2; omega)]; done)
 refine .skip<|blkQ_n<|seqQ_n<|.sr<|.ag rfl<|.zn ?_
 refine .ret (retQ_r _ (.one (.tmp rfl)) (.none _) ?_)
 ·refine ⟨congrArg (Value.int .i64) ?_, rfl⟩
  unfold pRoom
  (rw [if_neg (by rw [g1_4, h1]; simp), if_neg (by simp at h2; omega)]; done)
theorem opairOf_spec (va vr : Value) (a r : List UInt8) (R : Rds) (ha : RS R 1 encU va a) (hrr : RS R 1 encU vr r) (hla : a.length ≤ 1000) (hlr : r.length ≤ 1000) :
  Spec Tryz.prog 97 [va, vr] R [] fun v H' => v = .agg [.string (dtext 97 a), .string (dtext 114 r)].toArray ∧ H' = [] := by
 have i1 := ha.oneCell
 have i2 := hrr.oneCell
 refine Spec.body Tryz.func97 rfl Tryz.results97 Tryz.ntmps97 rfl ?_
 refine .sr ?_
 refine .allocA (fun b4 => ?_)
 refine .z<|.mo rfl ?_
 refine .callR (otext_spec 97 va a _ ha.rx hla) (fun v hv => ?_)
 subst hv
 refine .mo rfl ?_
 refine .callR (otext_spec 114 vr r _ hrr.rx hlr) (fun v hv => ?_)
 subst hv
 refine .q .bld ?_
 refine .storeA rfl rfl<|.zn ?_
 refine .ret (retQ_r _ (.one (.cellA rfl rfl)) (.none _) ?_)
 ·exact ⟨rfl, rfl⟩
theorem oput_spec (q : Nat) (s : OSt) (T : Seg) (h : CIs q s T) (hn0 : 0 ≤ s.now) (hn1 : s.now ≤ 1125899906842624) (a r : ByteArray) (w : Value) (t : Tok) (R : Rds) (ht : TokR R (w, t)) (hf : t.few) :
  Spec Tryz.prog 100 [.pointer (some ⟨q, 0, none⟩), .agg [.string a, .string r].toArray, .agg (encT (w, t)).toArray] R [T] fun v H' => ∃ T', H' = [T'] ∧ CIs q { s with V := pPut s.V s.last s.now a r t } T' := by
 obtain ⟨gc, gb, gv, Tc, Tb, Tv, rfl, hR, hG, hV⟩ := h
 have i0 : Ones (encT (w, t)) := ⟨ht.ones⟩
 refine Spec.segs (H' := [[(q, .cells [.pointer (some ⟨gc, 0, none⟩), .pointer (some ⟨gb, 0, none⟩), .pointer (some ⟨gv, 0, none⟩), .int .i64 s.now].toArray 63 (0, 0))], Tc, Tb, Tv]) (by simp) ?_
 refine Spec.body Tryz.func100 rfl Tryz.results100 Tryz.ntmps100 rfl ?_
 refine .sr ?_
 refine .boxA rfl (fun b4 => ?_)
 refine .boxA rfl (fun b5 => ?_)
 refine .zs ?_
 refine Tri.cut (X := Unit) (fun _ => True) (fun _ => [(0, .pointer (some ⟨q, 0, none⟩)), (4, .pointer (some ⟨b4, 0, none⟩)), (5, .pointer (some ⟨b5, 0, none⟩))]) (fun _ => [[(b5, .cells (encT (w, pTok a 1 (s.now + 600) t)).toArray 48 (0, 0))], [(b4, .cells [.string a, .string r].toArray 160 (0, 0))], [(q, .cells [.pointer (some ⟨gc, 0, none⟩), .pointer (some ⟨gb, 0, none⟩), .pointer (some ⟨gv, 0, none⟩), .int .i64 s.now].toArray 63 (0, 0))], Tc, Tb, Tv]) ?_ ?_
 refine .region_any [0] [8, 10, 12] mixed ?_
 conv => arg 3; simp only [take, rest, dropAt, List.getD_cons_zero, List.getD_cons_succ]
 conv => arg 5; simp only [take, rest, dropAt, List.getD_cons_zero, List.getD_cons_succ]
 conv => arg 9; simp only [take, rest, dropAt, List.getD_cons_zero, List.getD_cons_succ]
 refine .takeO 0 rfl (.fieldAddr rfl) (by kernel_rfl)<|.takeO 1 rfl (.load1 rfl) (by kernel_rfl)<|.take 2 rfl .move (by kernel_rfl) ?_
 refine .take 3 rfl (.nilCheckA rfl) (by kernel_rfl) ?_
 refine .take 4 rfl (.fieldAddrA rfl) (by kernel_rfl) ?_
 refine .take 5 rfl (.load1 rfl) (by kernel_rfl) ?_
 refine .take 6 rfl (.i64 (s.now + 600) .add ⟨rfl, by omega, by omega⟩) (by kernel_rfl) ?_
 refine .takeO 7 rfl (.fieldAddr rfl) (by kernel_rfl) ?_
 refine RA.step 8 rfl (by kernel_rfl) rfl ?_
 refine .store1 rfl rfl ?_
 refine .nil (Next.mod rfl ?_)
 refine .take 9 rfl (.fieldAddrA rfl) (by kernel_rfl) ?_
 refine RA.step 10 rfl (by kernel_rfl) rfl ?_
 refine .store1 rfl rfl ?_
 refine .nil (Next.mod rfl ?_)
 refine .take 11 rfl (.fieldAddrA rfl) (by kernel_rfl) ?_
 refine RA.step 12 rfl (by kernel_rfl) rfl ?_
 refine .store1 rfl rfl ?_
 refine .nil (Next.mod rfl ?_)
 refine RA.nil (by kernel_rfl) ?_
 ·exact joinQ_n () trivial (EnvLe.k3 rfl rfl rfl) (HLe.refl _)
 intro y hy
 have i1 : Ones (encT (w, pTok a 1 (s.now + 600) t)) := encT_ones (show One w from ht.oneCell)
 refine seqQ_n<|.seq ?_
 refine .region_tail 5 mixed (by kernel_rfl) ?_
 conv => arg 6; dsimp only [List.take]
 refine .mo rfl<|.nc rfl<|.fa rfl<|.lo rfl<|.q (.loadA rfl)<|.nil ?_
 refine .callM (vPut_spec gv s.V s.last Tv hV w (pTok a 1 (s.now + 600) t) R (show RS R 1 encS w t.scopes from ht) hf) (fun u T1 hu => ?_)
 obtain ⟨rfl, hV1⟩ := hu
 refine .zs ?_
 refine Tri.cut (X := Unit) (fun _ => True) (fun _ => [(0, .pointer (some ⟨q, 0, none⟩)), (5, .pointer (some ⟨b5, 0, none⟩))]) (fun _ => [[(b5, .cells (encT (w, pTok r 2 (s.now + 100000) t)).toArray 48 (0, 0))], [(b4, .cells [.string a, .string r].toArray 160 (0, 0))], [(q, .cells [.pointer (some ⟨gc, 0, none⟩), .pointer (some ⟨gb, 0, none⟩), .pointer (some ⟨gv, 0, none⟩), .int .i64 s.now].toArray 63 (0, 0))], Tc, Tb, T1]) ?_ ?_
 refine .region_any [0] [8, 10, 12] mixed ?_
 conv => arg 3; simp only [take, rest, dropAt, List.getD_cons_zero, List.getD_cons_succ]
 conv => arg 5; simp only [take, rest, dropAt, List.getD_cons_zero, List.getD_cons_succ]
 conv => arg 9; simp only [take, rest, dropAt, List.getD_cons_zero, List.getD_cons_succ]
 refine .takeO 0 rfl (.fieldAddr rfl) (by kernel_rfl)<|.takeO 1 rfl (.load1 rfl) (by kernel_rfl)<|.take 2 rfl .move (by kernel_rfl) ?_
 refine .take 3 rfl (.nilCheckA rfl) (by kernel_rfl) ?_
 refine .take 4 rfl (.fieldAddrA rfl) (by kernel_rfl) ?_
 refine .take 5 rfl (.load1 rfl) (by kernel_rfl) ?_
 refine .take 6 rfl (.i64 (s.now + 100000) .add ⟨rfl, by omega, by omega⟩) (by kernel_rfl) ?_
 refine .takeO 7 rfl (.fieldAddr rfl) (by kernel_rfl) ?_
 refine RA.step 8 rfl (by kernel_rfl) rfl ?_
 refine .store1 rfl rfl ?_
 refine .nil (Next.mod rfl ?_)
 refine .take 9 rfl (.fieldAddrA rfl) (by kernel_rfl) ?_
 refine RA.step 10 rfl (by kernel_rfl) rfl ?_
 refine .store1 rfl rfl ?_
 refine .nil (Next.mod rfl ?_)
 refine .take 11 rfl (.fieldAddrA rfl) (by kernel_rfl) ?_
 refine RA.step 12 rfl (by kernel_rfl) rfl ?_
 refine .store1 rfl rfl ?_
 refine .nil (Next.mod rfl ?_)
 refine RA.nil (by kernel_rfl) ?_
 ·exact joinQ_n () trivial (EnvLe.k2 rfl rfl) (HLe.refl _)
 intro y hy
 have i2 : Ones (encT (w, pTok r 2 (s.now + 100000) t)) := encT_ones (show One w from ht.oneCell)
 refine seqQ_n ?_
 refine .region_tail 5 mixed (by kernel_rfl) ?_
 conv => arg 6; dsimp only [List.take]
 refine .mo rfl<|.nc rfl<|.fa rfl<|.lo rfl<|.q (.loadA rfl)<|.nil ?_
 refine .callM (vPut_spec gv _ s.last T1 hV1 w (pTok r 2 (s.now + 100000) t) R (show RS R 1 encS w t.scopes from ht) hf) (fun u T2 hu => ?_)
 obtain ⟨rfl, hV2⟩ := hu
 refine .nil<|retQ_n _ .none (.one [2, 2, 2, 2] _) ?_
 ·exact ⟨_, rfl, gc, gb, gv, Tc, Tb, T2, by simp [take, dropAt], hR, hG, hV2⟩
theorem oused_spec (q : Nat) (s : OSt) (T : Seg) (h : CIs q s T) (hl : s.A.length ≤ 1000000) (code id : ByteArray) (R : Rds) (hr : ∀ p ∈ T, R p.1 p.2) :
  Spec Tryz.prog 95 [.pointer (some ⟨q, 0, none⟩), .string code, .string id] R [] fun v H' => v = .tuple [.int .i64 ((pUsed s.A code id).getD Cod.zero).family, .bool (pUsed s.A code id).isSome].toArray ∧ H' = [] := by
 obtain ⟨gc, gb, gv, Tc, Tb, Tv, rfl, hR, hG, hV⟩ := h
 have pq : PC R (.pointer (some ⟨q, 0, none⟩)) [.pointer (some ⟨gc, 0, none⟩), .pointer (some ⟨gb, 0, none⟩), .pointer (some ⟨gv, 0, none⟩), .int .i64 s.now] := PC.of (E := 63) (fr := (0, 0)) (hr (q, .cells [.pointer (some ⟨gc, 0, none⟩), .pointer (some ⟨gb, 0, none⟩), .pointer (some ⟨gv, 0, none⟩), .int .i64 s.now].toArray 63 (0, 0)) (by simp))
 have hAn := hG.nd
 refine Spec.body Tryz.func95 rfl Tryz.results95 Tryz.ntmps95 rfl ?_
 refine .sr<|.ag rfl<|.ag rfl<|.zs<|.sr<|.mo rfl<|.nc rfl<|.fa rfl<|.lo rfl ?_
 refine .callN (gcodes_spec gb s.C s.A Tb hG hl _ (fun p hp => .inl (hr p (by simp [hp])))) (fun w T2 hw => ?_)
 obtain ⟨ps, To, Ti, rfl, hO, hps, hperm, _⟩ := hw
 have iw := hO.oneCell
 have hle := hO.le
 refine .sub (HLe.ofPerm (H' := [To, Ti]) (by simp)) ?_
 refine .q (.lenO hO) ?_
 refine .mo rfl<|.zn<|.block ?_
 refine .loop (X := Nat) (fun i => i ≤ ps.length ∧ ∀ p ∈ ps.take i, ¬ (p.2.text = code ∧ p.2.client = id ∧ p.2.used = true)) (fun i => [(1, .string code), (2, .string id), (14, w), (15, .int .i64 (ps.length : Nat)), (16, .int .i64 (i : Nat))]) (fun _ => [To, Ti]) (fun i => ps.length - i) 0 ⟨Nat.zero_le _, by simp⟩ (EnvLe.k5 rfl rfl rfl rfl rfl) (HLe.refl _) ?_
 rintro i ⟨hi, hno⟩
 refine .sr<|.q .lss<|.zs ?_
 refine .cond rfl (fun h1 => ?_) (fun h1 => ?_)
 have hlt : i < ps.length := by have := of_decide_eq_true h1; omega
 obtain ⟨z, hz⟩ : ∃ z, ps[i]? = some z := ⟨_, List.getElem?_eq_getElem hlt⟩
 obtain ⟨w0, c⟩ := z
 have hzm := List.mem_of_getElem? hz
 have ic : Ones (encG (w0, c)) := ⟨(hps _ hzm).ones⟩
 have hcA : (c.text, c) ∈ s.A := hperm.mem_iff.1 (List.mem_map.2 ⟨c, List.mem_map.2 ⟨_, hzm, rfl⟩, rfl⟩)
 have hnx : ¬ (c.text = code ∧ c.client = id ∧ c.used = true) → ∀ p ∈ ps.take (i + 1), ¬ (p.2.text = code ∧ p.2.client = id ∧ p.2.used = true) := fun hc p hp => by
  rcases (mem_take_succ hz p).1 hp with h9 | rfl
  ·exact hno p h9
  ·exact hc
 refine .kn<|.seq<|.block<|.sr ?_
 refine .indexO i hO hz (fun p18 => ?_)
 refine .q (.loadA rfl) ?_
 refine .allocA (fun b9 => ?_)
 refine .storeA (cs := encG (w0, c)) rfl rfl ?_
 refine .z<|.fa rfl<|.lo rfl<|.mo rfl<|.q .eqS<|.mo rfl ?_
 refine .split (t := 24) rfl (fun g4_4 => ?_) (fun g4_4 => ?_)
 refine .gT g4_4<|.fa rfl<|.gT g4_4<|.lo rfl<|.gT g4_4<|.mo rfl<|.gT g4_4<|.q .eqS<|.q (.pickTh g4_4) ?_
 refine .mo rfl ?_
 refine .split (t := 30) rfl (fun g4_10 => ?_) (fun g4_10 => ?_)
 refine .gT g4_10<|.fa rfl<|.gT g4_10<|.lo rfl<|.q (.pickTh g4_10) ?_
 refine .zn ?_
 refine .cond rfl (fun h2 => ?_) (fun h2 => ?_)
 have hsome : pUsed s.A code id = some c := by
  unfold pUsed
  have e : mget code s.A = some c := mget_of_mem hAn (by
   have : c.text = code := by simp_all
   rw [← this]; exact hcA)
  rw [e, Option.filter_some, if_pos]
  simp_all
 refine .sr<|.fa rfl<|.lo rfl<|.ag rfl<|.ag rfl<|.zn ?_
 refine .ret (blkQ_r (seqQ_r (loopQ_r (blkQ_r (seqQ_r (retQ_r _ (.two (.tmp rfl) (.tmp rfl)) (.none _) ?_))))))
 ·rw [hsome]; exact ⟨rfl, rfl⟩
 refine .skip<|blkQ_n<|seqQ_n<|.region ?_
 refine .q (.i64 ((i + 1 : Nat) : Int) .add ⟨by omega, by omega, by omega⟩) ?_
 refine .mo rfl<|.nil ?_
 ·exact loopQ_i (i + 1) ⟨hlt, hnx (fun h9 => by simp_all)⟩ (by omega) (EnvLe.k5 rfl rfl rfl rfl rfl) (HLe.pick [1, 1] _)
 refine .gF g4_10<|.gF g4_10<|.q (.pickFh g4_10) ?_
 refine .zn<|.condF<|.skip<|blkQ_n<|seqQ_n<|.region ?_
 refine .q (.i64 ((i + 1 : Nat) : Int) .add ⟨by omega, by omega, by omega⟩) ?_
 refine .mo rfl<|.nil ?_
 ·exact loopQ_i (i + 1) ⟨hlt, hnx (fun h9 => by simp_all)⟩ (by omega) (EnvLe.k5 rfl rfl rfl rfl rfl) (HLe.pick [1, 1] _)
 refine .gF g4_4<|.gF g4_4<|.gF g4_4<|.gF g4_4<|.q (.pickFh g4_4) ?_
 refine .mo rfl<|.gf rfl rfl<|.gf rfl rfl<|.q .pickF<|.zn<|.condF<|.skip<|blkQ_n<|seqQ_n<|.region ?_
 refine .q (.i64 ((i + 1 : Nat) : Int) .add ⟨by omega, by omega, by omega⟩) ?_
 refine .mo rfl<|.nil ?_
 ·exact loopQ_i (i + 1) ⟨hlt, hnx (fun h9 => by simp_all)⟩ (by omega) (EnvLe.k5 rfl rfl rfl rfl rfl) (HLe.pick [1, 1] _)
 have hi9 : i = ps.length := by have := of_decide_eq_false h1; omega
 have hnone : pUsed s.A code id = none := by
  unfold pUsed
  cases e : mget code s.A with
  | none => rfl
  | some c =>
   rw [Option.filter_some, if_neg]
   intro h9
   simp only [Bool.and_eq_true, decide_eq_true_eq] at h9
   obtain ⟨u, hu, hue⟩ := List.mem_map.1 (hperm.mem_iff.2 (mget_some e))
   obtain ⟨p, hp, rfl⟩ := List.mem_map.1 hu
   cases hue
   rw [hi9, List.take_length] at hno
   exact hno p hp ⟨rfl, h9.1, h9.2⟩
 refine .exit<|seqQ_x<|loopQ_x<|blkQ_x<|seqQ_n<|.sr<|.ag rfl<|.ag rfl<|.zn ?_
 refine .ret (retQ_r _ (.two (.tmp rfl) (.tmp rfl)) (.none _) ?_)
 ·rw [hnone]; exact ⟨rfl, rfl⟩
theorem gredeem1_spec (g : Nat) (C : List (Who × List ByteArray)) (A : List (ByteArray × Cod)) (T : Seg) (h : GI g C A T) (k client uri ver : ByteArray) (now : Int) (hv : ver.size ≤ 9223372036854775807) (R : Rds) (hg : PC R (.pointer (some ⟨1, 0, none⟩)) (wv ks)) :
  Spec Tryz.prog 99 [.pointer (some ⟨g, 0, none⟩), .string k, .string client, .string uri, .string ver, .int .i64 now] R [T] fun v H' => ∃ T', H' = [T'] ∧ ∃ Tb Tn, T' = Tb ++ Tn ∧ ∃ w, v = .tuple [.agg (encG (w, (gredeem A k client uri ver now).1)).toArray, .int .i64 (gredeem A k client uri ver now).2.1].toArray ∧ CodR (sg0 Tn) (w, (gredeem A k client uri ver now).1) ∧ GI g C (gredeem A k client uri ver now).2.2 Tb :=
 Spec.flat ((gredeem_spec g C A T h k client uri ver now hv R hg).mono fun v H' ⟨T', Tn, e, w, h1, h2, h3⟩ => ⟨H', T' ++ Tn, rfl, by rw [e]; simp, T' ++ Tn, rfl, T', Tn, rfl, w, h1, h2, h3⟩)
theorem vrotate1_spec (g : Nat) (A : List (ByteArray × Tok)) (last : Int) (T : Seg) (h : VI g A last T) (k client : ByteArray) (now : Int) (R : Rds) :
  Spec Tryz.prog 102 [.pointer (some ⟨g, 0, none⟩), .string k, .string client, .int .i64 now] R [T] fun v H' => ∃ T', H' = [T'] ∧ ∃ Tb Tn, T' = Tb ++ Tn ∧ ∃ w, v = .tuple [.agg (encT (w, (trot A k client now).1)).toArray, .int .i64 (trot A k client now).2.1].toArray ∧ TokR (sg0 Tn) (w, (trot A k client now).1) ∧ VI g (trot A k client now).2.2 last Tb :=
 Spec.flat ((vrotate_spec g A last T h k client now R).mono fun v H' ⟨T', Tn, e, w, h1, h2, h3⟩ => ⟨H', T' ++ Tn, rfl, by rw [e]; simp, T' ++ Tn, rfl, T', Tn, rfl, w, h1, h2, h3⟩)
theorem vcutI_spec (g : Nat) (A : List (ByteArray × Tok)) (last : Int) (T : Seg) (h : VI g A last T) (fam : Int) (R : Rds) :
  Spec Tryz.prog 96 [.pointer (some ⟨g, 0, none⟩), .int .i64 fam] R [T] fun v H' => ∃ T', H' = [T'] ∧ v = .int .i64 ((A.filter fun x => x.2.family == fam).length : Nat) ∧ VI g (A.filter fun x => !(x.2.family == fam)) last T' := by
 obtain ⟨Td, T0, rfl, hJ⟩ := h
 refine Spec.segs (H' := [T0, Td]) (by simp) ?_
 refine Spec.flat ((Spec.lend [0] (vcut_spec g A last Td T0 hJ fam _)).mono ?_)
 rintro v H' ⟨H1, rfl, T1, rfl, hv, hJ1⟩
 exact ⟨_, T1 ++ Td, rfl, by simp [rest, dropAt], T1 ++ Td, rfl, hv, Td, T1, rfl, hJ1⟩
theorem GI.few {g : Nat} {C : List (Who × List ByteArray)} {A : List (ByteArray × Cod)} {T : Seg} (h : GI g C A T) : ∀ p ∈ A, p.2.few := by
 obtain ⟨Td, _, rfl, vc, MC, vm, M, q, Tc, Tm, Tq, rfl, _, hM, hI, hA, hQ⟩ := h
 intro p hp
 obtain ⟨x, hx, rfl⟩ := mem_kmap (hA.mem_iff.2 hp)
 exact (hI x hx).2.2
theorem VI.few {g : Nat} {A : List (ByteArray × Tok)} {last : Int} {T : Seg} (h : VI g A last T) : ∀ p ∈ A, p.2.few := by
 obtain ⟨Td, T0, rfl, vm, M, q, Tm, Tq, rfl, hM, hI, hA, hQ⟩ := h
 intro p hp
 obtain ⟨x, hx, rfl⟩ := mem_kmap (hA.mem_iff.2 hp)
 exact (hI x hx).2.2
theorem gredeem_few {A : List (ByteArray × Cod)} (hA : ∀ p ∈ A, p.2.few) (k client uri ver : ByteArray) (now : Int) : (gredeem A k client uri ver now).1.scopes.length ≤ 1000000 := by
 unfold gredeem
 split
 ·simp [Cod.zero]
 ·rename_i t ht
  have h := hA _ (mget_some ht)
  split
  ·simp [Cod.zero]
  ·split
   ·exact h
   ·split
    ·simp [Cod.zero]
    ·exact h
theorem oexch_spec (q : Nat) (s : OSt) (T : Seg) (h : CIs q s T) (k : Nat) (hb : OB s k) (hk : k ≤ 1000) (id sec code uri ver : ByteArray) (va vr : Value) (a r : List UInt8) (rev : Int) (hver : ver.size ≤ 9223372036854775807) (hla : a.length ≤ 1000) (hlr : r.length ≤ 1000) (R : Rds) (ha : RS R 1 encU va a) (hrr : RS R 1 encU vr r) (hg : PC R (.pointer (some ⟨1, 0, none⟩)) (wv ks)) :
  Spec Tryz.prog 41 [.pointer (some ⟨q, 0, none⟩), .string id, .string sec, .string code, .string uri, .string ver, va, vr, .int .u64 rev] R [T] fun v H' => ∃ T', H' = [T'] ∧ v = .tuple [.string (pExch s id sec code uri ver a r rev).1, .string (pExch s id sec code uri ver a r rev).2.1, .int .i64 (pExch s id sec code uri ver a r rev).2.2.1].toArray ∧ CIs q (pExch s id sec code uri ver a r rev).2.2.2 T' := by
 have h0 := h
 obtain ⟨gc, gb, gv, Tc, Tb, Tv, rfl, hR, hG, hV⟩ := h
 have i1 := ha.oneCell
 have i2 := hrr.oneCell
 have hn0 := hb.n0
 have hn1 := hb.n1
 have hVl : s.V.length ≤ 1000000 := by have := hb.V; omega
 have hAl : s.A.length ≤ 1000000 := by have := hb.A; omega
 refine Spec.segs (H' := [[(q, .cells [.pointer (some ⟨gc, 0, none⟩), .pointer (some ⟨gb, 0, none⟩), .pointer (some ⟨gv, 0, none⟩), .int .i64 s.now].toArray 63 (0, 0))], Tc, Tb, Tv]) (by simp) ?_
 refine Spec.body Tryz.func41 rfl Tryz.results41 Tryz.ntmps41 rfl ?_
 refine .sr<|.ag rfl<|.ag rfl<|.ag rfl<|.zs<|.sr<|.mo rfl<|.mo rfl<|.mo rfl<|.mo rfl<|.mo rfl ?_
 refine .callR (obegin_spec q s _ h0 id sec va vr a r _ (fun p hp => .inr (show p ∈ List.flatten _ from by simpa using hp)) ha.rx hrr.rx) (fun v hv => ?_)
 subst hv
 refine .ag rfl<|.z<|.mo rfl<|.q .neI<|.zn ?_
 refine .cond rfl (fun h1 => ?_) (fun h1 => ?_)
 refine .sr<|.mo rfl<|.ag rfl<|.ag rfl<|.ag rfl<|.zn ?_
 refine .ret (seqQ_r (retQ_r _ (.three (.tmp rfl) (.tmp rfl) (.tmp rfl)) (.one [0, 0, 0, 0] _) ?_))
 ·have e : pExch s id sec code uri ver a r rev = (e0, e0, pBegin s id sec a r, s) := by unfold pExch; rw [if_pos (by simpa using h1)]
  rw [e]
  exact ⟨_, rfl, rfl, gc, gb, gv, Tc, Tb, Tv, by simp [take, dropAt], hR, hG, hV⟩
 refine .kn<|.seq<|.sr<|.mo rfl<|.mo rfl<|.mo rfl ?_
 refine .callR (oused_spec q s _ h0 hAl code id _ (fun p hp => .inr (show p ∈ List.flatten _ from by simpa using hp))) (fun v hv => ?_)
 subst hv
 refine .mo rfl<|.q .extract<|.q .extract<|.ag rfl<|.ag rfl<|.z<|.mo rfl<|.zn ?_
 refine .cond rfl (fun h2 => ?_) (fun h2 => ?_)
 refine .sr<|.mo rfl<|.nc rfl<|.fa rfl<|.lo rfl<|.mo rfl ?_
 refine .callM (vcutI_spec gv s.V s.last Tv hV _ R) (fun u T1 hu => ?_)
 obtain ⟨_, hV1⟩ := hu
 refine .z<|.ag rfl<|.ag rfl<|.ag rfl<|.zn ?_
 refine .ret (seqQ_r (retQ_r _ (.three (.tmp rfl) (.tmp rfl) (.tmp rfl)) (.one [0, 0, 0, 0] _) ?_))
 ·obtain ⟨c, hc⟩ := Option.isSome_iff_exists.1 h2
  have e : pExch s id sec code uri ver a r rev = (e0, e0, 18, { s with V := s.V.filter fun x => !(x.2.family == c.family) }) := by unfold pExch; rw [if_neg (by simpa using h1), hc]
  rw [e]
  rw [hc] at hV1
  exact ⟨_, rfl, rfl, gc, gb, gv, Tc, Tb, T1, by simp [take, dropAt], hR, hG, hV1⟩
 have hun : pUsed s.A code id = none := by simpa using h2
 refine .kn<|.sr<|.mo rfl<|.mo rfl ?_
 refine .callR (opairOf_spec va vr a r _ ha.rx hrr.rx hla hlr) (fun v hv => ?_)
 subst hv
 refine .allocA (fun b24 => ?_)
 refine .storeA rfl rfl<|.zs<|.sr<|.mo rfl<|.q (.loadA rfl) ?_
 refine .callR (oroom_spec q s _ h0 hVl (dtext 97 a) (dtext 114 r) _ (fun p hp => .inr (show p ∈ List.flatten _ from by simp at hp ⊢; exact .inr hp))) (fun v hv => ?_)
 subst hv
 refine .ag rfl<|.z<|.mo rfl<|.q .neI<|.zn ?_
 refine .cond rfl (fun h3 => ?_) (fun h3 => ?_)
 refine .sr<|.mo rfl<|.ag rfl<|.ag rfl<|.ag rfl<|.zn ?_
 refine .ret (seqQ_r (retQ_r _ (.three (.tmp rfl) (.tmp rfl) (.tmp rfl)) (.one [1, 1, 1, 1] _) ?_))
 ·have e : pExch s id sec code uri ver a r rev = (e0, e0, pRoom s (dtext 97 a) (dtext 114 r), s) := by
   unfold pExch; rw [if_neg (by simpa using h1), hun]; simp only; rw [if_pos (by simpa using h3)]
  rw [e]
  exact ⟨_, rfl, rfl, gc, gb, gv, Tc, Tb, Tv, by simp [take, dropAt], hR, hG, hV⟩
 refine .kn<|.seq ?_
 refine Tri.cut (X := Nat × Value × Seg × Seg) (fun y => CodR (sg0 y.2.2.2) (y.2.1, (gredeem s.A code id uri ver s.now).1) ∧ GI gb s.C (gredeem s.A code id uri ver s.now).2.2 y.2.2.1) (fun y => [(0, .pointer (some ⟨q, 0, none⟩)), (1, .string id), (8, .int .u64 rev), (24, .pointer (some ⟨b24, 0, none⟩)), (26, .pointer (some ⟨y.1, 0, none⟩)), (27, .int .i64 (gredeem s.A code id uri ver s.now).2.1)]) (fun y => [[(y.1, .cells (encG (y.2.1, (gredeem s.A code id uri ver s.now).1)).toArray 53 (0, 0))], [(b24, .cells [.string (dtext 97 a), .string (dtext 114 r)].toArray 160 (0, 0))], [(q, .cells [.pointer (some ⟨gc, 0, none⟩), .pointer (some ⟨gb, 0, none⟩), .pointer (some ⟨gv, 0, none⟩), .int .i64 s.now].toArray 63 (0, 0))], Tc, y.2.2.1 ++ y.2.2.2, Tv]) ?_ ?_
 refine .region_all [12, 17] mixed ?_
 refine .takeO 0 rfl .move (by kernel_rfl)<|.takeO 1 rfl (.nilCheck rfl) (by kernel_rfl)<|.takeO 2 rfl (.fieldAddr rfl) (by kernel_rfl)<|.takeO 3 rfl (.load1 rfl) (by kernel_rfl)<|.takeO 4 rfl .move (by kernel_rfl)<|.takeO 5 rfl .move (by kernel_rfl)<|.takeO 6 rfl .move (by kernel_rfl)<|.takeO 7 rfl .move (by kernel_rfl)<|.takeO 8 rfl .move (by kernel_rfl)<|.takeO 9 rfl (.nilCheck rfl) (by kernel_rfl)<|.takeO 10 rfl (.fieldAddr rfl) (by kernel_rfl)<|.takeO 11 rfl (.load1 rfl) (by kernel_rfl) ?_
 refine RA.step2 12 16 rfl rfl (by kernel_rfl) rfl ?_ ?_
 refine .callM (gredeem1_spec gb s.C s.A Tb hG code id uri ver s.now hver R hg) (fun v T1 hv => ?_)
 obtain ⟨Tb1, Tn, rfl, w1, rfl, hc1, hG1⟩ := hv
 have j1 : Ones (encG (w1, (gredeem s.A code id uri ver s.now).1)) := ⟨hc1.ones⟩
 refine .nil (Next.mod rfl ?_)
 refine .take 13 rfl .move (by kernel_rfl)<|.take 14 rfl .extract (by kernel_rfl)<|.take 15 rfl .extract (by kernel_rfl) ?_
 refine RA.step 16 rfl (by kernel_rfl) rfl ?_
 refine .allocA (fun b26 => ?_)
 refine .nil (Next.mod rfl ?_)
 refine RA.step 17 rfl (by kernel_rfl) rfl ?_
 refine .storeA rfl rfl ?_
 refine .nil (Next.mod rfl ?_)
 refine .take 18 rfl .assign (by kernel_rfl) ?_
 refine RA.nil (by kernel_rfl) ?_
 ·exact joinQ_n (b26, w1, Tb1, Tn) ⟨hc1, hG1⟩ (EnvLe.k6 rfl rfl rfl rfl rfl rfl) (HLe.refl _)
 refine .allocA (fun b26 => ?_)
 refine .nil (Next.sub ?_)
 refine RA.step 12 rfl (by kernel_rfl) rfl ?_
 refine .callM (gredeem1_spec gb s.C s.A Tb hG code id uri ver s.now hver R hg) (fun v T1 hv => ?_)
 obtain ⟨Tb1, Tn, rfl, w1, rfl, hc1, hG1⟩ := hv
 have j1 : Ones (encG (w1, (gredeem s.A code id uri ver s.now).1)) := ⟨hc1.ones⟩
 refine .nil (Next.mod rfl ?_)
 refine .take 13 rfl .move (by kernel_rfl)<|.take 14 rfl .extract (by kernel_rfl)<|.take 15 rfl .extract (by kernel_rfl) ?_
 refine RA.step 17 rfl (by kernel_rfl) rfl ?_
 refine .storeA rfl rfl ?_
 refine .nil (Next.mod rfl ?_)
 refine .take 18 rfl .assign (by kernel_rfl) ?_
 refine RA.nil (by kernel_rfl) ?_
 ·exact joinQ_n (b26, w1, Tb1, Tn) ⟨hc1, hG1⟩ (EnvLe.k6 rfl rfl rfl rfl rfl rfl) (HLe.refl _)
 intro y hy
 obtain ⟨b26, w1, Tb1, Tn⟩ := y
 obtain ⟨hc1, hG1⟩ := hy
 simp only at hc1 hG1 ⊢
 have j1 : Ones (encG (w1, (gredeem s.A code id uri ver s.now).1)) := ⟨hc1.ones⟩
 have j2 : One w1 := hc1.oneCell
 refine seqQ_n<|.seq<|.sr<|.mo rfl<|.q .neI<|.zn ?_
 refine .cond rfl (fun h4 => ?_) (fun h4 => ?_)
 refine .sr<|.ag rfl<|.ag rfl<|.ag rfl<|.zn ?_
 refine .ret (seqQ_r (retQ_r _ (.three (.tmp rfl) (.tmp rfl) (.tmp rfl)) ((HLe.pick [2, 2, 2, 2] _).trans (⟨Tn, by first | (simp [take, dropAt]; done) | (simp [take, dropAt]; exact List.Perm.append_left _ (List.Perm.append_left _ List.perm_append_comm))⟩ : HLe _ [(q, .cells [.pointer (some ⟨gc, 0, none⟩), .pointer (some ⟨gb, 0, none⟩), .pointer (some ⟨gv, 0, none⟩), .int .i64 s.now].toArray 63 (0, 0)) :: (Tc ++ (Tb1 ++ Tv))])) ?_))
 ·have e : pExch s id sec code uri ver a r rev = (e0, e0, 18, { s with A := (gredeem s.A code id uri ver s.now).2.2 }) := by
   unfold pExch; rw [if_neg (by simpa using h1), hun]; simp only; rw [if_neg (by simpa using h3), if_pos (by simpa using h4)]
  rw [e]
  exact ⟨_, rfl, rfl, gc, gb, gv, Tc, Tb1, Tv, rfl, hR, hG1, hV⟩
 obtain ⟨pw1, kw1, hw1⟩ := RS.val (show RS _ 1 encS w1 (gredeem s.A code id uri ver s.now).1.scopes from hc1)
 subst hw1
 refine Tri.le (EnvLe.refl _) (HLe.ofPerm (H' := [[(b26, .cells (encG (.slice pw1 (gredeem s.A code id uri ver s.now).1.scopes.length kw1, (gredeem s.A code id uri ver s.now).1)).toArray 53 (0, 0))], [(b24, .cells [.string (dtext 97 a), .string (dtext 114 r)].toArray 160 (0, 0))], (q, .cells [.pointer (some ⟨gc, 0, none⟩), .pointer (some ⟨gb, 0, none⟩), .pointer (some ⟨gv, 0, none⟩), .int .i64 s.now].toArray 63 (0, 0)) :: (Tc ++ (Tb1 ++ Tv)), Tn]) (by first | (simp; done) | (simp; exact List.Perm.append_left _ (List.Perm.append_left _ List.perm_append_comm)))) ?_
 have ps2 : PS ((q, .cells [.pointer (some ⟨gc, 0, none⟩), .pointer (some ⟨gb, 0, none⟩), .pointer (some ⟨gv, 0, none⟩), .int .i64 s.now].toArray 63 (0, 0)) :: (Tc ++ (Tb1 ++ Tv))) (.pointer (some ⟨q, 0, none⟩)) [.pointer (some ⟨gc, 0, none⟩), .pointer (some ⟨gb, 0, none⟩), .pointer (some ⟨gv, 0, none⟩), .int .i64 s.now] := PS.of (E := 63) (fr := (0, 0)) (by simp)
 refine .kn<|.sr<|.mo rfl<|.q (.loadA rfl)<|.mo rfl<|.fa rfl<|.lo rfl<|.fa rfl<|.lo rfl<|.fa rfl<|.lo rfl<|.mo rfl ?_
 refine .q .bld ?_
 refine .callW (oput_spec q { s with A := (gredeem s.A code id uri ver s.now).2.2 } _ ⟨gc, gb, gv, Tc, Tb1, Tv, rfl, hR, hG1, hV⟩ hn0 hn1 (dtext 97 a) (dtext 114 r) (.slice pw1 (gredeem s.A code id uri ver s.now).1.scopes.length kw1) ⟨e0, 0, id, (gredeem s.A code id uri ver s.now).1.user, (gredeem s.A code id uri ver s.now).1.scopes, (gredeem s.A code id uri ver s.now).1.family, 0, rev, false⟩ _ (show RS _ 1 encS _ (gredeem s.A code id uri ver s.now).1.scopes from RS.mono hc1 fun b o hb => .inr (by have hb' : (b, o) ∈ Tn := hb.1; simp [hb'])) (gredeem_few hG.few _ _ _ _ _)) (fun v T3 hv => ?_)
 refine .zs ?_
 refine .region_still mixed (by kernel_rfl) ?_
 refine .fa rfl<|.lo rfl<|.fa rfl<|.lo rfl<|.ag rfl<|.ag rfl<|.ag rfl<|.zn ?_
 refine .ret (retQ_r _ (.three (.tmp rfl) (.tmp rfl) (.tmp rfl)) (.one [2] _) ?_)
 ·have e : pExch s id sec code uri ver a r rev = (dtext 97 a, dtext 114 r, 0, { s with A := (gredeem s.A code id uri ver s.now).2.2, V := pPut s.V s.last s.now (dtext 97 a) (dtext 114 r) ⟨e0, 0, id, (gredeem s.A code id uri ver s.now).1.user, (gredeem s.A code id uri ver s.now).1.scopes, (gredeem s.A code id uri ver s.now).1.family, 0, rev, false⟩ }) := by
   unfold pExch; rw [if_neg (by simpa using h1), hun]; simp only; rw [if_neg (by simpa using h3), if_neg (by simpa using h4)]
  rw [e]
  exact ⟨_, rfl, rfl, by simpa [take] using hv⟩
end Go.Proofs.YtkagfkbkpiebjaaGreatDoor
