/- The engine, in one of its parts: rules by which functions are walked, over any program. No condition. -/
import Derived.Test.YtkepgbimlolemaaMot5

set_option linter.unusedVariables false
namespace Go.Proofs.Ytkepgbimlolemaa
section
variable {P : Program} {N : Nat} {R R' : Rds} {ops : Array Oper} {l : List Oper} {env : Env} {H : Segs} {K : Env → Segs → Prop} {T : Seg} {upd : Seg → Segs}
theorem Spec.atX {f : FuncId} {args : List Value} {H1 H2 : Segs} {T : Seg} {Post : Value → Seg → Prop} (h : Spec P f args (Rx R (H1 ++ H2)) [T] fun v H' => ∃ T', H' = [T'] ∧ Post v T') : Spec P f args R (H1 ++ T :: H2) fun v H' => ∃ T', H' = H1 ++ T' :: H2 ∧ Post v T' := fun w hs hro => by
  have hp : (H1 ++ T :: H2).flatten.Perm ([T] ++ (H1 ++ H2)).flatten := by
    simp only [List.flatten_append, List.flatten_cons, List.flatten_nil, List.append_nil]
    rw [← List.append_assoc, ← List.append_assoc]
    exact List.perm_append_comm.append_right _
  have hs1 : Sat w ([T] ++ (H1 ++ H2)) := hs.perm hp
  have hT : take [0] ([T] ++ (H1 ++ H2)) = [T] := rfl
  have hR : rest [0] ([T] ++ (H1 ++ H2)) = H1 ++ H2 := rfl
  have ro1 : RO w R ([T] ++ (H1 ++ H2)) := fun b o hb => ⟨(hro b o hb).1, fun p hm => (hro b o hb).2 p (hp.mem_iff.2 hm)⟩
  obtain ⟨s1, s2, s3⟩ := sat_split (is := [0]) hs1
  have ro2 := RO.split (is := [0]) hs1 ro1
  rw [hT] at s1 ro2 s3; rw [hR] at ro2 s2 s3
  refine (h w s1 ro2).mono fun e w' ⟨v, H', he, ⟨T', hT', hq⟩, hs', hf⟩ => ?_
  subst hT'
  obtain ⟨j1, j2⟩ := sat_join (is := [0]) (H' := [T']) hs1 hs' hf
  rw [hR] at j1 j2
  have hp' : ([T'] ++ (H1 ++ H2)).flatten.Perm (H1 ++ T' :: H2).flatten := by
    simp only [List.flatten_append, List.flatten_cons, List.flatten_nil, List.append_nil]
    rw [← List.append_assoc, ← List.append_assoc]
    exact List.perm_append_comm.append_right _
  refine ⟨v, _, he, ⟨T', rfl, hq⟩, j1.perm hp', ⟨j2.le, fun b hb hn => j2.keep b hb fun p hm => hn p (hp.mem_iff.2 hm), fun p hm => ?_, j2.os, j2.output, j2.tape⟩⟩
  rcases j2.dom p (hp'.mem_iff.2 hm) with ⟨q, hq, he⟩ | hge
  · exact .inl ⟨q, hp.mem_iff.2 hq, he⟩
  · exact .inr hge
theorem TriOps.callW_gen {dst : Option Nat} {op : Op} {ty : TypeId} {pos : String} {af : Array Edge} {f : FuncId} {vs : List Value} {Post : Value → Seg → Prop} [sa : SegAt H T upd]
    (hx : ∀ a w, EnvOK a env → (execOp a.eval ⟨dst, op, ty, pos, af, none⟩).run P w = .ok (.enter f vs.toArray) w)
    (hs : Spec P f vs (Rx R (upd [])) [T] fun v H' => ∃ T', H' = [T'] ∧ Post v T')
    (hn : ∀ v T', Post v T' → match dst with
      | some d => Nat.blt d N = true ∧ TriOps false P N R ops l ((d, v) :: env) (upd T') K
      | none => TriOps false P N R ops l env (upd T') K) :
    TriOps false P N R ops (⟨dst, op, ty, pos, af, none⟩ :: l) env H K := by
  obtain ⟨H1, H2, h1, h2⟩ := sa.h
  refine TriOps.call_gen (H.map fun _ => 0) (Post := fun v H' => ∃ T', H' = H1 ++ T' :: H2 ∧ Post v T') hx ?_ ?_
  · rw [take_all, rest_all, h1]
    refine Spec.atX (H1 := H1) (H2 := H2) (hs.weaken fun b o hb => ?_)
    rw [h2] at hb
    rcases hb with hb | hb
    · exact .inl (.inl hb)
    · exact .inr (by simpa using hb)
  · intro v H' ⟨T', e1, e2⟩
    rw [rest_all, List.append_nil, e1, ← h2]
    exact hn v T' e2
/-- A call that changes one segment; all else that is owned may be read. -/
theorem TriOps.callW {d : Nat} {ty : TypeId} {pos : String} {af : Array Edge} {f : FuncId} [e : Ent P f] {xs : List Operand} {ats : Array TypeId} {vs : List Value} {Post : Value → Seg → Prop} [sa : SegAt H T upd]
    (hs : Spec P f vs (Rx R (upd [])) [T] fun v H' => ∃ T', H' = [T'] ∧ Post v T') (hn : ∀ v T', Post v T' → TriOps false P N R ops l ((d, v) :: env) (upd T') K) (hxs : evs env xs = some vs := by rfl) (hd : Nat.blt d N = true := by rfl) :
    TriOps false P N R ops (⟨some d, .call ⟨.value (.func f), xs.toArray, ats⟩, ty, pos, af, none⟩ :: l) env H K :=
  TriOps.callW_gen (fun a w ha => run_call hxs a w ha) hs (fun v T' hp => ⟨hd, hn v T' hp⟩)
theorem TriOps.callW0 {ty : TypeId} {pos : String} {af : Array Edge} {f : FuncId} [e : Ent P f] {xs : List Operand} {ats : Array TypeId} {vs : List Value} {Post : Value → Seg → Prop} [sa : SegAt H T upd]
    (hs : Spec P f vs (Rx R (upd [])) [T] fun v H' => ∃ T', H' = [T'] ∧ Post v T') (hn : ∀ v T', Post v T' → TriOps false P N R ops l env (upd T') K) (hxs : evs env xs = some vs := by rfl) :
    TriOps false P N R ops (⟨none, .call ⟨.value (.func f), xs.toArray, ats⟩, ty, pos, af, none⟩ :: l) env H K :=
  TriOps.callW_gen (fun a w ha => run_call hxs a w ha) hs (fun v T' hp => hn v T' hp)
/-- A segment taken apart. -/
theorem HLe.open_ {S : Segs} (i : Nat) (hT : H.getD i [] = S.flatten) : HLe H (S ++ dropAt i H) := ⟨[], by rw [List.append_nil, List.flatten_append, ← hT]; exact dropAt_perm i H⟩
end
end Go.Proofs.Ytkepgbimlolemaa
