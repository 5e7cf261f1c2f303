/- The engine, part 18: a value by another name, at operations; over any program, no condition. -/
import Derived.Test.YtlmdgdehjpahiaaEngJ
set_option linter.unusedVariables false
namespace Go.Proofs.Ytlmdgdehjpahiaa
section
variable {P : Program} {N : Nat} {R R' : Rds} {ops : Array Oper} {l : List Oper} {env : Env} {H : Segs} {K : Env → Segs → Prop} {Q : Exit → Env → Segs → Prop} {T : Seg} {upd : Seg → Segs} {ty : TypeId} {pos : String} {af : Array Edge} {m : Bool}
theorem Quiet.cast {op : Op} {v v' : Value} (h : Quiet P R env H op ty v) (e : v = v') : Quiet P R env H op ty v' := e ▸ h
/-- What an operation reads of what is owned, told of one segment. -/
theorem RS.seg {α : Type} {sz : Nat} {enc : α → List Value} {v : Value} {xs : List α} (h : RS (sg T) sz enc v xs) [sa : SegAt H T upd] : RS (Rx R H) sz enc v xs := h.mono fun b o hb => .inr (sa.mem (b, o) hb)
theorem RS.left {α : Type} {T1 T2 : Seg} {sz : Nat} {enc : α → List Value} {v : Value} {xs : List α} (h : RS (sg T1) sz enc v xs) : RS (sg (T1 ++ T2)) sz enc v xs := h.mono fun b o hb => List.mem_append_left _ hb
theorem RS.right {α : Type} {T1 T2 : Seg} {sz : Nat} {enc : α → List Value} {v : Value} {xs : List α} (h : RS (sg T2) sz enc v xs) : RS (sg (T1 ++ T2)) sz enc v xs := h.mono fun b o hb => List.mem_append_right _ hb
theorem OS.sg {α : Type} {E sz : Nat} {enc : α → List Value} {v : Value} {xs : List α} (h : OS E sz enc v xs T) : RS (Go.Proofs.Ytlmdgdehjpahiaa.sg T) sz enc v xs := h.rs fun _ hp => hp
theorem RA.takeU {Ho : Segs} {Ms done : List Nat} {d j t : Nat} {want : Bool} {op : Op} (i : Nat) (hi : ops[i]? = some ⟨some d, op, ty, pos, af, some (j, want)⟩) (hv : Env.get? env t = some undef)
    (hc : tk false ops Ms done i = true) (hn : RA P N R ops Ho Ms (i :: done) ((d, undef) :: env) H K) (hj : gdst ops j = some t := by rfl) (hd : Nat.blt d N = true := by rfl) : RA P N R ops Ho Ms done env H K :=
  RA.take_gen false i hi (fun a ha => .inr ⟨by simp [Region.wanted, yielded_undef ha hj hv], rfl⟩) hc fun a w w0 H0 s => ⟨_, s.put _ hd, hn⟩
theorem RA.takeGh {Ho : Segs} {Ms done : List Nat} {d j t : Nat} {want b : Bool} {op : Op} {v : Value} (i : Nat) (hi : ops[i]? = some ⟨some d, op, ty, pos, af, some (j, want)⟩) (hv : Env.get? env t = some (.bool b)) (hb : b = want) (hq : Quiet P R env [] op ty v)
    (hc : tk false ops Ms done i = true) (hn : RA P N R ops Ho Ms (i :: done) ((d, v) :: env) H K) (hj : gdst ops j = some t := by rfl) (hd : Nat.blt d N = true := by rfl) : RA P N R ops Ho Ms done env H K :=
  RA.takeG i hi (hb ▸ hv) hq hc hn hj hd
theorem RA.takeGhO {Ho : Segs} {Ms done : List Nat} {d j t : Nat} {want b : Bool} {op : Op} {v : Value} (i : Nat) (hi : ops[i]? = some ⟨some d, op, ty, pos, af, some (j, want)⟩) (hv : Env.get? env t = some (.bool b)) (hb : b = want) (hq : Quiet P R env Ho op ty v)
    (hc : tk true ops Ms done i = true) (hn : RA P N R ops Ho Ms (i :: done) ((d, v) :: env) H K) (hj : gdst ops j = some t := by rfl) (hd : Nat.blt d N = true := by rfl) : RA P N R ops Ho Ms done env H K :=
  RA.takeGO i hi (hb ▸ hv) hq hc hn hj hd
end
end Go.Proofs.Ytlmdgdehjpahiaa
