/- What the law 'ReachB' uses. No condition. -/
import Derived.Laws.AppendOwn
import Derived.Lib.Builder
import Derived.Lib.ConvBytes
import Derived.Lib.UnsafeStr
import Derived.Test.YtenilfmlfldogaaGreatKReachBD
set_option linter.unusedVariables false
namespace Go.Proofs.YtenilfmlfldogaaGreat
section
end
section
theorem OS.lits {α : Type} {b n E sz : Nat} {cs : List Value} {enc : α -> List Value} {xs : List α} (he : xs.flatMap enc = cs) (hl : ∀ x ∈ xs, (enc x).length = sz) (ho : ∀ x ∈ xs, ∀ u ∈ enc x, Go.Proofs.YtenilfmlfldogaaGreat.oneCell u = true) (hn : xs.length = n := by rfl) (hm : Nat.ble n 9223372036854775807 = true := by rfl) : OS E sz enc (.slice (some ⟨b, 0, none⟩) n n) xs [(b, .cells cs.toArray E (0, 0))] :=
 ⟨hl, ho, .inr ⟨b, 0, _, n, by rw [hn], rfl, by omega, by have := Nat.le_of_ble_eq_true hm; unfold maxLen; omega, by subst he; rw [List.size_toArray, flatMap_length hl, hn]; omega, λ k hk => by subst he; simp⟩⟩
section
variable {P : Program} {R : Rds} {env : Env} {H : Segs} {x y : Operand} {t u ty : TypeId} {a b n : Nat} {k2 : IntKind}
theorem Quiet.field1 {s : TypeId} {i : Nat} {fs : Array Field} {fd : Field} {cs : List Value} {v : Value} (hu : P.underlying s = some (.struct fs)) (hf : fs[i]? = some fd) (hc : cs[fd.offset]? = some v) (ag : Agg P fd.type false) (hx : ev env x = some (.agg cs.toArray)) : Quiet P R env H (.field s x i) ty v := λ a w d pos af g ha _ _ => by
 simp [execOp, ha.eval hx, Instr.field, run_underlying hu, hf, asAgg, part, ag.h, hc]
end
end
end Go.Proofs.YtenilfmlfldogaaGreat
