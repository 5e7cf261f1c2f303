/- What the law 'CoreNobody' uses of this prover's engine, facts and walks. No condition. -/
import Derived.Lib.Overlaps
import Derived.Test.YtkagfkbkpiebjaaGreatDoorKCoreNobodyB
set_option linter.unusedVariables false
namespace Go.Proofs.YtkagfkbkpiebjaaGreatDoor
section
variable {P : Program} {N : Nat} {R : Rds} {ops : Array Oper} {l : List Oper} {env : Env} {H : Segs} {K : Env → Segs → Prop} {T : Seg} {upd : Seg → Segs} {ty : TypeId} {pos : String} {af : Array Edge} {α : Type}
theorem pieceV_some {sz lo hi b off cap : Nat} (h : cap ≠ lo) : pieceV sz lo hi (some ⟨b, off, none⟩) cap = .slice (some ⟨b, off + lo * sz, none⟩) (hi - lo) (cap - lo) := by
  unfold pieceV
  rw [if_neg h, Option.map_some, add_mk]
theorem OS.tailRS {R' : Rds} {E sz cap b off : Nat} {enc : α → List Value} {xs : List α} (h : OS E sz enc (.slice (some ⟨b, off, none⟩) xs.length cap) xs T) (hR : ∀ p ∈ T, R' p.1 p.2) (i : Nat) (hi : i ≤ xs.length) : RS R' sz enc (.slice (some ⟨b, off + i * sz, none⟩) (xs.drop i).length (cap - i)) (xs.drop i) := by
  refine ⟨fun x hx => h.len x (List.mem_of_mem_drop hx), fun x hx => h.one x (List.mem_of_mem_drop hx), ?_⟩
  rcases h.h with ⟨h1, _, _⟩ | ⟨b', off', c, cap', h1, h2, h3, h4, h5, h6⟩
  · cases h1
  · cases h1
    subst h2
    refine ⟨_, cap - i, rfl, by rw [List.length_drop]; omega, by omega, .inr ⟨b, off + i * sz, c, E, (0, 0), rfl, hR (b, _) (by simp), ?_⟩⟩
    have := h6.piece h.len i (xs.length - i)
    rwa [List.take_of_length_le (by rw [List.length_drop]; exact Nat.le_refl _)] at this
end
end Go.Proofs.YtkagfkbkpiebjaaGreatDoor
