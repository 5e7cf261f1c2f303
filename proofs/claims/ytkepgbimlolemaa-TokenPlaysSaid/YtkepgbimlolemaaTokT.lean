/- Tokens: calls upon a vault; what puts and rotations come to. No condition. -/
import Derived.Test.YtkepgbimlolemaaTokD
set_option linter.unusedVariables false
set_option maxRecDepth 4000
namespace Go.Proofs.Ytkepgbimlolemaa
structure TDo where
  kind : Int
  w : Value
  t : Tok
  text : ByteArray
  client : ByteArray
  user : ByteArray
  family : Int
  now : Int
def TDo.enc (d : TDo) : List Value := [.int .i64 d.kind, .string d.t.text, .int .i64 d.t.kind, .string d.t.client, .string d.t.user, d.w, .int .i64 d.t.family, .int .i64 d.t.expires, .int .u64 d.t.rev, .bool d.t.used, .string d.text, .string d.client, .string d.user, .int .i64 d.family, .int .i64 d.now]
theorem tput_zero {A : List (ByteArray × Tok)} {last : Int} {t : Tok} (h : (tput A last t).1 = 0) : (tput A last t).2 = kset t.text t.fresh A ∧ mget t.text A = none ∧ rightB t last = true := by
  unfold tput at h ⊢
  split at h
  · cases h
  · split at h
    · cases h
    · split at h
      · cases h
      · rename_i h1 h2 h3
        rw [if_neg h1, if_neg h2, if_neg h3]
        exact ⟨rfl, by simpa using h2, by simpa using h1⟩
theorem tput_else {A : List (ByteArray × Tok)} {last : Int} {t : Tok} (h : (tput A last t).1 ≠ 0) : (tput A last t).2 = A := by
  unfold tput at h ⊢
  split
  · rfl
  · split
    · rfl
    · split
      · rfl
      · rename_i h1 h2 h3
        rw [if_neg h1, if_neg h2, if_neg h3] at h
        exact absurd rfl h
theorem trot_facts {A : List (ByteArray × Tok)} {k client : ByteArray} {now : Int} {t : Tok} (hm : mget k A = some t) :
    ((trot A k client now).2.1 = 0 → t.kind = 2 ∧ t.client = client ∧ t.used = false ∧ now < t.expires ∧ (trot A k client now).1 = t.mark ∧ (trot A k client now).2.2 = kset k t.mark A) ∧
    ((trot A k client now).2.1 = 10 → t.kind = 2 ∧ t.client = client ∧ t.used = true ∧ (trot A k client now).2.2 = A.filter fun x => !(x.2.family == t.family)) ∧
    ((trot A k client now).2.1 ≠ 0 → (trot A k client now).2.1 ≠ 10 → (trot A k client now).2.2 = A ∧ (t.kind = 2 → t.client = client → t.used = false)) := by
  unfold trot
  rw [hm]
  simp only
  split
  · rename_i h
    refine ⟨fun h1 => (by cases h1), fun h1 => (by cases h1), fun _ _ => ⟨rfl, fun h1 h2 => ?_⟩⟩
    rcases h with h | h
    · exact absurd h1 h
    · exact absurd h2 h
  · rename_i h
    have h1 : t.kind = 2 ∧ t.client = client := by
      refine ⟨?_, ?_⟩
      · exact Classical.byContradiction fun hh => h (.inl hh)
      · exact Classical.byContradiction fun hh => h (.inr hh)
    split
    · rename_i hu
      exact ⟨fun h2 => (by cases h2), fun _ => ⟨h1.1, h1.2, hu, rfl⟩, fun _ h2 => absurd rfl h2⟩
    · rename_i hu
      have hu' : t.used = false := by simpa using hu
      split
      · exact ⟨fun h2 => (by cases h2), fun h2 => (by cases h2), fun _ _ => ⟨rfl, fun _ _ => hu'⟩⟩
      · rename_i he
        exact ⟨fun _ => ⟨h1.1, h1.2, hu', by omega, rfl, rfl⟩, fun h2 => (by cases h2), fun h2 _ => absurd rfl h2⟩
end Go.Proofs.Ytkepgbimlolemaa
