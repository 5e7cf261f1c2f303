/- What the law 'CoreNobody' uses of this prover's engine, facts and walks. No condition. -/
import Derived.Laws.AppendOwn
import Derived.Lib.Builder
import Derived.Lib.ConvBytes
import Derived.Lib.UnsafeStr
import Derived.Test.YtkagfkbkpiebjaaGreatDoorKCoreNobodyD
set_option linter.unusedVariables false
namespace Go.Proofs.YtkagfkbkpiebjaaGreatDoor
def encU (c : UInt8) : List Value := [.int .u8 (c.toNat : Int)]
end Go.Proofs.YtkagfkbkpiebjaaGreatDoor
set_option linter.unusedVariables false
namespace Go.Proofs.YtkagfkbkpiebjaaGreatDoor
theorem OS.lits {α : Type} {b n E sz : Nat} {cs : List Value} {enc : α → List Value} {xs : List α} (he : xs.flatMap enc = cs) (hl : ∀ x ∈ xs, (enc x).length = sz) (ho : ∀ x ∈ xs, ∀ u ∈ enc x, Go.Proofs.YtkagfkbkpiebjaaGreatDoor.oneCell u = true) (hn : xs.length = n := by rfl) (hm : Nat.ble n 9223372036854775807 = true := by rfl) : OS E sz enc (.slice (some ⟨b, 0, none⟩) n n) xs [(b, .cells cs.toArray E (0, 0))] :=
  ⟨hl, ho, .inr ⟨b, 0, _, n, by rw [hn], rfl, by omega, by have := Nat.le_of_ble_eq_true hm; unfold maxLen; omega, by subst he; rw [List.size_toArray, flatMap_length hl, hn]; omega, fun k hk => by subst he; simp⟩⟩
end Go.Proofs.YtkagfkbkpiebjaaGreatDoor
set_option linter.unusedVariables false
set_option linter.unusedSimpArgs false
set_option maxRecDepth 4000
namespace Go.Proofs.YtkagfkbkpiebjaaGreatDoor
abbrev W32 := BitVec 32
def rotr (x : W32) (n : Nat) : W32 := x <<< (32 - n) ||| x >>> n
def wv (l : List W32) : List Value := l.map fun x => Value.int .u32 (x.toNat : Int)
structure Hst where
  a : W32
  b : W32
  c : W32
  d : W32
  e : W32
  f : W32
  g : W32
  h : W32
def ks : List W32 := [0x428a2f98, 0x71374491, 0xb5c0fbcf, 0xe9b5dba5, 0x3956c25b, 0x59f111f1, 0x923f82a4, 0xab1c5ed5, 0xd807aa98, 0x12835b01, 0x243185be, 0x550c7dc3, 0x72be5d74, 0x80deb1fe, 0x9bdc06a7, 0xc19bf174, 0xe49b69c1, 0xefbe4786, 0x0fc19dc6, 0x240ca1cc, 0x2de92c6f, 0x4a7484aa, 0x5cb0a9dc, 0x76f988da, 0x983e5152, 0xa831c66d, 0xb00327c8, 0xbf597fc7, 0xc6e00bf3, 0xd5a79147, 0x06ca6351, 0x14292967, 0x27b70a85, 0x2e1b2138, 0x4d2c6dfc, 0x53380d13, 0x650a7354, 0x766a0abb, 0x81c2c92e, 0x92722c85, 0xa2bfe8a1, 0xa81a664b, 0xc24b8b70, 0xc76c51a3, 0xd192e819, 0xd6990624, 0xf40e3585, 0x106aa070, 0x19a4c116, 0x1e376c08, 0x2748774c, 0x34b0bcb5, 0x391c0cb3, 0x4ed8aa4a, 0x5b9cca4f, 0x682e6ff3, 0x748f82ee, 0x78a5636f, 0x84c87814, 0x8cc70208, 0x90befffa, 0xa4506ceb, 0xbef9a3f7, 0xc67178f2]
def H0 : Hst := ⟨0x6a09e667, 0xbb67ae85, 0x3c6ef372, 0xa54ff53a, 0x510e527f, 0x9b05688c, 0x1f83d9ab, 0x5be0cd19⟩
def smA (v : W32) : W32 := (rotr v 7 ^^^ rotr v 18) ^^^ v >>> 3
def smB (x : W32) : W32 := (rotr x 17 ^^^ rotr x 19) ^^^ x >>> 10
def tt (s : Hst) (k w : W32) : W32 := ((s.h + ((rotr s.e 6 ^^^ rotr s.e 11) ^^^ rotr s.e 25)) + ((s.e &&& s.f) ^^^ (~~~s.e &&& s.g))) + k + w
def uu (s : Hst) : W32 := ((rotr s.a 2 ^^^ rotr s.a 13) ^^^ rotr s.a 22) + (((s.a &&& s.b) ^^^ (s.a &&& s.c)) ^^^ (s.b &&& s.c))
def rnd (s : Hst) (k w : W32) : Hst := ⟨tt s k w + uu s, s.a, s.b, s.c, s.d + tt s k w, s.e, s.f, s.g⟩
def wide (c : UInt8) : W32 := c.toBitVec.setWidth 32
def word4 (b0 b1 b2 b3 : UInt8) : W32 := ((wide b0 <<< 24 ||| wide b1 <<< 16) ||| wide b2 <<< 8) ||| wide b3
def wnext (b : List UInt8) (l : List W32) : W32 :=
  if l.length < 16 then word4 (b.getD (4 * l.length) 0) (b.getD (4 * l.length + 1) 0) (b.getD (4 * l.length + 2) 0) (b.getD (4 * l.length + 3) 0)
  else ((l.getD (l.length - 16) 0 + smA (l.getD (l.length - 15) 0)) + l.getD (l.length - 7) 0) + smB (l.getD (l.length - 2) 0)
def sched (b : List UInt8) : Nat → List W32
  | 0 => []
  | i + 1 => sched b i ++ [wnext b (sched b i)]
def rounds (w : List W32) (s : Hst) : Nat → Hst
  | 0 => s
  | i + 1 => rnd (rounds w s i) (ks.getD i 0) (w.getD i 0)
def stAdd (s x : Hst) : Hst := ⟨s.a + x.a, s.b + x.b, s.c + x.c, s.d + x.d, s.e + x.e, s.f + x.f, s.g + x.g, s.h + x.h⟩
/-- The state behind a block. -/
def comp (s : Hst) (b : List UInt8) : Hst := stAdd s (rounds (sched b 64) s 64)
def blocks (s : Hst) (l : List UInt8) : Hst := if h : 64 ≤ l.length then blocks (comp s l) (l.drop 64) else s
termination_by l.length
decreasing_by rw [List.length_drop]; omega
end Go.Proofs.YtkagfkbkpiebjaaGreatDoor
