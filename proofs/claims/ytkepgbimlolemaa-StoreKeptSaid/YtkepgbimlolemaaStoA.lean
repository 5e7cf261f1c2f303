/- Rows of a store; changes. No condition. -/
import Derived.Test.YtkepgbimlolemaaTplA
set_option linter.unusedVariables false
set_option maxRecDepth 4000
namespace Go.Proofs.Ytkepgbimlolemaa
structure SRow where
  t : Tpl
  fr : Int
  to : Int
def SRow.enc (x : SRow) : List Value := x.t.enc ++ [.int .u64 x.fr, .int .u64 x.to]
theorem SRow.kinds (x : SRow) : HasK [.s, .s, .s, .s, .s, .s, .s, .i .u64, .i .u64] x.enc := ⟨trivial, trivial, trivial, trivial, trivial, trivial, trivial, rfl, rfl, trivial⟩
theorem SRow.eq_iff (a b : SRow) : cellsEq a.enc b.enc = true ↔ a = b := by
  obtain ⟨⟨a1, a2, a3, a4, a5, a6, a7⟩, a8, a9⟩ := a
  obtain ⟨⟨b1, b2, b3, b4, b5, b6, b7⟩, b8, b9⟩ := b
  simp only [SRow.enc, Tpl.enc, List.cons_append, List.nil_append, cellsEq, cellEq, SRow.mk.injEq, Tpl.mk.injEq]
  simp [and_assoc]
instance decSRow : DecidableEq SRow := fun a b => decidable_of_iff _ (SRow.eq_iff a b)
instance SRow.one (x : SRow) : Ones x.enc := ⟨by simp [SRow.enc, Tpl.enc, oneCell]⟩
structure Chg where
  put : Bool
  t : Tpl
def Chg.enc (c : Chg) : List Value := .bool c.put :: c.t.enc
instance Chg.one (c : Chg) : Ones c.enc := ⟨by simp [Chg.enc, Tpl.enc, oneCell]⟩
def encPt (b : Nat) : List Value := [.pointer (some ⟨b, 0, none⟩)]
def SRow.there (x : SRow) (r : Int) : Bool := decide (x.fr ≤ r) && (x.to == 0 || decide (r < x.to))
def SRow.openOf (t : Tpl) (x : SRow) : Bool := decide (x.t = t) && x.to == 0
/-- What is there at the head. -/
def sthere (L : List SRow) (t : Tpl) : Bool := L.any (SRow.openOf t)
def scheck (must no : List Tpl) (cs : List Chg) : Int :=
  if 32 < cs.length ∨ cs.length = 0 ∨ 32 < must.length ∨ 32 < no.length then 25
  else if must.any (fun t => !isTpl t) || no.any (fun t => !isTpl t) || cs.any (fun c => !isTpl c.t) then 9
  else if ¬ (cs.map (·.t)).Nodup then 2 else 0
def sputs (cs : List Chg) : Nat := (cs.filter (·.put)).length
def sfits (L : List SRow) (head : Int) (must no : List Tpl) (cs : List Chg) : Int :=
  if must.any (fun t => !sthere L t) || no.any (fun t => sthere L t) then 13
  else if cs.any (fun c => c.put && sthere L c.t) then 10
  else if cs.any (fun c => !c.put && !sthere L c.t) then 11
  else if 4611686018427387903 ≤ head ∨ 4096 < L.length + sputs cs ∧ 0 < sputs cs then 8 else 0
def SRow.close (t : Tpl) (r : Int) (x : SRow) : SRow := if x.openOf t then ⟨x.t, x.fr, r⟩ else x
def sapply (r : Int) (L : List SRow) (c : Chg) : List SRow := if c.put then L ++ [⟨c.t, r, 0⟩] else L.map (SRow.close c.t r)
structure Sto where
  rows : List SRow
  head : Int
  hor : Int
def scode (S : Sto) (must no : List Tpl) (cs : List Chg) : Int := if scheck must no cs ≠ 0 then scheck must no cs else sfits S.rows S.head must no cs
def swrite (S : Sto) (must no : List Tpl) (cs : List Chg) : Sto := if scode S must no cs = 0 then ⟨cs.foldl (sapply (S.head + 1)) S.rows, S.head + 1, S.hor⟩ else S
def scan (S : Sto) (r : Int) : Bool := decide (S.hor ≤ r) && decide (r ≤ S.head)
def skeep (h : Int) (x : SRow) : Bool := x.to == 0 || decide (h < x.to)
def scollect (S : Sto) (h : Int) : Sto := if scan S h then ⟨S.rows.filter (skeep h), S.head, h⟩ else S
end Go.Proofs.Ytkepgbimlolemaa
