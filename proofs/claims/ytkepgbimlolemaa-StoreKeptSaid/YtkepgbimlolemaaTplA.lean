/- Tuples: what they are, their order. No condition. -/
import Derived.Test.YtkepgbimlolemaaCmp
import Derived.Test.YtkepgbimlolemaaTup
set_option linter.unusedVariables false
set_option maxRecDepth 4000
namespace Go.Proofs.Ytkepgbimlolemaa
structure Tpl where
  os : ByteArray
  oi : ByteArray
  rel : ByteArray
  us : ByteArray
  ss : ByteArray
  si : ByteArray
  sr : ByteArray
def Tpl.enc (t : Tpl) : List Value := [.string t.os, .string t.oi, .string t.rel, .string t.us, .string t.ss, .string t.si, .string t.sr]
theorem Tpl.kinds (t : Tpl) : HasK [.s, .s, .s, .s, .s, .s, .s] t.enc := ⟨trivial, trivial, trivial, trivial, trivial, trivial, trivial, trivial⟩
theorem Tpl.eq_iff (a b : Tpl) : cellsEq a.enc b.enc = true ↔ a = b := by
  cases a; cases b
  simp only [Tpl.enc, cellsEq, cellEq, Tpl.mk.injEq]
  simp
instance decTpl : DecidableEq Tpl := fun a b => decidable_of_iff _ (Tpl.eq_iff a b)
theorem Tpl.eq (a b : Tpl) : cellsEq a.enc b.enc = decide (a = b) := by rw [Bool.eq_iff_iff, decide_eq_true_eq]; exact Tpl.eq_iff a b
instance Tpl.one (t : Tpl) : Ones t.enc := ⟨by simp [Tpl.enc, oneCell]⟩
/-- The subject, the object with the relation. -/
structure Sub where
  us : ByteArray
  ss : ByteArray
  si : ByteArray
  sr : ByteArray
def Sub.enc (t : Sub) : List Value := [.string t.us, .string t.ss, .string t.si, .string t.sr]
theorem Sub.kinds (t : Sub) : HasK [.s, .s, .s, .s] t.enc := ⟨trivial, trivial, trivial, trivial, trivial⟩
theorem Sub.eq_iff (a b : Sub) : cellsEq a.enc b.enc = true ↔ a = b := by
  cases a; cases b
  simp only [Sub.enc, cellsEq, cellEq, Sub.mk.injEq]
  simp
instance decSub : DecidableEq Sub := fun a b => decidable_of_iff _ (Sub.eq_iff a b)
theorem Sub.eq (a b : Sub) : cellsEq a.enc b.enc = decide (a = b) := by rw [Bool.eq_iff_iff, decide_eq_true_eq]; exact Sub.eq_iff a b
instance Sub.one (t : Sub) : Ones t.enc := ⟨by simp [Sub.enc, oneCell]⟩
structure Obr where
  os : ByteArray
  oi : ByteArray
  rel : ByteArray
def Obr.enc (t : Obr) : List Value := [.string t.os, .string t.oi, .string t.rel]
theorem Obr.kinds (t : Obr) : HasK [.s, .s, .s] t.enc := ⟨trivial, trivial, trivial, trivial⟩
theorem Obr.eq_iff (a b : Obr) : cellsEq a.enc b.enc = true ↔ a = b := by
  cases a; cases b
  simp only [Obr.enc, cellsEq, cellEq, Obr.mk.injEq]
  simp
instance decObr : DecidableEq Obr := fun a b => decidable_of_iff _ (Obr.eq_iff a b)
theorem Obr.eq (a b : Obr) : cellsEq a.enc b.enc = decide (a = b) := by rw [Bool.eq_iff_iff, decide_eq_true_eq]; exact Obr.eq_iff a b
instance Obr.one (t : Obr) : Ones t.enc := ⟨by simp [Obr.enc, oneCell]⟩
def Tpl.sub (t : Tpl) : Sub := ⟨t.us, t.ss, t.si, t.sr⟩
def Tpl.obr (t : Tpl) : Obr := ⟨t.os, t.oi, t.rel⟩
def srank (u : ByteArray) : Int := if u = ⟨#[]⟩ then 1 else 0
def tplcmp (a b : Tpl) : Int := orI [scmp a.os b.os, scmp a.oi b.oi, scmp a.rel b.rel, icmp (srank a.us) (srank b.us), scmp a.us b.us, scmp a.ss b.ss, scmp a.si b.si, scmp a.sr b.sr]
def tlt (a b : Tpl) : Bool := decide (tplcmp a b < 0)
theorem tplcmp_ok : CmpOK tplcmp :=
  (scmp_ok.map Tpl.os).cons ((scmp_ok.map Tpl.oi).cons ((scmp_ok.map Tpl.rel).cons ((icmp_ok.map fun t : Tpl => srank t.us).cons ((scmp_ok.map Tpl.us).cons ((scmp_ok.map Tpl.ss).cons ((scmp_ok.map Tpl.si).cons ((scmp_ok.map Tpl.sr).cons .nil)))))))
theorem tplcmp_zero {a b : Tpl} (h : tplcmp a b = 0) : a = b := by
  unfold tplcmp at h
  obtain ⟨h1, h⟩ := orI_zero h
  obtain ⟨h2, h⟩ := orI_zero h
  obtain ⟨h3, h⟩ := orI_zero h
  obtain ⟨h4, h⟩ := orI_zero h
  obtain ⟨h5, h⟩ := orI_zero h
  obtain ⟨h6, h⟩ := orI_zero h
  obtain ⟨h7, h⟩ := orI_zero h
  obtain ⟨h8, h⟩ := orI_zero h
  rw [scmp_eq] at h1 h2 h3 h5 h6 h7 h8
  cases a; cases b
  simp_all
/-- Which tuples are right. -/
def isRef (s i : ByteArray) : Bool := isWord s && isID i
def isSub (t : Sub) : Bool := if t.us = ⟨#[]⟩ then isRef t.ss t.si && isWord t.sr else isID t.us && (decide (t.ss = ⟨#[]⟩) && decide (t.si = ⟨#[]⟩) && decide (t.sr = ⟨#[]⟩))
def isTpl (t : Tpl) : Bool := isRef t.os t.oi && isWord t.rel && isSub t.sub
def tmatch (f t : Tpl) : Bool := (decide (f.os = ⟨#[]⟩) || decide (f.os = t.os)) && (decide (f.oi = ⟨#[]⟩) || decide (f.oi = t.oi)) && (decide (f.rel = ⟨#[]⟩) || decide (f.rel = t.rel)) && (decide (f.us = ⟨#[]⟩) || decide (f.us = t.us)) && (decide (f.ss = ⟨#[]⟩) || decide (f.ss = t.ss)) && (decide (f.si = ⟨#[]⟩) || decide (f.si = t.si)) && (decide (f.sr = ⟨#[]⟩) || decide (f.sr = t.sr))
end Go.Proofs.Ytkepgbimlolemaa
