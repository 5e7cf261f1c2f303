/-
  DERIVED. GIVEN WITH THE SEED: THE CARDS: each row of YtgppncmdpcefhaaGreatDoorRows.lean that lists a variable, with what it lists TIED to the program's text (the seventh form; the later family's looks); each row that meets fmt, with fmt's text TOLD by the authors' own Lean function (tested against real Go, not proved from fmt's source: count such statements apart). THE CARD IS WHAT COUNTS. Prove the row's statement (the work); the ties are given (YtgppncmdpcefhaaGreatDoorTie.lean); close each card by the builder's one call (the guide's Derived/Test/ToyasCard.lean, 'card_holds'). Laid BY PROGRAM, IN A SANDBOX (cutbox-door.mjs). By AI agents, Wed Nov 11 2026. No macro, syntax, notation, axiom, sorry.
-/
import Derived.Test.YtgppncmdpcefhaaGreatDoorRows
import GoSem.ClaimSeven
namespace Go.Proofs.YtgppncmdpcefhaaGreatDoor
namespace Rows

/-- THE TIED CARD OF 'doorwardlaw31.OpCodes'. -/
def opCodesCard : Claim7 := { stood := { row := opCodesRow, standIns := [], harness := (true, "1fd54734456b37019f31bef36547880c3a5dab6b243fa9d79111ed9af1b37106"), looks := true }, kinds := [], alts := [], laidByText := true, laidKinds := [.data], laidTests := true, laidLooks := .later }
def OpCodesCardSaid : Prop := Claim7.holds Tryz.pinned (.plain (OpenSpec.ofChange opCodesSpec)) opCodesCard

/-- THE TIED CARD OF 'doorwardlaw31.OpDecodes'. -/
def opDecodesCard : Claim7 := { stood := { row := opDecodesRow, standIns := [], harness := (true, "1fd54734456b37019f31bef36547880c3a5dab6b243fa9d79111ed9af1b37106"), looks := true }, kinds := [], alts := [], laidByText := true, laidKinds := [.data], laidTests := true, laidLooks := .later }
def OpDecodesCardSaid : Prop := Claim7.holds Tryz.pinned (.plain (OpenSpec.ofChange opDecodesSpec)) opDecodesCard

/-- THE TIED CARD OF 'doorwardlaw31.OpNobody'. -/
def opNobodyCard : Claim7 := { stood := { row := opNobodyRow, standIns := [], harness := (true, "1fd54734456b37019f31bef36547880c3a5dab6b243fa9d79111ed9af1b37106"), looks := true }, kinds := [], alts := [], laidByText := true, laidKinds := [.data], laidTests := true, laidLooks := .later }
def OpNobodyCardSaid : Prop := Claim7.holds Tryz.pinned (.plain (OpenSpec.ofChange opNobodySpec)) opNobodyCard

/-- THE SECOND FORM's CARD OF 'doorwardlaw31.OpCodes'. -/
def opCodesUptoCard : Claim7 := { stood := { row := opCodesUptoRow, standIns := [], harness := (true, "1fd54734456b37019f31bef36547880c3a5dab6b243fa9d79111ed9af1b37106"), looks := true }, kinds := [], alts := [], laidByText := true, laidKinds := [.data], laidTests := true, laidLooks := .later }
def OpCodesUptoCardSaid : Prop := Claim7.holds Tryz.pinned (.plain (OpenSpec.upto opCodesSpec)) opCodesUptoCard

/-- THE SECOND FORM's CARD OF 'doorwardlaw31.OpDecodes'. -/
def opDecodesUptoCard : Claim7 := { stood := { row := opDecodesUptoRow, standIns := [], harness := (true, "1fd54734456b37019f31bef36547880c3a5dab6b243fa9d79111ed9af1b37106"), looks := true }, kinds := [], alts := [], laidByText := true, laidKinds := [.data], laidTests := true, laidLooks := .later }
def OpDecodesUptoCardSaid : Prop := Claim7.holds Tryz.pinned (.plain (OpenSpec.upto opDecodesSpec)) opDecodesUptoCard

/-- THE SECOND FORM's CARD OF 'doorwardlaw31.OpNobody'. -/
def opNobodyUptoCard : Claim7 := { stood := { row := opNobodyUptoRow, standIns := [], harness := (true, "1fd54734456b37019f31bef36547880c3a5dab6b243fa9d79111ed9af1b37106"), looks := true }, kinds := [], alts := [], laidByText := true, laidKinds := [.data], laidTests := true, laidLooks := .later }
def OpNobodyUptoCardSaid : Prop := Claim7.holds Tryz.pinned (.plain (OpenSpec.upto opNobodySpec)) opNobodyUptoCard
end Rows
end Go.Proofs.YtgppncmdpcefhaaGreatDoor
