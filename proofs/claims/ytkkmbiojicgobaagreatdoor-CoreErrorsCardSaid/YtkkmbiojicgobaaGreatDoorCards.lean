/-
  DERIVED. GIVEN WITH THE SEED: THE CARDS: each row of YtkkmbiojicgobaaGreatDoorRows.lean that lists a variable, with what it lists TIED to the program's text (the seventh form; the later family's looks); each row that meets fmt, with fmt's text TOLD by the authors' own Lean function (tested against real Go, not proved from fmt's source: count such statements apart). THE CARD IS WHAT COUNTS. Prove the row's statement (the work); the ties are given (YtkkmbiojicgobaaGreatDoorTie.lean); close each card by the builder's one call (the guide's Derived/Test/ToyasCard.lean, 'card_holds'). Laid BY PROGRAM, IN A SANDBOX (cutbox-door.mjs). By AI agents, Wed Nov 11 2026. No macro, syntax, notation, axiom, sorry.
-/
import Derived.Test.YtkkmbiojicgobaaGreatDoorRows
import GoSem.ClaimSeven
namespace Go.Proofs.YtkkmbiojicgobaaGreatDoor
namespace Rows

/-- THE TIED CARD OF 'doorwardlaw30.CoreErrors'. -/
def coreErrorsCard : Claim7 := { stood := { row := coreErrorsRow, standIns := [], harness := (true, "d939dd8eaf01f64cf308dff58bfc43f83e7106e63041e4541cc197dd54073a4a"), looks := true }, kinds := [], alts := [], laidByText := true, laidKinds := [.data], laidTests := true, laidLooks := .later }
def CoreErrorsCardSaid : Prop := Claim7.holds Tryz.pinned (.plain (OpenSpec.ofChange coreErrorsSpec)) coreErrorsCard

/-- THE TIED CARD OF 'doorwardlaw30.CorePlays'. -/
def corePlaysCard : Claim7 := { stood := { row := corePlaysRow, standIns := [], harness := (true, "d939dd8eaf01f64cf308dff58bfc43f83e7106e63041e4541cc197dd54073a4a"), looks := true }, kinds := [], alts := [], laidByText := true, laidKinds := [.data], laidTests := true, laidLooks := .later }
def CorePlaysCardSaid : Prop := Claim7.holds Tryz.pinned (.plain (OpenSpec.ofChange corePlaysSpec)) corePlaysCard

/-- THE SECOND FORM's CARD OF 'doorwardlaw30.CoreErrors'. -/
def coreErrorsUptoCard : Claim7 := { stood := { row := coreErrorsUptoRow, standIns := [], harness := (true, "d939dd8eaf01f64cf308dff58bfc43f83e7106e63041e4541cc197dd54073a4a"), looks := true }, kinds := [], alts := [], laidByText := true, laidKinds := [.data], laidTests := true, laidLooks := .later }
def CoreErrorsUptoCardSaid : Prop := Claim7.holds Tryz.pinned (.plain (OpenSpec.upto coreErrorsSpec)) coreErrorsUptoCard

/-- THE SECOND FORM's CARD OF 'doorwardlaw30.CorePlays'. -/
def corePlaysUptoCard : Claim7 := { stood := { row := corePlaysUptoRow, standIns := [], harness := (true, "d939dd8eaf01f64cf308dff58bfc43f83e7106e63041e4541cc197dd54073a4a"), looks := true }, kinds := [], alts := [], laidByText := true, laidKinds := [.data], laidTests := true, laidLooks := .later }
def CorePlaysUptoCardSaid : Prop := Claim7.holds Tryz.pinned (.plain (OpenSpec.upto corePlaysSpec)) corePlaysUptoCard
end Rows
end Go.Proofs.YtkkmbiojicgobaaGreatDoor
