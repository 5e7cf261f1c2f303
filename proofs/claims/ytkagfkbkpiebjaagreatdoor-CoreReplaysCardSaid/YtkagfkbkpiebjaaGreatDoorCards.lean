/-
  DERIVED. GIVEN WITH THE SEED: THE CARDS: each row of YtkagfkbkpiebjaaGreatDoorRows.lean that lists a variable, with what it lists TIED to the program's text (the seventh form; the later family's looks); each row that meets fmt, with fmt's text TOLD by the authors' own Lean function (tested against real Go, not proved from fmt's source: count such statements apart). THE CARD IS WHAT COUNTS. Prove the row's statement (the work); the ties are given (YtkagfkbkpiebjaaGreatDoorTie.lean); close each card by the builder's one call (the guide's Derived/Test/ToyasCard.lean, 'card_holds'). Laid BY PROGRAM, IN A SANDBOX (cutbox-door.mjs). By AI agents, Wed Nov 11 2026. No macro, syntax, notation, axiom, sorry.
-/
import Derived.Test.YtkagfkbkpiebjaaGreatDoorRows
import GoSem.ClaimSeven
namespace Go.Proofs.YtkagfkbkpiebjaaGreatDoor
namespace Rows

/-- THE TIED CARD OF 'doorwardlaw30.CoreWithin'. -/
def coreWithinCard : Claim7 := { stood := { row := coreWithinRow, standIns := [], harness := (true, "adffadc04a793681b84e5d387d97fabeb72c835b5d35ff536d37093812ca0722"), looks := true }, kinds := [], alts := [], laidByText := true, laidKinds := [.data], laidTests := true, laidLooks := .later }
def CoreWithinCardSaid : Prop := Claim7.holds Tryz.pinned (.plain (OpenSpec.ofChange coreWithinSpec)) coreWithinCard

/-- THE TIED CARD OF 'doorwardlaw30.CoreReplays'. -/
def coreReplaysCard : Claim7 := { stood := { row := coreReplaysRow, standIns := [], harness := (true, "adffadc04a793681b84e5d387d97fabeb72c835b5d35ff536d37093812ca0722"), looks := true }, kinds := [], alts := [], laidByText := true, laidKinds := [.data], laidTests := true, laidLooks := .later }
def CoreReplaysCardSaid : Prop := Claim7.holds Tryz.pinned (.plain (OpenSpec.ofChange coreReplaysSpec)) coreReplaysCard

/-- THE TIED CARD OF 'doorwardlaw30.CoreIssued'. -/
def coreIssuedCard : Claim7 := { stood := { row := coreIssuedRow, standIns := [], harness := (true, "adffadc04a793681b84e5d387d97fabeb72c835b5d35ff536d37093812ca0722"), looks := true }, kinds := [], alts := [], laidByText := true, laidKinds := [.data], laidTests := true, laidLooks := .later }
def CoreIssuedCardSaid : Prop := Claim7.holds Tryz.pinned (.plain (OpenSpec.ofChange coreIssuedSpec)) coreIssuedCard

/-- THE TIED CARD OF 'doorwardlaw30.CoreNobody'. -/
def coreNobodyCard : Claim7 := { stood := { row := coreNobodyRow, standIns := [], harness := (true, "adffadc04a793681b84e5d387d97fabeb72c835b5d35ff536d37093812ca0722"), looks := true }, kinds := [], alts := [], laidByText := true, laidKinds := [.data], laidTests := true, laidLooks := .later }
def CoreNobodyCardSaid : Prop := Claim7.holds Tryz.pinned (.plain (OpenSpec.ofChange coreNobodySpec)) coreNobodyCard

/-- THE TIED CARD OF 'doorwardlaw30.CoreErrors'. -/
def coreErrorsCard : Claim7 := { stood := { row := coreErrorsRow, standIns := [], harness := (true, "adffadc04a793681b84e5d387d97fabeb72c835b5d35ff536d37093812ca0722"), looks := true }, kinds := [], alts := [], laidByText := true, laidKinds := [.data], laidTests := true, laidLooks := .later }
def CoreErrorsCardSaid : Prop := Claim7.holds Tryz.pinned (.plain (OpenSpec.ofChange coreErrorsSpec)) coreErrorsCard

/-- THE TIED CARD OF 'doorwardlaw30.CorePlays'. -/
def corePlaysCard : Claim7 := { stood := { row := corePlaysRow, standIns := [], harness := (true, "adffadc04a793681b84e5d387d97fabeb72c835b5d35ff536d37093812ca0722"), looks := true }, kinds := [], alts := [], laidByText := true, laidKinds := [.data], laidTests := true, laidLooks := .later }
def CorePlaysCardSaid : Prop := Claim7.holds Tryz.pinned (.plain (OpenSpec.ofChange corePlaysSpec)) corePlaysCard

/-- THE SECOND FORM's CARD OF 'doorwardlaw30.CoreWithin'. -/
def coreWithinUptoCard : Claim7 := { stood := { row := coreWithinUptoRow, standIns := [], harness := (true, "adffadc04a793681b84e5d387d97fabeb72c835b5d35ff536d37093812ca0722"), looks := true }, kinds := [], alts := [], laidByText := true, laidKinds := [.data], laidTests := true, laidLooks := .later }
def CoreWithinUptoCardSaid : Prop := Claim7.holds Tryz.pinned (.plain (OpenSpec.upto coreWithinSpec)) coreWithinUptoCard

/-- THE SECOND FORM's CARD OF 'doorwardlaw30.CoreReplays'. -/
def coreReplaysUptoCard : Claim7 := { stood := { row := coreReplaysUptoRow, standIns := [], harness := (true, "adffadc04a793681b84e5d387d97fabeb72c835b5d35ff536d37093812ca0722"), looks := true }, kinds := [], alts := [], laidByText := true, laidKinds := [.data], laidTests := true, laidLooks := .later }
def CoreReplaysUptoCardSaid : Prop := Claim7.holds Tryz.pinned (.plain (OpenSpec.upto coreReplaysSpec)) coreReplaysUptoCard

/-- THE SECOND FORM's CARD OF 'doorwardlaw30.CoreIssued'. -/
def coreIssuedUptoCard : Claim7 := { stood := { row := coreIssuedUptoRow, standIns := [], harness := (true, "adffadc04a793681b84e5d387d97fabeb72c835b5d35ff536d37093812ca0722"), looks := true }, kinds := [], alts := [], laidByText := true, laidKinds := [.data], laidTests := true, laidLooks := .later }
def CoreIssuedUptoCardSaid : Prop := Claim7.holds Tryz.pinned (.plain (OpenSpec.upto coreIssuedSpec)) coreIssuedUptoCard

/-- THE SECOND FORM's CARD OF 'doorwardlaw30.CoreNobody'. -/
def coreNobodyUptoCard : Claim7 := { stood := { row := coreNobodyUptoRow, standIns := [], harness := (true, "adffadc04a793681b84e5d387d97fabeb72c835b5d35ff536d37093812ca0722"), looks := true }, kinds := [], alts := [], laidByText := true, laidKinds := [.data], laidTests := true, laidLooks := .later }
def CoreNobodyUptoCardSaid : Prop := Claim7.holds Tryz.pinned (.plain (OpenSpec.upto coreNobodySpec)) coreNobodyUptoCard

/-- THE SECOND FORM's CARD OF 'doorwardlaw30.CoreErrors'. -/
def coreErrorsUptoCard : Claim7 := { stood := { row := coreErrorsUptoRow, standIns := [], harness := (true, "adffadc04a793681b84e5d387d97fabeb72c835b5d35ff536d37093812ca0722"), looks := true }, kinds := [], alts := [], laidByText := true, laidKinds := [.data], laidTests := true, laidLooks := .later }
def CoreErrorsUptoCardSaid : Prop := Claim7.holds Tryz.pinned (.plain (OpenSpec.upto coreErrorsSpec)) coreErrorsUptoCard

/-- THE SECOND FORM's CARD OF 'doorwardlaw30.CorePlays'. -/
def corePlaysUptoCard : Claim7 := { stood := { row := corePlaysUptoRow, standIns := [], harness := (true, "adffadc04a793681b84e5d387d97fabeb72c835b5d35ff536d37093812ca0722"), looks := true }, kinds := [], alts := [], laidByText := true, laidKinds := [.data], laidTests := true, laidLooks := .later }
def CorePlaysUptoCardSaid : Prop := Claim7.holds Tryz.pinned (.plain (OpenSpec.upto corePlaysSpec)) corePlaysUptoCard
end Rows
end Go.Proofs.YtkagfkbkpiebjaaGreatDoor
