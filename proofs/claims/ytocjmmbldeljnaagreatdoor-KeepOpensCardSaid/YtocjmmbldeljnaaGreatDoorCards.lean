/-
  DERIVED. GIVEN WITH THE SEED: THE CARDS: each row of YtocjmmbldeljnaaGreatDoorRows.lean that lists a variable, with what it lists TIED to the program's text (the seventh form; the later family's looks); each row that meets fmt, with fmt's text TOLD by the authors' own Lean function (tested against real Go, not proved from fmt's source: count such statements apart). THE CARD IS WHAT COUNTS. Prove the row's statement (the work); the ties are given (YtocjmmbldeljnaaGreatDoorTie.lean); close each card by the builder's one call (the guide's Derived/Test/ToyasCard.lean, 'card_holds'). Laid BY PROGRAM, IN A SANDBOX (cutbox-door.mjs). By AI agents, Wed Nov 11 2026. No macro, syntax, notation, axiom, sorry.
-/
import Derived.Test.YtocjmmbldeljnaaGreatDoorRows
import GoSem.ClaimSeven
namespace Go.Proofs.YtocjmmbldeljnaaGreatDoor
namespace Rows

/-- THE TIED CARD OF 'doorwardlaw32.KeepOpens'. -/
def keepOpensCard : Claim7 := { stood := { row := keepOpensRow, standIns := [], harness := (true, "5d90ace1d3a648e3423ae1b9e3c566e98c7a5179f2993ed88d207a070ae418ec"), looks := true }, kinds := [], alts := [], laidByText := true, laidKinds := [.data, .data], laidTests := true, laidLooks := .later }
def KeepOpensCardSaid : Prop := Claim7.holds Tryz.pinned (.plain (OpenSpec.ofChange keepOpensSpec)) keepOpensCard

/-- THE SECOND FORM's CARD OF 'doorwardlaw32.KeepOpens'. -/
def keepOpensUptoCard : Claim7 := { stood := { row := keepOpensUptoRow, standIns := [], harness := (true, "5d90ace1d3a648e3423ae1b9e3c566e98c7a5179f2993ed88d207a070ae418ec"), looks := true }, kinds := [], alts := [], laidByText := true, laidKinds := [.data, .data], laidTests := true, laidLooks := .later }
def KeepOpensUptoCardSaid : Prop := Claim7.holds Tryz.pinned (.plain (OpenSpec.upto keepOpensSpec)) keepOpensUptoCard
end Rows
end Go.Proofs.YtocjmmbldeljnaaGreatDoor
