/-
  DERIVED. GIVEN WITH THE SEED: THE CARDS: each row of YtenilfmlfldogaaGreatDoorRows.lean that lists a variable, with what it lists TIED to the program's text (the seventh form; the later family's looks); each row that meets fmt, with fmt's text TOLD by the authors' own Lean function (tested against real Go, not proved from fmt's source: count such statements apart). THE CARD IS WHAT COUNTS. Prove the row's statement (the work); the ties are given (YtenilfmlfldogaaGreatDoorTie.lean); close each card by the builder's one call (the guide's Derived/Test/ToyasCard.lean, 'card_holds'). Laid BY PROGRAM, IN A SANDBOX (cutbox-door.mjs). By AI agents, Wed Nov 11 2026. No macro, syntax, notation, axiom, sorry.
-/
import Derived.Test.YtenilfmlfldogaaGreatDoorRows
import GoSem.ClaimSeven
namespace Go.Proofs.YtenilfmlfldogaaGreatDoor
namespace Rows

/-- THE TIED CARD OF 'doorwardlaw22.ExpandRight'. -/
def expandRightCard : Claim7 := { stood := { row := expandRightRow, standIns := [], harness := (true, "4191982532499f0313321047540f3796857839c420ebc1f2e4319d527ab3adf7"), looks := true }, kinds := [], alts := [], laidByText := true, laidKinds := [.data, .data, .data, .data, .sentinel, .sentinel, .pinned], laidTests := true, laidLooks := .later }
def ExpandRightCardSaid : Prop := Claim7.holds Tryz.pinned (.plain (OpenSpec.ofChange expandRightSpec)) expandRightCard

/-- THE SECOND FORM's CARD OF 'doorwardlaw22.ExpandRight'. -/
def expandRightUptoCard : Claim7 := { stood := { row := expandRightUptoRow, standIns := [], harness := (true, "4191982532499f0313321047540f3796857839c420ebc1f2e4319d527ab3adf7"), looks := true }, kinds := [], alts := [], laidByText := true, laidKinds := [.data, .data, .data, .data, .sentinel, .sentinel, .pinned], laidTests := true, laidLooks := .later }
def ExpandRightUptoCardSaid : Prop := Claim7.holds Tryz.pinned (.plain (OpenSpec.upto expandRightSpec)) expandRightUptoCard
end Rows
end Go.Proofs.YtenilfmlfldogaaGreatDoor
