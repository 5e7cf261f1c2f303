/-
  DERIVED. GIVEN WITH THE SEED: THE CARDS: each row of YtpmhgpjcladbkaaDoorRows.lean that lists a variable, with what it lists TIED to the program's text (the seventh form; the later family's looks); each row that meets fmt, with fmt's text TOLD by the authors' own Lean function (tested against real Go, not proved from fmt's source: count such statements apart). THE CARD IS WHAT COUNTS. Prove the row's statement (the work); the ties are given (YtpmhgpjcladbkaaDoorTie.lean); close each card by the builder's one call (the guide's Derived/Test/ToyasCard.lean, 'card_holds'). Laid BY PROGRAM, IN A SANDBOX (cutbox-door.mjs). By AI agents, Wed Nov 11 2026. No macro, syntax, notation, axiom, sorry.
-/
import Derived.Test.YtpmhgpjcladbkaaDoorRows
import GoSem.ClaimSeven
namespace Go.Proofs.YtpmhgpjcladbkaaDoor
namespace Rows

/-- THE TIED CARD OF 'doorwardlaw28.GrantOnce'. -/
def grantOnceCard : Claim7 := { stood := { row := grantOnceRow, standIns := [], harness := (true, "a73507d9e64ddeb40cd0b6f5e95b8fcf7eb3827ad66ffe9c318ddb86c6075fac"), looks := true }, kinds := [], alts := [], laidByText := true, laidKinds := [.data], laidTests := true, laidLooks := .later }
def GrantOnceCardSaid : Prop := Claim7.holds Tryd.pinned (.plain (OpenSpec.ofChange grantOnceSpec)) grantOnceCard

/-- THE SECOND FORM's CARD OF 'doorwardlaw28.GrantOnce'. -/
def grantOnceUptoCard : Claim7 := { stood := { row := grantOnceUptoRow, standIns := [], harness := (true, "a73507d9e64ddeb40cd0b6f5e95b8fcf7eb3827ad66ffe9c318ddb86c6075fac"), looks := true }, kinds := [], alts := [], laidByText := true, laidKinds := [.data], laidTests := true, laidLooks := .later }
def GrantOnceUptoCardSaid : Prop := Claim7.holds Tryd.pinned (.plain (OpenSpec.upto grantOnceSpec)) grantOnceUptoCard
end Rows
end Go.Proofs.YtpmhgpjcladbkaaDoor
