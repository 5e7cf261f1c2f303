/-
  No cell of these rows narrows 'for every input' (looked for: loops, veiled, ifaces, maps, wideKeys, modest, calm, conditions, laid).
  DERIVED. THE GIVEN ROWS OF THIS SEAT. 11 by the template 'for every input the law returns true; each argument reads behind the call as it read before'; 0 by the template 'total and deterministic' (their statements: YtdljmchhecoakaaGreatTotals.lean).
  GIVEN WITH THE SEED: the statements are not yours to turn. If you find one false, say at which input.
  Laid BY PROGRAM, IN A SANDBOX (cutbox-rows.mjs): the forced cells as the released guide's own fill.sh prints them over the translation 389da91375f47656… (all of the seat's roots in one cut). By AI agents, Wed Nov 11 2026. No macro, syntax, notation, axiom, sorry.
-/
import Derived.Test.YtdljmchhecoakaaGreatChecked
import GoSem.Claim
import GoSem.ClaimJoined
import GoSem.ClaimMapViews
import Derived.JoinedTies
import Derived.KernelRfl
namespace Go.Proofs.YtdljmchhecoakaaGreat
/- THE CELL 'sum', in the pinned program and in every row, IS THE sha256 OF THE DUMP (.gsa) THAT YtdljmchhecoakaaGreatProg.lean LOADS. Nothing in Lean hashes anything: it is a label: what it is worth is what the hold of that sum in a sandbox is worth. -/
noncomputable def Tryz.pinned : Pinned := { name := "ytdljmchhecoakaagreat", sum := "389da91375f476564373d7def874d502f80f344e5bd8f7c81707cf26ccde9e4c", checked := Tryz.checked }
namespace Rows
def none {H : Type} : Left H := { results := [], args := [] }

/-- 'doorwardlaw24.MemoChecks': WHATEVER THE INPUT: true; the input reads as it did. -/
def memoChecksSpec : ChangeSpec := { name := "memoChecks", fn := fun _ => fun
  | [d1, d2, d3] => { results := [.lit (.bool true)], args := [d1, d2, d3] }
  | _ => none }
def memoChecksRow : OpenClaim := { program := "ytdljmchhecoakaagreat", sum := "389da91375f476564373d7def874d502f80f344e5bd8f7c81707cf26ccde9e4c", func := "doorward/doorwardlaw24.MemoChecks", spec := "memoChecks", inPlace := ["internal/bytealg.abigen_runtime_cmpstring"], unfollowed := true, recurses := true, plainKeys := false, apart := false }
def MemoChecksSaid : Prop := memoChecksRow.holds Tryz.pinned (OpenSpec.ofChange memoChecksSpec)

/-- ITS FALSE NEIGHBOUR: 'it returns false'. Refute it at one input. -/
def memoChecksWrong : ChangeSpec := { name := "memoChecks", fn := fun _ => fun
  | [d1, d2, d3] => { results := [.lit (.bool false)], args := [d1, d2, d3] }
  | _ => none }
def MemoChecksWrongFalsely : Prop := memoChecksRow.holds Tryz.pinned (OpenSpec.ofChange memoChecksWrong)

/-- 'doorwardlaw20.ReachFinds': WHATEVER THE INPUT: true; the input reads as it did. -/
def reachFindsSpec : ChangeSpec := { name := "reachFinds", fn := fun _ => fun
  | [d1, d2, d3, d4, d5] => { results := [.lit (.bool true)], args := [d1, d2, d3, d4, d5] }
  | _ => none }
def reachFindsRow : OpenClaim := { program := "ytdljmchhecoakaagreat", sum := "389da91375f476564373d7def874d502f80f344e5bd8f7c81707cf26ccde9e4c", func := "doorward/doorwardlaw20.ReachFinds", spec := "reachFinds", inPlace := ["internal/bytealg.IndexByteString", "internal/bytealg.IndexString", "internal/bytealg.abigen_runtime_cmpstring"], unfollowed := true, recurses := true, named := ["internal/bytealg.MaxLen"], plainKeys := false, apart := false }
def ReachFindsSaid : Prop := reachFindsRow.holds Tryz.pinned (OpenSpec.ofChange reachFindsSpec)

/-- ITS FALSE NEIGHBOUR: 'it returns false'. Refute it at one input. -/
def reachFindsWrong : ChangeSpec := { name := "reachFinds", fn := fun _ => fun
  | [d1, d2, d3, d4, d5] => { results := [.lit (.bool false)], args := [d1, d2, d3, d4, d5] }
  | _ => none }
def ReachFindsWrongFalsely : Prop := reachFindsRow.holds Tryz.pinned (OpenSpec.ofChange reachFindsWrong)

/-- 'doorwardlaw21.SolveChecks': WHATEVER THE INPUT: true; the input reads as it did. -/
def solveChecksSpec : ChangeSpec := { name := "solveChecks", fn := fun _ => fun
  | [d1, d2, d3, d4, d5, d6] => { results := [.lit (.bool true)], args := [d1, d2, d3, d4, d5, d6] }
  | _ => none }
def solveChecksRow : OpenClaim := { program := "ytdljmchhecoakaagreat", sum := "389da91375f476564373d7def874d502f80f344e5bd8f7c81707cf26ccde9e4c", func := "doorward/doorwardlaw21.SolveChecks", spec := "solveChecks", inPlace := ["internal/bytealg.IndexByteString", "internal/bytealg.IndexString", "internal/bytealg.abigen_runtime_cmpstring"], unfollowed := true, recurses := true, named := ["internal/bytealg.MaxLen"], plainKeys := false, apart := false }
def SolveChecksSaid : Prop := solveChecksRow.holds Tryz.pinned (OpenSpec.ofChange solveChecksSpec)

/-- ITS FALSE NEIGHBOUR: 'it returns false'. Refute it at one input. -/
def solveChecksWrong : ChangeSpec := { name := "solveChecks", fn := fun _ => fun
  | [d1, d2, d3, d4, d5, d6] => { results := [.lit (.bool false)], args := [d1, d2, d3, d4, d5, d6] }
  | _ => none }
def SolveChecksWrongFalsely : Prop := solveChecksRow.holds Tryz.pinned (OpenSpec.ofChange solveChecksWrong)

/-- 'doorwardlaw21.SolveValues': WHATEVER THE INPUT: true; the input reads as it did. -/
def solveValuesSpec : ChangeSpec := { name := "solveValues", fn := fun _ => fun
  | [d1, d2, d3, d4] => { results := [.lit (.bool true)], args := [d1, d2, d3, d4] }
  | _ => none }
def solveValuesRow : OpenClaim := { program := "ytdljmchhecoakaagreat", sum := "389da91375f476564373d7def874d502f80f344e5bd8f7c81707cf26ccde9e4c", func := "doorward/doorwardlaw21.SolveValues", spec := "solveValues", inPlace := ["internal/bytealg.IndexByteString", "internal/bytealg.IndexString", "internal/bytealg.abigen_runtime_cmpstring"], unfollowed := true, recurses := true, named := ["internal/bytealg.MaxLen"], plainKeys := false, apart := false }
def SolveValuesSaid : Prop := solveValuesRow.holds Tryz.pinned (OpenSpec.ofChange solveValuesSpec)

/-- ITS FALSE NEIGHBOUR: 'it returns false'. Refute it at one input. -/
def solveValuesWrong : ChangeSpec := { name := "solveValues", fn := fun _ => fun
  | [d1, d2, d3, d4] => { results := [.lit (.bool false)], args := [d1, d2, d3, d4] }
  | _ => none }
def SolveValuesWrongFalsely : Prop := solveValuesRow.holds Tryz.pinned (OpenSpec.ofChange solveValuesWrong)

/-- 'doorwardlaw21.SolveModel': WHATEVER THE INPUT: true; the input reads as it did. -/
def solveModelSpec : ChangeSpec := { name := "solveModel", fn := fun _ => fun
  | [d1, d2, d3, d4] => { results := [.lit (.bool true)], args := [d1, d2, d3, d4] }
  | _ => none }
def solveModelRow : OpenClaim := { program := "ytdljmchhecoakaagreat", sum := "389da91375f476564373d7def874d502f80f344e5bd8f7c81707cf26ccde9e4c", func := "doorward/doorwardlaw21.SolveModel", spec := "solveModel", inPlace := ["internal/bytealg.IndexByteString", "internal/bytealg.IndexString", "internal/bytealg.abigen_runtime_cmpstring"], unfollowed := true, recurses := true, named := ["internal/bytealg.MaxLen"], plainKeys := false, apart := false }
def SolveModelSaid : Prop := solveModelRow.holds Tryz.pinned (OpenSpec.ofChange solveModelSpec)

/-- ITS FALSE NEIGHBOUR: 'it returns false'. Refute it at one input. -/
def solveModelWrong : ChangeSpec := { name := "solveModel", fn := fun _ => fun
  | [d1, d2, d3, d4] => { results := [.lit (.bool false)], args := [d1, d2, d3, d4] }
  | _ => none }
def SolveModelWrongFalsely : Prop := solveModelRow.holds Tryz.pinned (OpenSpec.ofChange solveModelWrong)

/-- 'doorwardlaw21.SolveBudget': WHATEVER THE INPUT: true; the input reads as it did. -/
def solveBudgetSpec : ChangeSpec := { name := "solveBudget", fn := fun _ => fun
  | [d1, d2, d3, d4, d5] => { results := [.lit (.bool true)], args := [d1, d2, d3, d4, d5] }
  | _ => none }
def solveBudgetRow : OpenClaim := { program := "ytdljmchhecoakaagreat", sum := "389da91375f476564373d7def874d502f80f344e5bd8f7c81707cf26ccde9e4c", func := "doorward/doorwardlaw21.SolveBudget", spec := "solveBudget", inPlace := ["internal/bytealg.IndexByteString", "internal/bytealg.IndexString", "internal/bytealg.abigen_runtime_cmpstring"], unfollowed := true, recurses := true, named := ["internal/bytealg.MaxLen"], plainKeys := false, apart := false }
def SolveBudgetSaid : Prop := solveBudgetRow.holds Tryz.pinned (OpenSpec.ofChange solveBudgetSpec)

/-- ITS FALSE NEIGHBOUR: 'it returns false'. Refute it at one input. -/
def solveBudgetWrong : ChangeSpec := { name := "solveBudget", fn := fun _ => fun
  | [d1, d2, d3, d4, d5] => { results := [.lit (.bool false)], args := [d1, d2, d3, d4, d5] }
  | _ => none }
def SolveBudgetWrongFalsely : Prop := solveBudgetRow.holds Tryz.pinned (OpenSpec.ofChange solveBudgetWrong)

/-- 'doorwardlaw21.SolveRounds': WHATEVER THE INPUT: true; the input reads as it did. -/
def solveRoundsSpec : ChangeSpec := { name := "solveRounds", fn := fun _ => fun
  | [d1, d2] => { results := [.lit (.bool true)], args := [d1, d2] }
  | _ => none }
def solveRoundsRow : OpenClaim := { program := "ytdljmchhecoakaagreat", sum := "389da91375f476564373d7def874d502f80f344e5bd8f7c81707cf26ccde9e4c", func := "doorward/doorwardlaw21.SolveRounds", spec := "solveRounds", inPlace := ["internal/bytealg.IndexByteString", "internal/bytealg.IndexString", "internal/bytealg.abigen_runtime_cmpstring"], unfollowed := true, recurses := true, named := ["internal/bytealg.MaxLen"], plainKeys := false, apart := false }
def SolveRoundsSaid : Prop := solveRoundsRow.holds Tryz.pinned (OpenSpec.ofChange solveRoundsSpec)

/-- ITS FALSE NEIGHBOUR: 'it returns false'. Refute it at one input. -/
def solveRoundsWrong : ChangeSpec := { name := "solveRounds", fn := fun _ => fun
  | [d1, d2] => { results := [.lit (.bool false)], args := [d1, d2] }
  | _ => none }
def SolveRoundsWrongFalsely : Prop := solveRoundsRow.holds Tryz.pinned (OpenSpec.ofChange solveRoundsWrong)

/-- 'doorwardlaw22.ExpandUsers': WHATEVER THE INPUT: true; the input reads as it did. -/
def expandUsersSpec : ChangeSpec := { name := "expandUsers", fn := fun _ => fun
  | [d1, d2, d3, d4] => { results := [.lit (.bool true)], args := [d1, d2, d3, d4] }
  | _ => none }
def expandUsersRow : OpenClaim := { program := "ytdljmchhecoakaagreat", sum := "389da91375f476564373d7def874d502f80f344e5bd8f7c81707cf26ccde9e4c", func := "doorward/doorwardlaw22.ExpandUsers", spec := "expandUsers", inPlace := ["internal/bytealg.abigen_runtime_cmpstring"], unfollowed := true, recurses := true, plainKeys := false, apart := false }
def ExpandUsersSaid : Prop := expandUsersRow.holds Tryz.pinned (OpenSpec.ofChange expandUsersSpec)

/-- ITS FALSE NEIGHBOUR: 'it returns false'. Refute it at one input. -/
def expandUsersWrong : ChangeSpec := { name := "expandUsers", fn := fun _ => fun
  | [d1, d2, d3, d4] => { results := [.lit (.bool false)], args := [d1, d2, d3, d4] }
  | _ => none }
def ExpandUsersWrongFalsely : Prop := expandUsersRow.holds Tryz.pinned (OpenSpec.ofChange expandUsersWrong)

/-- 'doorwardlaw22.ExpandOthers': WHATEVER THE INPUT: true; the input reads as it did. -/
def expandOthersSpec : ChangeSpec := { name := "expandOthers", fn := fun _ => fun
  | [d1, d2, d3, d4] => { results := [.lit (.bool true)], args := [d1, d2, d3, d4] }
  | _ => none }
def expandOthersRow : OpenClaim := { program := "ytdljmchhecoakaagreat", sum := "389da91375f476564373d7def874d502f80f344e5bd8f7c81707cf26ccde9e4c", func := "doorward/doorwardlaw22.ExpandOthers", spec := "expandOthers", inPlace := ["internal/bytealg.abigen_runtime_cmpstring"], unfollowed := true, recurses := true, plainKeys := false, apart := false }
def ExpandOthersSaid : Prop := expandOthersRow.holds Tryz.pinned (OpenSpec.ofChange expandOthersSpec)

/-- ITS FALSE NEIGHBOUR: 'it returns false'. Refute it at one input. -/
def expandOthersWrong : ChangeSpec := { name := "expandOthers", fn := fun _ => fun
  | [d1, d2, d3, d4] => { results := [.lit (.bool false)], args := [d1, d2, d3, d4] }
  | _ => none }
def ExpandOthersWrongFalsely : Prop := expandOthersRow.holds Tryz.pinned (OpenSpec.ofChange expandOthersWrong)

/-- 'doorwardlaw23.LookupFinds': WHATEVER THE INPUT: true; the input reads as it did. -/
def lookupFindsSpec : ChangeSpec := { name := "lookupFinds", fn := fun _ => fun
  | [d1, d2, d3, d4, d5, d6] => { results := [.lit (.bool true)], args := [d1, d2, d3, d4, d5, d6] }
  | _ => none }
def lookupFindsRow : OpenClaim := { program := "ytdljmchhecoakaagreat", sum := "389da91375f476564373d7def874d502f80f344e5bd8f7c81707cf26ccde9e4c", func := "doorward/doorwardlaw23.LookupFinds", spec := "lookupFinds", inPlace := ["internal/bytealg.IndexByteString", "internal/bytealg.IndexString", "internal/bytealg.abigen_runtime_cmpstring"], unfollowed := true, recurses := true, named := ["internal/bytealg.MaxLen"], plainKeys := false, apart := false }
def LookupFindsSaid : Prop := lookupFindsRow.holds Tryz.pinned (OpenSpec.ofChange lookupFindsSpec)

/-- ITS FALSE NEIGHBOUR: 'it returns false'. Refute it at one input. -/
def lookupFindsWrong : ChangeSpec := { name := "lookupFinds", fn := fun _ => fun
  | [d1, d2, d3, d4, d5, d6] => { results := [.lit (.bool false)], args := [d1, d2, d3, d4, d5, d6] }
  | _ => none }
def LookupFindsWrongFalsely : Prop := lookupFindsRow.holds Tryz.pinned (OpenSpec.ofChange lookupFindsWrong)

/-- 'doorwardlaw23.LookupJust': WHATEVER THE INPUT: true; the input reads as it did. -/
def lookupJustSpec : ChangeSpec := { name := "lookupJust", fn := fun _ => fun
  | [d1, d2, d3, d4] => { results := [.lit (.bool true)], args := [d1, d2, d3, d4] }
  | _ => none }
def lookupJustRow : OpenClaim := { program := "ytdljmchhecoakaagreat", sum := "389da91375f476564373d7def874d502f80f344e5bd8f7c81707cf26ccde9e4c", func := "doorward/doorwardlaw23.LookupJust", spec := "lookupJust", inPlace := ["internal/bytealg.IndexByteString", "internal/bytealg.IndexString", "internal/bytealg.abigen_runtime_cmpstring"], unfollowed := true, recurses := true, named := ["internal/bytealg.MaxLen"], plainKeys := false, apart := false }
def LookupJustSaid : Prop := lookupJustRow.holds Tryz.pinned (OpenSpec.ofChange lookupJustSpec)

/-- ITS FALSE NEIGHBOUR: 'it returns false'. Refute it at one input. -/
def lookupJustWrong : ChangeSpec := { name := "lookupJust", fn := fun _ => fun
  | [d1, d2, d3, d4] => { results := [.lit (.bool false)], args := [d1, d2, d3, d4] }
  | _ => none }
def LookupJustWrongFalsely : Prop := lookupJustRow.holds Tryz.pinned (OpenSpec.ofChange lookupJustWrong)

/- THE SECOND FORM. 'bulk': how many values and letters a reading holds, each counted each time it is reached (what is shared counts as often as it is met; a slice's spare places count too). A statement '..UptoSaid' is the law's where the arguments, and the package variables that the reading takes, are together of bulk at most 1048576: NARROWER than '..Said'. Prove '..Said' where nothing that the law and all that it calls make is longer than what came in: it says more and counts as full. Else prove '..UptoSaid'. A law counts once. -/
mutual
def uptoBulk {H : Type} : DataW H → Nat
  | .lit (.string bytes) => bytes.length + 1
  | .lit _ => 1
  | .nil => 1
  | .ptr d => uptoBulk d + 1
  | .slice elems spare => uptoBulkAll elems + uptoBulkAll spare + 1
  | .agg parts => uptoBulkAll parts + 1
  | .iface _ d => uptoBulk d + 1
  | .map entries => uptoBulkEntries entries + 1
  | .held _ => 1
def uptoBulkAll {H : Type} : List (DataW H) → Nat
  | [] => 0
  | d :: r => uptoBulk d + uptoBulkAll r
def uptoBulkEntries {H : Type} : List (Lit × DataW H) → Nat
  | [] => 0
  | x :: r => uptoBulkEntry x + uptoBulkEntries r
def uptoBulkEntry {H : Type} : Lit × DataW H → Nat
  | (.string bytes, d) => bytes.length + uptoBulk d + 1
  | (_, d) => uptoBulk d + 1
 end
def uptoSmall : (H : Type) → List (DataW H) → Bool := fun _ ds => decide (uptoBulkAll ds ≤ 1048576)
def OpenSpec.upto (s : _root_.Go.ChangeSpec) : _root_.Go.OpenSpec := { _root_.Go.OpenSpec.ofChange s with cond := some uptoSmall }

/-- 'doorwardlaw24.MemoChecks', WHERE WHAT IT READS IS OF BULK AT MOST 1048576: true; the input reads as it did. -/
def memoChecksUptoRow : OpenClaim := { program := "ytdljmchhecoakaagreat", sum := "389da91375f476564373d7def874d502f80f344e5bd8f7c81707cf26ccde9e4c", func := "doorward/doorwardlaw24.MemoChecks", spec := "memoChecks", inPlace := ["internal/bytealg.abigen_runtime_cmpstring"], unfollowed := true, recurses := true, plainKeys := false, apart := false, narrowed := true }
def MemoChecksUptoSaid : Prop := memoChecksUptoRow.holds Tryz.pinned (OpenSpec.upto memoChecksSpec)

/-- 'doorwardlaw20.ReachFinds', WHERE WHAT IT READS IS OF BULK AT MOST 1048576: true; the input reads as it did. -/
def reachFindsUptoRow : OpenClaim := { program := "ytdljmchhecoakaagreat", sum := "389da91375f476564373d7def874d502f80f344e5bd8f7c81707cf26ccde9e4c", func := "doorward/doorwardlaw20.ReachFinds", spec := "reachFinds", inPlace := ["internal/bytealg.IndexByteString", "internal/bytealg.IndexString", "internal/bytealg.abigen_runtime_cmpstring"], unfollowed := true, recurses := true, named := ["internal/bytealg.MaxLen"], plainKeys := false, apart := false, narrowed := true }
def ReachFindsUptoSaid : Prop := reachFindsUptoRow.holds Tryz.pinned (OpenSpec.upto reachFindsSpec)

/-- 'doorwardlaw21.SolveChecks', WHERE WHAT IT READS IS OF BULK AT MOST 1048576: true; the input reads as it did. -/
def solveChecksUptoRow : OpenClaim := { program := "ytdljmchhecoakaagreat", sum := "389da91375f476564373d7def874d502f80f344e5bd8f7c81707cf26ccde9e4c", func := "doorward/doorwardlaw21.SolveChecks", spec := "solveChecks", inPlace := ["internal/bytealg.IndexByteString", "internal/bytealg.IndexString", "internal/bytealg.abigen_runtime_cmpstring"], unfollowed := true, recurses := true, named := ["internal/bytealg.MaxLen"], plainKeys := false, apart := false, narrowed := true }
def SolveChecksUptoSaid : Prop := solveChecksUptoRow.holds Tryz.pinned (OpenSpec.upto solveChecksSpec)

/-- 'doorwardlaw21.SolveValues', WHERE WHAT IT READS IS OF BULK AT MOST 1048576: true; the input reads as it did. -/
def solveValuesUptoRow : OpenClaim := { program := "ytdljmchhecoakaagreat", sum := "389da91375f476564373d7def874d502f80f344e5bd8f7c81707cf26ccde9e4c", func := "doorward/doorwardlaw21.SolveValues", spec := "solveValues", inPlace := ["internal/bytealg.IndexByteString", "internal/bytealg.IndexString", "internal/bytealg.abigen_runtime_cmpstring"], unfollowed := true, recurses := true, named := ["internal/bytealg.MaxLen"], plainKeys := false, apart := false, narrowed := true }
def SolveValuesUptoSaid : Prop := solveValuesUptoRow.holds Tryz.pinned (OpenSpec.upto solveValuesSpec)

/-- 'doorwardlaw21.SolveModel', WHERE WHAT IT READS IS OF BULK AT MOST 1048576: true; the input reads as it did. -/
def solveModelUptoRow : OpenClaim := { program := "ytdljmchhecoakaagreat", sum := "389da91375f476564373d7def874d502f80f344e5bd8f7c81707cf26ccde9e4c", func := "doorward/doorwardlaw21.SolveModel", spec := "solveModel", inPlace := ["internal/bytealg.IndexByteString", "internal/bytealg.IndexString", "internal/bytealg.abigen_runtime_cmpstring"], unfollowed := true, recurses := true, named := ["internal/bytealg.MaxLen"], plainKeys := false, apart := false, narrowed := true }
def SolveModelUptoSaid : Prop := solveModelUptoRow.holds Tryz.pinned (OpenSpec.upto solveModelSpec)

/-- 'doorwardlaw21.SolveBudget', WHERE WHAT IT READS IS OF BULK AT MOST 1048576: true; the input reads as it did. -/
def solveBudgetUptoRow : OpenClaim := { program := "ytdljmchhecoakaagreat", sum := "389da91375f476564373d7def874d502f80f344e5bd8f7c81707cf26ccde9e4c", func := "doorward/doorwardlaw21.SolveBudget", spec := "solveBudget", inPlace := ["internal/bytealg.IndexByteString", "internal/bytealg.IndexString", "internal/bytealg.abigen_runtime_cmpstring"], unfollowed := true, recurses := true, named := ["internal/bytealg.MaxLen"], plainKeys := false, apart := false, narrowed := true }
def SolveBudgetUptoSaid : Prop := solveBudgetUptoRow.holds Tryz.pinned (OpenSpec.upto solveBudgetSpec)

/-- 'doorwardlaw21.SolveRounds', WHERE WHAT IT READS IS OF BULK AT MOST 1048576: true; the input reads as it did. -/
def solveRoundsUptoRow : OpenClaim := { program := "ytdljmchhecoakaagreat", sum := "389da91375f476564373d7def874d502f80f344e5bd8f7c81707cf26ccde9e4c", func := "doorward/doorwardlaw21.SolveRounds", spec := "solveRounds", inPlace := ["internal/bytealg.IndexByteString", "internal/bytealg.IndexString", "internal/bytealg.abigen_runtime_cmpstring"], unfollowed := true, recurses := true, named := ["internal/bytealg.MaxLen"], plainKeys := false, apart := false, narrowed := true }
def SolveRoundsUptoSaid : Prop := solveRoundsUptoRow.holds Tryz.pinned (OpenSpec.upto solveRoundsSpec)

/-- 'doorwardlaw22.ExpandUsers', WHERE WHAT IT READS IS OF BULK AT MOST 1048576: true; the input reads as it did. -/
def expandUsersUptoRow : OpenClaim := { program := "ytdljmchhecoakaagreat", sum := "389da91375f476564373d7def874d502f80f344e5bd8f7c81707cf26ccde9e4c", func := "doorward/doorwardlaw22.ExpandUsers", spec := "expandUsers", inPlace := ["internal/bytealg.abigen_runtime_cmpstring"], unfollowed := true, recurses := true, plainKeys := false, apart := false, narrowed := true }
def ExpandUsersUptoSaid : Prop := expandUsersUptoRow.holds Tryz.pinned (OpenSpec.upto expandUsersSpec)

/-- 'doorwardlaw22.ExpandOthers', WHERE WHAT IT READS IS OF BULK AT MOST 1048576: true; the input reads as it did. -/
def expandOthersUptoRow : OpenClaim := { program := "ytdljmchhecoakaagreat", sum := "389da91375f476564373d7def874d502f80f344e5bd8f7c81707cf26ccde9e4c", func := "doorward/doorwardlaw22.ExpandOthers", spec := "expandOthers", inPlace := ["internal/bytealg.abigen_runtime_cmpstring"], unfollowed := true, recurses := true, plainKeys := false, apart := false, narrowed := true }
def ExpandOthersUptoSaid : Prop := expandOthersUptoRow.holds Tryz.pinned (OpenSpec.upto expandOthersSpec)

/-- 'doorwardlaw23.LookupFinds', WHERE WHAT IT READS IS OF BULK AT MOST 1048576: true; the input reads as it did. -/
def lookupFindsUptoRow : OpenClaim := { program := "ytdljmchhecoakaagreat", sum := "389da91375f476564373d7def874d502f80f344e5bd8f7c81707cf26ccde9e4c", func := "doorward/doorwardlaw23.LookupFinds", spec := "lookupFinds", inPlace := ["internal/bytealg.IndexByteString", "internal/bytealg.IndexString", "internal/bytealg.abigen_runtime_cmpstring"], unfollowed := true, recurses := true, named := ["internal/bytealg.MaxLen"], plainKeys := false, apart := false, narrowed := true }
def LookupFindsUptoSaid : Prop := lookupFindsUptoRow.holds Tryz.pinned (OpenSpec.upto lookupFindsSpec)

/-- 'doorwardlaw23.LookupJust', WHERE WHAT IT READS IS OF BULK AT MOST 1048576: true; the input reads as it did. -/
def lookupJustUptoRow : OpenClaim := { program := "ytdljmchhecoakaagreat", sum := "389da91375f476564373d7def874d502f80f344e5bd8f7c81707cf26ccde9e4c", func := "doorward/doorwardlaw23.LookupJust", spec := "lookupJust", inPlace := ["internal/bytealg.IndexByteString", "internal/bytealg.IndexString", "internal/bytealg.abigen_runtime_cmpstring"], unfollowed := true, recurses := true, named := ["internal/bytealg.MaxLen"], plainKeys := false, apart := false, narrowed := true }
def LookupJustUptoSaid : Prop := lookupJustUptoRow.holds Tryz.pinned (OpenSpec.upto lookupJustSpec)

end Rows
end Go.Proofs.YtdljmchhecoakaaGreat
