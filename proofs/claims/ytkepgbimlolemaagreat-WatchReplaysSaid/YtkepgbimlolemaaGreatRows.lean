/-
  No cell of these rows narrows 'for every input' (looked for: loops, veiled, ifaces, maps, wideKeys, modest, calm, conditions, laid).
  DERIVED. THE GIVEN ROWS OF THIS SEAT. 5 by the template 'for every input the law returns true; each argument reads behind the call as it read before'; 0 by the template 'total and deterministic' (their statements: YtkepgbimlolemaaGreatTotals.lean).
  GIVEN WITH THE SEED: the statements are not yours to turn. If you find one false, say at which input.
  Laid BY PROGRAM, IN A SANDBOX (cutbox-rows.mjs): the forced cells as the released guide's own fill.sh prints them over the translation 8ffd341490b61760… (all of the seat's roots in one cut). By AI agents, Wed Nov 11 2026. No macro, syntax, notation, axiom, sorry.
-/
import Derived.Test.YtkepgbimlolemaaGreatChecked
import GoSem.Claim
import GoSem.ClaimJoined
import GoSem.ClaimMapViews
import Derived.JoinedTies
import Derived.KernelRfl
namespace Go.Proofs.YtkepgbimlolemaaGreat
/- THE CELL 'sum', in the pinned program and in every row, IS THE sha256 OF THE DUMP (.gsa) THAT YtkepgbimlolemaaGreatProg.lean LOADS. Nothing in Lean hashes anything: it is a label: what it is worth is what the hold of that sum in a sandbox is worth. -/
noncomputable def Tryz.pinned : Pinned := { name := "ytkepgbimlolemaagreat", sum := "8ffd341490b617603a68da4e9c5b6e55fec7c045d0e402a8358381eb8a8f904c", checked := Tryz.checked }
namespace Rows
def none {H : Type} : Left H := { results := [], args := [] }

/-- 'doorwardlaw12.StoreLoads': WHATEVER THE INPUT: true; the input reads as it did. -/
def storeLoadsSpec : ChangeSpec := { name := "storeLoads", fn := fun _ => fun
  | [d1, d2, d3, d4] => { results := [.lit (.bool true)], args := [d1, d2, d3, d4] }
  | _ => none }
def storeLoadsRow : OpenClaim := { program := "ytkepgbimlolemaagreat", sum := "8ffd341490b617603a68da4e9c5b6e55fec7c045d0e402a8358381eb8a8f904c", func := "doorward/doorwardlaw12.StoreLoads", spec := "storeLoads", inPlace := ["internal/bytealg.abigen_runtime_cmpstring"], unfollowed := true, recurses := true, plainKeys := false, apart := false }
def StoreLoadsSaid : Prop := storeLoadsRow.holds Tryz.pinned (OpenSpec.ofChange storeLoadsSpec)

/-- ITS FALSE NEIGHBOUR: 'it returns false'. Refute it at one input. -/
def storeLoadsWrong : ChangeSpec := { name := "storeLoads", fn := fun _ => fun
  | [d1, d2, d3, d4] => { results := [.lit (.bool false)], args := [d1, d2, d3, d4] }
  | _ => none }
def StoreLoadsWrongFalsely : Prop := storeLoadsRow.holds Tryz.pinned (OpenSpec.ofChange storeLoadsWrong)

/-- 'doorwardlaw13.WatchNobody': WHATEVER THE INPUT: true; the input reads as it did. -/
def watchNobodySpec : ChangeSpec := { name := "watchNobody", fn := fun _ => fun
  | [d1, d2] => { results := [.lit (.bool true)], args := [d1, d2] }
  | _ => none }
def watchNobodyRow : OpenClaim := { program := "ytkepgbimlolemaagreat", sum := "8ffd341490b617603a68da4e9c5b6e55fec7c045d0e402a8358381eb8a8f904c", func := "doorward/doorwardlaw13.WatchNobody", spec := "watchNobody", inPlace := ["internal/bytealg.abigen_runtime_cmpstring"], unfollowed := true, recurses := true, plainKeys := false, apart := false }
def WatchNobodySaid : Prop := watchNobodyRow.holds Tryz.pinned (OpenSpec.ofChange watchNobodySpec)

/-- ITS FALSE NEIGHBOUR: 'it returns false'. Refute it at one input. -/
def watchNobodyWrong : ChangeSpec := { name := "watchNobody", fn := fun _ => fun
  | [d1, d2] => { results := [.lit (.bool false)], args := [d1, d2] }
  | _ => none }
def WatchNobodyWrongFalsely : Prop := watchNobodyRow.holds Tryz.pinned (OpenSpec.ofChange watchNobodyWrong)

/-- 'doorwardlaw13.WatchTells': WHATEVER THE INPUT: true; the input reads as it did. -/
def watchTellsSpec : ChangeSpec := { name := "watchTells", fn := fun _ => fun
  | [d1, d2, d3] => { results := [.lit (.bool true)], args := [d1, d2, d3] }
  | _ => none }
def watchTellsRow : OpenClaim := { program := "ytkepgbimlolemaagreat", sum := "8ffd341490b617603a68da4e9c5b6e55fec7c045d0e402a8358381eb8a8f904c", func := "doorward/doorwardlaw13.WatchTells", spec := "watchTells", inPlace := ["internal/bytealg.abigen_runtime_cmpstring"], unfollowed := true, recurses := true, plainKeys := false, apart := false }
def WatchTellsSaid : Prop := watchTellsRow.holds Tryz.pinned (OpenSpec.ofChange watchTellsSpec)

/-- ITS FALSE NEIGHBOUR: 'it returns false'. Refute it at one input. -/
def watchTellsWrong : ChangeSpec := { name := "watchTells", fn := fun _ => fun
  | [d1, d2, d3] => { results := [.lit (.bool false)], args := [d1, d2, d3] }
  | _ => none }
def WatchTellsWrongFalsely : Prop := watchTellsRow.holds Tryz.pinned (OpenSpec.ofChange watchTellsWrong)

/-- 'doorwardlaw13.WatchPieces': WHATEVER THE INPUT: true; the input reads as it did. -/
def watchPiecesSpec : ChangeSpec := { name := "watchPieces", fn := fun _ => fun
  | [d1, d2, d3] => { results := [.lit (.bool true)], args := [d1, d2, d3] }
  | _ => none }
def watchPiecesRow : OpenClaim := { program := "ytkepgbimlolemaagreat", sum := "8ffd341490b617603a68da4e9c5b6e55fec7c045d0e402a8358381eb8a8f904c", func := "doorward/doorwardlaw13.WatchPieces", spec := "watchPieces", inPlace := ["internal/bytealg.abigen_runtime_cmpstring"], unfollowed := true, recurses := true, plainKeys := false, apart := false }
def WatchPiecesSaid : Prop := watchPiecesRow.holds Tryz.pinned (OpenSpec.ofChange watchPiecesSpec)

/-- ITS FALSE NEIGHBOUR: 'it returns false'. Refute it at one input. -/
def watchPiecesWrong : ChangeSpec := { name := "watchPieces", fn := fun _ => fun
  | [d1, d2, d3] => { results := [.lit (.bool false)], args := [d1, d2, d3] }
  | _ => none }
def WatchPiecesWrongFalsely : Prop := watchPiecesRow.holds Tryz.pinned (OpenSpec.ofChange watchPiecesWrong)

/-- 'doorwardlaw13.WatchReplays': WHATEVER THE INPUT: true; the input reads as it did. -/
def watchReplaysSpec : ChangeSpec := { name := "watchReplays", fn := fun _ => fun
  | [d1, d2] => { results := [.lit (.bool true)], args := [d1, d2] }
  | _ => none }
def watchReplaysRow : OpenClaim := { program := "ytkepgbimlolemaagreat", sum := "8ffd341490b617603a68da4e9c5b6e55fec7c045d0e402a8358381eb8a8f904c", func := "doorward/doorwardlaw13.WatchReplays", spec := "watchReplays", inPlace := ["internal/bytealg.abigen_runtime_cmpstring", "slices.overlaps[doorward/api.Tuple]"], unfollowed := true, recurses := true, plainKeys := false, apart := false }
def WatchReplaysSaid : Prop := watchReplaysRow.holds Tryz.pinned (OpenSpec.ofChange watchReplaysSpec)

/-- ITS FALSE NEIGHBOUR: 'it returns false'. Refute it at one input. -/
def watchReplaysWrong : ChangeSpec := { name := "watchReplays", fn := fun _ => fun
  | [d1, d2] => { results := [.lit (.bool false)], args := [d1, d2] }
  | _ => none }
def WatchReplaysWrongFalsely : Prop := watchReplaysRow.holds Tryz.pinned (OpenSpec.ofChange watchReplaysWrong)

/- THE SECOND FORM. 'bulk': how many values and letters a reading holds, each counted each time it is reached (what is shared counts as often as it is met; a slice's spare places count too). A statement '..UptoSaid' is the law's where the arguments, and the package variables that the reading takes, are together of bulk at most 1048576: NARROWER than '..Said'. Prove '..Said' where nothing that the law and all that it calls make is longer than what came in: it says more and counts as full. Else prove '..UptoSaid'. A law counts once. -/
mutual
def uptoBulk {H : Type} : DataW H → Nat
  | .lit (.string bytes) => bytes.length + 1
  | .lit _ => 1
  | .nil => 1
  | .ptr d => uptoBulk d + 1
  | .slice elems spare => uptoBulkAll elems + uptoBulkAll spare + 1
  | .agg parts => uptoBulkAll parts + 1
  | .iface _ d => uptoBulk d + 1
  | .map entries => uptoBulkEntries entries + 1
  | .held _ => 1
def uptoBulkAll {H : Type} : List (DataW H) → Nat
  | [] => 0
  | d :: r => uptoBulk d + uptoBulkAll r
def uptoBulkEntries {H : Type} : List (Lit × DataW H) → Nat
  | [] => 0
  | x :: r => uptoBulkEntry x + uptoBulkEntries r
def uptoBulkEntry {H : Type} : Lit × DataW H → Nat
  | (.string bytes, d) => bytes.length + uptoBulk d + 1
  | (_, d) => uptoBulk d + 1
 end
def uptoSmall : (H : Type) → List (DataW H) → Bool := fun _ ds => decide (uptoBulkAll ds ≤ 1048576)
def OpenSpec.upto (s : _root_.Go.ChangeSpec) : _root_.Go.OpenSpec := { _root_.Go.OpenSpec.ofChange s with cond := some uptoSmall }

/-- 'doorwardlaw12.StoreLoads', WHERE WHAT IT READS IS OF BULK AT MOST 1048576: true; the input reads as it did. -/
def storeLoadsUptoRow : OpenClaim := { program := "ytkepgbimlolemaagreat", sum := "8ffd341490b617603a68da4e9c5b6e55fec7c045d0e402a8358381eb8a8f904c", func := "doorward/doorwardlaw12.StoreLoads", spec := "storeLoads", inPlace := ["internal/bytealg.abigen_runtime_cmpstring"], unfollowed := true, recurses := true, plainKeys := false, apart := false, narrowed := true }
def StoreLoadsUptoSaid : Prop := storeLoadsUptoRow.holds Tryz.pinned (OpenSpec.upto storeLoadsSpec)

/-- 'doorwardlaw13.WatchNobody', WHERE WHAT IT READS IS OF BULK AT MOST 1048576: true; the input reads as it did. -/
def watchNobodyUptoRow : OpenClaim := { program := "ytkepgbimlolemaagreat", sum := "8ffd341490b617603a68da4e9c5b6e55fec7c045d0e402a8358381eb8a8f904c", func := "doorward/doorwardlaw13.WatchNobody", spec := "watchNobody", inPlace := ["internal/bytealg.abigen_runtime_cmpstring"], unfollowed := true, recurses := true, plainKeys := false, apart := false, narrowed := true }
def WatchNobodyUptoSaid : Prop := watchNobodyUptoRow.holds Tryz.pinned (OpenSpec.upto watchNobodySpec)

/-- 'doorwardlaw13.WatchTells', WHERE WHAT IT READS IS OF BULK AT MOST 1048576: true; the input reads as it did. -/
def watchTellsUptoRow : OpenClaim := { program := "ytkepgbimlolemaagreat", sum := "8ffd341490b617603a68da4e9c5b6e55fec7c045d0e402a8358381eb8a8f904c", func := "doorward/doorwardlaw13.WatchTells", spec := "watchTells", inPlace := ["internal/bytealg.abigen_runtime_cmpstring"], unfollowed := true, recurses := true, plainKeys := false, apart := false, narrowed := true }
def WatchTellsUptoSaid : Prop := watchTellsUptoRow.holds Tryz.pinned (OpenSpec.upto watchTellsSpec)

/-- 'doorwardlaw13.WatchPieces', WHERE WHAT IT READS IS OF BULK AT MOST 1048576: true; the input reads as it did. -/
def watchPiecesUptoRow : OpenClaim := { program := "ytkepgbimlolemaagreat", sum := "8ffd341490b617603a68da4e9c5b6e55fec7c045d0e402a8358381eb8a8f904c", func := "doorward/doorwardlaw13.WatchPieces", spec := "watchPieces", inPlace := ["internal/bytealg.abigen_runtime_cmpstring"], unfollowed := true, recurses := true, plainKeys := false, apart := false, narrowed := true }
def WatchPiecesUptoSaid : Prop := watchPiecesUptoRow.holds Tryz.pinned (OpenSpec.upto watchPiecesSpec)

/-- 'doorwardlaw13.WatchReplays', WHERE WHAT IT READS IS OF BULK AT MOST 1048576: true; the input reads as it did. -/
def watchReplaysUptoRow : OpenClaim := { program := "ytkepgbimlolemaagreat", sum := "8ffd341490b617603a68da4e9c5b6e55fec7c045d0e402a8358381eb8a8f904c", func := "doorward/doorwardlaw13.WatchReplays", spec := "watchReplays", inPlace := ["internal/bytealg.abigen_runtime_cmpstring", "slices.overlaps[doorward/api.Tuple]"], unfollowed := true, recurses := true, plainKeys := false, apart := false, narrowed := true }
def WatchReplaysUptoSaid : Prop := watchReplaysUptoRow.holds Tryz.pinned (OpenSpec.upto watchReplaysSpec)

end Rows
end Go.Proofs.YtkepgbimlolemaaGreat
