/-
  No cell of these rows narrows 'for every input' (looked for: loops, veiled, ifaces, maps, wideKeys, modest, calm, conditions, laid).
  DERIVED. THE GIVEN ROWS OF THIS SEAT. 7 by the template 'for every input the law returns true; each argument reads behind the call as it read before'; 0 by the template 'total and deterministic' (their statements: YtkepgbimlolemaaTotals.lean).
  GIVEN WITH THE SEED: the statements are not yours to turn. If you find one false, say at which input.
  Laid BY PROGRAM, IN A SANDBOX (cutbox-rows.mjs): the forced cells as the released guide's own fill.sh prints them over the translation fa869474a2baad54… (all of the seat's roots in one cut). By AI agents, Wed Nov 11 2026. No macro, syntax, notation, axiom, sorry.
-/
import Derived.Test.YtkepgbimlolemaaChecked
import GoSem.Claim
import GoSem.ClaimJoined
import GoSem.ClaimMapViews
import Derived.JoinedTies
import Derived.KernelRfl
namespace Go.Proofs.Ytkepgbimlolemaa
/- THE CELL 'sum', in the pinned program and in every row, IS THE sha256 OF THE DUMP (.gsa) THAT YtkepgbimlolemaaProg.lean LOADS. Nothing in Lean hashes anything: it is a label: what it is worth is what the hold of that sum in a sandbox is worth. -/
noncomputable def Try.pinned : Pinned := { name := "ytkepgbimlolemaa", sum := "fa869474a2baad54dbc270ef1afa08512cbe953007fcf83dd88cc6623d444740", checked := Try.checked }
namespace Rows
def none {H : Type} : Left H := { results := [], args := [] }

/-- 'doorwardlaw29.TokenGone': WHATEVER THE INPUT: true; the input reads as it did. -/
def tokenGoneSpec : ChangeSpec := { name := "tokenGone", fn := fun _ => fun
  | [d1, d2] => { results := [.lit (.bool true)], args := [d1, d2] }
  | _ => none }
def tokenGoneRow : OpenClaim := { program := "ytkepgbimlolemaa", sum := "fa869474a2baad54dbc270ef1afa08512cbe953007fcf83dd88cc6623d444740", func := "doorward/doorwardlaw29.TokenGone", spec := "tokenGone", inPlace := ["internal/bytealg.abigen_runtime_cmpstring"], unfollowed := true, recurses := true, plainKeys := false, apart := false }
def TokenGoneSaid : Prop := tokenGoneRow.holds Try.pinned (OpenSpec.ofChange tokenGoneSpec)

/-- ITS FALSE NEIGHBOUR: 'it returns false'. Refute it at one input. -/
def tokenGoneWrong : ChangeSpec := { name := "tokenGone", fn := fun _ => fun
  | [d1, d2] => { results := [.lit (.bool false)], args := [d1, d2] }
  | _ => none }
def TokenGoneWrongFalsely : Prop := tokenGoneRow.holds Try.pinned (OpenSpec.ofChange tokenGoneWrong)

/-- 'doorwardlaw29.TokenPlays': WHATEVER THE INPUT: true; the input reads as it did. -/
def tokenPlaysSpec : ChangeSpec := { name := "tokenPlays", fn := fun _ => fun
  | [d] => { results := [.lit (.bool true)], args := [d] }
  | _ => none }
def tokenPlaysRow : OpenClaim := { program := "ytkepgbimlolemaa", sum := "fa869474a2baad54dbc270ef1afa08512cbe953007fcf83dd88cc6623d444740", func := "doorward/doorwardlaw29.TokenPlays", spec := "tokenPlays", inPlace := ["internal/bytealg.abigen_runtime_cmpstring"], unfollowed := true, recurses := true, plainKeys := false, apart := false }
def TokenPlaysSaid : Prop := tokenPlaysRow.holds Try.pinned (OpenSpec.ofChange tokenPlaysSpec)

/-- ITS FALSE NEIGHBOUR: 'it returns false'. Refute it at one input. -/
def tokenPlaysWrong : ChangeSpec := { name := "tokenPlays", fn := fun _ => fun
  | [d] => { results := [.lit (.bool false)], args := [d] }
  | _ => none }
def TokenPlaysWrongFalsely : Prop := tokenPlaysRow.holds Try.pinned (OpenSpec.ofChange tokenPlaysWrong)

/-- 'doorwardlaw29.TokenNobody': WHATEVER THE INPUT: true; the input reads as it did. -/
def tokenNobodySpec : ChangeSpec := { name := "tokenNobody", fn := fun _ => fun
  | [d] => { results := [.lit (.bool true)], args := [d] }
  | _ => none }
def tokenNobodyRow : OpenClaim := { program := "ytkepgbimlolemaa", sum := "fa869474a2baad54dbc270ef1afa08512cbe953007fcf83dd88cc6623d444740", func := "doorward/doorwardlaw29.TokenNobody", spec := "tokenNobody", inPlace := ["internal/bytealg.abigen_runtime_cmpstring"], unfollowed := true, recurses := true, plainKeys := false, apart := false }
def TokenNobodySaid : Prop := tokenNobodyRow.holds Try.pinned (OpenSpec.ofChange tokenNobodySpec)

/-- ITS FALSE NEIGHBOUR: 'it returns false'. Refute it at one input. -/
def tokenNobodyWrong : ChangeSpec := { name := "tokenNobody", fn := fun _ => fun
  | [d] => { results := [.lit (.bool false)], args := [d] }
  | _ => none }
def TokenNobodyWrongFalsely : Prop := tokenNobodyRow.holds Try.pinned (OpenSpec.ofChange tokenNobodyWrong)

/-- 'doorwardlaw12.StoreDiffers': WHATEVER THE INPUT: true; the input reads as it did. -/
def storeDiffersSpec : ChangeSpec := { name := "storeDiffers", fn := fun _ => fun
  | [d1, d2] => { results := [.lit (.bool true)], args := [d1, d2] }
  | _ => none }
def storeDiffersRow : OpenClaim := { program := "ytkepgbimlolemaa", sum := "fa869474a2baad54dbc270ef1afa08512cbe953007fcf83dd88cc6623d444740", func := "doorward/doorwardlaw12.StoreDiffers", spec := "storeDiffers", inPlace := ["internal/bytealg.abigen_runtime_cmpstring"], unfollowed := true, recurses := true, plainKeys := false, apart := false }
def StoreDiffersSaid : Prop := storeDiffersRow.holds Try.pinned (OpenSpec.ofChange storeDiffersSpec)

/-- ITS FALSE NEIGHBOUR: 'it returns false'. Refute it at one input. -/
def storeDiffersWrong : ChangeSpec := { name := "storeDiffers", fn := fun _ => fun
  | [d1, d2] => { results := [.lit (.bool false)], args := [d1, d2] }
  | _ => none }
def StoreDiffersWrongFalsely : Prop := storeDiffersRow.holds Try.pinned (OpenSpec.ofChange storeDiffersWrong)

/-- 'doorwardlaw12.StoreCollects': WHATEVER THE INPUT: true; the input reads as it did. -/
def storeCollectsSpec : ChangeSpec := { name := "storeCollects", fn := fun _ => fun
  | [d1, d2, d3, d4] => { results := [.lit (.bool true)], args := [d1, d2, d3, d4] }
  | _ => none }
def storeCollectsRow : OpenClaim := { program := "ytkepgbimlolemaa", sum := "fa869474a2baad54dbc270ef1afa08512cbe953007fcf83dd88cc6623d444740", func := "doorward/doorwardlaw12.StoreCollects", spec := "storeCollects", inPlace := ["internal/bytealg.abigen_runtime_cmpstring"], unfollowed := true, recurses := true, plainKeys := false, apart := false }
def StoreCollectsSaid : Prop := storeCollectsRow.holds Try.pinned (OpenSpec.ofChange storeCollectsSpec)

/-- ITS FALSE NEIGHBOUR: 'it returns false'. Refute it at one input. -/
def storeCollectsWrong : ChangeSpec := { name := "storeCollects", fn := fun _ => fun
  | [d1, d2, d3, d4] => { results := [.lit (.bool false)], args := [d1, d2, d3, d4] }
  | _ => none }
def StoreCollectsWrongFalsely : Prop := storeCollectsRow.holds Try.pinned (OpenSpec.ofChange storeCollectsWrong)

/-- 'doorwardlaw12.StoreNobody': WHATEVER THE INPUT: true; the input reads as it did. -/
def storeNobodySpec : ChangeSpec := { name := "storeNobody", fn := fun _ => fun
  | [d] => { results := [.lit (.bool true)], args := [d] }
  | _ => none }
def storeNobodyRow : OpenClaim := { program := "ytkepgbimlolemaa", sum := "fa869474a2baad54dbc270ef1afa08512cbe953007fcf83dd88cc6623d444740", func := "doorward/doorwardlaw12.StoreNobody", spec := "storeNobody", inPlace := ["internal/bytealg.abigen_runtime_cmpstring"], unfollowed := true, recurses := true, plainKeys := false, apart := false }
def StoreNobodySaid : Prop := storeNobodyRow.holds Try.pinned (OpenSpec.ofChange storeNobodySpec)

/-- ITS FALSE NEIGHBOUR: 'it returns false'. Refute it at one input. -/
def storeNobodyWrong : ChangeSpec := { name := "storeNobody", fn := fun _ => fun
  | [d] => { results := [.lit (.bool false)], args := [d] }
  | _ => none }
def StoreNobodyWrongFalsely : Prop := storeNobodyRow.holds Try.pinned (OpenSpec.ofChange storeNobodyWrong)

/-- 'doorwardlaw12.StoreKept': WHATEVER THE INPUT: true; the input reads as it did. -/
def storeKeptSpec : ChangeSpec := { name := "storeKept", fn := fun _ => fun
  | [d1, d2, d3, d4] => { results := [.lit (.bool true)], args := [d1, d2, d3, d4] }
  | _ => none }
def storeKeptRow : OpenClaim := { program := "ytkepgbimlolemaa", sum := "fa869474a2baad54dbc270ef1afa08512cbe953007fcf83dd88cc6623d444740", func := "doorward/doorwardlaw12.StoreKept", spec := "storeKept", inPlace := ["internal/bytealg.abigen_runtime_cmpstring"], unfollowed := true, recurses := true, plainKeys := false, apart := false }
def StoreKeptSaid : Prop := storeKeptRow.holds Try.pinned (OpenSpec.ofChange storeKeptSpec)

/-- ITS FALSE NEIGHBOUR: 'it returns false'. Refute it at one input. -/
def storeKeptWrong : ChangeSpec := { name := "storeKept", fn := fun _ => fun
  | [d1, d2, d3, d4] => { results := [.lit (.bool false)], args := [d1, d2, d3, d4] }
  | _ => none }
def StoreKeptWrongFalsely : Prop := storeKeptRow.holds Try.pinned (OpenSpec.ofChange storeKeptWrong)

/- THE SECOND FORM. 'bulk': how many values and letters a reading holds, each counted each time it is reached (what is shared counts as often as it is met; a slice's spare places count too). A statement '..UptoSaid' is the law's where the arguments, and the package variables that the reading takes, are together of bulk at most 1048576: NARROWER than '..Said'. Prove '..Said' where nothing that the law and all that it calls make is longer than what came in: it says more and counts as full. Else prove '..UptoSaid'. A law counts once. -/
mutual
def uptoBulk {H : Type} : DataW H → Nat
  | .lit (.string bytes) => bytes.length + 1
  | .lit _ => 1
  | .nil => 1
  | .ptr d => uptoBulk d + 1
  | .slice elems spare => uptoBulkAll elems + uptoBulkAll spare + 1
  | .agg parts => uptoBulkAll parts + 1
  | .iface _ d => uptoBulk d + 1
  | .map entries => uptoBulkEntries entries + 1
  | .held _ => 1
def uptoBulkAll {H : Type} : List (DataW H) → Nat
  | [] => 0
  | d :: r => uptoBulk d + uptoBulkAll r
def uptoBulkEntries {H : Type} : List (Lit × DataW H) → Nat
  | [] => 0
  | x :: r => uptoBulkEntry x + uptoBulkEntries r
def uptoBulkEntry {H : Type} : Lit × DataW H → Nat
  | (.string bytes, d) => bytes.length + uptoBulk d + 1
  | (_, d) => uptoBulk d + 1
 end
def uptoSmall : (H : Type) → List (DataW H) → Bool := fun _ ds => decide (uptoBulkAll ds ≤ 1048576)
def OpenSpec.upto (s : _root_.Go.ChangeSpec) : _root_.Go.OpenSpec := { _root_.Go.OpenSpec.ofChange s with cond := some uptoSmall }

/-- 'doorwardlaw29.TokenGone', WHERE WHAT IT READS IS OF BULK AT MOST 1048576: true; the input reads as it did. -/
def tokenGoneUptoRow : OpenClaim := { program := "ytkepgbimlolemaa", sum := "fa869474a2baad54dbc270ef1afa08512cbe953007fcf83dd88cc6623d444740", func := "doorward/doorwardlaw29.TokenGone", spec := "tokenGone", inPlace := ["internal/bytealg.abigen_runtime_cmpstring"], unfollowed := true, recurses := true, plainKeys := false, apart := false, narrowed := true }
def TokenGoneUptoSaid : Prop := tokenGoneUptoRow.holds Try.pinned (OpenSpec.upto tokenGoneSpec)

/-- 'doorwardlaw29.TokenPlays', WHERE WHAT IT READS IS OF BULK AT MOST 1048576: true; the input reads as it did. -/
def tokenPlaysUptoRow : OpenClaim := { program := "ytkepgbimlolemaa", sum := "fa869474a2baad54dbc270ef1afa08512cbe953007fcf83dd88cc6623d444740", func := "doorward/doorwardlaw29.TokenPlays", spec := "tokenPlays", inPlace := ["internal/bytealg.abigen_runtime_cmpstring"], unfollowed := true, recurses := true, plainKeys := false, apart := false, narrowed := true }
def TokenPlaysUptoSaid : Prop := tokenPlaysUptoRow.holds Try.pinned (OpenSpec.upto tokenPlaysSpec)

/-- 'doorwardlaw29.TokenNobody', WHERE WHAT IT READS IS OF BULK AT MOST 1048576: true; the input reads as it did. -/
def tokenNobodyUptoRow : OpenClaim := { program := "ytkepgbimlolemaa", sum := "fa869474a2baad54dbc270ef1afa08512cbe953007fcf83dd88cc6623d444740", func := "doorward/doorwardlaw29.TokenNobody", spec := "tokenNobody", inPlace := ["internal/bytealg.abigen_runtime_cmpstring"], unfollowed := true, recurses := true, plainKeys := false, apart := false, narrowed := true }
def TokenNobodyUptoSaid : Prop := tokenNobodyUptoRow.holds Try.pinned (OpenSpec.upto tokenNobodySpec)

/-- 'doorwardlaw12.StoreDiffers', WHERE WHAT IT READS IS OF BULK AT MOST 1048576: true; the input reads as it did. -/
def storeDiffersUptoRow : OpenClaim := { program := "ytkepgbimlolemaa", sum := "fa869474a2baad54dbc270ef1afa08512cbe953007fcf83dd88cc6623d444740", func := "doorward/doorwardlaw12.StoreDiffers", spec := "storeDiffers", inPlace := ["internal/bytealg.abigen_runtime_cmpstring"], unfollowed := true, recurses := true, plainKeys := false, apart := false, narrowed := true }
def StoreDiffersUptoSaid : Prop := storeDiffersUptoRow.holds Try.pinned (OpenSpec.upto storeDiffersSpec)

/-- 'doorwardlaw12.StoreCollects', WHERE WHAT IT READS IS OF BULK AT MOST 1048576: true; the input reads as it did. -/
def storeCollectsUptoRow : OpenClaim := { program := "ytkepgbimlolemaa", sum := "fa869474a2baad54dbc270ef1afa08512cbe953007fcf83dd88cc6623d444740", func := "doorward/doorwardlaw12.StoreCollects", spec := "storeCollects", inPlace := ["internal/bytealg.abigen_runtime_cmpstring"], unfollowed := true, recurses := true, plainKeys := false, apart := false, narrowed := true }
def StoreCollectsUptoSaid : Prop := storeCollectsUptoRow.holds Try.pinned (OpenSpec.upto storeCollectsSpec)

/-- 'doorwardlaw12.StoreNobody', WHERE WHAT IT READS IS OF BULK AT MOST 1048576: true; the input reads as it did. -/
def storeNobodyUptoRow : OpenClaim := { program := "ytkepgbimlolemaa", sum := "fa869474a2baad54dbc270ef1afa08512cbe953007fcf83dd88cc6623d444740", func := "doorward/doorwardlaw12.StoreNobody", spec := "storeNobody", inPlace := ["internal/bytealg.abigen_runtime_cmpstring"], unfollowed := true, recurses := true, plainKeys := false, apart := false, narrowed := true }
def StoreNobodyUptoSaid : Prop := storeNobodyUptoRow.holds Try.pinned (OpenSpec.upto storeNobodySpec)

/-- 'doorwardlaw12.StoreKept', WHERE WHAT IT READS IS OF BULK AT MOST 1048576: true; the input reads as it did. -/
def storeKeptUptoRow : OpenClaim := { program := "ytkepgbimlolemaa", sum := "fa869474a2baad54dbc270ef1afa08512cbe953007fcf83dd88cc6623d444740", func := "doorward/doorwardlaw12.StoreKept", spec := "storeKept", inPlace := ["internal/bytealg.abigen_runtime_cmpstring"], unfollowed := true, recurses := true, plainKeys := false, apart := false, narrowed := true }
def StoreKeptUptoSaid : Prop := storeKeptUptoRow.holds Try.pinned (OpenSpec.upto storeKeptSpec)

end Rows
end Go.Proofs.Ytkepgbimlolemaa
