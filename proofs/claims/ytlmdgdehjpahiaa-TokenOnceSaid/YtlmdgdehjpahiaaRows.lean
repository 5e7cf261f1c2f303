/-
  No cell of these rows narrows 'for every input' (looked for: loops, veiled, ifaces, maps, wideKeys, modest, calm, conditions, laid).
  DERIVED. THE GIVEN ROWS OF THIS SEAT. 11 by the template 'for every input the law returns true; each argument reads behind the call as it read before'; 0 by the template 'total and deterministic' (their statements: YtlmdgdehjpahiaaTotals.lean).
  GIVEN WITH THE SEED: the statements are not yours to turn. If you find one false, say at which input.
  Laid BY PROGRAM, IN A SANDBOX (cutbox-rows.mjs): the forced cells as the released guide's own fill.sh prints them over the translation 8050325ef9ee6a7c… (all of the seat's roots in one cut). By AI agents, Wed Nov 11 2026. No macro, syntax, notation, axiom, sorry.
-/
import Derived.Test.YtlmdgdehjpahiaaChecked
import GoSem.Claim
import GoSem.ClaimJoined
import GoSem.ClaimMapViews
import Derived.JoinedTies
import Derived.KernelRfl
namespace Go.Proofs.Ytlmdgdehjpahiaa
/- THE CELL 'sum', in the pinned program and in every row, IS THE sha256 OF THE DUMP (.gsa) THAT YtlmdgdehjpahiaaProg.lean LOADS. Nothing in Lean hashes anything: it is a label: what it is worth is what the hold of that sum in a sandbox is worth. -/
noncomputable def Try.pinned : Pinned := { name := "ytlmdgdehjpahiaa", sum := "8050325ef9ee6a7cff192892e00e584fdee2f30472e5c8fbd55b2389d72c52d1", checked := Try.checked }
namespace Rows
def none {H : Type} : Left H := { results := [], args := [] }

/-- 'doorwardlaw27.ExpiryLast': WHATEVER THE INPUT: true; the input reads as it did. -/
def expiryLastSpec : ChangeSpec := { name := "expiryLast", fn := fun _ => fun
  | [d1, d2, d3, d4] => { results := [.lit (.bool true)], args := [d1, d2, d3, d4] }
  | _ => none }
def expiryLastRow : OpenClaim := { program := "ytlmdgdehjpahiaa", sum := "8050325ef9ee6a7cff192892e00e584fdee2f30472e5c8fbd55b2389d72c52d1", func := "doorward/doorwardlaw27.ExpiryLast", spec := "expiryLast", unfollowed := true, recurses := true, apart := false }
def ExpiryLastSaid : Prop := expiryLastRow.holds Try.pinned (OpenSpec.ofChange expiryLastSpec)

/-- ITS FALSE NEIGHBOUR: 'it returns false'. Refute it at one input. -/
def expiryLastWrong : ChangeSpec := { name := "expiryLast", fn := fun _ => fun
  | [d1, d2, d3, d4] => { results := [.lit (.bool false)], args := [d1, d2, d3, d4] }
  | _ => none }
def ExpiryLastWrongFalsely : Prop := expiryLastRow.holds Try.pinned (OpenSpec.ofChange expiryLastWrong)

/-- 'doorwardlaw25.ClientChecks': WHATEVER THE INPUT: true; the input reads as it did. -/
def clientChecksSpec : ChangeSpec := { name := "clientChecks", fn := fun _ => fun
  | [d] => { results := [.lit (.bool true)], args := [d] }
  | _ => none }
def clientChecksRow : OpenClaim := { program := "ytlmdgdehjpahiaa", sum := "8050325ef9ee6a7cff192892e00e584fdee2f30472e5c8fbd55b2389d72c52d1", func := "doorward/doorwardlaw25.ClientChecks", spec := "clientChecks", inPlace := ["internal/bytealg.IndexByteString", "internal/bytealg.IndexString"], unfollowed := true, recurses := true, named := ["internal/bytealg.MaxLen"], apart := false }
def ClientChecksSaid : Prop := clientChecksRow.holds Try.pinned (OpenSpec.ofChange clientChecksSpec)

/-- ITS FALSE NEIGHBOUR: 'it returns false'. Refute it at one input. -/
def clientChecksWrong : ChangeSpec := { name := "clientChecks", fn := fun _ => fun
  | [d] => { results := [.lit (.bool false)], args := [d] }
  | _ => none }
def ClientChecksWrongFalsely : Prop := clientChecksRow.holds Try.pinned (OpenSpec.ofChange clientChecksWrong)

/-- 'doorwardlaw25.ClientSecrets': WHATEVER THE INPUT: true; the input reads as it did. -/
def clientSecretsSpec : ChangeSpec := { name := "clientSecrets", fn := fun _ => fun
  | [d1, d2] => { results := [.lit (.bool true)], args := [d1, d2] }
  | _ => none }
def clientSecretsRow : OpenClaim := { program := "ytlmdgdehjpahiaa", sum := "8050325ef9ee6a7cff192892e00e584fdee2f30472e5c8fbd55b2389d72c52d1", func := "doorward/doorwardlaw25.ClientSecrets", spec := "clientSecrets", inPlace := ["internal/bytealg.IndexByteString", "internal/bytealg.IndexString"], unfollowed := true, recurses := true, named := ["internal/bytealg.MaxLen"], apart := false }
def ClientSecretsSaid : Prop := clientSecretsRow.holds Try.pinned (OpenSpec.ofChange clientSecretsSpec)

/-- ITS FALSE NEIGHBOUR: 'it returns false'. Refute it at one input. -/
def clientSecretsWrong : ChangeSpec := { name := "clientSecrets", fn := fun _ => fun
  | [d1, d2] => { results := [.lit (.bool false)], args := [d1, d2] }
  | _ => none }
def ClientSecretsWrongFalsely : Prop := clientSecretsRow.holds Try.pinned (OpenSpec.ofChange clientSecretsWrong)

/-- 'doorwardlaw27.ExpiryPlays': WHATEVER THE INPUT: true; the input reads as it did. -/
def expiryPlaysSpec : ChangeSpec := { name := "expiryPlays", fn := fun _ => fun
  | [d] => { results := [.lit (.bool true)], args := [d] }
  | _ => none }
def expiryPlaysRow : OpenClaim := { program := "ytlmdgdehjpahiaa", sum := "8050325ef9ee6a7cff192892e00e584fdee2f30472e5c8fbd55b2389d72c52d1", func := "doorward/doorwardlaw27.ExpiryPlays", spec := "expiryPlays", inPlace := ["internal/bytealg.abigen_runtime_cmpstring"], unfollowed := true, recurses := true, apart := false }
def ExpiryPlaysSaid : Prop := expiryPlaysRow.holds Try.pinned (OpenSpec.ofChange expiryPlaysSpec)

/-- ITS FALSE NEIGHBOUR: 'it returns false'. Refute it at one input. -/
def expiryPlaysWrong : ChangeSpec := { name := "expiryPlays", fn := fun _ => fun
  | [d] => { results := [.lit (.bool false)], args := [d] }
  | _ => none }
def ExpiryPlaysWrongFalsely : Prop := expiryPlaysRow.holds Try.pinned (OpenSpec.ofChange expiryPlaysWrong)

/-- 'doorwardlaw27.ExpiryDue': WHATEVER THE INPUT: true; the input reads as it did. -/
def expiryDueSpec : ChangeSpec := { name := "expiryDue", fn := fun _ => fun
  | [d1, d2, d3] => { results := [.lit (.bool true)], args := [d1, d2, d3] }
  | _ => none }
def expiryDueRow : OpenClaim := { program := "ytlmdgdehjpahiaa", sum := "8050325ef9ee6a7cff192892e00e584fdee2f30472e5c8fbd55b2389d72c52d1", func := "doorward/doorwardlaw27.ExpiryDue", spec := "expiryDue", inPlace := ["internal/bytealg.abigen_runtime_cmpstring"], unfollowed := true, recurses := true, apart := false }
def ExpiryDueSaid : Prop := expiryDueRow.holds Try.pinned (OpenSpec.ofChange expiryDueSpec)

/-- ITS FALSE NEIGHBOUR: 'it returns false'. Refute it at one input. -/
def expiryDueWrong : ChangeSpec := { name := "expiryDue", fn := fun _ => fun
  | [d1, d2, d3] => { results := [.lit (.bool false)], args := [d1, d2, d3] }
  | _ => none }
def ExpiryDueWrongFalsely : Prop := expiryDueRow.holds Try.pinned (OpenSpec.ofChange expiryDueWrong)

/-- 'doorwardlaw27.ExpiryNobody': WHATEVER THE INPUT: true; the input reads as it did. -/
def expiryNobodySpec : ChangeSpec := { name := "expiryNobody", fn := fun _ => fun
  | [d1, d2] => { results := [.lit (.bool true)], args := [d1, d2] }
  | _ => none }
def expiryNobodyRow : OpenClaim := { program := "ytlmdgdehjpahiaa", sum := "8050325ef9ee6a7cff192892e00e584fdee2f30472e5c8fbd55b2389d72c52d1", func := "doorward/doorwardlaw27.ExpiryNobody", spec := "expiryNobody", inPlace := ["internal/bytealg.abigen_runtime_cmpstring"], unfollowed := true, recurses := true, apart := false }
def ExpiryNobodySaid : Prop := expiryNobodyRow.holds Try.pinned (OpenSpec.ofChange expiryNobodySpec)

/-- ITS FALSE NEIGHBOUR: 'it returns false'. Refute it at one input. -/
def expiryNobodyWrong : ChangeSpec := { name := "expiryNobody", fn := fun _ => fun
  | [d1, d2] => { results := [.lit (.bool false)], args := [d1, d2] }
  | _ => none }
def ExpiryNobodyWrongFalsely : Prop := expiryNobodyRow.holds Try.pinned (OpenSpec.ofChange expiryNobodyWrong)

/-- 'doorwardlaw29.TokenLoads': WHATEVER THE INPUT: true; the input reads as it did. -/
def tokenLoadsSpec : ChangeSpec := { name := "tokenLoads", fn := fun _ => fun
  | [d1, d2] => { results := [.lit (.bool true)], args := [d1, d2] }
  | _ => none }
def tokenLoadsRow : OpenClaim := { program := "ytlmdgdehjpahiaa", sum := "8050325ef9ee6a7cff192892e00e584fdee2f30472e5c8fbd55b2389d72c52d1", func := "doorward/doorwardlaw29.TokenLoads", spec := "tokenLoads", inPlace := ["internal/bytealg.abigen_runtime_cmpstring"], unfollowed := true, recurses := true, apart := false }
def TokenLoadsSaid : Prop := tokenLoadsRow.holds Try.pinned (OpenSpec.ofChange tokenLoadsSpec)

/-- ITS FALSE NEIGHBOUR: 'it returns false'. Refute it at one input. -/
def tokenLoadsWrong : ChangeSpec := { name := "tokenLoads", fn := fun _ => fun
  | [d1, d2] => { results := [.lit (.bool false)], args := [d1, d2] }
  | _ => none }
def TokenLoadsWrongFalsely : Prop := tokenLoadsRow.holds Try.pinned (OpenSpec.ofChange tokenLoadsWrong)

/-- 'doorwardlaw25.ClientLoads': WHATEVER THE INPUT: true; the input reads as it did. -/
def clientLoadsSpec : ChangeSpec := { name := "clientLoads", fn := fun _ => fun
  | [d] => { results := [.lit (.bool true)], args := [d] }
  | _ => none }
def clientLoadsRow : OpenClaim := { program := "ytlmdgdehjpahiaa", sum := "8050325ef9ee6a7cff192892e00e584fdee2f30472e5c8fbd55b2389d72c52d1", func := "doorward/doorwardlaw25.ClientLoads", spec := "clientLoads", inPlace := ["internal/bytealg.IndexByteString", "internal/bytealg.IndexString", "internal/bytealg.abigen_runtime_cmpstring"], unfollowed := true, recurses := true, named := ["internal/bytealg.MaxLen"], apart := false }
def ClientLoadsSaid : Prop := clientLoadsRow.holds Try.pinned (OpenSpec.ofChange clientLoadsSpec)

/-- ITS FALSE NEIGHBOUR: 'it returns false'. Refute it at one input. -/
def clientLoadsWrong : ChangeSpec := { name := "clientLoads", fn := fun _ => fun
  | [d] => { results := [.lit (.bool false)], args := [d] }
  | _ => none }
def ClientLoadsWrongFalsely : Prop := clientLoadsRow.holds Try.pinned (OpenSpec.ofChange clientLoadsWrong)

/-- 'doorwardlaw25.ClientPlays': WHATEVER THE INPUT: true; the input reads as it did. -/
def clientPlaysSpec : ChangeSpec := { name := "clientPlays", fn := fun _ => fun
  | [d] => { results := [.lit (.bool true)], args := [d] }
  | _ => none }
def clientPlaysRow : OpenClaim := { program := "ytlmdgdehjpahiaa", sum := "8050325ef9ee6a7cff192892e00e584fdee2f30472e5c8fbd55b2389d72c52d1", func := "doorward/doorwardlaw25.ClientPlays", spec := "clientPlays", inPlace := ["internal/bytealg.IndexByteString", "internal/bytealg.IndexString", "internal/bytealg.abigen_runtime_cmpstring"], unfollowed := true, recurses := true, named := ["internal/bytealg.MaxLen"], apart := false }
def ClientPlaysSaid : Prop := clientPlaysRow.holds Try.pinned (OpenSpec.ofChange clientPlaysSpec)

/-- ITS FALSE NEIGHBOUR: 'it returns false'. Refute it at one input. -/
def clientPlaysWrong : ChangeSpec := { name := "clientPlays", fn := fun _ => fun
  | [d] => { results := [.lit (.bool false)], args := [d] }
  | _ => none }
def ClientPlaysWrongFalsely : Prop := clientPlaysRow.holds Try.pinned (OpenSpec.ofChange clientPlaysWrong)

/-- 'doorwardlaw25.ClientNobody': WHATEVER THE INPUT: true; the input reads as it did. -/
def clientNobodySpec : ChangeSpec := { name := "clientNobody", fn := fun _ => fun
  | [d] => { results := [.lit (.bool true)], args := [d] }
  | _ => none }
def clientNobodyRow : OpenClaim := { program := "ytlmdgdehjpahiaa", sum := "8050325ef9ee6a7cff192892e00e584fdee2f30472e5c8fbd55b2389d72c52d1", func := "doorward/doorwardlaw25.ClientNobody", spec := "clientNobody", inPlace := ["internal/bytealg.IndexByteString", "internal/bytealg.IndexString", "internal/bytealg.abigen_runtime_cmpstring"], unfollowed := true, recurses := true, named := ["internal/bytealg.MaxLen"], apart := false }
def ClientNobodySaid : Prop := clientNobodyRow.holds Try.pinned (OpenSpec.ofChange clientNobodySpec)

/-- ITS FALSE NEIGHBOUR: 'it returns false'. Refute it at one input. -/
def clientNobodyWrong : ChangeSpec := { name := "clientNobody", fn := fun _ => fun
  | [d] => { results := [.lit (.bool false)], args := [d] }
  | _ => none }
def ClientNobodyWrongFalsely : Prop := clientNobodyRow.holds Try.pinned (OpenSpec.ofChange clientNobodyWrong)

/-- 'doorwardlaw29.TokenOnce': WHATEVER THE INPUT: true; the input reads as it did. -/
def tokenOnceSpec : ChangeSpec := { name := "tokenOnce", fn := fun _ => fun
  | [d1, d2, d3] => { results := [.lit (.bool true)], args := [d1, d2, d3] }
  | _ => none }
def tokenOnceRow : OpenClaim := { program := "ytlmdgdehjpahiaa", sum := "8050325ef9ee6a7cff192892e00e584fdee2f30472e5c8fbd55b2389d72c52d1", func := "doorward/doorwardlaw29.TokenOnce", spec := "tokenOnce", inPlace := ["internal/bytealg.abigen_runtime_cmpstring"], unfollowed := true, recurses := true, apart := false }
def TokenOnceSaid : Prop := tokenOnceRow.holds Try.pinned (OpenSpec.ofChange tokenOnceSpec)

/-- ITS FALSE NEIGHBOUR: 'it returns false'. Refute it at one input. -/
def tokenOnceWrong : ChangeSpec := { name := "tokenOnce", fn := fun _ => fun
  | [d1, d2, d3] => { results := [.lit (.bool false)], args := [d1, d2, d3] }
  | _ => none }
def TokenOnceWrongFalsely : Prop := tokenOnceRow.holds Try.pinned (OpenSpec.ofChange tokenOnceWrong)

/- THE SECOND FORM. 'bulk': how many values and letters a reading holds, each counted each time it is reached (what is shared counts as often as it is met; a slice's spare places count too). A statement '..UptoSaid' is the law's where the arguments, and the package variables that the reading takes, are together of bulk at most 1048576: NARROWER than '..Said'. Prove '..Said' where nothing that the law and all that it calls make is longer than what came in: it says more and counts as full. Else prove '..UptoSaid'. A law counts once. -/
mutual
def uptoBulk {H : Type} : DataW H → Nat
  | .lit (.string bytes) => bytes.length + 1
  | .lit _ => 1
  | .nil => 1
  | .ptr d => uptoBulk d + 1
  | .slice elems spare => uptoBulkAll elems + uptoBulkAll spare + 1
  | .agg parts => uptoBulkAll parts + 1
  | .iface _ d => uptoBulk d + 1
  | .map entries => uptoBulkEntries entries + 1
  | .held _ => 1
def uptoBulkAll {H : Type} : List (DataW H) → Nat
  | [] => 0
  | d :: r => uptoBulk d + uptoBulkAll r
def uptoBulkEntries {H : Type} : List (Lit × DataW H) → Nat
  | [] => 0
  | x :: r => uptoBulkEntry x + uptoBulkEntries r
def uptoBulkEntry {H : Type} : Lit × DataW H → Nat
  | (.string bytes, d) => bytes.length + uptoBulk d + 1
  | (_, d) => uptoBulk d + 1
 end
def uptoSmall : (H : Type) → List (DataW H) → Bool := fun _ ds => decide (uptoBulkAll ds ≤ 1048576)
def OpenSpec.upto (s : _root_.Go.ChangeSpec) : _root_.Go.OpenSpec := { _root_.Go.OpenSpec.ofChange s with cond := some uptoSmall }

/-- 'doorwardlaw27.ExpiryLast', WHERE WHAT IT READS IS OF BULK AT MOST 1048576: true; the input reads as it did. -/
def expiryLastUptoRow : OpenClaim := { program := "ytlmdgdehjpahiaa", sum := "8050325ef9ee6a7cff192892e00e584fdee2f30472e5c8fbd55b2389d72c52d1", func := "doorward/doorwardlaw27.ExpiryLast", spec := "expiryLast", unfollowed := true, recurses := true, apart := false, narrowed := true }
def ExpiryLastUptoSaid : Prop := expiryLastUptoRow.holds Try.pinned (OpenSpec.upto expiryLastSpec)

/-- 'doorwardlaw25.ClientChecks', WHERE WHAT IT READS IS OF BULK AT MOST 1048576: true; the input reads as it did. -/
def clientChecksUptoRow : OpenClaim := { program := "ytlmdgdehjpahiaa", sum := "8050325ef9ee6a7cff192892e00e584fdee2f30472e5c8fbd55b2389d72c52d1", func := "doorward/doorwardlaw25.ClientChecks", spec := "clientChecks", inPlace := ["internal/bytealg.IndexByteString", "internal/bytealg.IndexString"], unfollowed := true, recurses := true, named := ["internal/bytealg.MaxLen"], apart := false, narrowed := true }
def ClientChecksUptoSaid : Prop := clientChecksUptoRow.holds Try.pinned (OpenSpec.upto clientChecksSpec)

/-- 'doorwardlaw25.ClientSecrets', WHERE WHAT IT READS IS OF BULK AT MOST 1048576: true; the input reads as it did. -/
def clientSecretsUptoRow : OpenClaim := { program := "ytlmdgdehjpahiaa", sum := "8050325ef9ee6a7cff192892e00e584fdee2f30472e5c8fbd55b2389d72c52d1", func := "doorward/doorwardlaw25.ClientSecrets", spec := "clientSecrets", inPlace := ["internal/bytealg.IndexByteString", "internal/bytealg.IndexString"], unfollowed := true, recurses := true, named := ["internal/bytealg.MaxLen"], apart := false, narrowed := true }
def ClientSecretsUptoSaid : Prop := clientSecretsUptoRow.holds Try.pinned (OpenSpec.upto clientSecretsSpec)

/-- 'doorwardlaw27.ExpiryPlays', WHERE WHAT IT READS IS OF BULK AT MOST 1048576: true; the input reads as it did. -/
def expiryPlaysUptoRow : OpenClaim := { program := "ytlmdgdehjpahiaa", sum := "8050325ef9ee6a7cff192892e00e584fdee2f30472e5c8fbd55b2389d72c52d1", func := "doorward/doorwardlaw27.ExpiryPlays", spec := "expiryPlays", inPlace := ["internal/bytealg.abigen_runtime_cmpstring"], unfollowed := true, recurses := true, apart := false, narrowed := true }
def ExpiryPlaysUptoSaid : Prop := expiryPlaysUptoRow.holds Try.pinned (OpenSpec.upto expiryPlaysSpec)

/-- 'doorwardlaw27.ExpiryDue', WHERE WHAT IT READS IS OF BULK AT MOST 1048576: true; the input reads as it did. -/
def expiryDueUptoRow : OpenClaim := { program := "ytlmdgdehjpahiaa", sum := "8050325ef9ee6a7cff192892e00e584fdee2f30472e5c8fbd55b2389d72c52d1", func := "doorward/doorwardlaw27.ExpiryDue", spec := "expiryDue", inPlace := ["internal/bytealg.abigen_runtime_cmpstring"], unfollowed := true, recurses := true, apart := false, narrowed := true }
def ExpiryDueUptoSaid : Prop := expiryDueUptoRow.holds Try.pinned (OpenSpec.upto expiryDueSpec)

/-- 'doorwardlaw27.ExpiryNobody', WHERE WHAT IT READS IS OF BULK AT MOST 1048576: true; the input reads as it did. -/
def expiryNobodyUptoRow : OpenClaim := { program := "ytlmdgdehjpahiaa", sum := "8050325ef9ee6a7cff192892e00e584fdee2f30472e5c8fbd55b2389d72c52d1", func := "doorward/doorwardlaw27.ExpiryNobody", spec := "expiryNobody", inPlace := ["internal/bytealg.abigen_runtime_cmpstring"], unfollowed := true, recurses := true, apart := false, narrowed := true }
def ExpiryNobodyUptoSaid : Prop := expiryNobodyUptoRow.holds Try.pinned (OpenSpec.upto expiryNobodySpec)

/-- 'doorwardlaw29.TokenLoads', WHERE WHAT IT READS IS OF BULK AT MOST 1048576: true; the input reads as it did. -/
def tokenLoadsUptoRow : OpenClaim := { program := "ytlmdgdehjpahiaa", sum := "8050325ef9ee6a7cff192892e00e584fdee2f30472e5c8fbd55b2389d72c52d1", func := "doorward/doorwardlaw29.TokenLoads", spec := "tokenLoads", inPlace := ["internal/bytealg.abigen_runtime_cmpstring"], unfollowed := true, recurses := true, apart := false, narrowed := true }
def TokenLoadsUptoSaid : Prop := tokenLoadsUptoRow.holds Try.pinned (OpenSpec.upto tokenLoadsSpec)

/-- 'doorwardlaw25.ClientLoads', WHERE WHAT IT READS IS OF BULK AT MOST 1048576: true; the input reads as it did. -/
def clientLoadsUptoRow : OpenClaim := { program := "ytlmdgdehjpahiaa", sum := "8050325ef9ee6a7cff192892e00e584fdee2f30472e5c8fbd55b2389d72c52d1", func := "doorward/doorwardlaw25.ClientLoads", spec := "clientLoads", inPlace := ["internal/bytealg.IndexByteString", "internal/bytealg.IndexString", "internal/bytealg.abigen_runtime_cmpstring"], unfollowed := true, recurses := true, named := ["internal/bytealg.MaxLen"], apart := false, narrowed := true }
def ClientLoadsUptoSaid : Prop := clientLoadsUptoRow.holds Try.pinned (OpenSpec.upto clientLoadsSpec)

/-- 'doorwardlaw25.ClientPlays', WHERE WHAT IT READS IS OF BULK AT MOST 1048576: true; the input reads as it did. -/
def clientPlaysUptoRow : OpenClaim := { program := "ytlmdgdehjpahiaa", sum := "8050325ef9ee6a7cff192892e00e584fdee2f30472e5c8fbd55b2389d72c52d1", func := "doorward/doorwardlaw25.ClientPlays", spec := "clientPlays", inPlace := ["internal/bytealg.IndexByteString", "internal/bytealg.IndexString", "internal/bytealg.abigen_runtime_cmpstring"], unfollowed := true, recurses := true, named := ["internal/bytealg.MaxLen"], apart := false, narrowed := true }
def ClientPlaysUptoSaid : Prop := clientPlaysUptoRow.holds Try.pinned (OpenSpec.upto clientPlaysSpec)

/-- 'doorwardlaw25.ClientNobody', WHERE WHAT IT READS IS OF BULK AT MOST 1048576: true; the input reads as it did. -/
def clientNobodyUptoRow : OpenClaim := { program := "ytlmdgdehjpahiaa", sum := "8050325ef9ee6a7cff192892e00e584fdee2f30472e5c8fbd55b2389d72c52d1", func := "doorward/doorwardlaw25.ClientNobody", spec := "clientNobody", inPlace := ["internal/bytealg.IndexByteString", "internal/bytealg.IndexString", "internal/bytealg.abigen_runtime_cmpstring"], unfollowed := true, recurses := true, named := ["internal/bytealg.MaxLen"], apart := false, narrowed := true }
def ClientNobodyUptoSaid : Prop := clientNobodyUptoRow.holds Try.pinned (OpenSpec.upto clientNobodySpec)

/-- 'doorwardlaw29.TokenOnce', WHERE WHAT IT READS IS OF BULK AT MOST 1048576: true; the input reads as it did. -/
def tokenOnceUptoRow : OpenClaim := { program := "ytlmdgdehjpahiaa", sum := "8050325ef9ee6a7cff192892e00e584fdee2f30472e5c8fbd55b2389d72c52d1", func := "doorward/doorwardlaw29.TokenOnce", spec := "tokenOnce", inPlace := ["internal/bytealg.abigen_runtime_cmpstring"], unfollowed := true, recurses := true, apart := false, narrowed := true }
def TokenOnceUptoSaid : Prop := tokenOnceUptoRow.holds Try.pinned (OpenSpec.upto tokenOnceSpec)

end Rows
end Go.Proofs.Ytlmdgdehjpahiaa
