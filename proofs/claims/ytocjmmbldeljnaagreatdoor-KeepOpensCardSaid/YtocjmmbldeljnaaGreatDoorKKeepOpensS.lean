/- What the law 'KeepOpens' uses. No condition. -/
import Derived.OpenShut
import Derived.ProofKit
import Derived.WalkKit
import Derived.Test.YtocjmmbldeljnaaGreatDoorKKeepOpensC
import Derived.Test.YtocjmmbldeljnaaGreatDoorKKeepOpensF
set_option linter.unusedSimpArgs false
set_option linter.unusedVariables false
namespace Go.Proofs.YtocjmmbldeljnaaGreatDoor
open Tryz
section
set_option linter.unusedVariables false
set_option maxRecDepth 4000
open Go.ChangeShapes Go.WideShapes Go.ChangeAt Go.RowKit
theorem own:ownKnob prog.godebug=none:=by kernel_rfl
theorem kids:Kids prog (· <prog.types.size):=kids_rows (by kernel_rfl) (by kernel_rfl)
theorem full:∀t e,t<prog.types.size->prog.underlying t=some (.slice e)->0<prog.cellsOf e:=slices_full_of prog (by kernel_rfl)
theorem zW{k:IntKind}{v:Value}(h:gQ (.i k) v):∃n,v=.int k n:=by
 cases v<;>simp_all[gQ]
theorem uR{v:Value}(h:gQ .s v):∃n,v=.string n:=by
 cases v<;>simp_all[gQ]
theorem zV{v:Value}(h:gQ .b v):∃n,v=.bool n:=by
 cases v<;>simp_all[gQ]
instance QY:hU prog 3 [.i .i64]:=hU.int sf (by kernel_rfl)
instance QZ:hU prog 4 [.b]:=hU.bool vX (by kernel_rfl)
instance sd:hU prog 9 [.s]:=hU.str qf (by kernel_rfl)
end
end Go.Proofs.YtocjmmbldeljnaaGreatDoor
