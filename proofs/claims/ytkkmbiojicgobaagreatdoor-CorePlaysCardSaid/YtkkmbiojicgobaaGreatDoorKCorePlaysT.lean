/- What the law 'CorePlays' uses. No condition. -/
import Derived.OpenShut
import Derived.ProofKit
import Derived.WalkKit
import Derived.Test.YtkkmbiojicgobaaGreatDoorKCorePlaysC
import Derived.Test.YtkkmbiojicgobaaGreatDoorKCorePlaysF
set_option linter.unusedSimpArgs false
set_option linter.unusedVariables false
namespace Go.Proofs.YtkkmbiojicgobaaGreatDoor
open Tryz
section
set_option linter.unusedVariables false
set_option maxRecDepth 4000
open Go.ChangeShapes Go.WideShapes Go.ChangeAt Go.RowKit
theorem own:ownKnob prog.godebug=none:=by kernel_rfl
theorem kids:Kids prog (· <prog.types.size):=kids_rows (by kernel_rfl) (by kernel_rfl)
theorem full:∀t e,t<prog.types.size->prog.underlying t=some (.slice e)->0<prog.cellsOf e:=slices_full_of prog (by kernel_rfl)
theorem zQ{k:IntKind}{v:Value}(h:jx (.i k) v):∃n,v=.int k n:=by
 cases v<;>simp_all[jx]
theorem uj{v:Value}(h:jx .s v):∃n,v=.string n:=by
 cases v<;>simp_all[jx]
instance OZ:iQ prog 2 [.i .i64]:=iQ.int uT (by kernel_rfl)
instance O1:iQ prog 3 [.i .i64]:=iQ.int uV (by kernel_rfl)
instance rK:iQ prog 9 [.s]:=iQ.str qh (by kernel_rfl)
instance O0:iQ prog 27 [.i .u64]:=iQ.int uU (by kernel_rfl)
end
end Go.Proofs.YtkkmbiojicgobaaGreatDoor
