/- What the law 'CoreErrors' uses. No condition. -/
import Derived.OpenShut
import Derived.ProofKit
import Derived.WalkKit
import Derived.Test.YtkkmbiojicgobaaGreatDoorKCoreErrorsC
import Derived.Test.YtkkmbiojicgobaaGreatDoorKCoreErrorsF
set_option linter.unusedSimpArgs false
set_option linter.unusedVariables false
namespace Go.Proofs.YtkkmbiojicgobaaGreatDoor
open Tryz
section
set_option linter.unusedVariables false
set_option maxRecDepth 4000
open Go.ChangeShapes Go.WideShapes Go.ChangeAt Go.RowKit
theorem own:ownKnob prog.godebug=none:=by kernel_rfl
theorem kids:Kids prog (· <prog.types.size):=kids_rows (by kernel_rfl) (by kernel_rfl)
theorem full:∀t e,t<prog.types.size->prog.underlying t=some (.slice e)->0<prog.cellsOf e:=slices_full_of prog (by kernel_rfl)
theorem z9{k:IntKind}{v:Value}(h:jB (.i k) v):∃n,v=.int k n:=by
 cases v<;>simp_all[jB]
theorem uz{v:Value}(h:jB .s v):∃n,v=.string n:=by
 cases v<;>simp_all[jB]
instance Ph:iU prog 2 [.i .i64]:=iU.int u6 (by kernel_rfl)
instance Pk:iU prog 3 [.i .i64]:=iU.int u9 (by kernel_rfl)
instance rQ:iU prog 9 [.s]:=iU.str qn (by kernel_rfl)
instance Pj:iU prog 27 [.i .u64]:=iU.int u7 (by kernel_rfl)
end
end Go.Proofs.YtkkmbiojicgobaaGreatDoor
