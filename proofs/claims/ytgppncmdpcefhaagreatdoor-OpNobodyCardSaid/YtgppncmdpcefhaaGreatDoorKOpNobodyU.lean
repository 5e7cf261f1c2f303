/- What the law 'OpNobody' uses. No condition. -/
import Derived.OpenShut
import Derived.ProofKit
import Derived.WalkKit
import Derived.Test.YtgppncmdpcefhaaGreatDoorKOpNobodyC
import Derived.Test.YtgppncmdpcefhaaGreatDoorKOpNobodyF
namespace Go.Proofs.YtgppncmdpcefhaaGreatDoor
open Tryz
section
set_option linter.unusedVariables false
set_option linter.unusedSimpArgs false
set_option maxRecDepth 4000
open Go.ChangeShapes Go.WideShapes Go.ChangeAt Go.RowKit
theorem own:ownKnob prog.godebug=none:=by kernel_rfl
theorem kids:Kids prog (· <prog.types.size):=kids_rows (by kernel_rfl) (by kernel_rfl)
theorem full:∀t e,t<prog.types.size->prog.underlying t=some (.slice e)->0<prog.cellsOf e:=slices_full_of prog (by kernel_rfl)
theorem tZ{k:IntKind}{v:Value}(h:fF (.i k) v):∃n,v=.int k n:=by
 cases v<;>simp_all[fF]
theorem pK{v:Value}(h:fF .s v):∃n,v=.string n:=by
 cases v<;>simp_all[fF]
theorem tY{v:Value}(h:fF .b v):∃n,v=.bool n:=by
 cases v<;>simp_all[fF]
instance HT:fP prog 3 [.i .i64]:=fP.int qq (by kernel_rfl)
instance HU:fP prog 4 [.b]:=fP.bool qu (by kernel_rfl)
instance oa:fP prog 9 [.s]:=fP.str mN (by kernel_rfl)
end
end Go.Proofs.YtgppncmdpcefhaaGreatDoor
