/- What the law 'OpCodes' uses. No condition. -/
import Derived.OpenShut
import Derived.ProofKit
import Derived.WalkKit
import Derived.Test.YtgppncmdpcefhaaGreatDoorKOpCodesC
import Derived.Test.YtgppncmdpcefhaaGreatDoorKOpCodesF
namespace Go.Proofs.YtgppncmdpcefhaaGreatDoor
open Tryz
section
set_option linter.unusedVariables false
set_option maxRecDepth 4000
open Go.ChangeShapes Go.WideShapes Go.ChangeAt Go.RowKit
theorem own:ownKnob prog.godebug=none:=by kernel_rfl
theorem kids:Kids prog (· <prog.types.size):=kids_rows (by kernel_rfl) (by kernel_rfl)
theorem full:∀t e,t<prog.types.size->prog.underlying t=some (.slice e)->0<prog.cellsOf e:=slices_full_of prog (by kernel_rfl)
theorem rN{k:IntKind}{v:Value}(h:fe (.i k) v):∃n,v=.int k n:=by
 cases v<;>simp_all[fe]
theorem oD{v:Value}(h:fe .s v):∃n,v=.string n:=by
 cases v<;>simp_all[fe]
theorem rM{v:Value}(h:fe .b v):∃n,v=.bool n:=by
 cases v<;>simp_all[fe]
instance Fb:fE prog 3 [.i .i64]:=fE.int oP (by kernel_rfl)
instance Fc:fE prog 4 [.b]:=fE.bool oQ (by kernel_rfl)
instance m8:fE prog 9 [.s]:=fE.str m9 (by kernel_rfl)
end
end Go.Proofs.YtgppncmdpcefhaaGreatDoor
