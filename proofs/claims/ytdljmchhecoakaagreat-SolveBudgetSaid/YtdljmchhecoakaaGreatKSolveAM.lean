/- What the law 'SolveA' uses. No condition. -/
import Derived.OpenShut
import Derived.ProofKit
import Derived.WalkKit
import Derived.Test.YtdljmchhecoakaaGreatKSolveAC
import Derived.Test.YtdljmchhecoakaaGreatKSolveAF
namespace Go.Proofs.YtdljmchhecoakaaGreat
open Tryz (prog)
section
set_option linter.unusedVariables false
set_option maxRecDepth 4000
open Go.ChangeShapes Go.WideShapes Go.ChangeAt Go.RowKit
theorem own:ownKnob Tryz.prog.godebug=none:=by kernel_rfl
theorem kids:Kids prog (· <Tryz.prog.types.size):=kids_rows (by kernel_rfl) (by kernel_rfl)
theorem full:∀t e,t<Tryz.prog.types.size->Tryz.prog.underlying t=some (.slice e)->0<Tryz.prog.cellsOf e:=slices_full_of prog (by kernel_rfl)
theorem DN{k:IntKind}{v:Value}(h:jF (.i k) v):∃n,v=.int k n:=by
 cases v<;>simp_all[jF]
theorem DP{v:Value}(h:jF .s v):∃n,v=.string n:=by
 cases v<;>simp_all[jF]
theorem DM{v:Value}(h:jF .b v):∃n,v=.bool n:=by
 cases v<;>simp_all[jF]
instance S7:jB prog 3 [.i .i64]:=jB.int vF (by kernel_rfl)
instance S8:jB prog 4 [.b]:=jB.bool zl (by kernel_rfl)
instance Mi:jB prog 9 [.s]:=jB.str sY (by kernel_rfl)
end
end Go.Proofs.YtdljmchhecoakaaGreat
