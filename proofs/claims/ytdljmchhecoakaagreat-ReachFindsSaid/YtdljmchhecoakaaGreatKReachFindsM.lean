/- What the law 'ReachFinds' uses. No condition. -/
import Derived.OpenShut
import Derived.ProofKit
import Derived.WalkKit
import Derived.Test.YtdljmchhecoakaaGreatKReachFindsC
import Derived.Test.YtdljmchhecoakaaGreatKReachFindsF
namespace Go.Proofs.YtdljmchhecoakaaGreat
open Tryz (prog)
section
set_option linter.unusedVariables false
set_option maxRecDepth 4000
open Go.ChangeShapes Go.WideShapes Go.ChangeAt Go.RowKit
theorem own:ownKnob Tryz.prog.godebug=none:=by kernel_rfl
theorem kids:Kids prog (· <Tryz.prog.types.size):=kids_rows (by kernel_rfl) (by kernel_rfl)
theorem full:∀t e,t<Tryz.prog.types.size->Tryz.prog.underlying t=some (.slice e)->0<Tryz.prog.cellsOf e:=slices_full_of prog (by kernel_rfl)
theorem AQ{k:IntKind}{v:Value}(h:hU (.i k) v):∃n,v=.int k n:=by
 cases v<;>simp_all[hU]
theorem AR{v:Value}(h:hU .s v):∃n,v=.string n:=by
 cases v<;>simp_all[hU]
theorem AP{v:Value}(h:hU .b v):∃n,v=.bool n:=by
 cases v<;>simp_all[hU]
instance OG:hM prog 3 [.i .i64]:=hM.int qu (by kernel_rfl)
instance OH:hM prog 4 [.b]:=hM.bool wQ (by kernel_rfl)
instance IB:hM prog 9 [.s]:=hM.str qv (by kernel_rfl)
end
end Go.Proofs.YtdljmchhecoakaaGreat
