/- What the law 'ExpA' uses. No condition. -/
import Derived.OpenShut
import Derived.ProofKit
import Derived.WalkKit
import Derived.Test.YtdljmchhecoakaaGreatKExpAC
import Derived.Test.YtdljmchhecoakaaGreatKExpAF
namespace Go.Proofs.YtdljmchhecoakaaGreat
open Tryz (prog)
section
set_option linter.unusedVariables false
set_option maxRecDepth 4000
open Go.ChangeShapes Go.WideShapes Go.ChangeAt Go.RowKit
theorem own:ownKnob Tryz.prog.godebug=none:=by kernel_rfl
theorem kids:Kids prog (· <Tryz.prog.types.size):=kids_rows (by kernel_rfl) (by kernel_rfl)
theorem full:∀t e,t<Tryz.prog.types.size->Tryz.prog.underlying t=some (.slice e)->0<Tryz.prog.cellsOf e:=slices_full_of prog (by kernel_rfl)
theorem C8{k:IntKind}{v:Value}(h:jo (.i k) v):∃n,v=.int k n:=by
 cases v<;>simp_all[jo]
theorem C9{v:Value}(h:jo .s v):∃n,v=.string n:=by
 cases v<;>simp_all[jo]
theorem C7{v:Value}(h:jo .b v):∃n,v=.bool n:=by
 cases v<;>simp_all[jo]
instance Sg:ji prog 3 [.i .i64]:=ji.int ur (by kernel_rfl)
instance Sh:ji prog 4 [.b]:=ji.bool yS (by kernel_rfl)
instance Lw:ji prog 9 [.s]:=ji.str rV (by kernel_rfl)
end
end Go.Proofs.YtdljmchhecoakaaGreat
