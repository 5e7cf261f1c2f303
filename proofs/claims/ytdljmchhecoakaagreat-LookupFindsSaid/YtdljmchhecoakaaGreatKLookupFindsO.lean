/- What the law 'LookupFinds' uses. No condition. -/
import Derived.OpenShut
import Derived.ProofKit
import Derived.WalkKit
import Derived.Test.YtdljmchhecoakaaGreatKLookupFindsC
import Derived.Test.YtdljmchhecoakaaGreatKLookupFindsF
namespace Go.Proofs.YtdljmchhecoakaaGreat
open Tryz
section
set_option linter.unusedVariables false
set_option maxRecDepth 4000
open Go.ChangeShapes Go.WideShapes Go.ChangeAt Go.RowKit
theorem own:ownKnob prog.godebug=none:=by kernel_rfl
theorem kids:Kids prog (· <prog.types.size):=kids_rows (by kernel_rfl) (by kernel_rfl)
theorem full:∀t e,t<prog.types.size->prog.underlying t=some (.slice e)->0<prog.cellsOf e:=slices_full_of prog (by kernel_rfl)
theorem D9{k:IntKind}{v:Value}(h:jA (.i k) v):∃n,v=.int k n:=by
 cases v<;>simp_all[jA]
theorem Ec{v:Value}(h:jA .s v):∃n,v=.string n:=by
 cases v<;>simp_all[jA]
theorem D8{v:Value}(h:jA .b v):∃n,v=.bool n:=by
 cases v<;>simp_all[jA]
instance UI:jx prog 3 [.i .i64]:=jx.int vj (by kernel_rfl)
instance UJ:jx prog 4 [.b]:=jx.bool zx (by kernel_rfl)
instance M9:jx prog 9 [.s]:=jx.str sS (by kernel_rfl)
end
end Go.Proofs.YtdljmchhecoakaaGreat
