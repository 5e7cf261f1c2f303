/- What the law 'LookupJust' uses. No condition. -/
import Derived.OpenShut
import Derived.ProofKit
import Derived.WalkKit
import Derived.Test.YtdljmchhecoakaaGreatKLookupJustC
import Derived.Test.YtdljmchhecoakaaGreatKLookupJustF
namespace Go.Proofs.YtdljmchhecoakaaGreat
open Tryz
section
set_option linter.unusedVariables false
set_option maxRecDepth 4000
open Go.ChangeShapes Go.WideShapes Go.ChangeAt Go.RowKit
theorem own:ownKnob prog.godebug=none:=by kernel_rfl
theorem kids:Kids prog (· <prog.types.size):=kids_rows (by kernel_rfl) (by kernel_rfl)
theorem full:∀t e,t<prog.types.size->prog.underlying t=some (.slice e)->0<prog.cellsOf e:=slices_full_of prog (by kernel_rfl)
theorem CM{k:IntKind}{v:Value}(h:ji (.i k) v):∃n,v=.int k n:=by
 cases v<;>simp_all[ji]
theorem CN{v:Value}(h:ji .s v):∃n,v=.string n:=by
 cases v<;>simp_all[ji]
theorem CL{v:Value}(h:ji .b v):∃n,v=.bool n:=by
 cases v<;>simp_all[ji]
instance RZ:jf prog 3 [.i .i64]:=jf.int ud (by kernel_rfl)
instance R0:jf prog 4 [.b]:=jf.bool yj (by kernel_rfl)
instance KZ:jf prog 9 [.s]:=jf.str rG (by kernel_rfl)
end
end Go.Proofs.YtdljmchhecoakaaGreat
