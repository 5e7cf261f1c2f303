/- What the law 'MemoChecks' uses. No condition. -/
import Derived.OpenShut
import Derived.ProofKit
import Derived.WalkKit
import Derived.Test.YtdljmchhecoakaaGreatKMemoChecksC
import Derived.Test.YtdljmchhecoakaaGreatKMemoChecksF
namespace Go.Proofs.YtdljmchhecoakaaGreat
open Tryz
section
set_option linter.unusedVariables false
set_option maxRecDepth 4000
open Go.ChangeShapes Go.WideShapes Go.ChangeAt Go.RowKit
theorem own:ownKnob prog.godebug=none:=by kernel_rfl
theorem kids:Kids prog (· <prog.types.size):=kids_rows (by kernel_rfl) (by kernel_rfl)
theorem full:∀t e,t<prog.types.size->prog.underlying t=some (.slice e)->0<prog.cellsOf e:=slices_full_of prog (by kernel_rfl)
theorem Cw{k:IntKind}{v:Value}(h:jf (.i k) v):∃n,v=.int k n:=by
 cases v<;>simp_all[jf]
theorem Cx{v:Value}(h:jf .s v):∃n,v=.string n:=by
 cases v<;>simp_all[jf]
theorem Cv{v:Value}(h:jf .b v):∃n,v=.bool n:=by
 cases v<;>simp_all[jf]
instance Rv:ja prog 3 [.i .i64]:=ja.int rI (by kernel_rfl)
instance Ry:ja prog 4 [.b]:=ja.bool yg (by kernel_rfl)
instance Kz:ja prog 9 [.s]:=ja.str rJ (by kernel_rfl)
end
end Go.Proofs.YtdljmchhecoakaaGreat
