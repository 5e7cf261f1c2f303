/- What the law 'ExpandRight' uses. No condition. -/
import Derived.OpenShut
import Derived.ProofKit
import Derived.WalkKit
import Derived.Test.YtenilfmlfldogaaGreatDoorKExpandRightC
import Derived.Test.YtenilfmlfldogaaGreatDoorKExpandRightF
namespace Go.Proofs.YtenilfmlfldogaaGreatDoor
open Tryz
section
set_option linter.unusedVariables false
set_option maxRecDepth 4000
open Go.ChangeShapes Go.WideShapes Go.ChangeAt Go.RowKit
theorem own:ownKnob prog.godebug=none:=by kernel_rfl
theorem kids:Kids prog (· <prog.types.size):=kids_rows (by kernel_rfl) (by kernel_rfl)
theorem full:∀t e,t<prog.types.size->prog.underlying t=some (.slice e)->0<prog.cellsOf e:=slices_full_of prog (by kernel_rfl)
theorem Bx{k:IntKind}{v:Value}(h:jc (.i k) v):∃n,v=.int k n:=by
 cases v<;>simp_all[jc]
theorem Bz{v:Value}(h:jc .s v):∃n,v=.string n:=by
 cases v<;>simp_all[jc]
theorem Bw{v:Value}(h:jc .b v):∃n,v=.bool n:=by
 cases v<;>simp_all[jc]
instance QC:iZ prog 3 [.i .i64]:=iZ.int tg (by kernel_rfl)
instance QD:iZ prog 4 [.b]:=iZ.bool xd (by kernel_rfl)
instance xc:iZ prog 9 [.s]:=iZ.str oq (by kernel_rfl)
end
end Go.Proofs.YtenilfmlfldogaaGreatDoor
