/- What the law 'OpDecodes' uses. No condition. -/
import Derived.Lib.Overlaps
import Derived.Test.YtgppncmdpcefhaaGreatDoorKOpDecodesB
set_option linter.unusedVariables false
set_option linter.unusedSimpArgs false
namespace Go.Proofs.YtgppncmdpcefhaaGreatDoor
section
theorem CX(z:Int):IntKind.u8.wrap z=((BitVec.ofInt 8 z).toNat:Int):=by
 simp only[IntKind.wrap,IntKind.bits,IntKind.signed,BitVec.toNat_ofInt]
 simp
 omega
end
section
end
end Go.Proofs.YtgppncmdpcefhaaGreatDoor
