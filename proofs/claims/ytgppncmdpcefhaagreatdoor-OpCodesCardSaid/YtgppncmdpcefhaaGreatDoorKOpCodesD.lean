/- What the law 'OpCodes' uses. No condition. -/
import Derived.Lib.Overlaps
import Derived.Test.YtgppncmdpcefhaaGreatDoorKOpCodesB
set_option linter.unusedVariables false
namespace Go.Proofs.YtgppncmdpcefhaaGreatDoor
section
theorem E2(z:Int):IntKind.u8.wrap z=((BitVec.ofInt 8 z).toNat:Int):=by
 simp only[IntKind.wrap,IntKind.bits,IntKind.signed,BitVec.toNat_ofInt]
 simp
 omega
end
section
end
end Go.Proofs.YtgppncmdpcefhaaGreatDoor
