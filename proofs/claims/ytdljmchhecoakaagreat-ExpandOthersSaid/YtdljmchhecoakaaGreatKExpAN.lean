/- What the law 'ExpA' uses. No condition. -/
import Derived.Test.YtdljmchhecoakaaGreatKExpAA
import Derived.Test.YtdljmchhecoakaaGreatKExpAB
import Derived.Test.YtdljmchhecoakaaGreatKExpAE
import Derived.Test.YtdljmchhecoakaaGreatKExpAG
import Derived.Test.YtdljmchhecoakaaGreatKExpAH
namespace Go.Proofs.YtdljmchhecoakaaGreat
set_option linter.unusedVariables false
set_option linter.unusedSimpArgs false
set_option maxRecDepth 4000
def Pl(s:ByteArray):Prop:=∀k,k<s.size->mA s k≠34/\mA s k≠47/\mA s k≠45
end Go.Proofs.YtdljmchhecoakaaGreat
