/- What the law 'MemoChecks' uses. No condition. -/
import Derived.Test.YtdljmchhecoakaaGreatKMemoChecksA
import Derived.Test.YtdljmchhecoakaaGreatKMemoChecksB
import Derived.Test.YtdljmchhecoakaaGreatKMemoChecksE
import Derived.Test.YtdljmchhecoakaaGreatKMemoChecksG
import Derived.Test.YtdljmchhecoakaaGreatKMemoChecksH
namespace Go.Proofs.YtdljmchhecoakaaGreat
set_option linter.unusedVariables false
set_option linter.unusedSimpArgs false
set_option maxRecDepth 4000
def Pl(s:ByteArray):Prop:=∀k,k<s.size->mA s k≠34/\mA s k≠47/\mA s k≠45
end Go.Proofs.YtdljmchhecoakaaGreat
