/- What the law 'SolveRounds' uses. No condition. -/
import Derived.Test.YtdljmchhecoakaaGreatKSolveRoundsC
import Derived.Test.YtdljmchhecoakaaGreatKSolveRoundsH
import Derived.Test.YtdljmchhecoakaaGreatKSolveRoundsL

