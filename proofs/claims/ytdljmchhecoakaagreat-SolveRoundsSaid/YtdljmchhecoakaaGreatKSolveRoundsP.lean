/- What the law 'SolveRounds' uses. No condition. -/
import Derived.Test.YtdljmchhecoakaaGreatKSolveRoundsB
import Derived.Test.YtdljmchhecoakaaGreatKSolveRoundsD
import Derived.Test.YtdljmchhecoakaaGreatKSolveRoundsH

