/- What the law 'CoreNobody' uses of this prover's engine, facts and walks. No condition. -/
import Derived.Test.YtkagfkbkpiebjaaGreatDoorKCoreNobodyA
import Derived.Test.YtkagfkbkpiebjaaGreatDoorKCoreNobodyE
import Derived.Test.YtkagfkbkpiebjaaGreatDoorKCoreNobodyF

