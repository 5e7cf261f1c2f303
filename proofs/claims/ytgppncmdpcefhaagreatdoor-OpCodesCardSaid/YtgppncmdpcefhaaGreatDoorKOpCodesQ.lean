/- What the law 'OpCodes' uses. No condition. -/
import Derived.Test.YtgppncmdpcefhaaGreatDoorKOpCodesB
import Derived.Test.YtgppncmdpcefhaaGreatDoorKOpCodesD
import Derived.Test.YtgppncmdpcefhaaGreatDoorKOpCodesH

