/- What the law 'OpCodes' uses. No condition. -/
import Derived.Test.YtgppncmdpcefhaaGreatDoorKOpCodesA
import Derived.Test.YtgppncmdpcefhaaGreatDoorKOpCodesE
import Derived.Test.YtgppncmdpcefhaaGreatDoorKOpCodesF

