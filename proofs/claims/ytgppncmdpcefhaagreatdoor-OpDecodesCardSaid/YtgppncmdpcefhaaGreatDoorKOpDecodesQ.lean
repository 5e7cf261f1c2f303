/- What the law 'OpDecodes' uses. No condition. -/
import Derived.Test.YtgppncmdpcefhaaGreatDoorKOpDecodesB
import Derived.Test.YtgppncmdpcefhaaGreatDoorKOpDecodesD
import Derived.Test.YtgppncmdpcefhaaGreatDoorKOpDecodesH

