/- What the law 'OpDecodes' uses. No condition. -/
import Derived.Test.YtgppncmdpcefhaaGreatDoorKOpDecodesA
import Derived.Test.YtgppncmdpcefhaaGreatDoorKOpDecodesE
import Derived.Test.YtgppncmdpcefhaaGreatDoorKOpDecodesF

