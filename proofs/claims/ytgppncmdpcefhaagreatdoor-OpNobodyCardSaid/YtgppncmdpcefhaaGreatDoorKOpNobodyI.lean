/- What the law 'OpNobody' uses. No condition. -/
import Derived.Test.YtgppncmdpcefhaaGreatDoorKOpNobodyA
import Derived.Test.YtgppncmdpcefhaaGreatDoorKOpNobodyE
import Derived.Test.YtgppncmdpcefhaaGreatDoorKOpNobodyF

