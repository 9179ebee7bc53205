/- Words and walks that the statement's proof uses; no condition. -/
import Derived.Test.YtimladcenifppaaGreatDoorZse5
import Derived.Test.YtimladcenifppaaGreatDoorZse6
