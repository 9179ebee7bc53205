/- Words and walks that the statement's proof uses; no condition. -/
import Derived.Test.YtimladcenifppaaGreatDoorZse11
