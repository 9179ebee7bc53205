/- Words and walks that the statement's proof uses; no condition. -/
import Derived.Test.YtppbpefehpbejaaGreatDoorZix16
import Derived.Test.YtppbpefehpbejaaGreatDoorZix12
