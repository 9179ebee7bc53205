/- Words and walks that the statement's proof uses; no condition. -/
import Derived.Test.YtppbpefehpbejaaDoorZim5
import Derived.Test.YtppbpefehpbejaaDoorZim6
