/- Words and walks that the statement's proof uses; no condition. -/
import Derived.Test.YtppbpefehpbejaaZbt16
import Derived.Test.YtppbpefehpbejaaZbt12
