/- What the proof of TopSealed leans on: WApart. -/
import Derived.Test.YtffalemndjampaaQaa
import Derived.Test.YtffalemndjampaaQab

