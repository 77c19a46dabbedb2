/- What the proof of TopSealed leans on: WN. -/
import Derived.Test.YtffalemndjampaaQai
import Derived.Test.YtffalemndjampaaQaj

