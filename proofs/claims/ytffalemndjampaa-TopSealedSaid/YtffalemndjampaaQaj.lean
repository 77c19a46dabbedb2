/- What the proof of TopSealed leans on: WZeros. -/
import Derived.Test.YtffalemndjampaaQae
import Derived.Test.YtffalemndjampaaQaf

