/- What the proof of TopSealed leans on: WFoot. -/
import Derived.Test.YtffalemndjampaaQae
import Derived.Test.YtffalemndjampaaQaf

