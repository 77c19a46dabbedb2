/- What the proof of TopSealed leans on: WShare. -/
import Derived.Test.YtffalemndjampaaQah

