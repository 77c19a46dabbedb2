/- What the proof of TopSealed leans on: WArr. -/
import Derived.Test.YtffalemndjampaaQaa

