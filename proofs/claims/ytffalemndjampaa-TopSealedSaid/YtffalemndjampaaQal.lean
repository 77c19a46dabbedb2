/- What the proof of TopSealed leans on: WFootNe. -/
import Derived.Test.YtffalemndjampaaQak

