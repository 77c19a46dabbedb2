/- What the proof of TopSealed leans on: WKept. -/
import Derived.Test.YtffalemndjampaaQag

