/- What the proof of TopSealed leans on: WInvWords. -/
import Derived.Test.YtffalemndjampaaQad
import Derived.Test.YtffalemndjampaaQal
namespace Go.Proofs.YtffalemndjampaaW.PrintLast
section
variable {ops : Array Oper} {a : Act} {o og : Oper} {g : Nat} {t : Tmp} {u : Bool}
theorem eval_of {v : Value} (h : a.tmps[t]? = some v) : a.eval (.tmp t) = v := by simp [Act.eval, h]
theorem wanted_on (hg : o.guard = some (g, u)) (ho : ops[g]? = some og) (hd : og.dst = some t) (hv : a.tmps[t]? = some (.bool u)) : Region.wanted o (yielded ops a.tmps) = true := by
 simp [Region.wanted, hg, yielded, ho, hd, hv]
end
end Go.Proofs.YtffalemndjampaaW.PrintLast
