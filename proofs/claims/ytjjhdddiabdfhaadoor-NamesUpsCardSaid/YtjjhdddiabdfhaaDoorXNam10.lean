-- Printed by a program of this session (xprint.py) over the kit's print, with contracts of its own. Not trusted: Lean checks it.
import Derived.Test.YtjjhdddiabdfhaaDoorXNam0
import Derived.Test.YtjjhdddiabdfhaaDoorXNam2
import Derived.Test.YtjjhdddiabdfhaaDoorXNam3
import Derived.Test.YtjjhdddiabdfhaaDoorXNam5
import Derived.Test.YtjjhdddiabdfhaaDoorXNam6
import Derived.Test.YtjjhdddiabdfhaaDoorXNam8
import Derived.Test.YtjjhdddiabdfhaaDoorXNam9
namespace Go.Proofs.YtjjhdddiabdfhaaDoor.XNam
open Go.RowKit Go.Proofs.YtjjhdddiabdfhaaDoorW.PrintWords Go.Proofs.YtjjhdddiabdfhaaDoorW.PrintLast Go.Proofs.YtjjhdddiabdfhaaDoorW.PrintMore
attribute [local go_sem] max2_int min2_int max_two min_two max_three min_three max_four min_four   -- for this text's walks alone
set_option linter.unusedVariables false
set_option linter.unusedSimpArgs false



end Go.Proofs.YtjjhdddiabdfhaaDoor.XNam
