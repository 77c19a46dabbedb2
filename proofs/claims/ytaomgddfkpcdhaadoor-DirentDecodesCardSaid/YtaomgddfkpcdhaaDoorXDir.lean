-- Printed by a program of this session (xprint.py) over the kit's print, with contracts of its own. Not trusted: Lean checks it.
import Derived.Test.YtaomgddfkpcdhaaDoorXDir0
import Derived.Test.YtaomgddfkpcdhaaDoorXDir1
import Derived.Test.YtaomgddfkpcdhaaDoorXDir2
import Derived.Test.YtaomgddfkpcdhaaDoorXDir3
import Derived.Test.YtaomgddfkpcdhaaDoorXDir4
import Derived.Test.YtaomgddfkpcdhaaDoorXDir5
namespace Go.Proofs.YtaomgddfkpcdhaaDoor.XDir
open Go.RowKit Go.Proofs.YtaomgddfkpcdhaaDoorW.PrintWords Go.Proofs.YtaomgddfkpcdhaaDoorW.PrintLast Go.Proofs.YtaomgddfkpcdhaaDoorW.PrintMore
attribute [local go_sem] max2_int min2_int max_two min_two max_three min_three max_four min_four   -- for this text's walks alone
set_option linter.unusedVariables false
set_option linter.unusedSimpArgs false

end Go.Proofs.YtaomgddfkpcdhaaDoor.XDir
