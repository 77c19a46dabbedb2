-- Printed by a program of this session (xprint.py) over the kit's print, with contracts of its own. Not trusted: Lean checks it.
import Derived.Test.YtaomgddfkpcdhaaXDir0
import Derived.Test.YtaomgddfkpcdhaaXDir1
import Derived.Test.YtaomgddfkpcdhaaXDir2
import Derived.Test.YtaomgddfkpcdhaaXDir3
import Derived.Test.YtaomgddfkpcdhaaXDir4
import Derived.Test.YtaomgddfkpcdhaaXDir5
import Derived.Test.YtaomgddfkpcdhaaXDir6
import Derived.Test.YtaomgddfkpcdhaaXDir7
import Derived.Test.YtaomgddfkpcdhaaXDir8
namespace Go.Proofs.Ytaomgddfkpcdhaa.XDir
open Go.RowKit Go.Proofs.YtaomgddfkpcdhaaW.PrintWords Go.Proofs.YtaomgddfkpcdhaaW.PrintLast Go.Proofs.YtaomgddfkpcdhaaW.PrintMore
attribute [local go_sem] max2_int min2_int max_two min_two max_three min_three max_four min_four   -- for this text's walks alone
set_option linter.unusedVariables false
set_option linter.unusedSimpArgs false

end Go.Proofs.Ytaomgddfkpcdhaa.XDir
