-- Written by a program of this session on top of the print: some functions by hand.
import Derived.Test.YtdnfflfofgeokaaDoorPWalx0
import Derived.Test.YtdnfflfofgeokaaDoorPWalx1
import Derived.Test.YtdnfflfofgeokaaDoorPWalx2
import Derived.Test.YtdnfflfofgeokaaDoorPWalx3
import Derived.Test.YtdnfflfofgeokaaDoorPWalx4
namespace Go.Proofs.YtdnfflfofgeokaaDoor.PWal
open Go.RowKit Go.Proofs.YtdnfflfofgeokaaDoorW.PrintWords Go.Proofs.YtdnfflfofgeokaaDoorW.PrintLast Go.Proofs.YtdnfflfofgeokaaDoorW.PrintMore
attribute [local go_sem] max2_int min2_int max_two min_two max_three min_three max_four min_four   -- for this text's walks alone
set_option linter.unusedVariables false
set_option linter.unusedSimpArgs false

end Go.Proofs.YtdnfflfofgeokaaDoor.PWal
