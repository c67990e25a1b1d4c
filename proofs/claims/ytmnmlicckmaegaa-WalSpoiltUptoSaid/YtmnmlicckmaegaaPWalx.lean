-- Written by a program of this session on top of the print: some functions by hand.
import Derived.Test.YtmnmlicckmaegaaPWalx0
import Derived.Test.YtmnmlicckmaegaaPWalx1
import Derived.Test.YtmnmlicckmaegaaPWalx2
import Derived.Test.YtmnmlicckmaegaaPWalx3
import Derived.Test.YtmnmlicckmaegaaPWalx4
import Derived.Test.YtmnmlicckmaegaaPWalx5
import Derived.Test.YtmnmlicckmaegaaPWalx6
import Derived.Test.YtmnmlicckmaegaaPWalx7
import Derived.Test.YtmnmlicckmaegaaPWalx8
import Derived.Test.YtmnmlicckmaegaaPWalx9
import Derived.Test.YtmnmlicckmaegaaPWalx10
import Derived.Test.YtmnmlicckmaegaaPWalx11
namespace Go.Proofs.Ytmnmlicckmaegaa.PWal
open Go.RowKit Go.Proofs.YtmnmlicckmaegaaW.PrintWords Go.Proofs.YtmnmlicckmaegaaW.PrintLast Go.Proofs.YtmnmlicckmaegaaW.PrintMore
attribute [local go_sem] max2_int min2_int max_two min_two max_three min_three max_four min_four   -- for this text's walks alone
set_option linter.unusedVariables false
set_option linter.unusedSimpArgs false

end Go.Proofs.Ytmnmlicckmaegaa.PWal
