-- Written by a program of this session on top of the print: some functions by hand.
import Derived.Test.YtmnmlicckmaegaaPWalx0
namespace Go.Proofs.Ytmnmlicckmaegaa.PWal
open Go.RowKit Go.Proofs.YtmnmlicckmaegaaW.PrintWords Go.Proofs.YtmnmlicckmaegaaW.PrintLast Go.Proofs.YtmnmlicckmaegaaW.PrintMore
attribute [local go_sem] max2_int min2_int max_two min_two max_three min_three max_four min_four   -- for this text's walks alone
set_option linter.unusedVariables false
set_option linter.unusedSimpArgs false

-- NOT PRINTED: function 5 (lodestarlaw09_WalSpoilt)

end Go.Proofs.Ytmnmlicckmaegaa.PWal
