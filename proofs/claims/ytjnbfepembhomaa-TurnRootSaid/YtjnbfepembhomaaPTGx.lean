/- Written by wip/xprint.py (the kit's print over given functions). -/
import Derived.Test.YtjnbfepembhomaaPTGx0
import Derived.Test.YtjnbfepembhomaaPTGx1
import Derived.Test.YtjnbfepembhomaaPTGx2
namespace Go.Proofs.Ytjnbfepembhomaa.PTG
open Go.RowKit Go.Proofs.YtjnbfepembhomaaW.PrintWords Go.Proofs.YtjnbfepembhomaaW.PrintLast Go.Proofs.YtjnbfepembhomaaW.PrintMore
attribute [local go_sem] max2_int min2_int max_two min_two max_three min_three max_four min_four   -- for this text's walks alone
set_option linter.unusedVariables false
set_option linter.unusedSimpArgs false

end Go.Proofs.Ytjnbfepembhomaa.PTG
