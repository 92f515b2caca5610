/- Written by wip/xprint.py (the kit's print over given functions). -/
import Derived.Test.YtipkjbfbcdadkaaDoorPK9x0
import Derived.Test.YtipkjbfbcdadkaaDoorPK9x1
import Derived.Test.YtipkjbfbcdadkaaDoorPK9x2
import Derived.Test.YtipkjbfbcdadkaaDoorPK9x3
import Derived.Test.YtipkjbfbcdadkaaDoorPK9x4
import Derived.Test.YtipkjbfbcdadkaaDoorPK9x5
import Derived.Test.YtipkjbfbcdadkaaDoorPK9x6
import Derived.Test.YtipkjbfbcdadkaaDoorPK9x7
namespace Go.Proofs.YtipkjbfbcdadkaaDoor.PK9
open Go.RowKit Go.Proofs.YtipkjbfbcdadkaaDoorW.PrintWords Go.Proofs.YtipkjbfbcdadkaaDoorW.PrintLast Go.Proofs.YtipkjbfbcdadkaaDoorW.PrintMore
attribute [local go_sem] max2_int min2_int max_two min_two max_three min_three max_four min_four   -- for this text's walks alone
set_option linter.unusedVariables false
set_option linter.unusedSimpArgs false

end Go.Proofs.YtipkjbfbcdadkaaDoor.PK9
