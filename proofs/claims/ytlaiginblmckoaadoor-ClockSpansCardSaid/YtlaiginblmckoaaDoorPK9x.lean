/- Written by wip/xprint.py (the kit's print over given functions). -/
import Derived.Test.YtlaiginblmckoaaDoorPK9x0
import Derived.Test.YtlaiginblmckoaaDoorPK9x1
import Derived.Test.YtlaiginblmckoaaDoorPK9x2
import Derived.Test.YtlaiginblmckoaaDoorPK9x3
import Derived.Test.YtlaiginblmckoaaDoorPK9x4
namespace Go.Proofs.YtlaiginblmckoaaDoor.PK9
open Go.RowKit Go.Proofs.YtlaiginblmckoaaDoorW.PrintWords Go.Proofs.YtlaiginblmckoaaDoorW.PrintLast Go.Proofs.YtlaiginblmckoaaDoorW.PrintMore
attribute [local go_sem] max2_int min2_int max_two min_two max_three min_three max_four min_four   -- for this text's walks alone
set_option linter.unusedVariables false
set_option linter.unusedSimpArgs false

end Go.Proofs.YtlaiginblmckoaaDoor.PK9
