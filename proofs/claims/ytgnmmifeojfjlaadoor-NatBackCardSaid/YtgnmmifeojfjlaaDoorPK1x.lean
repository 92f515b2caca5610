/- Written by wip/xprint.py (the kit's print over given functions). -/
import Derived.Test.YtgnmmifeojfjlaaDoorPK1x0
import Derived.Test.YtgnmmifeojfjlaaDoorPK1x1
import Derived.Test.YtgnmmifeojfjlaaDoorPK1x2
import Derived.Test.YtgnmmifeojfjlaaDoorPK1x3
namespace Go.Proofs.YtgnmmifeojfjlaaDoor.PK1
open Go.RowKit Go.Proofs.YtgnmmifeojfjlaaDoorW.PrintWords Go.Proofs.YtgnmmifeojfjlaaDoorW.PrintLast Go.Proofs.YtgnmmifeojfjlaaDoorW.PrintMore
attribute [local go_sem] max2_int min2_int max_two min_two max_three min_three max_four min_four   -- for this text's walks alone
set_option linter.unusedVariables false
set_option linter.unusedSimpArgs false

end Go.Proofs.YtgnmmifeojfjlaaDoor.PK1
