/- Written by wip/xprint.py (the kit's print over given functions). -/
import Derived.Test.YtgnmmifeojfjlaaGreatDoorPK1x0
import Derived.Test.YtgnmmifeojfjlaaGreatDoorPK1x1
import Derived.Test.YtgnmmifeojfjlaaGreatDoorPK1x2
import Derived.Test.YtgnmmifeojfjlaaGreatDoorPK1x3
namespace Go.Proofs.YtgnmmifeojfjlaaGreatDoor.PK1
open Go.RowKit Go.Proofs.YtgnmmifeojfjlaaGreatDoorW.PrintWords Go.Proofs.YtgnmmifeojfjlaaGreatDoorW.PrintLast Go.Proofs.YtgnmmifeojfjlaaGreatDoorW.PrintMore
attribute [local go_sem] max2_int min2_int max_two min_two max_three min_three max_four min_four   -- for this text's walks alone
set_option linter.unusedVariables false
set_option linter.unusedSimpArgs false

end Go.Proofs.YtgnmmifeojfjlaaGreatDoor.PK1
