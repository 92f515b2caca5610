/- Written by wip/xprint.py (the kit's print over given functions). -/
import Derived.Test.YtidccoahjpjoaaaGreatDoorPK1x0
import Derived.Test.YtidccoahjpjoaaaGreatDoorPK1x1
import Derived.Test.YtidccoahjpjoaaaGreatDoorPK1x2
import Derived.Test.YtidccoahjpjoaaaGreatDoorPK1x3
import Derived.Test.YtidccoahjpjoaaaGreatDoorPK1x4
import Derived.Test.YtidccoahjpjoaaaGreatDoorPK1x5
import Derived.Test.YtidccoahjpjoaaaGreatDoorPK1x6
namespace Go.Proofs.YtidccoahjpjoaaaGreatDoor.PK1
open Go.RowKit Go.Proofs.YtidccoahjpjoaaaGreatDoorW.PrintWords Go.Proofs.YtidccoahjpjoaaaGreatDoorW.PrintLast Go.Proofs.YtidccoahjpjoaaaGreatDoorW.PrintMore
attribute [local go_sem] max2_int min2_int max_two min_two max_three min_three max_four min_four   -- for this text's walks alone
set_option linter.unusedVariables false
set_option linter.unusedSimpArgs false

end Go.Proofs.YtidccoahjpjoaaaGreatDoor.PK1
