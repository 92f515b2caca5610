/- Written by wip/xprint.py (the kit's print over given functions). -/
import Derived.Test.YtcddhfidbhcgdaaPTGx0
import Derived.Test.YtcddhfidbhcgdaaPTGx1
import Derived.Test.YtcddhfidbhcgdaaPTGx2
import Derived.Test.YtcddhfidbhcgdaaPTGx3
import Derived.Test.YtcddhfidbhcgdaaPTGx4
import Derived.Test.YtcddhfidbhcgdaaPTGx5
import Derived.Test.YtcddhfidbhcgdaaPTGx6
import Derived.Test.YtcddhfidbhcgdaaPTGx7
import Derived.Test.YtcddhfidbhcgdaaPTGx8
import Derived.Test.YtcddhfidbhcgdaaPTGx9
import Derived.Test.YtcddhfidbhcgdaaPTGx10
import Derived.Test.YtcddhfidbhcgdaaPTGx11
import Derived.Test.YtcddhfidbhcgdaaPTGx12
import Derived.Test.YtcddhfidbhcgdaaPTGx13
import Derived.Test.YtcddhfidbhcgdaaPTGx14
import Derived.Test.YtcddhfidbhcgdaaPTGx15
import Derived.Test.YtcddhfidbhcgdaaPTGx16
namespace Go.Proofs.Ytcddhfidbhcgdaa.PTG
open Go.RowKit Go.Proofs.YtcddhfidbhcgdaaW.PrintWords Go.Proofs.YtcddhfidbhcgdaaW.PrintLast Go.Proofs.YtcddhfidbhcgdaaW.PrintMore
attribute [local go_sem] max2_int min2_int max_two min_two max_three min_three max_four min_four   -- for this text's walks alone
set_option linter.unusedVariables false
set_option linter.unusedSimpArgs false

end Go.Proofs.Ytcddhfidbhcgdaa.PTG
