/- Written by wip/xprint.py (the kit's print over given functions). -/
import Derived.Test.YtgjmlbcpjjpegaaPRBx0
import Derived.Test.YtgjmlbcpjjpegaaPRBx1
import Derived.Test.YtgjmlbcpjjpegaaPRBx2
import Derived.Test.YtgjmlbcpjjpegaaPRBx3
import Derived.Test.YtgjmlbcpjjpegaaPRBx4
import Derived.Test.YtgjmlbcpjjpegaaPRBx5
import Derived.Test.YtgjmlbcpjjpegaaPRBx6
import Derived.Test.YtgjmlbcpjjpegaaPRBx7
import Derived.Test.YtgjmlbcpjjpegaaPRBx8
import Derived.Test.YtgjmlbcpjjpegaaPRBx9
namespace Go.Proofs.Ytgjmlbcpjjpegaa.PRB
open Go.RowKit Go.Proofs.YtgjmlbcpjjpegaaW.PrintWords Go.Proofs.YtgjmlbcpjjpegaaW.PrintLast Go.Proofs.YtgjmlbcpjjpegaaW.PrintMore
attribute [local go_sem] max2_int min2_int max_two min_two max_three min_three max_four min_four   -- for this text's walks alone
set_option linter.unusedVariables false
set_option linter.unusedSimpArgs false

end Go.Proofs.Ytgjmlbcpjjpegaa.PRB
