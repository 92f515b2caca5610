/- Written by wip/xprint.py (the kit's print over given functions). -/
import Derived.Test.YtgjmlbcpjjpegaaPRLx0
import Derived.Test.YtgjmlbcpjjpegaaPRLx1
import Derived.Test.YtgjmlbcpjjpegaaPRLx2
import Derived.Test.YtgjmlbcpjjpegaaPRLx3
import Derived.Test.YtgjmlbcpjjpegaaPRLx4
namespace Go.Proofs.Ytgjmlbcpjjpegaa.PRL
open Go.RowKit Go.Proofs.YtgjmlbcpjjpegaaW.PrintWords Go.Proofs.YtgjmlbcpjjpegaaW.PrintLast Go.Proofs.YtgjmlbcpjjpegaaW.PrintMore
attribute [local go_sem] max2_int min2_int max_two min_two max_three min_three max_four min_four   -- for this text's walks alone
set_option linter.unusedVariables false
set_option linter.unusedSimpArgs false

end Go.Proofs.Ytgjmlbcpjjpegaa.PRL
