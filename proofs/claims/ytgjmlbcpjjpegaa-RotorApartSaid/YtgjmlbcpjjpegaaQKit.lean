/- The helpers of the statements over words: copies, lists that are lent, comparisons; what each call does. -/
import Derived.Test.YtgjmlbcpjjpegaaProg
import Derived.Test.YtgjmlbcpjjpegaaQMem
import Derived.Deep.QuietTactic
import Derived.BigQuiet
import Derived.Deep.LoopGhost
set_option linter.unusedVariables false
set_option linter.unusedSimpArgs false
namespace Go.Proofs.Ytgjmlbcpjjpegaa
open Go Go.RowKit Q

theorem infoW : (Try.prog.info? 62).map (fun i => (i.zero, i.size, i.bytes)) = some (some (.int .u32 0), 1, 4) := by kernel_rfl

end Go.Proofs.Ytgjmlbcpjjpegaa
