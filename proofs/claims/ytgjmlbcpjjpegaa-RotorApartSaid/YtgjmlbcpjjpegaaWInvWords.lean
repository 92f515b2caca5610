-- Words of the kit's print (print.sh OWN=1), cut down by wip/trimall.py to what this claim needs.
import Derived.Test.YtgjmlbcpjjpegaaWInv
import Derived.Test.YtgjmlbcpjjpegaaWFootNe
namespace Go.Proofs.YtgjmlbcpjjpegaaW.PrintWords
open Go.RowKit
end Go.Proofs.YtgjmlbcpjjpegaaW.PrintWords
namespace Go.Proofs.YtgjmlbcpjjpegaaW.PrintLast
section
variable {ops : Array Oper} {a : Act} {o og : Oper} {g : Nat} {t : Tmp} {u : Bool}
end
end Go.Proofs.YtgjmlbcpjjpegaaW.PrintLast
