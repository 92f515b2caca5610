-- Words of the kit's print (print.sh OWN=1), cut down by wip/trimall.py to what this claim needs.
import Derived.Test.YtgjmlbcpjjpegaaWTab
/-! ### 56. Four, five, six operations that may come up next, in any order -/
namespace Go.Proofs.YtgjmlbcpjjpegaaW.PrintLast
section
variable {P : Program} {ops : Array Oper} {Q : Exit → Act → World → Prop} {md : Region.Mode} {S : World → Prop} {ds : List Nat} {T : Bool × List (List Nat × List Nat)}
end
end Go.Proofs.YtgjmlbcpjjpegaaW.PrintLast
