-- Cut by a program of this session out of words that the print lays, and named anew: not as it was printed.
import Derived.Test.YtejhnlljddjicaaDoorZWTab
/-! ### 56. Four, five, six operations that may come up next, in any order -/
namespace Go.Proofs.YtejhnlljddjicaaDoorW.PrintLast
section
variable {P : Program} {ops : Array Oper} {Q : Exit → Act → World → Prop} {md : Region.Mode} {S : World → Prop} {ds : List Nat} {T : Bool × List (List Nat × List Nat)}
end
end Go.Proofs.YtejhnlljddjicaaDoorW.PrintLast
