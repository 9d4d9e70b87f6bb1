-- Cut by a program of this session out of words that the print lays, and named anew: not as it was printed.
import Derived.Test.YtejhnlljddjicaaDoorZWInv
import Derived.Test.YtejhnlljddjicaaDoorZWFootNe
namespace Go.Proofs.YtejhnlljddjicaaDoorW.PrintWords
open Go.RowKit
end Go.Proofs.YtejhnlljddjicaaDoorW.PrintWords
namespace Go.Proofs.YtejhnlljddjicaaDoorW.PrintLast
section
variable {ops : Array Oper} {a : Act} {o og : Oper} {g : Nat} {t : Tmp} {u : Bool}
end
end Go.Proofs.YtejhnlljddjicaaDoorW.PrintLast
