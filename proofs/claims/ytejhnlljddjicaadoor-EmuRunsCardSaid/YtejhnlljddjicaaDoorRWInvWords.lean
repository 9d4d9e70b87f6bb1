-- Cut by a program of this session out of words that the print lays, and named anew: not as it was printed.
import Derived.Test.YtejhnlljddjicaaDoorRWInv
import Derived.Test.YtejhnlljddjicaaDoorRWFootNe
namespace Go.Proofs.YtejhnlljddjicaaDoorW.PrintWords
open Go.RowKit
end Go.Proofs.YtejhnlljddjicaaDoorW.PrintWords
namespace Go.Proofs.YtejhnlljddjicaaDoorW.PrintLast
section
variable {ops : Array Oper} {a : Act} {o og : Oper} {g : Nat} {t : Tmp} {u : Bool}
end
end Go.Proofs.YtejhnlljddjicaaDoorW.PrintLast
