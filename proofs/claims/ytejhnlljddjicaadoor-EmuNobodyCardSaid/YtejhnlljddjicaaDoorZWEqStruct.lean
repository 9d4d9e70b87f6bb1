-- Cut by a program of this session out of words that the print lays, and named anew: not as it was printed.
import Derived.Test.YtejhnlljddjicaaDoorZWWords
import Derived.Laws.StructEq
/-! ### 53. '==' of structs as_ one Bool -/
namespace Go.Proofs.YtejhnlljddjicaaDoorW.PrintWords
open Go.RowKit
section
variable {P : Program} {d : Nat} {xs ys : Array Value} {f : Field} {fs : List Field} {a b : Value} {r s : Bool} {w : World}
end
end Go.Proofs.YtejhnlljddjicaaDoorW.PrintWords
