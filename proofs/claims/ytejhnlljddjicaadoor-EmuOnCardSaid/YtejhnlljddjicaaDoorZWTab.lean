-- Cut by a program of this session out of words that the print lays, and named anew: not as it was printed.
import Derived.Test.YtejhnlljddjicaaDoorZWLast
import Derived.Test.YtejhnlljddjicaaDoorZWWords
/-! ### 50. A region's order in a table, made once a region: each step asks the table (numbers alone), not the operations -/
namespace Go.Proofs.YtejhnlljddjicaaDoorW.PrintLast
open Go.Proofs.YtejhnlljddjicaaDoorW.PrintWords (Aside0)
section
variable {md : Region.Mode} {ops : Array Oper} {T : Bool × List (List Nat × List Nat)} {l l' li lj lk : Array Bool} {ds : List Nat} {i j k : Nat}
end
end Go.Proofs.YtejhnlljddjicaaDoorW.PrintLast
