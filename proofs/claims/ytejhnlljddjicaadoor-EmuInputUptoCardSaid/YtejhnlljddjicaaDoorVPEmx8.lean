/- What Go functions answer, proved by walking their code (written by a program of this session, a changed copy of the print). Conditions: none beyond the ones each theorem names. -/
import Derived.Test.YtejhnlljddjicaaDoorVPEmx0
namespace Go.Proofs.YtejhnlljddjicaaDoor.PEm
open Go.RowKit Go.Proofs.YtejhnlljddjicaaDoorW.PrintWords Go.Proofs.YtejhnlljddjicaaDoorW.PrintLast Go.Proofs.YtejhnlljddjicaaDoorW.PrintMore
attribute [local go_sem] max2_int min2_int max_two min_two max_three min_three max_four min_four   -- for this text's walks alone
set_option linter.unusedVariables false
set_option linter.unusedSimpArgs false

/-! ### mortiseref21_width: function 52 -/
mutual
def mortiseref21_width.j0 : Nat → Int → Bool → Option (Int × Bool)
 | 0, _, _ => none
 | k + 1, x4, x7 => if x7 = true then (some (1, false)) else (if x4 = 82 then (some (2, true)) else (if x4 = 83 then (mortiseref21_width.j1 k x4 (x4 == 83)) else (mortiseref21_width.j1 k x4 (x4 == 89))))
def mortiseref21_width.j1 : Nat → Int → Bool → Option (Int × Bool)
 | 0, _, _ => none
 | k + 1, x4, x12 => if x12 = true then (some (2, false)) else (if x4 = 84 then (some (4, false)) else (if x4 = 90 then (some (4, false)) else (some (0, false))))
end
/-! ### mortiseref01_Int: function 76 -/
def mortiseref01_Int.f (a0 : Int) : Option (Int) := if a0 ≥ 2147483648 then (some (wrap64 ((wrap64 (a0)) - 4294967296))) else (some (wrap64 (a0)))
/-! ### mortiseref01_quotient: function 85 -/
def mortiseref01_quotient.f (a0 : Int) (a1 : Int) : Option (Int × Int) := if a1 = 0 then (none) else (some (wrap64 (Int.tdiv a0 a1), Int.tmod a0 a1))
/-! ### mortiseref01_flag: function 86 -/
def mortiseref01_flag.f (a0 : Bool) : Option (Int) := if a0 = true then (some 1) else (some 0)
end Go.Proofs.YtejhnlljddjicaaDoor.PEm
