/- What Go functions answer, proved by walking their code (written by a program of this session, a changed copy of the print). Conditions: none beyond the ones each theorem names. -/
import Derived.Test.YtejhnlljddjicaaDoorVPEmx0
import Derived.Test.YtejhnlljddjicaaDoorVPEmx4
import Derived.Test.YtejhnlljddjicaaDoorVPEmx8
namespace Go.Proofs.YtejhnlljddjicaaDoor.PEm
open Go.RowKit Go.Proofs.YtejhnlljddjicaaDoorW.PrintWords Go.Proofs.YtejhnlljddjicaaDoorW.PrintLast Go.Proofs.YtejhnlljddjicaaDoorW.PrintMore
attribute [local go_sem] max2_int min2_int max_two min_two max_three min_three max_four min_four   -- for this text's walks alone
set_option linter.unusedVariables false
set_option linter.unusedSimpArgs false

/-! ### mortiseref01_Bin: function 71 -/
mutual
def mortiseref01_Bin.j0 : Nat → Int → Int → Int → Int → Int → Bool → Option (Int × Bool)
 | 0, _, _, _, _, _, _ => none
 | k + 1, x0, x1, x2, x8, x16, x32 => if x32 = true then (if x2 = 0 then (some (0, false)) else (if x0 = 4 then (mortiseref01_Bin.j1 k x0 x1 x2 (wrap64 (x1)) (wrap64 (x2)) true) else (mortiseref01_Bin.j1 k x0 x1 x2 (wrap64 (x1)) (wrap64 (x2)) (x0 == 6)))) else (if x16 = 8 then (some (Go.bits .and .u32 x1 x2, true)) else (if x16 = 9 then (some (Go.bits .or .u32 x1 x2, true)) else (if x16 = 10 then (some (Go.bits .xor .u32 x1 x2, true)) else (if x16 = 11 then (if 0 ≤ x8 then (some (shl .u32 x1 x8, true)) else (none)) else (if x16 = 13 then (if 0 ≤ x8 then (some (shr .u32 x1 x8, true)) else (none)) else (if x16 = 12 then ((mortiseref01_Int.f x1).bind fun t170 => (if 0 ≤ x8 then ((mortiseref01_Of.f (shr .i64 t170 x8)).bind fun t171 => (some (t171, true))) else (none))) else (if x16 = 14 then ((mortiseref01_flag.f (x1 == x2)).bind fun t172 => (some (t172, true))) else (if x16 = 15 then ((mortiseref01_flag.f (x1 != x2)).bind fun t173 => (some (t173, true))) else (if x16 = 16 then ((mortiseref01_Int.f x1).bind fun t174 => ((mortiseref01_Int.f x2).bind fun t175 => ((mortiseref01_flag.f (decide (t174 < t175))).bind fun t176 => (some (t176, true))))) else (if x16 = 17 then ((mortiseref01_flag.f (decide (x1 < x2))).bind fun t177 => (some (t177, true))) else (if x16 = 18 then ((mortiseref01_Int.f x1).bind fun t178 => ((mortiseref01_Int.f x2).bind fun t179 => ((mortiseref01_flag.f (decide (t178 ≤ t179))).bind fun t180 => (some (t180, true))))) else (if x16 = 19 then ((mortiseref01_flag.f (decide (x1 ≤ x2))).bind fun t181 => (some (t181, true))) else (some (0, false))))))))))))))
def mortiseref01_Bin.j1 : Nat → Int → Int → Int → Int → Int → Bool → Option (Int × Bool)
 | 0, _, _, _, _, _, _ => none
 | k + 1, x0, x1, x2, x9, x10, x48 => if x48 = true then ((mortiseref01_Int.f x1).bind fun t164 => ((mortiseref01_Int.f x2).bind fun t165 => (mortiseref01_Bin.j2 k x0 t164 t165))) else (mortiseref01_Bin.j2 k x0 x9 x10)
def mortiseref01_Bin.j2 : Nat → Int → Int → Int → Option (Int × Bool)
 | 0, _, _, _ => none
 | k + 1, x0, x9, x10 => (mortiseref01_quotient.f x9 x10).bind fun bt166 => (if x0 = 4 then (mortiseref01_Bin.j3 k bt166.1 bt166.2 true) else (mortiseref01_Bin.j3 k bt166.1 bt166.2 (x0 == 5)))
def mortiseref01_Bin.j3 : Nat → Int → Int → Bool → Option (Int × Bool)
 | 0, _, _, _ => none
 | k + 1, x11, x12, x64 => if x64 = true then ((mortiseref01_Of.f x11).bind fun t168 => (some (t168, true))) else ((mortiseref01_Of.f x12).bind fun t169 => (some (t169, true)))
end
def mortiseref01_Bin.f (k : Nat) (a0 : Int) (a1 : Int) (a2 : Int) : Option (Int × Bool) := if a0 = 1 then (some ((a1 + a2) % 4294967296, true)) else (if a0 = 2 then (some ((a1 - a2) % 4294967296, true)) else (if a0 = 3 then (some ((a1 * a2) % 4294967296, true)) else (if a0 = 4 then (mortiseref01_Bin.j0 k a0 a1 a2 (IntKind.u64.wrap (Int.tmod a2 32)) a0 (a0 == 4)) else (if a0 = 6 then (mortiseref01_Bin.j0 k a0 a1 a2 (IntKind.u64.wrap (Int.tmod a2 32)) a0 (a0 == 6)) else (if a0 = 5 then (mortiseref01_Bin.j0 k a0 a1 a2 (IntKind.u64.wrap (Int.tmod a2 32)) a0 (a0 == 5)) else (mortiseref01_Bin.j0 k a0 a1 a2 (IntKind.u64.wrap (Int.tmod a2 32)) a0 (a0 == 7)))))))
-- NOT PRINTED: function 53 (mortiseref21_M_bin)

-- NOT PRINTED: function 72 (mortiseref21_M_may)

end Go.Proofs.YtejhnlljddjicaaDoor.PEm
