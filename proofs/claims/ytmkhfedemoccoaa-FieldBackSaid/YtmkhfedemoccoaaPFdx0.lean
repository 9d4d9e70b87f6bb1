/- What Go functions answer, proved by walking their code (written by a program of this session, a changed copy of the print). Conditions: none beyond the ones each theorem names. -/
import Derived.Test.YtmkhfedemoccoaaProg
import Derived.Below
import Derived.Deep.Draws
import Derived.Deep.AppendLies
import Derived.Maps.AppendAt
import Derived.OwnWalk
import Derived.Laws.BytesArg
import Derived.Laws.MakeOwn
import Derived.Laws.OwnMore
import Derived.Deep.OwnRows
import Derived.Tactics
import Derived.Lib.ConvBytes
import Derived.Laws.Slices
import Derived.WalkKit
import Derived.KernelRfl
import Derived.RowKit3
import Derived.Deep.LoopGhost
import Derived.Deep.QuietTactic
import Derived.BigQuiet
import Derived.WideLaws
import Derived.Deep.DeepCutAuto
import Derived.Deep.CutBlock
import Derived.Deep.RegionHeld3
import Derived.Laws.Rows
import Derived.Lib.AppendStr
import Derived.ArgAppend
import Derived.Laws.IdiomCopy
import Derived.OrdersHeld
import Derived.Laws.BitsLemmas
import Derived.RowKit
import Derived.Deep.WholeRow
import Derived.Test.YtmkhfedemoccoaaWWords
import Derived.Test.YtmkhfedemoccoaaWLast
import Derived.Test.YtmkhfedemoccoaaWTab
import Derived.Test.YtmkhfedemoccoaaWFour
import Derived.Test.YtmkhfedemoccoaaWQPut
import Derived.Test.YtmkhfedemoccoaaWApart
import Derived.Test.YtmkhfedemoccoaaWArr
import Derived.Test.YtmkhfedemoccoaaWZeros
import Derived.Test.YtmkhfedemoccoaaWFoot
import Derived.Test.YtmkhfedemoccoaaWKept
import Derived.Test.YtmkhfedemoccoaaWShare
import Derived.Test.YtmkhfedemoccoaaWN
import Derived.Test.YtmkhfedemoccoaaWFootNe
import Derived.Test.YtmkhfedemoccoaaWAt
import Derived.Test.YtmkhfedemoccoaaWEqStruct
import Derived.Test.YtmkhfedemoccoaaWRepsOne
import Derived.Test.YtmkhfedemoccoaaWInv
import Derived.Test.YtmkhfedemoccoaaWInvWords
import Derived.Test.YtmkhfedemoccoaaWGuard
import Derived.Test.YtmkhfedemoccoaaWNEv
import Derived.Test.YtmkhfedemoccoaaWMore
namespace Go.Proofs.Ytmkhfedemoccoaa.PFd
open Go.RowKit Go.Proofs.YtmkhfedemoccoaaW.PrintWords Go.Proofs.YtmkhfedemoccoaaW.PrintLast Go.Proofs.YtmkhfedemoccoaaW.PrintMore
attribute [local go_sem] max2_int min2_int max_two min_two max_three min_three max_four min_four   -- for this text's walks alone
set_option linter.unusedVariables false
set_option linter.unusedSimpArgs false



def errW : Option Int → Value
  | none => .nilIface
  | some c => .iface 0 (.int .i64 c)
theorem errW_none : errW none = .nilIface := rfl
theorem errW_some (c : Int) : errW (some c) = .iface 0 (.int .i64 c) := rfl

theorem info5 : (Try.prog.info? 5).map (fun i => (i.zero, i.size, i.bytes)) = some (some (.int .u8 0), 1, 1) := by kernel_rfl
-- the values' own types

end Go.Proofs.Ytmkhfedemoccoaa.PFd
