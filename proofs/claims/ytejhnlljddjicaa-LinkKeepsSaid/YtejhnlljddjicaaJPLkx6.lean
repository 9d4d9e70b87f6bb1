/- What Go functions answer, proved by walking their code (written by a program of this session, a changed copy of the print). Conditions: none beyond the ones each theorem names. -/
import Derived.Test.YtejhnlljddjicaaJPLkx0
import Derived.Test.YtejhnlljddjicaaJPLkx3
import Derived.Test.YtejhnlljddjicaaJPLkx5
namespace Go.Proofs.Ytejhnlljddjicaa.PLk
open Go.RowKit Go.Proofs.YtejhnlljddjicaaW.PrintWords Go.Proofs.YtejhnlljddjicaaW.PrintLast Go.Proofs.YtejhnlljddjicaaW.PrintMore
attribute [local go_sem] max2_int min2_int max_two min_two max_three min_three max_four min_four   -- for this text's walks alone
set_option linter.unusedVariables false
set_option linter.unusedSimpArgs false

-- NOT PRINTED: function 58 (mortiseref21_M_end)

-- NOT PRINTED: function 49 (mortiseref21_M_trap)

-- NOT PRINTED: function 50 (mortiseref21_M_byteAt)

-- NOT PRINTED: function 40 (mortiseref21_M_fetch)

end Go.Proofs.Ytejhnlljddjicaa.PLk
