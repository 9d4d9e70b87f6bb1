/- The heads of the statements on bit-fields: one closed answer. No condition. -/
import Derived.Test.YtmkhfedemoccoaaPFdx5
namespace Go.Proofs.Ytmkhfedemoccoaa.Lf
open Go.RowKit Go.Proofs.Ytmkhfedemoccoaa.PFd Go.Proofs.YtmkhfedemoccoaaW.PrintWords
theorem fheads50 : mortiselaw08_heads.f 50 = some true := by decide +kernel
theorem fheads (k : Nat) (hk : 50 ≤ k) : mortiselaw08_heads.f k = some true := at_rounds (g := fun k => mortiselaw08_heads.f k) (fun k => mortiselaw08_heads.mono k) hk fheads50
end Go.Proofs.Ytmkhfedemoccoaa.Lf
