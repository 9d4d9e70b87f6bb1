/- How a value of the memory (a struct by value) comes in. No condition beyond those each theorem names. -/
import Derived.Test.YthdnhfjodhjejaaA1
import Derived.WalkKit
import Derived.ProofKit
import Derived.OpenShut
import Derived.ShutString
import Derived.ChangeOld
import Derived.Below
import Derived.SizedLaws
import Derived.Lib.SmallJoins
namespace Go.Proofs.Ythdnhfjodhjejaa.Ma
open Go.ChangeShapes Go.WideShapes Go.ChangeAt Go.RowKit Go.Joins Go.Deep
theorem own : ownKnob Try.prog.godebug = none := by kernel_rfl
theorem laidOut : laidOutB Try.prog = true := by kernel_rfl
theorem u32_in {a : Int} (h : (Lit.int .u32 a).wf = true) : 0 ≤ a ∧ a < 4294967296 := by
  simp [Lit.wf, IntKind.min, IntKind.max, IntKind.bits, IntKind.signed] at h
  omega
theorem i64_in {a : Int} (h : (Lit.int .i64 a).wf = true) : -9223372036854775808 ≤ a ∧ a < 9223372036854775808 := by
  simp [Lit.wf, IntKind.min, IntKind.max, IntKind.bits, IntKind.signed] at h
  omega
set_option maxRecDepth 100000 in
theorem open_V3 {H : Type} {enc : TypeId × Value → H} {w : World} {base : Nat} {spare : Nat → Bool} {held : Bool} {r : Reach} {b0 : Nat} {v : Value} {d : DataW H} {p : List MemPlace}
    (hv : Value.okWide Try.prog w r b0 51 v) (h : DataW.Trod enc Try.prog w base spare held 51 v d p) : ∃ x : V3, v = x.enc ∧ (0 ≤ x.v ∧ x.v < 4294967296) ∧ (-9223372036854775808 ≤ x.k ∧ x.k < 9223372036854775808) ∧ (-9223372036854775808 ≤ x.b ∧ x.b < 9223372036854775808) := by
  obtain ⟨b0, b1, b2, e0, e1, e2, n, rfl, _, _, g0, g1, g2⟩ := open_agg3 Try.underlying51 (by kernel_rfl) (by kernel_rfl) hv h
  obtain ⟨c0, hc0, _, u0⟩ := DataW.trod_int Try.underlying49 g0
  obtain ⟨c1, hc1, _, u1⟩ := DataW.trod_int Try.underlying31 g1
  obtain ⟨c2, hc2, _, u2⟩ := DataW.trod_int Try.underlying3 g2
  obtain rfl : b0 = .int .i64 c0 := by simpa using hc0
  obtain rfl : b1 = .int .u32 c1 := by simpa using hc1
  obtain rfl : b2 = .int .i64 c2 := by simpa using hc2
  exact ⟨⟨c0, c1, c2⟩, rfl, u32_in u1, i64_in u0, i64_in u2⟩
end Go.Proofs.Ythdnhfjodhjejaa.Ma
