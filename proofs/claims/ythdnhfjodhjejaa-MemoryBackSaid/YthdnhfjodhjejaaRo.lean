/- Both memories in one world. No condition beyond those each theorem names. -/
import Derived.Test.YthdnhfjodhjejaaRn
import Derived.Test.YthdnhfjodhjejaaMw
namespace Go.Proofs.Ythdnhfjodhjejaa.Ma
open Go.RowKit Go.Proofs.Ythdnhfjodhjejaa.PMe Go.Proofs.YthdnhfjodhjejaaW.PrintWords Go.Proofs.YthdnhfjodhjejaaW.PrintLast Go.Proofs.YthdnhfjodhjejaaW.PrintMore
set_option linter.unusedVariables false
set_option linter.unusedSimpArgs false
variable {w W W1 : World} {m mm : Nat} {last last' : Int} {L L' : List Rec} {r : Nat} {sv sv' : Value} {Bs Bs' : List Blk}
/-- Both memories, in blocks newer than a world, apart from each other. -/
structure Two (w W : World) (m mm : Nat) (last : Int) (L : List Rec) (r : Nat) (sv : Value) (Bs : List Blk) : Prop where
  own : Own w W m mm last L
  rm : RM W r sv Bs
  rnew : ∀ i ∈ rfoot r sv Bs, w.heap.size ≤ i
  apart : ∀ i ∈ foot m mm L, i ∉ rfoot r sv Bs
theorem Two.grown (h : Two w W m mm last L r sv Bs) (k : Below W.heap.size W W1) : Two w W1 m mm last L r sv Bs := ⟨h.own.grown k, h.rm.below k, h.rnew, h.apart⟩
theorem Two.did (h : Two w W m mm last L r sv Bs) (d : Did W W1 m mm L last' L') : Two w W1 m mm last' L' r sv Bs :=
  ⟨h.own.did d, h.rm.ext d.ext (fun i hi hf => h.apart i hf hi), h.rnew, fun i hi hr => (d.new i hi).elim (fun h' => h.apart i h' hr) (fun h' => absurd (h.rm.foot_lt i hr) (by omega))⟩
theorem Two.rdid (h : Two w W m mm last L r sv Bs) (d : RDid W W1 r sv Bs sv' Bs') : Two w W1 m mm last L r sv' Bs' := by
  refine ⟨⟨h.own.pm.ext d.ext (fun i hi hf => h.apart i hi hf), h.own.below.trans (d.ext.below_of h.own.below.size h.rnew), h.own.new⟩, d.rm, fun i hi => (d.new i hi).elim (h.rnew i) (fun h' => Nat.le_trans h.own.below.size h'), fun i hi hr => ?_⟩
  exact (d.new i hr).elim (fun h' => h.apart i hi h') (fun h' => absurd (h.own.pm.foot_lt i hi) (by omega))
theorem Two.below (h : Two w W m mm last L r sv Bs) : Below w.heap.size w W := h.own.below
/-- An action: kind, pointers, numbers, sign. -/
structure Act1 where
  k : Int
  p : V3
  q : V3
  n : Int
  wd : Int
  sg : Bool
def Act1.enc (x : Act1) : Value := .agg #[.int .i64 x.k, .int .i64 x.p.k, .int .u32 x.p.v, .int .i64 x.p.b, .int .i64 x.q.k, .int .u32 x.q.v, .int .i64 x.q.b, .int .i64 x.n, .int .i64 x.wd, .bool x.sg]
/-- What comes in keeps to its kinds. -/
structure Act1.In (x : Act1) : Prop where
  p : 0 ≤ x.p.v ∧ x.p.v < 4294967296
  q : 0 ≤ x.q.v ∧ x.q.v < 4294967296
  n : -9223372036854775808 ≤ x.n ∧ x.n < 9223372036854775808
  wd : -9223372036854775808 ≤ x.wd ∧ x.wd < 9223372036854775808
end Go.Proofs.Ythdnhfjodhjejaa.Ma
