-- Cut by a program of this session out of words that the print lays, and named anew: not as it was printed.
import Derived.Test.YtejhnlljddjicaaJWInv
import Derived.Test.YtejhnlljddjicaaJWFootNe
namespace Go.Proofs.YtejhnlljddjicaaW.PrintWords
open Go.RowKit
/-- A row that isn't empty: its address. -/
theorem Kd.R_slice1 {α : Type} {d : Kd α} {e base : Nat} {ok : Nat → Prop} {w : World} {v : Value} {xs : List α} (h : d.R e w base ok v xs) (hn : 0 < xs.length) : ∃ (ad : Addr) (c : Nat), v = .slice (some ad) xs.length c := by
  obtain ⟨A, c, rfl⟩ := Kd.R_slice h
  have h2 := (Kd.R_reads' h).2.2
  obtain ⟨ad, he, _⟩ := h2.2.2 hn
  subst he
  exact ⟨ad, c, rfl⟩
end Go.Proofs.YtejhnlljddjicaaW.PrintWords
namespace Go.Proofs.YtejhnlljddjicaaW.PrintLast
section
variable {ops : Array Oper} {a : Act} {o og : Oper} {g : Nat} {t : Tmp} {u : Bool}
end
end Go.Proofs.YtejhnlljddjicaaW.PrintLast
