/- The pure statement of WordMasks: and, or, exclusive or of 32-bit numbers go together. No condition. -/
import Derived.Test.YtmkhfedemoccoaaPWdx4
import Derived.Test.YtmkhfedemoccoaaLa
namespace Go.Proofs.Ytmkhfedemoccoaa.Pure
open Go.RowKit Go.Proofs.Ytmkhfedemoccoaa.PWd Go.Proofs.YtmkhfedemoccoaaW.PrintWords Go.Proofs.YtmkhfedemoccoaaW.PrintLast Go.Proofs.YtmkhfedemoccoaaW.PrintMore Go.Proofs.Ytmkhfedemoccoaa.La

theorem WordMasks : mortiselaw01_WordMasks.Pure := by
  intro a b ha hb
  refine ⟨30, ?_⟩
  obtain ⟨ha0, ha1⟩ := u32_of ha
  obtain ⟨hb0, hb1⟩ := u32_of hb
  unfold mortiselaw01_WordMasks.f
  rw [bin_and, bin_or, bin_xor]
  simp only [Option.bind_some]
  rw [bin_add, bin_xor, bin_and]
  simp only [Option.bind_some, and_bv, or_bv, xor_bv, of_back, back_add, bv_or_sum, bv_xor_xor, bv_and_xor, back_of a ha0 ha1, heads_true, if_true]
  rfl

end Go.Proofs.Ytmkhfedemoccoaa.Pure
