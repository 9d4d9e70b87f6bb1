/- The pure statement of WordKinds: widths, signs, conversions and what fits are the document's. No condition. -/
import Derived.Test.YtmkhfedemoccoaaPWdx8
import Derived.Test.YtmkhfedemoccoaaLc
namespace Go.Proofs.Ytmkhfedemoccoaa.Pure
open Go.RowKit Go.Proofs.Ytmkhfedemoccoaa.PWd Go.Proofs.YtmkhfedemoccoaaW.PrintWords Go.Proofs.YtmkhfedemoccoaaW.PrintLast Go.Proofs.YtmkhfedemoccoaaW.PrintMore Go.Proofs.Ytmkhfedemoccoaa.La

theorem refIntK (a : Int) (h0 : 0 ≤ a) (h1 : a < 4294967296) : mortiseref01_Int.f a = some (wrap32 a) := by
  unfold mortiseref01_Int.f
  by_cases h : a ≥ 2147483648
  · rw [if_pos h]; congr 1; unfold wrap64 wrap32; omega
  · rw [if_neg h]; congr 1; unfold wrap64 wrap32; omega
theorem refOfK (n : Int) : mortiseref01_Of.f n = some (n % 4294967296) := by
  unfold mortiseref01_Of.f
  have h := bits_mask .u64 64 (by decide) (fun n h0 h1 => by rw [wrap_u64]; omega) 32 (by decide) (n % 18446744073709551616) (by omega) (by omega)
  have e : ((2 : Int) ^ 32 - 1) = 4294967295 := by decide
  rw [e] at h
  rw [wrap_u64, h]
  congr 1
  omega
theorem WordKinds : mortiselaw01_WordKinds.Pure := by
  intro o v n ho hv hn
  refine ⟨30, ?_⟩
  obtain ⟨hv0, hv1⟩ := u32_of hv
  obtain ⟨hn0, hn1⟩ := i64_of hn
  have hw := width_v o
  have hs := signed_v o
  have hc := convert_v o v hv0 hv1
  have hf := fits_v o n hn0 hn1
  have w1 := at_rounds (g := fun k => word_Width.f k o) (fun k => word_Width.mono _ k) (show 20 ≤ 30 by omega) hw.1
  have w2 := at_rounds (g := fun k => mortiseref01_Width.f k o) (fun k => mortiseref01_Width.mono _ k) (show 20 ≤ 30 by omega) hw.2
  have c1 := at_rounds (g := fun k => word_Convert.f k o v) (fun k => word_Convert.mono _ _ k) (show 20 ≤ 30 by omega) hc.1
  have c2 := at_rounds (g := fun k => mortiseref01_Convert.f k o v) (fun k => mortiseref01_Convert.mono _ _ k) (show 20 ≤ 30 by omega) hc.2
  have f1 := at_rounds (g := fun k => word_Fits.f k o n) (fun k => word_Fits.mono _ _ k) (show 20 ≤ 30 by omega) hf.1
  have f2 := at_rounds (g := fun k => mortiseref01_Fits.f k o n) (fun k => mortiseref01_Fits.mono _ _ k) (show 20 ≤ 30 by omega) hf.2
  unfold mortiselaw01_WordKinds.f
  rw [w1, w2, c1, c2, f1, f2, hs.1, hs.2]
  simp only [Option.bind_some, if_true, beq_self_eq_true, refIntK v hv0 hv1, refOfK, word_Int.f, word_Of.f, wrap3264, heads_true]

end Go.Proofs.Ytmkhfedemoccoaa.Pure
