/- Plain facts about the kinds of word: widths, signs, conversions, what fits. No condition. -/
import Derived.Test.YtmkhfedemoccoaaPWdx8
import Derived.Test.YtmkhfedemoccoaaLb
namespace Go.Proofs.Ytmkhfedemoccoaa.La
open Go.RowKit Go.Proofs.Ytmkhfedemoccoaa.PWd Go.Proofs.YtmkhfedemoccoaaW.PrintWords Go.Proofs.YtmkhfedemoccoaaW.PrintLast Go.Proofs.YtmkhfedemoccoaaW.PrintMore
set_option linter.unusedVariables false

/-- A kind is one of the twelve, or none of them. -/
theorem kind_cases (o : Int) : (o = 2 ∨ o = 3 ∨ o = 4 ∨ o = 5 ∨ o = 6 ∨ o = 7 ∨ o = 8 ∨ o = 9 ∨ o = 10 ∨ o = 11 ∨ o = 12 ∨ o = 13) ∨
    (o ≠ 2 ∧ o ≠ 3 ∧ o ≠ 4 ∧ o ≠ 5 ∧ o ≠ 6 ∧ o ≠ 7 ∧ o ≠ 8 ∧ o ≠ 9 ∧ o ≠ 10 ∧ o ≠ 11 ∧ o ≠ 12 ∧ o ≠ 13) := by omega
def wv (o : Int) : Nat := if 2 ≤ o ∧ o ≤ 5 then 1 else if o = 6 ∨ o = 7 then 2 else if 8 ≤ o ∧ o ≤ 13 then 4 else 0
def sv (o : Int) : Bool := o == 3 || o == 4 || o == 6 || o == 8 || o == 10 || o == 12
theorem width_v (o : Int) : word_Width.f 20 o = some (wv o : Int) ∧ mortiseref01_Width.f 20 o = some (wv o : Int) := by
  rcases kind_cases o with (rfl | rfl | rfl | rfl | rfl | rfl | rfl | rfl | rfl | rfl | rfl | rfl) | ⟨h2, h3, h4, h5, h6, h7, h8, h9, h10, h11, h12, h13⟩
  all_goals first
    | (constructor <;> decide +kernel)
    | (have e : wv o = 0 := by unfold wv; rw [if_neg (by omega), if_neg (by omega), if_neg (by omega)]
       rw [e]
       simp [word_Width.f, word_Width.j0, word_Width.j1, mortiseref01_Width.f, mortiseref01_Width.j0, mortiseref01_Width.j1, h2, h3, h4, h5, h6, h7, h8, h9, h10, h11, h12, h13])
theorem signed_v (o : Int) : word_Signed.f o = some (sv o) ∧ mortiseref01_Signed.f o = some (sv o) := by
  rcases kind_cases o with (rfl | rfl | rfl | rfl | rfl | rfl | rfl | rfl | rfl | rfl | rfl | rfl) | ⟨h2, h3, h4, h5, h6, h7, h8, h9, h10, h11, h12, h13⟩
  all_goals first
    | (constructor <;> decide +kernel)
    | simp [word_Signed.f, mortiseref01_Signed.f, sv, h3, h4, h6, h8, h10, h12]
/-- What a conversion answers. -/
def cv (o v : Int) : Int := if o = 2 then (if v = 0 then 0 else 1) else if wv o = 1 ∨ wv o = 2 then lowv v (wv o) (sv o) else v
theorem convert_v (o v : Int) (h0 : 0 ≤ v) (h1 : v < 4294967296) : word_Convert.f 20 o v = some (cv o v) ∧ mortiseref01_Convert.f 20 o v = some (cv o v) := by
  have hw := width_v o
  have hs := signed_v o
  unfold word_Convert.f mortiseref01_Convert.f
  rw [hw.1, hw.2, hs.2]
  simp only [Option.bind_some]
  by_cases h : o = 2
  · subst h
    by_cases hv : v = 0
    · subst hv; decide +kernel
    · have hb : (v != 0) = true := bne_iff_ne.mpr hv
      simp [cv, hv, word_flag.f, hb]
  · rw [if_neg h, if_neg h]
    unfold cv
    rw [if_neg h]
    by_cases k1 : wv o = 1
    · rw [k1]
      have l1 := low1 v (sv o) h0 h1
      have x1 := ext1 19 v (sv o) h0 h1
      have e8' : IntKind.u64.wrap (wrap64 8) = 8 := by decide +kernel
      simp [word_Convert.j0, hs.1, e8', l1, x1]
    · by_cases k2 : wv o = 2
      · rw [k2]
        have l2 := low2 v (sv o) h0 h1
        have x2 := ext2 19 v (sv o) h0 h1
        have e16' : IntKind.u64.wrap (wrap64 16) = 16 := by decide +kernel
        simp [word_Convert.j0, hs.1, e16', l2, x2]
      · have hk : wv o = 4 ∨ wv o = 0 := by
          unfold wv at *
          by_cases q1 : 2 ≤ o ∧ o ≤ 5
          · rw [if_pos q1] at k1; omega
          · rw [if_neg q1] at *
            by_cases q2 : o = 6 ∨ o = 7
            · rw [if_pos q2] at k2; omega
            · rw [if_neg q2] at *
              by_cases q3 : 8 ≤ o ∧ o ≤ 13
              · rw [if_pos q3]; exact Or.inl rfl
              · rw [if_neg q3]; exact Or.inr rfl
        rcases hk with hk | hk <;> rw [hk]
        · have x4 := ext4 19 v (sv o)
          simp [word_Convert.j0, x4, lowv]
        · have x0 := ext0 19 v (sv o)
          simp [word_Convert.j0, x0]
/-- What fits. -/
def fv (o n : Int) : Bool := if wv o = 0 then false else if o = 2 then (n == 0 || n == 1) else
  if sv o = true then decide (-(2 ^ (8 * wv o - 1) : Int) ≤ n) && decide (n ≤ 2 ^ (8 * wv o - 1) - 1) else decide (0 ≤ n) && decide (n ≤ 2 ^ (8 * wv o) - 1)
theorem fits_v (o n : Int) (h0 : -9223372036854775808 ≤ n) (h1 : n < 9223372036854775808) : word_Fits.f 20 o n = some (fv o n) ∧ mortiseref01_Fits.f 20 o n = some (fv o n) := by
  have hw := width_v o
  have hs := signed_v o
  have hc := convert_v o (n % 4294967296) (by omega) (by omega)
  unfold word_Fits.f mortiseref01_Fits.f
  rw [hw.1, hw.2, hs.2]
  simp only [Option.bind_some, word_Of.f, hc.1, hs.1]
  rcases kind_cases o with (rfl | rfl | rfl | rfl | rfl | rfl | rfl | rfl | rfl | rfl | rfl | rfl) | ⟨h2, h3, h4, h5, h6, h7, h8, h9, h10, h11, h12, h13⟩
  · simp [wv, fv]
    by_cases e : n = 0
    · subst e; simp
    · simp [e]
  all_goals first
    | (have e : wv o = 0 := by unfold wv; rw [if_neg (by omega), if_neg (by omega), if_neg (by omega)]
       simp [fv, e]
       done)
    | (simp [wv, fv, sv, cv, lowv, wrap64, wrap_u64, shl, IntKind.wrap_i64, IntKind.bits, word_Int.f]
       refine ⟨?_, ?_⟩
       · rw [Bool.eq_iff_iff]
         simp
         first
         | omega
         | (unfold wrap32; omega)
         | (unfold wrap32; split <;> omega)
       · split <;> simp [*])
end Go.Proofs.Ytmkhfedemoccoaa.La
