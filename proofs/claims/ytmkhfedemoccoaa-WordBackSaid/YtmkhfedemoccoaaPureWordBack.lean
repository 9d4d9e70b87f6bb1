/- The pure statement of WordBack: converting twice is converting once; what fits stays; a number's bytes give it back. No condition. -/
import Derived.Test.YtmkhfedemoccoaaPWdx8
import Derived.Test.YtmkhfedemoccoaaLc
namespace Go.Proofs.Ytmkhfedemoccoaa.Pure
open Go.RowKit Go.Proofs.Ytmkhfedemoccoaa.PWd Go.Proofs.YtmkhfedemoccoaaW.PrintWords Go.Proofs.YtmkhfedemoccoaaW.PrintLast Go.Proofs.YtmkhfedemoccoaaW.PrintMore Go.Proofs.Ytmkhfedemoccoaa.La
set_option linter.unusedVariables false

theorem lowv_range (v : Int) (n : Nat) (s : Bool) (h0 : 0 ≤ v) (h1 : v < 4294967296) : 0 ≤ lowv v n s ∧ lowv v n s < 4294967296 := by
  unfold lowv; repeat' split <;> omega
theorem cv_range (o v : Int) (h0 : 0 ≤ v) (h1 : v < 4294967296) : 0 ≤ cv o v ∧ cv o v < 4294967296 := by
  unfold cv
  have := lowv_range v (wv o) (sv o) h0 h1
  repeat' split <;> omega
theorem lowv_twice (v : Int) (n : Nat) (s : Bool) (h0 : 0 ≤ v) (h1 : v < 4294967296) : lowv (lowv v n s) n s = lowv v n s := by
  unfold lowv
  by_cases a : n = 4
  · simp [a]
  · by_cases b : n = 2
    · subst b
      simp only [show ¬ (2 : Nat) = 4 by decide, if_false, if_true]
      cases s <;> simp <;> repeat' split <;> omega
    · simp only [a, b, if_false]
      cases s <;> simp <;> repeat' split <;> omega
theorem cv_twice (o v : Int) (h0 : 0 ≤ v) (h1 : v < 4294967296) : cv o (cv o v) = cv o v := by
  unfold cv
  by_cases a : o = 2
  · subst a; simp
  · simp only [if_neg a]
    split
    · exact lowv_twice _ _ _ h0 h1
    · rfl
theorem or_join (i : Nat) (x y : Int) (hx0 : 0 ≤ x) (hx : x % 2 ^ i = 0) (hx1 : x < 4294967296) (hy0 : 0 ≤ y) (hy : y < 2 ^ i) (hy1 : y < 4294967296) : bits .or .u32 y x = y + x := by
  have h := bits_join .u32 32 (by decide) wraps_u32 i x y hx0 hx hx1 hy0 hy hy1
  rw [or_bv] at h ⊢
  rw [BitVec.or_comm, h]; omega
theorem shlk (a : Int) (m : Int) (hm : m ≤ 32) : shl .u32 a m = (a * 2 ^ m.toNat) % 4294967296 := shl32le a m hm
theorem val1_of (x : Int) (h0 : 0 ≤ x) (h1 : x < 256) : val1 x = x := by
  unfold val1
  rw [shlk _ 0 (by omega)]
  have e : (x % 4294967296 * 2 ^ (0 : Int).toNat) % 4294967296 = x := by
    have : (2 : Int) ^ (0 : Int).toNat = 1 := by decide
    rw [this]; omega
  rw [e, or_join 0 x 0 h0 (by omega) (by omega) (by omega) (by decide) (by omega)]; omega
theorem val2_of (x y : Int) (h0 : 0 ≤ x) (h1 : x < 256) (h2 : 0 ≤ y) (h3 : y < 256) : val2 x y = x + y * 256 := by
  unfold val2
  rw [val1_of x h0 h1, shlk _ 8 (by omega)]
  have e : (y % 4294967296 * 2 ^ (8 : Int).toNat) % 4294967296 = y * 256 := by
    have : (2 : Int) ^ (8 : Int).toNat = 256 := by decide
    rw [this]; omega
  rw [e, or_join 8 (y * 256) x (by omega) (by omega) (by omega) h0 (by omega) (by omega)]
theorem val4_of (x y z u : Int) (h0 : 0 ≤ x) (h1 : x < 256) (h2 : 0 ≤ y) (h3 : y < 256) (h4 : 0 ≤ z) (h5 : z < 256) (h6 : 0 ≤ u) (h7 : u < 256) : val4 x y z u = x + y * 256 + z * 65536 + u * 16777216 := by
  unfold val4
  rw [val2_of x y h0 h1 h2 h3, shlk _ 16 (by omega), shlk _ 24 (by omega)]
  have e : (z % 4294967296 * 2 ^ (16 : Int).toNat) % 4294967296 = z * 65536 := by
    have : (2 : Int) ^ (16 : Int).toNat = 65536 := by decide
    rw [this]; omega
  have e' : (u % 4294967296 * 2 ^ (24 : Int).toNat) % 4294967296 = u * 16777216 := by
    have : (2 : Int) ^ (24 : Int).toNat = 16777216 := by decide
    rw [this]; omega
  rw [e, e', or_join 16 (z * 65536) (x + y * 256) (by omega) (by omega) (by omega) (by omega) (by omega) (by omega)]
  rw [or_join 24 (u * 16777216) _ (by omega) (by omega) (by omega) (by omega) (by omega) (by omega)]

/-- A number's bytes, taken for a number. -/
theorem there_back (c : Int) (w : Nat) (s : Bool) (h0 : 0 ≤ c) (h1 : c < 4294967296) (hw : w = 1 ∨ w = 2 ∨ w = 4) :
    ∃ l, word_Bytes.f 20 c w = some l ∧ word_Value.f 20 l s = some (lowv c w s, 0) := by
  rcases hw with rfl | rfl | rfl
  · refine ⟨_, bytes1 c, ?_⟩
    rw [value1, val1_of _ (by omega) (by omega)]
    congr 2
    unfold lowv
    simp
  · refine ⟨_, bytes2 c, ?_⟩
    rw [value2, val2_of _ _ (by omega) (by omega) (by omega) (by omega)]
    congr 2
    have e : c % 256 + c / 256 % 256 * 256 = c % 65536 := by omega
    rw [e]
    unfold lowv
    simp
  · refine ⟨_, bytes4 c, ?_⟩
    rw [value4, val4_of _ _ _ _ (by omega) (by omega) (by omega) (by omega) (by omega) (by omega) (by omega) (by omega)]
    congr 2
    have e : c % 256 + c / 256 % 256 * 256 + c / 65536 % 256 * 65536 + c / 16777216 % 256 * 16777216 = c := by omega
    rw [e]
theorem kind_back (o v : Int) (h0 : 0 ≤ v) (h1 : v < 4294967296) (hk : wv o ≠ 0) :
    (wv o = 1 ∨ wv o = 2 ∨ wv o = 4) ∧ lowv (cv o v) (wv o) (sv o) = cv o v ∧
    fv o (if sv o = true then wrap32 (cv o v) else cv o v) = true ∧ (if sv o = true then wrap32 (cv o v) else cv o v) % 4294967296 = cv o v := by
  rcases kind_cases o with (rfl | rfl | rfl | rfl | rfl | rfl | rfl | rfl | rfl | rfl | rfl | rfl) | ⟨h2, h3, h4, h5, h6, h7, h8, h9, h10, h11, h12, h13⟩
  · by_cases e : v = 0
    · subst e; decide +kernel
    · simp [wv, sv, cv, fv, e, lowv]
  all_goals first
    | (exact absurd (by unfold wv; rw [if_neg (by omega), if_neg (by omega), if_neg (by omega)]) hk)
    | (refine ⟨by simp [wv], ?_, ?_, ?_⟩
       · simp [wv, sv, cv, lowv]
         try (repeat' split) <;> omega
       · simp [wv, sv, cv, lowv, fv]
         try unfold wrap32
         try (repeat' split) <;> omega
       · simp [wv, sv, cv, lowv]
         try unfold wrap32
         try (repeat' split) <;> omega)
theorem WordBack : mortiselaw01_WordBack.Pure := by
  intro o v ho hv
  refine ⟨40, ?_⟩
  obtain ⟨hv0, hv1⟩ := u32_of hv
  obtain ⟨hc0, hc1⟩ := cv_range o v hv0 hv1
  have w1 := at_rounds (g := fun k => word_Width.f k o) (fun k => word_Width.mono _ k) (show 20 ≤ 40 by omega) (width_v o).1
  have c1 := at_rounds (g := fun k => word_Convert.f k o v) (fun k => word_Convert.mono _ _ k) (show 20 ≤ 40 by omega) (convert_v o v hv0 hv1).1
  have c2 := at_rounds (g := fun k => word_Convert.f k o (cv o v)) (fun k => word_Convert.mono _ _ k) (show 20 ≤ 40 by omega) (convert_v o (cv o v) hc0 hc1).1
  have hh := at_rounds (g := fun k => mortiselaw01_heads.f k) (fun k => mortiselaw01_heads.mono k) (show 30 ≤ 40 by omega) heads_true
  have hh' := at_rounds (g := fun k => mortiselaw01_heads.f k) (fun k => mortiselaw01_heads.mono k) (show 30 ≤ 39 by omega) heads_true
  rw [cv_twice o v hv0 hv1] at c2
  unfold mortiselaw01_WordBack.f
  rw [c1]
  simp only [Option.bind_some]
  rw [c2]
  simp only [Option.bind_some, if_true, w1]
  by_cases hz : wv o = 0
  · have : ((wv o : Nat) : Int) = 0 := by omega
    rw [if_pos this, hh]; rfl
  · have : ¬ ((wv o : Nat) : Int) = 0 := by omega
    rw [if_neg this]
    obtain ⟨k1, k2, k3, k4⟩ := kind_back o v hv0 hv1 hz
    obtain ⟨l, b1, b2⟩ := there_back (cv o v) (wv o) (sv o) hc0 hc1 k1
    rw [k2] at b2
    have b1' := at_rounds (g := fun k => word_Bytes.f k (cv o v) (wv o)) (fun k => word_Bytes.mono _ _ k) (show 20 ≤ 39 by omega) b1
    have b2' := at_rounds (g := fun k => word_Value.f k l (sv o)) (fun k => word_Value.mono _ _ k) (show 20 ≤ 39 by omega) b2
    have hs := (signed_v o).1
    have hwc : wrap64 (cv o v) = cv o v := by unfold wrap64; omega
    simp only [word_Int.f, Option.bind_some, wrap3264, hs]
    have tail : ∀ n, n = (if sv o = true then wrap32 (cv o v) else cv o v) → mortiselaw01_WordBack.j0 40 o (cv o v) (wv o) n = some true := by
      intro n hn
      rw [← hn] at k3 k4
      have hr : -9223372036854775808 ≤ n ∧ n < 9223372036854775808 := by
        rw [hn]; unfold wrap32; split <;> omega
      have f1 := at_rounds (g := fun k => word_Fits.f k o n) (fun k => word_Fits.mono _ _ k) (show 20 ≤ 39 by omega) (fits_v o n hr.1 hr.2).1
      rw [mortiselaw01_WordBack.j0, b1']
      simp only [Option.bind_some, hs, b2', f1, k3, if_true, word_Of.f, k4, hh']
    by_cases s : sv o = true
    · rw [if_pos s]; exact tail _ (by rw [if_pos s])
    · rw [if_neg s, hwc]; exact tail _ (by rw [if_neg s])

end Go.Proofs.Ytmkhfedemoccoaa.Pure
