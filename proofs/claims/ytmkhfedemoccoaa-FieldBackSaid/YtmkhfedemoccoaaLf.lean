/- Plain facts on bit-fields in a unit of 32 bits: the program's functions and the document's. No condition beyond those each theorem names. -/
import Derived.Test.YtmkhfedemoccoaaPFdx2
import Derived.Test.YtmkhfedemoccoaaLv
namespace Go.Proofs.Ytmkhfedemoccoaa.Lf
open Go.RowKit Go.Proofs.Ytmkhfedemoccoaa.PFd Go.Proofs.YtmkhfedemoccoaaW.PrintWords Go.Proofs.YtmkhfedemoccoaaW.PrintMore Go.Proofs.Ytmkhfedemoccoaa.Lv
set_option linter.unusedVariables false

theorem w64 (n : Nat) (h : n ≤ 1000) : wrap64 (n : Int) = n := by unfold wrap64; omega
theorem u64w (n : Nat) (h : n ≤ 1000) : IntKind.u64.wrap (n : Int) = n := by rw [wrap_u64]; omega
theorem mask_yes (b n : Nat) (h1 : 1 ≤ n) (h : b + n ≤ 32) : field_Mask.f b n = some (back (mask b n), 0) := by
  unfold field_Mask.f
  have e0 : wrap64 ((b : Int) + n) = (b + n : Nat) := by unfold wrap64; omega
  rw [if_neg (by omega), if_neg (by omega), if_neg (by omega), if_neg (by omega), e0, if_neg (by omega), if_pos (by omega), if_pos (by omega)]
  have hp : (0 : Int) < 2 ^ n := Int.pow_pos (by decide)
  have hp32 : (2 : Int) ^ n ≤ 4294967296 := by
    have h2 := Nat.pow_le_pow_right (n := 2) (by decide) (show n ≤ 32 by omega)
    have h3 : (2 : Nat) ^ 32 = 4294967296 := by decide
    rw [h3] at h2
    have h4 : (((2 ^ n : Nat) : Nat) : Int) ≤ 4294967296 := by omega
    rwa [Int.natCast_pow] at h4
  have e1 : shl .u64 1 (n : Int) = 2 ^ n := by
    unfold shl
    rw [Nat.min_eq_left (by simp [IntKind.bits]; omega), Int.toNat_natCast, wrap_u64]; omega
  have e2 : IntKind.u64.wrap ((2 : Int) ^ n - 1) = 2 ^ n - 1 := by rw [wrap_u64]; omega
  have hm := mask_num b n h
  have hl := back_lt (mask b n)
  have e3 : shl .u64 ((2 : Int) ^ n - 1) (b : Int) = back (mask b n) := by
    unfold shl
    rw [Nat.min_eq_left (by simp [IntKind.bits]; omega), Int.toNat_natCast, hm, wrap_u64]; omega
  rw [e1, e2, e3, back_mod]
theorem mask_no (b n : Int) (h : ¬ (0 ≤ b ∧ b ≤ 31 ∧ 1 ≤ n ∧ n ≤ 32 ∧ b + n ≤ 32)) : field_Mask.f b n = some (0, 80) := by
  unfold field_Mask.f
  by_cases h1 : b < 0
  · rw [if_pos h1]
  · rw [if_neg h1]
    by_cases h2 : b > 31
    · rw [if_pos h2]
    · rw [if_neg h2]
      by_cases h3 : n < 1
      · rw [if_pos h3]
      · rw [if_neg h3]
        by_cases h4 : n > 32
        · rw [if_pos h4]
        · rw [if_neg h4, if_pos (by unfold wrap64; omega)]
theorem fits_yes (b n : Nat) (h1 : 1 ≤ n) (h : b + n ≤ 32) : mortiseref08_fits.f b n = some true := by
  unfold mortiseref08_fits.f
  rw [if_pos (by omega), if_pos (by omega), if_pos (by omega), if_pos (by omega)]
  congr 1
  exact decide_eq_true (by unfold wrap64; omega)
theorem fits_no (b n : Int) (h : ¬ (0 ≤ b ∧ b ≤ 31 ∧ 1 ≤ n ∧ n ≤ 32 ∧ b + n ≤ 32)) : mortiseref08_fits.f b n = some false := by
  unfold mortiseref08_fits.f
  by_cases h1 : b ≥ 0
  · rw [if_pos h1]
    by_cases h2 : b ≤ 31
    · rw [if_pos h2]
      by_cases h3 : n ≥ 1
      · rw [if_pos h3]
        by_cases h4 : n ≤ 32
        · rw [if_pos h4]
          congr 1
          exact decide_eq_false (by unfold wrap64; omega)
        · rw [if_neg h4]
      · rw [if_neg h3]
    · rw [if_neg h2]
  · rw [if_neg h1]
theorem bvOf_one : bvOf 1 = 1#32 := by decide
theorem mask_step (b i : Nat) (hi : b + i < 32) : mask b i ||| ((1#32) <<< (b + i)) = mask b (i + 1) := ext_get fun j hj => by
  simp only [mask, bvF_get, BitVec.getLsbD_or, BitVec.getLsbD_shiftLeft, hj]
  by_cases h1 : j = b + i
  · subst h1; simp
  · have h2 : (1#32).getLsbD (j - (b + i)) = false ∨ j < b + i := by
      by_cases h3 : j < b + i
      · exact .inr h3
      · left
        obtain ⟨q, hq⟩ : ∃ q, j - (b + i) = q + 1 := ⟨j - (b + i) - 1, by omega⟩
        rw [hq]; simp
    rcases h2 with h2 | h2
    · by_cases h4 : b ≤ j
      · by_cases h5 : j < b + i
        · simp [h2, h4, h5, show j < b + (i + 1) by omega]
        · simp [h2, h4, h5, show ¬ j < b + (i + 1) by omega]
      · simp [h2, h4]
    · by_cases h4 : b ≤ j
      · simp [h2, h4, show j < b + (i + 1) by omega]
      · simp [h2, h4]
theorem rmask_loop (b n : Nat) (h1 : 1 ≤ n) (h : b + n ≤ 32) (d : Nat) : ∀ (i k : Nat), i + d = n → d < k → mortiseref08_Mask.l0 k b n (back (mask b i)) ((b + i : Nat) : Int) = some (back (mask b n), 0) := by
  have e0 : wrap64 ((b : Int) + n) = (b + n : Nat) := by unfold wrap64; omega
  induction d with
  | zero =>
    intro i k hd hk
    obtain ⟨k, rfl⟩ : ∃ m, k = m + 1 := ⟨k - 1, by omega⟩
    obtain rfl : i = n := by omega
    simp only [mortiseref08_Mask.l0]
    rw [e0, if_neg (by omega)]
  | succ d ih =>
    intro i k hd hk
    obtain ⟨k, rfl⟩ : ∃ m, k = m + 1 := ⟨k - 1, by omega⟩
    simp only [mortiseref08_Mask.l0]
    have e1 : wrap64 (((b + i : Nat) : Int) + 1) = ((b + (i + 1) : Nat) : Int) := by unfold wrap64; omega
    rw [e0, if_pos (by omega), u64w _ (by omega), if_pos (by omega), e1]
    have e2 : shl .u32 1 ((b + i : Nat) : Int) = back ((1#32) <<< (b + i)) := by
      have := shl_bv (1#32) (b + i) (by omega)
      rw [← this]; rfl
    rw [e2, or_bv, of_back, of_back, mask_step b i (by omega)]
    exact ih (i + 1) k (by omega) (by omega)
theorem mask_zero (b : Nat) : mask b 0 = 0#32 := ext_get fun j hj => by
  simp only [mask, bvF_get, hj]
  by_cases h : b ≤ j
  · simp [h]
  · simp [h]
theorem rmask_yes (k b n : Nat) (hk : 33 ≤ k) (h1 : 1 ≤ n) (h : b + n ≤ 32) : mortiseref08_Mask.f k b n = some (back (mask b n), 0) := by
  unfold mortiseref08_Mask.f
  rw [fits_yes b n h1 h]
  have := rmask_loop b n h1 h n 0 k (by omega) (by omega)
  rw [mask_zero, show back 0#32 = 0 from rfl] at this
  simpa using this
theorem rmask_no (k : Nat) (b n : Int) (h : ¬ (0 ≤ b ∧ b ≤ 31 ∧ 1 ≤ n ∧ n ≤ 32 ∧ b + n ≤ 32)) : mortiseref08_Mask.f k b n = some (0, 80) := by
  unfold mortiseref08_Mask.f
  rw [fits_no b n h]
  simp

/-! Taking out. -/
def ext (A : BitVec 32) (n : Nat) (s : Bool) (i : Nat) : Bool := if i < n then A.getLsbD i else s && A.getLsbD (n - 1)
theorem one_v (A : BitVec 32) (i : Nat) (hi : i ≤ 32) : mortiseref08_one.f (back A) i = some (back (bit (A.getLsbD i))) := by
  unfold mortiseref08_one.f
  rw [u64w _ (by omega), if_pos (by omega), shr_bv A i hi, and_bv, of_back, bvOf_one, one_bv]
theorem extend_loop (A : BitVec 32) (n : Nat) (s : Bool) (h1 : 1 ≤ n) (h2 : n ≤ 32) (d : Nat) : ∀ (i k : Nat), i + d = 32 → d < k → mortiseref08_extend.l0 k (back A) n s (back (upto (ext A n s) i)) i = some (back (bvF (ext A n s))) := by
  induction d with
  | zero =>
    intro i k hd hk
    obtain ⟨k, rfl⟩ : ∃ m, k = m + 1 := ⟨k - 1, by omega⟩
    obtain rfl : i = 32 := by omega
    simp only [mortiseref08_extend.l0]
    rw [if_neg (by decide), upto_all]
  | succ d ih =>
    intro i k hd hk
    obtain ⟨k, rfl⟩ : ∃ m, k = m + 1 := ⟨k - 1, by omega⟩
    have e1 : wrap64 ((i : Int) + 1) = ((i + 1 : Nat) : Int) := by unfold wrap64; omega
    have e2 : wrap64 ((n : Int) - 1) = ((n - 1 : Nat) : Int) := by unfold wrap64; omega
    have step : ∀ c, ext A n s i = c → mortiseref08_extend.l0 k (back A) n s (Go.bits .or .u32 (back (upto (ext A n s) i)) (shl .u32 (back (bit c)) i)) ((i + 1 : Nat) : Int) = some (back (bvF (ext A n s))) := by
      intro c hc
      rw [shl_bv _ i (by omega), or_bv, of_back, of_back, ← hc, upto_succ _ i (by omega)]
      exact ih (i + 1) k (by omega) (by omega)
    simp only [mortiseref08_extend.l0]
    rw [if_pos (by omega), u64w i (by omega), e1]
    by_cases c : i < n
    · rw [if_pos (by omega), one_v A i (by omega), Option.bind_some, if_pos (by omega)]
      exact step _ (by simp [ext, c])
    · rw [if_neg (by omega)]
      cases s
      · rw [if_neg (by decide), if_pos (by omega)]
        exact step false (by simp [ext, c])
      · rw [if_pos rfl, e2, one_v A (n - 1) (by omega), Option.bind_some, if_pos (by omega)]
        exact step _ (by simp [ext, c])
theorem extend_v (k : Nat) (A : BitVec 32) (n : Nat) (s : Bool) (hk : 33 ≤ k) (h1 : 1 ≤ n) (h2 : n ≤ 32) : mortiseref08_extend.f k (back A) n s = some (back (bvF (ext A n s))) := by
  have := extend_loop A n s h1 h2 32 0 k (by omega) (by omega)
  rw [upto_zero] at this
  exact this
theorem sized_v (A : BitVec 32) (n : Nat) (s : Bool) (h1 : 1 ≤ n) (h2 : n ≤ 32) : field_sized.f (back A) n s = some (back (bvF (ext A n s))) := by
  unfold field_sized.f
  have e1 : wrap64 (32 - (n : Int)) = ((32 - n : Nat) : Int) := by unfold wrap64; omega
  rw [e1, shl_bv A _ (by omega), sar_bv _ _ (by omega), shr_bv _ _ (by omega)]
  cases s
  · rw [if_neg (by decide), if_pos (by omega)]
    congr 2
    refine ext_get fun i hi => ?_
    simp only [BitVec.getLsbD_ushiftRight, BitVec.getLsbD_shiftLeft, bvF_get, hi, ext]
    by_cases c : i < n
    · simp [c, show 32 - n + i < 32 by omega, show ¬ 32 - n + i < 32 - n by omega, show 32 - n + i - (32 - n) = i by omega]
    · simp [c, show ¬ 32 - n + i < 32 by omega]
  · rw [if_pos rfl, if_pos (by omega)]
    congr 2
    refine ext_get fun i hi => ?_
    simp only [BitVec.getLsbD_sshiftRight, BitVec.getLsbD_shiftLeft, bvF_get, hi, ext, BitVec.msb_eq_getLsbD_last]
    by_cases c : i < n
    · simp [c, show 32 - n + i < 32 by omega, show ¬ 32 - n + i < 32 - n by omega, show 32 - n + i - (32 - n) = i by omega, show ¬ 32 ≤ i by omega]
    · simp [c, show ¬ 32 - n + i < 32 by omega, show ¬ 32 ≤ i by omega, show ¬ 31 < 32 - n by omega, show 31 - (32 - n) = n - 1 by omega]

/-! Putting in. -/
def putf (A X : BitVec 32) (b n : Nat) (i : Nat) : Bool := if b ≤ i ∧ i < b + n then X.getLsbD (i - b) else A.getLsbD i
theorem rput_loop (A X K : BitVec 32) (b n : Nat) (m : Int) (h1 : 1 ≤ n) (h : b + n ≤ 32) (d : Nat) : ∀ (i k : Nat), i + d = 32 → d < k → mortiseref08_Put.l0 k (back A) (back K) b n (back X) m (back (upto (putf A X b n) i)) i = some (back (bvF (putf A X b n)), Go.bits .or .u32 (back K) m, 0) := by
  have e0 : wrap64 ((b : Int) + n) = (b + n : Nat) := by unfold wrap64; omega
  induction d with
  | zero =>
    intro i k hd hk
    obtain ⟨k, rfl⟩ : ∃ m, k = m + 1 := ⟨k - 1, by omega⟩
    obtain rfl : i = 32 := by omega
    simp only [mortiseref08_Put.l0]
    rw [if_neg (by decide), upto_all]
  | succ d ih =>
    intro i k hd hk
    obtain ⟨k, rfl⟩ : ∃ m, k = m + 1 := ⟨k - 1, by omega⟩
    have e1 : wrap64 ((i : Int) + 1) = ((i + 1 : Nat) : Int) := by unfold wrap64; omega
    have step : ∀ c, putf A X b n i = c → mortiseref08_Put.l0 k (back A) (back K) b n (back X) m (Go.bits .or .u32 (back (upto (putf A X b n) i)) (shl .u32 (back (bit c)) i)) ((i + 1 : Nat) : Int) = some (back (bvF (putf A X b n)), Go.bits .or .u32 (back K) m, 0) := by
      intro c hc
      rw [shl_bv _ i (by omega), or_bv (back (upto _ _)), of_back, of_back, ← hc, upto_succ _ i (by omega)]
      exact ih (i + 1) k (by omega) (by omega)
    simp only [mortiseref08_Put.l0]
    rw [if_pos (by omega), one_v A i (by omega), Option.bind_some, e0, u64w i (by omega), e1]
    by_cases c1 : b ≤ i
    · rw [if_pos (by omega)]
      by_cases c2 : i < b + n
      · have e2 : wrap64 ((i : Int) - b) = ((i - b : Nat) : Int) := by unfold wrap64; omega
        rw [if_pos (by omega), e2, one_v X (i - b) (by omega), Option.bind_some, if_pos (by omega)]
        exact step _ (by simp [putf, c1, c2])
      · rw [if_neg (by omega), if_pos (by omega)]
        exact step _ (by simp [putf, c2])
    · rw [if_neg (by omega), if_pos (by omega)]
      exact step _ (by simp [putf, c1])
theorem rput_yes (k : Nat) (A X K : BitVec 32) (b n : Nat) (hk : 33 ≤ k) (h1 : 1 ≤ n) (h : b + n ≤ 32) : mortiseref08_Put.f k (back A) (back K) b n (back X) = some (back (bvF (putf A X b n)), back (K ||| mask b n), 0) := by
  unfold mortiseref08_Put.f
  rw [rmask_yes k b n hk h1 h]
  have := rput_loop A X K b n (back (mask b n)) h1 h 32 0 k (by omega) (by omega)
  rw [upto_zero] at this
  rw [Option.bind_some, if_pos rfl]
  rw [or_bv, of_back, of_back] at this
  exact this
theorem put_yes (A X K : BitVec 32) (b n : Nat) (h1 : 1 ≤ n) (h : b + n ≤ 32) : field_Put.f (back A) (back K) b n (back X) = some (back (bvF (putf A X b n)), back (K ||| mask b n), 0) := by
  unfold field_Put.f
  rw [mask_yes b n h1 h, Option.bind_some, if_pos rfl, if_pos (by omega), shl_bv X b (by omega)]
  rw [and_bv, andNot_bv, or_bv, or_bv]
  simp only [of_back]
  congr 3
  refine ext_get fun i hi => ?_
  simp only [BitVec.getLsbD_or, BitVec.getLsbD_and, BitVec.getLsbD_not, BitVec.getLsbD_shiftLeft, mask, bvF_get, hi, putf]
  by_cases c1 : b ≤ i
  · by_cases c2 : i < b + n
    · simp [c1, c2, show ¬ i < b by omega]
    · simp [c1, c2]
  · simp [c1]
theorem put_no (v kn x b n : Int) (h : ¬ (0 ≤ b ∧ b ≤ 31 ∧ 1 ≤ n ∧ n ≤ 32 ∧ b + n ≤ 32)) : field_Put.f v kn b n x = some (0, 0, 80) := by
  unfold field_Put.f
  rw [mask_no b n h]
  simp
theorem rput_no (k : Nat) (v kn x b n : Int) (h : ¬ (0 ≤ b ∧ b ≤ 31 ∧ 1 ≤ n ∧ n ≤ 32 ∧ b + n ≤ 32)) : mortiseref08_Put.f k v kn b n x = some (0, 0, 80) := by
  unfold mortiseref08_Put.f
  rw [rmask_no k b n h]
  simp
theorem get_yes (A K : BitVec 32) (b n : Nat) (s : Bool) (h1 : 1 ≤ n) (h : b + n ≤ 32) : field_Get.f (back A) (back K) b n s = if K &&& mask b n = mask b n then some (back (bvF (ext (A >>> b) n s)), true, 0) else some (0, false, 0) := by
  unfold field_Get.f
  rw [mask_yes b n h1 h, Option.bind_some, if_pos rfl, and_bv, of_back, of_back, shr_bv A b (by omega), sized_v _ n s h1 (by omega)]
  by_cases c : K &&& mask b n = mask b n
  · rw [if_pos c, if_pos (by rw [c]), if_pos (by omega)]; rfl
  · rw [if_neg c, if_neg (fun e => c (back_inj e))]
theorem rget_yes (k : Nat) (A K : BitVec 32) (b n : Nat) (s : Bool) (hk : 33 ≤ k) (h1 : 1 ≤ n) (h : b + n ≤ 32) : mortiseref08_Get.f k (back A) (back K) b n s = if K &&& mask b n = mask b n then some (back (bvF (ext (A >>> b) n s)), true, 0) else some (0, false, 0) := by
  unfold mortiseref08_Get.f
  rw [rmask_yes k b n hk h1 h, Option.bind_some, if_pos rfl, and_bv, of_back, of_back, u64w b (by omega), shr_bv A b (by omega), extend_v k _ n s hk h1 (by omega)]
  by_cases c : K &&& mask b n = mask b n
  · rw [if_pos c, if_pos (by rw [c]), if_pos (by omega)]; rfl
  · rw [if_neg c, if_neg (fun e => c (back_inj e))]
theorem get_no (v kn b n : Int) (s : Bool) (h : ¬ (0 ≤ b ∧ b ≤ 31 ∧ 1 ≤ n ∧ n ≤ 32 ∧ b + n ≤ 32)) : field_Get.f v kn b n s = some (0, false, 80) := by
  unfold field_Get.f
  rw [mask_no b n h]
  simp
theorem rget_no (k : Nat) (v kn b n : Int) (s : Bool) (h : ¬ (0 ≤ b ∧ b ≤ 31 ∧ 1 ≤ n ∧ n ≤ 32 ∧ b + n ≤ 32)) : mortiseref08_Get.f k v kn b n s = some (0, false, 80) := by
  unfold mortiseref08_Get.f
  rw [rmask_no k b n h]
  simp
end Go.Proofs.Ytmkhfedemoccoaa.Lf
