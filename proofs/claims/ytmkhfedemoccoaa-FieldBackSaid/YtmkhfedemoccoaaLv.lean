/- Plain facts on 32-bit numbers as vectors of bits: shifts, masks, and, or. No condition. -/
import Derived.RowKit
import Derived.Laws.BitsLemmas
import Derived.Test.YtmkhfedemoccoaaWMore
namespace Go.Proofs.Ytmkhfedemoccoaa.Lv
open Go.RowKit Go.Proofs.YtmkhfedemoccoaaW.PrintWords

theorem u32_of {a : Int} (h : (Lit.int .u32 a).wf = true) : 0 ≤ a ∧ a < 4294967296 := by
  simp [Lit.wf, IntKind.min, IntKind.max, IntKind.bits, IntKind.signed] at h
  omega
theorem i64_of {a : Int} (h : (Lit.int .i64 a).wf = true) : -9223372036854775808 ≤ a ∧ a < 9223372036854775808 := by
  simp [Lit.wf, IntKind.min, IntKind.max, IntKind.bits, IntKind.signed] at h
  omega
theorem wrap_u64 (n : Int) : IntKind.u64.wrap n = n % 18446744073709551616 := by simp [IntKind.wrap, IntKind.bits, IntKind.signed]
def bvOf (a : Int) : BitVec 32 := BitVec.ofInt 32 a
def back (A : BitVec 32) : Int := A.toNat
theorem back_lt (A : BitVec 32) : 0 ≤ back A ∧ back A < 4294967296 := by
  unfold back; have := A.isLt; omega
theorem wrap_back (A : BitVec 32) : IntKind.u32.wrap (A.toNat : Int) = back A := by
  rw [IntKind.wrap_u32]; have := back_lt A; unfold back at *; omega
theorem and_bv (a b : Int) : bits .and .u32 a b = back (bvOf a &&& bvOf b) := wrap_back _
theorem or_bv (a b : Int) : bits .or .u32 a b = back (bvOf a ||| bvOf b) := wrap_back _
theorem xor_bv (a b : Int) : bits .xor .u32 a b = back (bvOf a ^^^ bvOf b) := wrap_back _
theorem andNot_bv (a b : Int) : bits .andNot .u32 a b = back (bvOf a &&& ~~~(bvOf b)) := wrap_back _
theorem of_back (A : BitVec 32) : bvOf (back A) = A := by
  unfold bvOf back; rw [BitVec.ofInt_natCast]; simp
theorem back_of (a : Int) (h0 : 0 ≤ a) (h1 : a < 4294967296) : back (bvOf a) = a := by
  obtain ⟨n, rfl⟩ := Int.eq_ofNat_of_zero_le h0
  unfold bvOf back; rw [BitVec.ofInt_natCast]; simp; omega
theorem back_inj {A B : BitVec 32} (h : back A = back B) : A = B := by rw [← of_back A, h, of_back]
theorem is_back (a : Int) (h0 : 0 ≤ a) (h1 : a < 4294967296) : ∃ A, a = back A := ⟨bvOf a, (back_of a h0 h1).symm⟩
theorem back_mod (A : BitVec 32) : back A % 4294967296 = back A := by have := back_lt A; omega
theorem shl_bv (A : BitVec 32) (m : Nat) (hm : m ≤ 32) : shl .u32 (back A) (m : Int) = back (A <<< m) := by
  unfold shl back
  rw [Nat.min_eq_left (by simp [IntKind.bits]; omega), IntKind.wrap_u32, Int.toNat_natCast, BitVec.toNat_shiftLeft, Nat.shiftLeft_eq]
  simp
theorem shr_bv (A : BitVec 32) (m : Nat) (hm : m ≤ 32) : shr .u32 (back A) (m : Int) = back (A >>> m) := by
  unfold shr back
  rw [Nat.min_eq_left (by simp [IntKind.bits]; omega), Int.toNat_natCast, BitVec.toNat_ushiftRight, Nat.shiftRight_eq_div_pow]
  simp
theorem wrap32_bv (A : BitVec 32) : wrap32 (back A) = A.toInt := by
  unfold wrap32 back
  rw [BitVec.toInt_eq_toNat_cond]
  have := A.isLt
  split <;> omega
theorem back_toInt (A : BitVec 32) : A.toInt % 4294967296 = back A := by
  rw [← wrap32_bv]; unfold wrap32 back; have := A.isLt; omega
theorem sar_bv (A : BitVec 32) (m : Nat) (hm : m ≤ 32) : shr .i32 (wrap32 (back A)) (m : Int) % 4294967296 = back (A.sshiftRight m) := by
  unfold shr
  rw [Nat.min_eq_left (by simp [IntKind.bits]; omega), Int.toNat_natCast, wrap32_bv, ← back_toInt, BitVec.toInt_sshiftRight, Int.shiftRight_eq_div_pow]
  simp
/-- A bit alone, put in place i. -/
def bit (b : Bool) : BitVec 32 := if b then 1#32 else 0#32
theorem bit_get (b : Bool) (i : Nat) : (bit b).getLsbD i = (b && decide (i = 0)) := by
  cases b
  · simp [bit]
  · cases i <;> simp [bit]
theorem one_bv (A : BitVec 32) (i : Nat) : (A >>> i) &&& 1#32 = bit (A.getLsbD i) := by
  ext j hj
  cases h : A.getLsbD i
  · simp [bit]
    intro h1 h2
    subst h2
    simp_all
  · simp [bit]
    cases j
    · simpa using h
    · simp
/-- The bits that a function tells. -/
def bvF (f : Nat → Bool) : BitVec 32 := (BitVec.ofBoolListLE ((List.range 32).map f)).cast (by simp)
theorem bvF_get (f : Nat → Bool) (i : Nat) : (bvF f).getLsbD i = (decide (i < 32) && f i) := by
  unfold bvF
  rw [BitVec.getLsbD_cast, BitVec.getLsbD_ofBoolListLE]
  by_cases h : i < 32
  · simp [h, List.getD_eq_getElem?_getD]
  · simp [h, List.getD_eq_getElem?_getD]
theorem ext_get {A B : BitVec 32} (h : ∀ i, i < 32 → A.getLsbD i = B.getLsbD i) : A = B := BitVec.eq_of_getLsbD_eq (fun i hi => h i hi)
/-- So many lowest bits of f, the others 0. -/
def upto (f : Nat → Bool) (n : Nat) : BitVec 32 := bvF fun i => decide (i < n) && f i
theorem upto_zero (f : Nat → Bool) : upto f 0 = 0#32 := ext_get fun i hi => by simp only [upto, bvF_get]; simp
theorem upto_succ (f : Nat → Bool) (n : Nat) (hn : n < 32) : upto f n ||| (bit (f n) <<< n) = upto f (n + 1) := ext_get fun i hi => by
  simp only [upto, bvF_get, BitVec.getLsbD_or, BitVec.getLsbD_shiftLeft, bit_get, hi]
  by_cases h1 : i < n
  · simp [h1, show i < n + 1 by omega]
  · by_cases h2 : i = n
    · subst h2; simp
    · simp [h1, show ¬ i < n + 1 by omega, show ¬ i - n = 0 by omega]
theorem upto_all (f : Nat → Bool) : upto f 32 = bvF f := ext_get fun i hi => by simp only [upto, bvF_get, hi]; simp
/-- The mask of a field. -/
def mask (b n : Nat) : BitVec 32 := bvF fun i => decide (b ≤ i) && decide (i < b + n)
theorem mask_num (b n : Nat) (h : b + n ≤ 32) : (((2 : Int) ^ n - 1) * 2 ^ b) = back (mask b n) := by
  have hp : 0 < 2 ^ n := Nat.two_pow_pos n
  have e : (((2 : Int) ^ n - 1) * 2 ^ b) = (((2 ^ n - 1) * 2 ^ b : Nat) : Int) := by
    rw [Int.natCast_mul, Int.natCast_sub hp]; simp
  have hlt : (2 ^ n - 1) * 2 ^ b < 2 ^ 32 := by
    have h1 : (2 ^ n - 1) * 2 ^ b < 2 ^ n * 2 ^ b := Nat.mul_lt_mul_of_pos_right (by omega) (Nat.two_pow_pos b)
    rw [← Nat.pow_add] at h1
    exact Nat.lt_of_lt_of_le h1 (Nat.pow_le_pow_right (by decide) (by omega))
  rw [e]
  unfold back
  congr 1
  have : mask b n = BitVec.ofNat 32 ((2 ^ n - 1) * 2 ^ b) := ext_get fun i hi => by
    simp only [mask, bvF_get, BitVec.getLsbD_ofNat, hi, Nat.testBit_mul_two_pow, Nat.testBit_two_pow_sub_one]
    by_cases h1 : b ≤ i
    · simp [h1]; omega
    · simp [h1]
  rw [this]
  simp; omega
end Go.Proofs.Ytmkhfedemoccoaa.Lv
