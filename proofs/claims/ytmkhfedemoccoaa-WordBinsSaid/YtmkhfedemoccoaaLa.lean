import Derived.Test.YtmkhfedemoccoaaPWdx3
namespace Go.Proofs.Ytmkhfedemoccoaa.La
open Go.RowKit Go.Proofs.Ytmkhfedemoccoaa.PWd Go.Proofs.YtmkhfedemoccoaaW.PrintWords Go.Proofs.YtmkhfedemoccoaaW.PrintLast Go.Proofs.YtmkhfedemoccoaaW.PrintMore

/-! Plain facts on 32-bit numbers. -/
theorem u32_of {a : Int} (h : (Lit.int .u32 a).wf = true) : 0 ≤ a ∧ a < 4294967296 := by
  simp [Lit.wf, IntKind.min, IntKind.max, IntKind.bits, IntKind.signed] at h
  omega
theorem wrap3264 (a : Int) : wrap64 (wrap32 a) = wrap32 a := by unfold wrap64 wrap32; omega
theorem pow_pos (n : Nat) : (0 : Int) < 2 ^ n := Int.pow_pos (by decide)
theorem wraps_u32 (n : Int) (h₀ : 0 ≤ n) (h₁ : n < 2 ^ 32) : IntKind.u32.wrap n = n := by rw [IntKind.wrap_u32]; omega
theorem and31 (b : Int) (h0 : 0 ≤ b) (h1 : b < 4294967296) : bits .and .u32 b 31 = b % 32 := bits_mask .u32 32 (by decide) wraps_u32 5 (by decide) b h0 h1
theorem tmod32 (b : Int) (h0 : 0 ≤ b) : Int.tmod b 32 = b % 32 := Int.tmod_eq_emod_of_nonneg h0
theorem shl32 (a m : Int) (hm : m < 32) : shl .u32 a m = (a * 2 ^ m.toNat) % 4294967296 := by
  unfold shl; rw [Nat.min_eq_left (by simp [IntKind.bits]; omega), IntKind.wrap_u32]
theorem shr32 (a m : Int) (hm : m < 32) : shr .u32 a m = a / 2 ^ m.toNat := by
  unfold shr; rw [Nat.min_eq_left (by simp [IntKind.bits]; omega)]
theorem shri32 (a m : Int) (hm : m < 32) : shr .i32 a m = a / 2 ^ m.toNat := by
  unfold shr; rw [Nat.min_eq_left (by simp [IntKind.bits]; omega)]
theorem pow_lt32 (m : Int) (h0 : 0 ≤ m) (hm : m < 32) : (2 : Int) ^ m.toNat < 4294967296 := by
  have h : m.toNat < 32 := by omega
  generalize m.toNat = n at h
  have : (2 : Int) ^ n ≤ 2 ^ 31 := by
    have := Nat.pow_le_pow_right (n := 2) (by decide) (show n ≤ 31 by omega)
    exact_mod_cast this
  omega

theorem heads_true : mortiselaw01_heads.f 30 = some true := by decide +kernel

theorem i64_of {a : Int} (h : (Lit.int .i64 a).wf = true) : -9223372036854775808 ≤ a ∧ a < 9223372036854775808 := by
  simp [Lit.wf, IntKind.min, IntKind.max, IntKind.bits, IntKind.signed] at h
  omega

/-! The operations of 'word.Bin'. -/
theorem bin_add (k : Nat) (a b : Int) : word_Bin.f (k + 1) 1 a b = some ((a + b) % 4294967296, true) := by simp [word_Bin.f, word_Bin.j0]
theorem bin_sub (k : Nat) (a b : Int) : word_Bin.f (k + 1) 2 a b = some ((a - b) % 4294967296, true) := by simp [word_Bin.f, word_Bin.j0]
theorem bin_mul (k : Nat) (a b : Int) : word_Bin.f (k + 1) 3 a b = some ((a * b) % 4294967296, true) := by simp [word_Bin.f, word_Bin.j0]
theorem bin_and (k : Nat) (a b : Int) : word_Bin.f (k + 1) 8 a b = some (bits .and .u32 a b, true) := by simp [word_Bin.f, word_Bin.j0]
theorem bin_or (k : Nat) (a b : Int) : word_Bin.f (k + 1) 9 a b = some (bits .or .u32 a b, true) := by simp [word_Bin.f, word_Bin.j0]
theorem bin_xor (k : Nat) (a b : Int) : word_Bin.f (k + 1) 10 a b = some (bits .xor .u32 a b, true) := by simp [word_Bin.f, word_Bin.j0]
theorem bin_shl (k : Nat) (a b : Int) (h0 : 0 ≤ b) (h1 : b < 4294967296) : word_Bin.f (k + 1) 11 a b = some ((a * 2 ^ (b % 32).toNat) % 4294967296, true) := by
  simp [word_Bin.f, word_Bin.j0, and31 b h0 h1, shl32 a (b % 32) (by omega)]; omega
theorem bin_shrs (k : Nat) (a b : Int) (h0 : 0 ≤ b) (h1 : b < 4294967296) : word_Bin.f (k + 1) 12 a b = some ((wrap32 a / 2 ^ (b % 32).toNat) % 4294967296, true) := by
  simp [word_Bin.f, word_Bin.j0, and31 b h0 h1, shri32 _ (b % 32) (by omega)]; omega
theorem bin_shru (k : Nat) (a b : Int) (h0 : 0 ≤ b) (h1 : b < 4294967296) : word_Bin.f (k + 1) 13 a b = some (a / 2 ^ (b % 32).toNat, true) := by
  simp [word_Bin.f, word_Bin.j0, and31 b h0 h1, shr32 a (b % 32) (by omega)]; omega
theorem bin_divu (k : Nat) (a b : Int) (hb : b ≠ 0) : word_Bin.f (k + 1) 5 a b = some ((Int.tdiv a b) % 4294967296, true) := by simp [word_Bin.f, word_Bin.j0, word_divided.f, hb]
/-! Bits. -/
theorem bv_or_sum (A B : BitVec 32) : (A &&& B) + (A ^^^ B) = A ||| B := by
  rw [BitVec.add_eq_or_of_and_eq_zero _ _ (by ext i; simp; try (cases A[i] <;> cases B[i] <;> simp))]
  ext i; simp; try (cases A[i] <;> cases B[i] <;> simp)
theorem bv_xor_xor (A B : BitVec 32) : (A ^^^ B) ^^^ B = A := by
  ext i; simp
theorem bv_and_xor (A B : BitVec 32) : (A &&& B) &&& (A ^^^ B) = 0 := by
  ext i; simp; try (cases A[i] <;> cases B[i] <;> simp)
def bvOf (a : Int) : BitVec 32 := BitVec.ofInt 32 a
def back (A : BitVec 32) : Int := A.toNat
theorem back_lt (A : BitVec 32) : 0 ≤ back A ∧ back A < 4294967296 := by
  unfold back; have := A.isLt; omega
theorem wrap_back (A : BitVec 32) : IntKind.u32.wrap (A.toNat : Int) = back A := by
  rw [IntKind.wrap_u32]; have := back_lt A; unfold back at *; omega
theorem and_bv (a b : Int) : bits .and .u32 a b = back (bvOf a &&& bvOf b) := wrap_back _
theorem or_bv (a b : Int) : bits .or .u32 a b = back (bvOf a ||| bvOf b) := wrap_back _
theorem xor_bv (a b : Int) : bits .xor .u32 a b = back (bvOf a ^^^ bvOf b) := wrap_back _
theorem of_back (A : BitVec 32) : bvOf (back A) = A := by
  unfold bvOf back; rw [BitVec.ofInt_natCast]; simp
theorem back_of (a : Int) (h0 : 0 ≤ a) (h1 : a < 4294967296) : back (bvOf a) = a := by
  obtain ⟨n, rfl⟩ := Int.eq_ofNat_of_zero_le h0
  unfold bvOf back; rw [BitVec.ofInt_natCast]; simp; omega
theorem back_add (A B : BitVec 32) : (back A + back B) % 4294967296 = back (A + B) := by
  unfold back; rw [BitVec.toNat_add]; omega

end Go.Proofs.Ytmkhfedemoccoaa.La
