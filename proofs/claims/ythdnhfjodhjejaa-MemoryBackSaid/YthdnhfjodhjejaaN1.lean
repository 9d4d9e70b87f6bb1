/-  And more of the kind: 3 texts in one. -/
import Derived.Test.YthdnhfjodhjejaaPMex7
namespace Go.Proofs.Ythdnhfjodhjejaa.La
open Go.RowKit Go.Proofs.Ythdnhfjodhjejaa.PMe Go.Proofs.YthdnhfjodhjejaaW.PrintWords Go.Proofs.YthdnhfjodhjejaaW.PrintLast Go.Proofs.YthdnhfjodhjejaaW.PrintMore

/-! Plain facts on 32-bit numbers. -/
theorem u32_of {a : Int} (h : (Lit.int .u32 a).wf = true) : 0 ≤ a ∧ a < 4294967296 := by
  simp [Lit.wf, IntKind.min, IntKind.max, IntKind.bits, IntKind.signed] at h
  omega
theorem wrap3264 (a : Int) : wrap64 (wrap32 a) = wrap32 a := by unfold wrap64 wrap32; omega
theorem pow_pos (n : Nat) : (0 : Int) < 2 ^ n := Int.pow_pos (by decide)
theorem wraps_u32 (n : Int) (h₀ : 0 ≤ n) (h₁ : n < 2 ^ 32) : IntKind.u32.wrap n = n := by rw [IntKind.wrap_u32]; omega
theorem and31 (b : Int) (h0 : 0 ≤ b) (h1 : b < 4294967296) : bits .and .u32 b 31 = b % 32 := bits_mask .u32 32 (by decide) wraps_u32 5 (by decide) b h0 h1
theorem tmod32 (b : Int) (h0 : 0 ≤ b) : Int.tmod b 32 = b % 32 := Int.tmod_eq_emod_of_nonneg h0
theorem shl32 (a m : Int) (hm : m < 32) : shl .u32 a m = (a * 2 ^ m.toNat) % 4294967296 := by
  unfold shl; rw [Nat.min_eq_left (by simp [IntKind.bits]; omega), IntKind.wrap_u32]
theorem shr32 (a m : Int) (hm : m < 32) : shr .u32 a m = a / 2 ^ m.toNat := by
  unfold shr; rw [Nat.min_eq_left (by simp [IntKind.bits]; omega)]
theorem shri32 (a m : Int) (hm : m < 32) : shr .i32 a m = a / 2 ^ m.toNat := by
  unfold shr; rw [Nat.min_eq_left (by simp [IntKind.bits]; omega)]
theorem pow_lt32 (m : Int) (h0 : 0 ≤ m) (hm : m < 32) : (2 : Int) ^ m.toNat < 4294967296 := by
  have h : m.toNat < 32 := by omega
  generalize m.toNat = n at h
  have : (2 : Int) ^ n ≤ 2 ^ 31 := by
    have := Nat.pow_le_pow_right (n := 2) (by decide) (show n ≤ 31 by omega)
    exact_mod_cast this
  omega


theorem i64_of {a : Int} (h : (Lit.int .i64 a).wf = true) : -9223372036854775808 ≤ a ∧ a < 9223372036854775808 := by
  simp [Lit.wf, IntKind.min, IntKind.max, IntKind.bits, IntKind.signed] at h
  omega

/-! The operations of 'word.Bin'. -/
theorem bin_add (k : Nat) (a b : Int) : word_Bin.f (k + 1) 1 a b = some ((a + b) % 4294967296, true) := by simp [word_Bin.f, word_Bin.j0]
theorem bin_sub (k : Nat) (a b : Int) : word_Bin.f (k + 1) 2 a b = some ((a - b) % 4294967296, true) := by simp [word_Bin.f, word_Bin.j0]
theorem bin_mul (k : Nat) (a b : Int) : word_Bin.f (k + 1) 3 a b = some ((a * b) % 4294967296, true) := by simp [word_Bin.f, word_Bin.j0]
theorem bin_and (k : Nat) (a b : Int) : word_Bin.f (k + 1) 8 a b = some (bits .and .u32 a b, true) := by simp [word_Bin.f, word_Bin.j0]
theorem bin_or (k : Nat) (a b : Int) : word_Bin.f (k + 1) 9 a b = some (bits .or .u32 a b, true) := by simp [word_Bin.f, word_Bin.j0]
theorem bin_xor (k : Nat) (a b : Int) : word_Bin.f (k + 1) 10 a b = some (bits .xor .u32 a b, true) := by simp [word_Bin.f, word_Bin.j0]
theorem bin_shl (k : Nat) (a b : Int) (h0 : 0 ≤ b) (h1 : b < 4294967296) : word_Bin.f (k + 1) 11 a b = some ((a * 2 ^ (b % 32).toNat) % 4294967296, true) := by
  simp [word_Bin.f, word_Bin.j0, and31 b h0 h1, shl32 a (b % 32) (by omega)]; omega
theorem bin_shrs (k : Nat) (a b : Int) (h0 : 0 ≤ b) (h1 : b < 4294967296) : word_Bin.f (k + 1) 12 a b = some ((wrap32 a / 2 ^ (b % 32).toNat) % 4294967296, true) := by
  simp [word_Bin.f, word_Bin.j0, and31 b h0 h1, shri32 _ (b % 32) (by omega)]; omega
theorem bin_shru (k : Nat) (a b : Int) (h0 : 0 ≤ b) (h1 : b < 4294967296) : word_Bin.f (k + 1) 13 a b = some (a / 2 ^ (b % 32).toNat, true) := by
  simp [word_Bin.f, word_Bin.j0, and31 b h0 h1, shr32 a (b % 32) (by omega)]; omega
theorem bin_divu (k : Nat) (a b : Int) (hb : b ≠ 0) : word_Bin.f (k + 1) 5 a b = some ((Int.tdiv a b) % 4294967296, true) := by simp [word_Bin.f, word_Bin.j0, word_divided.f, hb]
/-! Bits. -/
theorem bv_or_sum (A B : BitVec 32) : (A &&& B) + (A ^^^ B) = A ||| B := by
  rw [BitVec.add_eq_or_of_and_eq_zero _ _ (by ext i; simp; try (cases A[i] <;> cases B[i] <;> simp))]
  ext i; simp; try (cases A[i] <;> cases B[i] <;> simp)
theorem bv_xor_xor (A B : BitVec 32) : (A ^^^ B) ^^^ B = A := by
  ext i; simp
theorem bv_and_xor (A B : BitVec 32) : (A &&& B) &&& (A ^^^ B) = 0 := by
  ext i; simp; try (cases A[i] <;> cases B[i] <;> simp)
def bvOf (a : Int) : BitVec 32 := BitVec.ofInt 32 a
def back (A : BitVec 32) : Int := A.toNat
theorem back_lt (A : BitVec 32) : 0 ≤ back A ∧ back A < 4294967296 := by
  unfold back; have := A.isLt; omega
theorem wrap_back (A : BitVec 32) : IntKind.u32.wrap (A.toNat : Int) = back A := by
  rw [IntKind.wrap_u32]; have := back_lt A; unfold back at *; omega
theorem and_bv (a b : Int) : bits .and .u32 a b = back (bvOf a &&& bvOf b) := wrap_back _
theorem or_bv (a b : Int) : bits .or .u32 a b = back (bvOf a ||| bvOf b) := wrap_back _
theorem xor_bv (a b : Int) : bits .xor .u32 a b = back (bvOf a ^^^ bvOf b) := wrap_back _
theorem of_back (A : BitVec 32) : bvOf (back A) = A := by
  unfold bvOf back; rw [BitVec.ofInt_natCast]; simp
theorem back_of (a : Int) (h0 : 0 ≤ a) (h1 : a < 4294967296) : back (bvOf a) = a := by
  obtain ⟨n, rfl⟩ := Int.eq_ofNat_of_zero_le h0
  unfold bvOf back; rw [BitVec.ofInt_natCast]; simp; omega
theorem back_add (A B : BitVec 32) : (back A + back B) % 4294967296 = back (A + B) := by
  unfold back; rw [BitVec.toNat_add]; omega

end Go.Proofs.Ythdnhfjodhjejaa.La
namespace Go.Proofs.Ythdnhfjodhjejaa.La
set_option linter.unusedVariables false
open Go.RowKit Go.Proofs.Ythdnhfjodhjejaa.PMe Go.Proofs.YthdnhfjodhjejaaW.PrintWords Go.Proofs.YthdnhfjodhjejaaW.PrintLast Go.Proofs.YthdnhfjodhjejaaW.PrintMore

theorem wrap_u64 (n : Int) : IntKind.u64.wrap n = n % 18446744073709551616 := by simp [IntKind.wrap, IntKind.bits, IntKind.signed]
theorem or_range (a b : Int) : 0 ≤ bits .or .u32 a b ∧ bits .or .u32 a b < 4294967296 := by rw [or_bv]; exact back_lt _
theorem shl32le (a m : Int) (hm : m ≤ 32) : shl .u32 a m = (a * 2 ^ m.toNat) % 4294967296 := by
  unfold shl; rw [Nat.min_eq_left (by simp [IntKind.bits]; omega), IntKind.wrap_u32]

/-- What 'low' answers. -/
def lowv (v : Int) (n : Nat) (s : Bool) : Int :=
  if n = 4 then v else if n = 2 then (if s = true ∧ 32768 ≤ v % 65536 then v % 65536 + 4294901760 else v % 65536)
  else (if s = true ∧ 128 ≤ v % 256 then v % 256 + 4294967040 else v % 256)
theorem low1 (v : Int) (s : Bool) (h0 : 0 ≤ v) (h1 : v < 4294967296) : word_low.f v 8 s = some (lowv v 1 s) := by
  unfold word_low.f lowv
  have e : IntKind.u64.wrap (32 - 8) = 24 := by decide
  rw [e, shl32 v 24 (by omega), shri32 _ 24 (by omega), shr32 _ 24 (by omega)]
  have e2 : (2 : Int) ^ (24 : Int).toNat = 16777216 := by decide
  rw [e2]
  cases s
  · simp; omega
  · simp; unfold wrap32; split <;> omega
theorem low2 (v : Int) (s : Bool) (h0 : 0 ≤ v) (h1 : v < 4294967296) : word_low.f v 16 s = some (lowv v 2 s) := by
  unfold word_low.f lowv
  have e : IntKind.u64.wrap (32 - 16) = 16 := by decide
  rw [e, shl32 v 16 (by omega), shri32 _ 16 (by omega), shr32 _ 16 (by omega)]
  have e2 : (2 : Int) ^ (16 : Int).toNat = 65536 := by decide
  rw [e2]
  cases s
  · simp; omega
  · simp; unfold wrap32; split <;> omega
theorem low4 (v : Int) (s : Bool) (h0 : 0 ≤ v) (h1 : v < 4294967296) : word_low.f v 32 s = some (lowv v 4 s) := by
  unfold word_low.f lowv
  have e : IntKind.u64.wrap (32 - 32) = 0 := by decide
  rw [e, shl32 v 0 (by omega), shri32 _ 0 (by omega), shr32 _ 0 (by omega)]
  have e2 : (2 : Int) ^ (0 : Int).toNat = 1 := by decide
  rw [e2]
  cases s
  · simp; omega
  · simp; unfold wrap32; omega
theorem and255 (v : Int) (h0 : 0 ≤ v) (h1 : v < 4294967296) : bits .and .u32 v 255 = v % 256 := bits_mask .u32 32 (by decide) wraps_u32 8 (by decide) v h0 h1
theorem and65535 (v : Int) (h0 : 0 ≤ v) (h1 : v < 4294967296) : bits .and .u32 v 65535 = v % 65536 := bits_mask .u32 32 (by decide) wraps_u32 16 (by decide) v h0 h1
theorem or_high8 (y : Int) (h0 : 0 ≤ y) (h1 : y < 256) : bits .or .u32 y 4294967040 = y + 4294967040 := by
  have h := bits_join .u32 32 (by decide) wraps_u32 8 4294967040 y (by decide) (by decide) (by decide) h0 h1 (by omega)
  rw [or_bv] at h ⊢
  rw [BitVec.or_comm, h]; omega
theorem or_high16 (y : Int) (h0 : 0 ≤ y) (h1 : y < 65536) : bits .or .u32 y 4294901760 = y + 4294901760 := by
  have h := bits_join .u32 32 (by decide) wraps_u32 16 4294901760 y (by decide) (by decide) (by decide) h0 h1 (by omega)
  rw [or_bv] at h ⊢
  rw [BitVec.or_comm, h]; omega
theorem ext1 (k : Nat) (v : Int) (s : Bool) (h0 : 0 ≤ v) (h1 : v < 4294967296) : mortiseref01_extended.f (k + 1) v 1 s = some (lowv v 1 s) := by
  have e : IntKind.u64.wrap (wrap64 (8 * 1)) = 8 := by decide +kernel
  have e' : IntKind.u64.wrap (8 - 1) = 7 := by decide
  have e1 : (shl .u32 1 8 - 1) % 4294967296 = 255 := by decide
  have e2 : shl .u32 4294967295 8 = 4294967040 := by decide
  have e3 : shr .u32 (v % 256) 7 = v % 256 / 128 := by rw [shr32 _ 7 (by omega)]; rfl
  simp only [mortiseref01_extended.f, mortiseref01_extended.j0, if_true, e, e', e1, e2, e3, and255 v h0 h1, or_high8 (v % 256) (by omega) (by omega)]
  cases s
  · simp [lowv]
  · by_cases c : 128 ≤ v % 256
    · have hc : v % 256 / 128 = 1 := by omega
      simp [hc, c, lowv]
    · have hc : ¬ v % 256 / 128 = 1 := by omega
      simp [hc, c, lowv]
theorem ext2 (k : Nat) (v : Int) (s : Bool) (h0 : 0 ≤ v) (h1 : v < 4294967296) : mortiseref01_extended.f (k + 1) v 2 s = some (lowv v 2 s) := by
  have e : IntKind.u64.wrap (wrap64 (8 * 2)) = 16 := by decide +kernel
  have e' : IntKind.u64.wrap (16 - 1) = 15 := by decide
  have e1 : (shl .u32 1 16 - 1) % 4294967296 = 65535 := by decide
  have e2 : shl .u32 4294967295 16 = 4294901760 := by decide
  have e3 : shr .u32 (v % 65536) 15 = v % 65536 / 32768 := by rw [shr32 _ 15 (by omega)]; rfl
  simp only [mortiseref01_extended.f, mortiseref01_extended.j0, bne_self_eq_false, e, e', e1, e2, e3, and65535 v h0 h1, or_high16 (v % 65536) (by omega) (by omega)]
  cases s
  · simp [lowv]
  · by_cases c : 32768 ≤ v % 65536
    · have hc : v % 65536 / 32768 = 1 := by omega
      simp [hc, c, lowv]
    · have hc : ¬ v % 65536 / 32768 = 1 := by omega
      simp [hc, c, lowv]
theorem ext4 (k : Nat) (v : Int) (s : Bool) : mortiseref01_extended.f (k + 1) v 4 s = some (lowv v 4 s) := by
  simp [mortiseref01_extended.f, mortiseref01_extended.j0, lowv]
theorem ext0 (k : Nat) (v : Int) (s : Bool) : mortiseref01_extended.f (k + 1) v 0 s = some v := by
  simp [mortiseref01_extended.f, mortiseref01_extended.j0]

/-! Bytes. -/
theorem small_len {n : Nat} (h : n < 140737488355328) : ((n : Int) < 140737488355328) := by omega
theorem bytes4 (v : Int) : word_Bytes.f 20 v 4 = some [v % 256, v / 256 % 256, v / 65536 % 256, v / 16777216 % 256] := by
  simp [word_Bytes.f, word_Bytes.j0, word_Bytes.l0, wrap64, rd]
theorem bytes2 (v : Int) : word_Bytes.f 20 v 2 = some [v % 256, v / 256 % 256] := by
  simp [word_Bytes.f, word_Bytes.j0, word_Bytes.l0, wrap64, rd]
theorem bytes1 (v : Int) : word_Bytes.f 20 v 1 = some [v % 256] := by
  simp [word_Bytes.f, word_Bytes.j0, word_Bytes.l0, wrap64]
theorem bytes0 (v n : Int) (h4 : n ≠ 4) (h2 : n ≠ 2) (h1 : n ≠ 1) : word_Bytes.f 20 v n = some [] := by
  simp [word_Bytes.f, word_Bytes.j0, word_Bytes.l0, wrap64, h4, h2, h1]
/-! Values. -/
def val1 (x : Int) : Int := bits .or .u32 0 (shl .u32 (x % 4294967296) 0)
def val2 (x y : Int) : Int := bits .or .u32 (val1 x) (shl .u32 (y % 4294967296) 8)
def val4 (x y z u : Int) : Int := bits .or .u32 (bits .or .u32 (val2 x y) (shl .u32 (z % 4294967296) 16)) (shl .u32 (u % 4294967296) 24)
theorem w8 : IntKind.u64.wrap (wrap64 (8 * 1)) = 8 := by decide +kernel
theorem w16 : IntKind.u64.wrap (wrap64 (8 * 2)) = 16 := by decide +kernel
theorem w32 : IntKind.u64.wrap (wrap64 (8 * 4)) = 32 := by decide +kernel
theorem value1 (x : Int) (s : Bool) : word_Value.f 20 [x] s = some (lowv (val1 x) 1 s, 0) := by
  have h := low1 (val1 x) s (or_range _ _).1 (or_range _ _).2
  unfold val1 at h
  simp [word_Value.f, word_Value.j0, word_Value.l0, rd, wrap64, wrap_u64, h, val1]
theorem value2 (x y : Int) (s : Bool) : word_Value.f 20 [x, y] s = some (lowv (val2 x y) 2 s, 0) := by
  have h := low2 (val2 x y) s (or_range _ _).1 (or_range _ _).2
  unfold val2 val1 at h
  simp [word_Value.f, word_Value.j0, word_Value.l0, rd, wrap64, wrap_u64, h, val1, val2]
theorem value4 (x y z u : Int) (s : Bool) : word_Value.f 20 [x, y, z, u] s = some (lowv (val4 x y z u) 4 s, 0) := by
  have h := low4 (val4 x y z u) s (or_range _ _).1 (or_range _ _).2
  unfold val4 val2 val1 at h
  simp [word_Value.f, word_Value.j0, word_Value.l0, rd, wrap64, wrap_u64, h, val1, val2, val4]
theorem rvalue1 (x : Int) (s : Bool) : mortiseref01_Value.f 20 [x] s = some (lowv (val1 x) 1 s, 0) := by
  have h := fun k => ext1 k (val1 x) s (or_range _ _).1 (or_range _ _).2
  unfold val1 at h
  simp [mortiseref01_Value.f, mortiseref01_Value.j0, mortiseref01_Value.l0, rd, wrap64, wrap_u64, h, val1]
theorem rvalue2 (x y : Int) (s : Bool) : mortiseref01_Value.f 20 [x, y] s = some (lowv (val2 x y) 2 s, 0) := by
  have h := fun k => ext2 k (val2 x y) s (or_range _ _).1 (or_range _ _).2
  unfold val2 val1 at h
  simp [mortiseref01_Value.f, mortiseref01_Value.j0, mortiseref01_Value.l0, rd, wrap64, wrap_u64, h, val1, val2]
theorem rvalue4 (x y z u : Int) (s : Bool) : mortiseref01_Value.f 20 [x, y, z, u] s = some (lowv (val4 x y z u) 4 s, 0) := by
  have h := fun k => ext4 k (val4 x y z u) s
  unfold val4 val2 val1 at h
  simp [mortiseref01_Value.f, mortiseref01_Value.j0, mortiseref01_Value.l0, rd, wrap64, wrap_u64, h, val1, val2, val4]
theorem value_no (l : List Int) (s : Bool) (h1 : l.length ≠ 1) (h2 : l.length ≠ 2) (h4 : l.length ≠ 4) : word_Value.f 20 l s = some (0, 2) := by
  have h1' : ¬ (l.length : Int) = 1 := by omega
  have h2' : ¬ (l.length : Int) = 2 := by omega
  have h4' : ((l.length : Int) != 4) = true := by rw [bne_iff_ne]; omega
  unfold word_Value.f
  rw [if_neg h1', if_neg h2', h4']
  simp [word_Value.j0]
theorem rvalue_no (l : List Int) (s : Bool) (h1 : l.length ≠ 1) (h2 : l.length ≠ 2) (h4 : l.length ≠ 4) : mortiseref01_Value.f 20 l s = some (0, 2) := by
  have h1' : ¬ (l.length : Int) = 1 := by omega
  have h2' : ¬ (l.length : Int) = 2 := by omega
  have h4' : ((l.length : Int) != 4) = true := by rw [bne_iff_ne]; omega
  unfold mortiseref01_Value.f
  rw [if_neg h1', if_neg h2', h4']
  simp [mortiseref01_Value.j0]
theorem value_eq (l : List Int) (s : Bool) : ∃ r, word_Value.f 20 l s = some r ∧ mortiseref01_Value.f 20 l s = some r := by
  rcases l with _ | ⟨x, _ | ⟨y, _ | ⟨z, _ | ⟨u, _ | ⟨t, l⟩⟩⟩⟩⟩
  · exact ⟨_, value_no _ s (by simp) (by simp) (by simp), rvalue_no _ s (by simp) (by simp) (by simp)⟩
  · exact ⟨_, value1 x s, rvalue1 x s⟩
  · exact ⟨_, value2 x y s, rvalue2 x y s⟩
  · exact ⟨_, value_no _ s (by simp) (by simp) (by simp), rvalue_no _ s (by simp) (by simp) (by simp)⟩
  · exact ⟨_, value4 x y z u s, rvalue4 x y z u s⟩
  · exact ⟨_, value_no _ s (by simp) (by simp) (by simp), rvalue_no _ s (by simp) (by simp) (by simp)⟩
end Go.Proofs.Ythdnhfjodhjejaa.La
namespace Go.Proofs.Ythdnhfjodhjejaa.La
open Go.RowKit Go.Proofs.Ythdnhfjodhjejaa.PMe Go.Proofs.YthdnhfjodhjejaaW.PrintWords Go.Proofs.YthdnhfjodhjejaaW.PrintLast Go.Proofs.YthdnhfjodhjejaaW.PrintMore
theorem refInt (a : Int) (h0 : 0 ≤ a) (h1 : a < 4294967296) : mortiseref01_Int.f a = some (wrap32 a) := by
  unfold mortiseref01_Int.f
  by_cases h : a ≥ 2147483648
  · rw [if_pos h]; congr 1; unfold wrap64 wrap32; omega
  · rw [if_neg h]; congr 1; unfold wrap64 wrap32; omega
theorem refOf (n : Int) : mortiseref01_Of.f n = some (n % 4294967296) := by
  unfold mortiseref01_Of.f
  have h := bits_mask .u64 64 (by decide) (fun n h0 h1 => by rw [wrap_u64]; omega) 32 (by decide) (n % 18446744073709551616) (by omega) (by omega)
  have e : ((2 : Int) ^ 32 - 1) = 4294967295 := by decide
  rw [e] at h
  rw [wrap_u64, h]
  congr 1
  omega
theorem refFlag (b : Bool) : mortiseref01_flag.f b = some (bif b then 1 else 0) := by cases b <;> rfl
theorem flagv (b : Bool) : word_flag.f b = some (bif b then 1 else 0) := by cases b <;> rfl
theorem u64m (b : Int) (h0 : 0 ≤ b) : IntKind.u64.wrap (Int.tmod b 32) = b % 32 := by rw [wrap_u64, tmod32 b h0]; omega
theorem shri64 (a m : Int) (h0 : 0 ≤ m) (hm : m < 32) : shr .i64 a m = a / 2 ^ m.toNat := by
  unfold shr; rw [Nat.min_eq_left (by simp [IntKind.bits]; omega)]

theorem bin_eq (op a b : Int) (ha0 : 0 ≤ a) (ha1 : a < 4294967296) (hb0 : 0 ≤ b) (hb1 : b < 4294967296) :
    mortiseref01_Bin.f 30 op a b = word_Bin.f 30 op a b ∧ ∃ r, word_Bin.f 30 op a b = some r := by
  have hm0 : 0 ≤ b % 32 := by omega
  have hm1 : b % 32 < 32 := by omega
  by_cases e : op = 1 ∨ op = 2 ∨ op = 3 ∨ op = 4 ∨ op = 5 ∨ op = 6 ∨ op = 7 ∨ op = 8 ∨ op = 9 ∨ op = 10 ∨ op = 11 ∨ op = 12 ∨ op = 13 ∨ op = 14 ∨ op = 15 ∨ op = 16 ∨ op = 17 ∨ op = 18 ∨ op = 19
  · rcases e with rfl | rfl | rfl | rfl | rfl | rfl | rfl | rfl | rfl | rfl | rfl | rfl | rfl | rfl | rfl | rfl | rfl | rfl | rfl
    all_goals first
      | (simp [mortiseref01_Bin.f, mortiseref01_Bin.j0, word_Bin.f, word_Bin.j0, refFlag, flagv]; done)
      | (simp [mortiseref01_Bin.f, mortiseref01_Bin.j0, word_Bin.f, word_Bin.j0, refFlag, flagv, refInt a ha0 ha1, refInt b hb0 hb1, apply_ite]; done)
      | (rw [mortiseref01_Bin.f]; simp only [u64m b hb0]; simp [mortiseref01_Bin.j0, word_Bin.f, word_Bin.j0, and31 b hb0 hb1, refInt a ha0 ha1, refOf, shri64 _ _ hm0 hm1, shri32 _ _ hm1, hm0]; done)
      | (by_cases hb : b = 0
         · subst hb; simp [mortiseref01_Bin.f, mortiseref01_Bin.j0, word_Bin.f, word_Bin.j0]
         · have hw : wrap32 b ≠ 0 := by unfold wrap32; omega
           have hwb : wrap64 b = b := by unfold wrap64; omega
           have hwa : wrap64 a = a := by unfold wrap64; omega
           have ht : 0 ≤ Int.tdiv a b ∧ Int.tdiv a b < 4294967296 := by
             rw [Int.tdiv_eq_ediv_of_nonneg ha0]
             exact ⟨Int.ediv_nonneg ha0 hb0, Int.lt_of_le_of_lt (Int.ediv_le_self _ ha0) ha1⟩
           have hu : 0 ≤ Int.tmod a b ∧ Int.tmod a b < 4294967296 := by
             rw [Int.tmod_eq_emod_of_nonneg ha0]
             have := Int.emod_nonneg a hb
             have := Int.emod_lt_of_pos a (show 0 < b by omega)
             omega
           have hwt : wrap64 (Int.tdiv a b) = Int.tdiv a b := by unfold wrap64; omega
           have hum : Int.tmod a b % 4294967296 = Int.tmod a b := by omega
           simp [mortiseref01_Bin.f, mortiseref01_Bin.j0, mortiseref01_Bin.j1, mortiseref01_Bin.j2, mortiseref01_Bin.j3, mortiseref01_quotient.f, word_Bin.f, word_Bin.j0, word_divided.f, hb, refInt a ha0 ha1, refInt b hb0 hb1, refOf, wrap3264, hw, hwa, hwb, hwt, hum])
  · have n1 : op ≠ 1 := by omega
    have n2 : op ≠ 2 := by omega
    have n3 : op ≠ 3 := by omega
    have n4 : op ≠ 4 := by omega
    have n5 : op ≠ 5 := by omega
    have n6 : op ≠ 6 := by omega
    have n7 : op ≠ 7 := by omega
    have n8 : op ≠ 8 := by omega
    have n9 : op ≠ 9 := by omega
    have n10 : op ≠ 10 := by omega
    have n11 : op ≠ 11 := by omega
    have n12 : op ≠ 12 := by omega
    have n13 : op ≠ 13 := by omega
    have n14 : op ≠ 14 := by omega
    have n15 : op ≠ 15 := by omega
    have n16 : op ≠ 16 := by omega
    have n17 : op ≠ 17 := by omega
    have n18 : op ≠ 18 := by omega
    have n19 : op ≠ 19 := by omega
    have f7 : (op == 7) = false := by simpa using n7
    simp [mortiseref01_Bin.f, mortiseref01_Bin.j0, word_Bin.f, word_Bin.j0, n1, n2, n3, n4, n5, n6, n7, n8, n9, n10, n11, n12, n13, n14, n15, n16, n17, n18, n19]

theorem name_eq (op : Int) : ∃ s, word_Name.f op = some s ∧ mortiseref01_Name.f op = some s := by
  unfold word_Name.f mortiseref01_Name.f
  by_cases h1 : op < 1
  · exact ⟨_, by rw [if_pos h1], by rw [if_pos h1]⟩
  · rw [if_neg h1, if_neg h1]
    by_cases h2 : op > 19
    · exact ⟨_, by rw [if_pos h2], by rw [if_pos h2]⟩
    · rw [if_neg h2, if_neg h2]
      refine ⟨_, rfl, ?_⟩
      have hw : wrap64 (op - 1) = op - 1 := by unfold wrap64; omega
      simp only [mortiseref01_Names.f, Option.bind_some, hw]
      rw [if_pos (by omega), if_pos (by simp; omega)]
      rfl

end Go.Proofs.Ythdnhfjodhjejaa.La
