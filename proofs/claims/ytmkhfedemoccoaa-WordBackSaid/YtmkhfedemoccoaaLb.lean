/- Plain facts about word.Value, word.Bytes and the document's own. No condition. -/
import Derived.Test.YtmkhfedemoccoaaPWdx6
import Derived.Test.YtmkhfedemoccoaaLa
namespace Go.Proofs.Ytmkhfedemoccoaa.La
set_option linter.unusedVariables false
open Go.RowKit Go.Proofs.Ytmkhfedemoccoaa.PWd Go.Proofs.YtmkhfedemoccoaaW.PrintWords Go.Proofs.YtmkhfedemoccoaaW.PrintLast Go.Proofs.YtmkhfedemoccoaaW.PrintMore

theorem wrap_u64 (n : Int) : IntKind.u64.wrap n = n % 18446744073709551616 := by simp [IntKind.wrap, IntKind.bits, IntKind.signed]
theorem or_range (a b : Int) : 0 ≤ bits .or .u32 a b ∧ bits .or .u32 a b < 4294967296 := by rw [or_bv]; exact back_lt _
theorem shl32le (a m : Int) (hm : m ≤ 32) : shl .u32 a m = (a * 2 ^ m.toNat) % 4294967296 := by
  unfold shl; rw [Nat.min_eq_left (by simp [IntKind.bits]; omega), IntKind.wrap_u32]

/-- What 'low' answers. -/
def lowv (v : Int) (n : Nat) (s : Bool) : Int :=
  if n = 4 then v else if n = 2 then (if s = true ∧ 32768 ≤ v % 65536 then v % 65536 + 4294901760 else v % 65536)
  else (if s = true ∧ 128 ≤ v % 256 then v % 256 + 4294967040 else v % 256)
theorem low1 (v : Int) (s : Bool) (h0 : 0 ≤ v) (h1 : v < 4294967296) : word_low.f v 8 s = some (lowv v 1 s) := by
  unfold word_low.f lowv
  have e : IntKind.u64.wrap (32 - 8) = 24 := by decide
  rw [e, shl32 v 24 (by omega), shri32 _ 24 (by omega), shr32 _ 24 (by omega)]
  have e2 : (2 : Int) ^ (24 : Int).toNat = 16777216 := by decide
  rw [e2]
  cases s
  · simp; omega
  · simp; unfold wrap32; split <;> omega
theorem low2 (v : Int) (s : Bool) (h0 : 0 ≤ v) (h1 : v < 4294967296) : word_low.f v 16 s = some (lowv v 2 s) := by
  unfold word_low.f lowv
  have e : IntKind.u64.wrap (32 - 16) = 16 := by decide
  rw [e, shl32 v 16 (by omega), shri32 _ 16 (by omega), shr32 _ 16 (by omega)]
  have e2 : (2 : Int) ^ (16 : Int).toNat = 65536 := by decide
  rw [e2]
  cases s
  · simp; omega
  · simp; unfold wrap32; split <;> omega
theorem low4 (v : Int) (s : Bool) (h0 : 0 ≤ v) (h1 : v < 4294967296) : word_low.f v 32 s = some (lowv v 4 s) := by
  unfold word_low.f lowv
  have e : IntKind.u64.wrap (32 - 32) = 0 := by decide
  rw [e, shl32 v 0 (by omega), shri32 _ 0 (by omega), shr32 _ 0 (by omega)]
  have e2 : (2 : Int) ^ (0 : Int).toNat = 1 := by decide
  rw [e2]
  cases s
  · simp; omega
  · simp; unfold wrap32; omega
theorem and255 (v : Int) (h0 : 0 ≤ v) (h1 : v < 4294967296) : bits .and .u32 v 255 = v % 256 := bits_mask .u32 32 (by decide) wraps_u32 8 (by decide) v h0 h1
theorem and65535 (v : Int) (h0 : 0 ≤ v) (h1 : v < 4294967296) : bits .and .u32 v 65535 = v % 65536 := bits_mask .u32 32 (by decide) wraps_u32 16 (by decide) v h0 h1
theorem or_high8 (y : Int) (h0 : 0 ≤ y) (h1 : y < 256) : bits .or .u32 y 4294967040 = y + 4294967040 := by
  have h := bits_join .u32 32 (by decide) wraps_u32 8 4294967040 y (by decide) (by decide) (by decide) h0 h1 (by omega)
  rw [or_bv] at h ⊢
  rw [BitVec.or_comm, h]; omega
theorem or_high16 (y : Int) (h0 : 0 ≤ y) (h1 : y < 65536) : bits .or .u32 y 4294901760 = y + 4294901760 := by
  have h := bits_join .u32 32 (by decide) wraps_u32 16 4294901760 y (by decide) (by decide) (by decide) h0 h1 (by omega)
  rw [or_bv] at h ⊢
  rw [BitVec.or_comm, h]; omega
theorem ext1 (k : Nat) (v : Int) (s : Bool) (h0 : 0 ≤ v) (h1 : v < 4294967296) : mortiseref01_extended.f (k + 1) v 1 s = some (lowv v 1 s) := by
  have e : IntKind.u64.wrap (wrap64 (8 * 1)) = 8 := by decide +kernel
  have e' : IntKind.u64.wrap (8 - 1) = 7 := by decide
  have e1 : (shl .u32 1 8 - 1) % 4294967296 = 255 := by decide
  have e2 : shl .u32 4294967295 8 = 4294967040 := by decide
  have e3 : shr .u32 (v % 256) 7 = v % 256 / 128 := by rw [shr32 _ 7 (by omega)]; rfl
  simp only [mortiseref01_extended.f, mortiseref01_extended.j0, if_true, e, e', e1, e2, e3, and255 v h0 h1, or_high8 (v % 256) (by omega) (by omega)]
  cases s
  · simp [lowv]
  · by_cases c : 128 ≤ v % 256
    · have hc : v % 256 / 128 = 1 := by omega
      simp [hc, c, lowv]
    · have hc : ¬ v % 256 / 128 = 1 := by omega
      simp [hc, c, lowv]
theorem ext2 (k : Nat) (v : Int) (s : Bool) (h0 : 0 ≤ v) (h1 : v < 4294967296) : mortiseref01_extended.f (k + 1) v 2 s = some (lowv v 2 s) := by
  have e : IntKind.u64.wrap (wrap64 (8 * 2)) = 16 := by decide +kernel
  have e' : IntKind.u64.wrap (16 - 1) = 15 := by decide
  have e1 : (shl .u32 1 16 - 1) % 4294967296 = 65535 := by decide
  have e2 : shl .u32 4294967295 16 = 4294901760 := by decide
  have e3 : shr .u32 (v % 65536) 15 = v % 65536 / 32768 := by rw [shr32 _ 15 (by omega)]; rfl
  simp only [mortiseref01_extended.f, mortiseref01_extended.j0, bne_self_eq_false, e, e', e1, e2, e3, and65535 v h0 h1, or_high16 (v % 65536) (by omega) (by omega)]
  cases s
  · simp [lowv]
  · by_cases c : 32768 ≤ v % 65536
    · have hc : v % 65536 / 32768 = 1 := by omega
      simp [hc, c, lowv]
    · have hc : ¬ v % 65536 / 32768 = 1 := by omega
      simp [hc, c, lowv]
theorem ext4 (k : Nat) (v : Int) (s : Bool) : mortiseref01_extended.f (k + 1) v 4 s = some (lowv v 4 s) := by
  simp [mortiseref01_extended.f, mortiseref01_extended.j0, lowv]
theorem ext0 (k : Nat) (v : Int) (s : Bool) : mortiseref01_extended.f (k + 1) v 0 s = some v := by
  simp [mortiseref01_extended.f, mortiseref01_extended.j0]

/-! Bytes. -/
theorem small_len {n : Nat} (h : n < 140737488355328) : ((n : Int) < 140737488355328) := by omega
theorem bytes4 (v : Int) : word_Bytes.f 20 v 4 = some [v % 256, v / 256 % 256, v / 65536 % 256, v / 16777216 % 256] := by
  simp [word_Bytes.f, word_Bytes.j0, word_Bytes.l0, wrap64, rd]
theorem bytes2 (v : Int) : word_Bytes.f 20 v 2 = some [v % 256, v / 256 % 256] := by
  simp [word_Bytes.f, word_Bytes.j0, word_Bytes.l0, wrap64, rd]
theorem bytes1 (v : Int) : word_Bytes.f 20 v 1 = some [v % 256] := by
  simp [word_Bytes.f, word_Bytes.j0, word_Bytes.l0, wrap64]
theorem bytes0 (v n : Int) (h4 : n ≠ 4) (h2 : n ≠ 2) (h1 : n ≠ 1) : word_Bytes.f 20 v n = some [] := by
  simp [word_Bytes.f, word_Bytes.j0, word_Bytes.l0, wrap64, h4, h2, h1]
theorem rbytes4 (v : Int) (h0 : 0 ≤ v) : mortiseref01_Bytes.f 20 v 4 = some [v % 256, v / 256 % 256, v / 65536 % 256, v / 16777216 % 256] := by
  simp [mortiseref01_Bytes.f, mortiseref01_Bytes.j0, mortiseref01_Bytes.l0, wrap64, wrap_u64, shr, IntKind.bits]
theorem rbytes2 (v : Int) (h0 : 0 ≤ v) : mortiseref01_Bytes.f 20 v 2 = some [v % 256, v / 256 % 256] := by
  simp [mortiseref01_Bytes.f, mortiseref01_Bytes.j0, mortiseref01_Bytes.l0, wrap64, wrap_u64, shr, IntKind.bits]
theorem rbytes1 (v : Int) (h0 : 0 ≤ v) : mortiseref01_Bytes.f 20 v 1 = some [v % 256] := by
  simp [mortiseref01_Bytes.f, mortiseref01_Bytes.j0, mortiseref01_Bytes.l0, wrap64, wrap_u64, shr, IntKind.bits]
theorem rbytes0 (v n : Int) (h4 : n ≠ 4) (h2 : n ≠ 2) (h1 : n ≠ 1) : mortiseref01_Bytes.f 20 v n = some [] := by
  simp [mortiseref01_Bytes.f, mortiseref01_Bytes.j0, h4, h2, h1]
theorem bytes_eq (v n : Int) (h0 : 0 ≤ v) : ∃ l, word_Bytes.f 20 v n = some l ∧ mortiseref01_Bytes.f 20 v n = some l ∧ l.length ≤ 4 := by
  by_cases h4 : n = 4
  · subst h4; exact ⟨_, bytes4 v, rbytes4 v h0, by simp⟩
  by_cases h2 : n = 2
  · subst h2; exact ⟨_, bytes2 v, rbytes2 v h0, by simp⟩
  by_cases h1 : n = 1
  · subst h1; exact ⟨_, bytes1 v, rbytes1 v h0, by simp⟩
  exact ⟨_, bytes0 v n h4 h2 h1, rbytes0 v n h4 h2 h1, by simp⟩

/-- A list is the same as itself. -/
theorem same_from (l : List Int) (hl : l.length < 9223372036854775807) (d : Nat) : ∀ (k : Nat) (i : Int), 0 ≤ i → i ≤ l.length → (l.length : Int) - i = d → d < k → mortiseref01_Same.l0 k l l i = some true := by
  induction d with
  | zero =>
    intro k i h0 h1 hd hk
    obtain ⟨k, rfl⟩ : ∃ m, k = m + 1 := ⟨k - 1, by omega⟩
    simp only [mortiseref01_Same.l0]; rw [if_neg (by omega)]
  | succ d ih =>
    intro k i h0 h1 hd hk
    obtain ⟨k, rfl⟩ : ∃ m, k = m + 1 := ⟨k - 1, by omega⟩
    have hw : wrap64 (i + 1) = i + 1 := by unfold wrap64; omega
    simp only [mortiseref01_Same.l0]
    rw [if_pos (by omega), if_pos h0, hw, if_true]
    exact (if_pos (by omega)).trans (ih k (i + 1) (by omega) (by omega) (by omega) (by omega))
theorem same_self (l : List Int) (hl : l.length < 9223372036854775807) (k : Nat) (hk : l.length < k) : mortiseref01_Same.f k l l = some true := by
  unfold mortiseref01_Same.f
  rw [if_pos rfl]
  exact same_from l hl l.length k 0 (by omega) (by omega) (by omega) hk

/-! Values. -/
def val1 (x : Int) : Int := bits .or .u32 0 (shl .u32 (x % 4294967296) 0)
def val2 (x y : Int) : Int := bits .or .u32 (val1 x) (shl .u32 (y % 4294967296) 8)
def val4 (x y z u : Int) : Int := bits .or .u32 (bits .or .u32 (val2 x y) (shl .u32 (z % 4294967296) 16)) (shl .u32 (u % 4294967296) 24)
theorem w8 : IntKind.u64.wrap (wrap64 (8 * 1)) = 8 := by decide +kernel
theorem w16 : IntKind.u64.wrap (wrap64 (8 * 2)) = 16 := by decide +kernel
theorem w32 : IntKind.u64.wrap (wrap64 (8 * 4)) = 32 := by decide +kernel
theorem value1 (x : Int) (s : Bool) : word_Value.f 20 [x] s = some (lowv (val1 x) 1 s, 0) := by
  have h := low1 (val1 x) s (or_range _ _).1 (or_range _ _).2
  unfold val1 at h
  simp [word_Value.f, word_Value.j0, word_Value.l0, rd, wrap64, wrap_u64, h, val1]
theorem value2 (x y : Int) (s : Bool) : word_Value.f 20 [x, y] s = some (lowv (val2 x y) 2 s, 0) := by
  have h := low2 (val2 x y) s (or_range _ _).1 (or_range _ _).2
  unfold val2 val1 at h
  simp [word_Value.f, word_Value.j0, word_Value.l0, rd, wrap64, wrap_u64, h, val1, val2]
theorem value4 (x y z u : Int) (s : Bool) : word_Value.f 20 [x, y, z, u] s = some (lowv (val4 x y z u) 4 s, 0) := by
  have h := low4 (val4 x y z u) s (or_range _ _).1 (or_range _ _).2
  unfold val4 val2 val1 at h
  simp [word_Value.f, word_Value.j0, word_Value.l0, rd, wrap64, wrap_u64, h, val1, val2, val4]
theorem rvalue1 (x : Int) (s : Bool) : mortiseref01_Value.f 20 [x] s = some (lowv (val1 x) 1 s, 0) := by
  have h := fun k => ext1 k (val1 x) s (or_range _ _).1 (or_range _ _).2
  unfold val1 at h
  simp [mortiseref01_Value.f, mortiseref01_Value.j0, mortiseref01_Value.l0, rd, wrap64, wrap_u64, h, val1]
theorem rvalue2 (x y : Int) (s : Bool) : mortiseref01_Value.f 20 [x, y] s = some (lowv (val2 x y) 2 s, 0) := by
  have h := fun k => ext2 k (val2 x y) s (or_range _ _).1 (or_range _ _).2
  unfold val2 val1 at h
  simp [mortiseref01_Value.f, mortiseref01_Value.j0, mortiseref01_Value.l0, rd, wrap64, wrap_u64, h, val1, val2]
theorem rvalue4 (x y z u : Int) (s : Bool) : mortiseref01_Value.f 20 [x, y, z, u] s = some (lowv (val4 x y z u) 4 s, 0) := by
  have h := fun k => ext4 k (val4 x y z u) s
  unfold val4 val2 val1 at h
  simp [mortiseref01_Value.f, mortiseref01_Value.j0, mortiseref01_Value.l0, rd, wrap64, wrap_u64, h, val1, val2, val4]
theorem value_no (l : List Int) (s : Bool) (h1 : l.length ≠ 1) (h2 : l.length ≠ 2) (h4 : l.length ≠ 4) : word_Value.f 20 l s = some (0, 2) := by
  have h1' : ¬ (l.length : Int) = 1 := by omega
  have h2' : ¬ (l.length : Int) = 2 := by omega
  have h4' : ((l.length : Int) != 4) = true := by rw [bne_iff_ne]; omega
  unfold word_Value.f
  rw [if_neg h1', if_neg h2', h4']
  simp [word_Value.j0]
theorem rvalue_no (l : List Int) (s : Bool) (h1 : l.length ≠ 1) (h2 : l.length ≠ 2) (h4 : l.length ≠ 4) : mortiseref01_Value.f 20 l s = some (0, 2) := by
  have h1' : ¬ (l.length : Int) = 1 := by omega
  have h2' : ¬ (l.length : Int) = 2 := by omega
  have h4' : ((l.length : Int) != 4) = true := by rw [bne_iff_ne]; omega
  unfold mortiseref01_Value.f
  rw [if_neg h1', if_neg h2', h4']
  simp [mortiseref01_Value.j0]
theorem value_eq (l : List Int) (s : Bool) : ∃ r, word_Value.f 20 l s = some r ∧ mortiseref01_Value.f 20 l s = some r := by
  rcases l with _ | ⟨x, _ | ⟨y, _ | ⟨z, _ | ⟨u, _ | ⟨t, l⟩⟩⟩⟩⟩
  · exact ⟨_, value_no _ s (by simp) (by simp) (by simp), rvalue_no _ s (by simp) (by simp) (by simp)⟩
  · exact ⟨_, value1 x s, rvalue1 x s⟩
  · exact ⟨_, value2 x y s, rvalue2 x y s⟩
  · exact ⟨_, value_no _ s (by simp) (by simp) (by simp), rvalue_no _ s (by simp) (by simp) (by simp)⟩
  · exact ⟨_, value4 x y z u s, rvalue4 x y z u s⟩
  · exact ⟨_, value_no _ s (by simp) (by simp) (by simp), rvalue_no _ s (by simp) (by simp) (by simp)⟩
end Go.Proofs.Ytmkhfedemoccoaa.La
