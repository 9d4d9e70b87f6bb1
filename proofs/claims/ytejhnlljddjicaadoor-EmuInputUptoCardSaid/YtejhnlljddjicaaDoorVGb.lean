/-  And more of the kind: 3 texts in one. And more of the kind: 5 texts in one. -/
import Derived.Test.YtejhnlljddjicaaDoorVPEmx3
import Derived.Test.YtejhnlljddjicaaDoorVPEmx8
import Derived.Test.YtejhnlljddjicaaDoorVPEmx9
import Derived.Test.YtejhnlljddjicaaDoorVPEmx10
import Derived.Test.YtejhnlljddjicaaDoorVGa
namespace Go.Proofs.YtejhnlljddjicaaDoor.La
open Go.RowKit Go.Proofs.YtejhnlljddjicaaDoor.PEm Go.Proofs.YtejhnlljddjicaaDoorW.PrintWords Go.Proofs.YtejhnlljddjicaaDoorW.PrintLast Go.Proofs.YtejhnlljddjicaaDoorW.PrintMore

theorem wrap3264 (a : Int) : wrap64 (wrap32 a) = wrap32 a := by unfold wrap64 wrap32; omega
theorem pow_pos (n : Nat) : (0 : Int) < 2 ^ n := Int.pow_pos (by decide)
theorem wraps_u32 (n : Int) (h₀ : 0 ≤ n) (h₁ : n < 2 ^ 32) : IntKind.u32.wrap n = n := by rw [IntKind.wrap_u32]; omega
theorem and31 (b : Int) (h0 : 0 ≤ b) (h1 : b < 4294967296) : bits .and .u32 b 31 = b % 32 := bits_mask .u32 32 (by decide) wraps_u32 5 (by decide) b h0 h1
theorem tmod32 (b : Int) (h0 : 0 ≤ b) : Int.tmod b 32 = b % 32 := Int.tmod_eq_emod_of_nonneg h0
theorem shl32 (a m : Int) (hm : m < 32) : shl .u32 a m = (a * 2 ^ m.toNat) % 4294967296 := by
  unfold shl; rw [Nat.min_eq_left (by simp [IntKind.bits]; omega), IntKind.wrap_u32]
theorem shr32 (a m : Int) (hm : m < 32) : shr .u32 a m = a / 2 ^ m.toNat := by
  unfold shr; rw [Nat.min_eq_left (by simp [IntKind.bits]; omega)]
theorem shri32 (a m : Int) (hm : m < 32) : shr .i32 a m = a / 2 ^ m.toNat := by
  unfold shr; rw [Nat.min_eq_left (by simp [IntKind.bits]; omega)]
/-! The operations of 'word.Bin'. -/
theorem bin_add (k : Nat) (a b : Int) : word_Bin.f (k + 1) 1 a b = some ((a + b) % 4294967296, true) := by simp [word_Bin.f, word_Bin.j0]
theorem bin_sub (k : Nat) (a b : Int) : word_Bin.f (k + 1) 2 a b = some ((a - b) % 4294967296, true) := by simp [word_Bin.f, word_Bin.j0]
theorem bin_mul (k : Nat) (a b : Int) : word_Bin.f (k + 1) 3 a b = some ((a * b) % 4294967296, true) := by simp [word_Bin.f, word_Bin.j0]
theorem bin_and (k : Nat) (a b : Int) : word_Bin.f (k + 1) 8 a b = some (bits .and .u32 a b, true) := by simp [word_Bin.f, word_Bin.j0]
theorem bin_or (k : Nat) (a b : Int) : word_Bin.f (k + 1) 9 a b = some (bits .or .u32 a b, true) := by simp [word_Bin.f, word_Bin.j0]
theorem bin_xor (k : Nat) (a b : Int) : word_Bin.f (k + 1) 10 a b = some (bits .xor .u32 a b, true) := by simp [word_Bin.f, word_Bin.j0]
theorem bin_shl (k : Nat) (a b : Int) (h0 : 0 ≤ b) (h1 : b < 4294967296) : word_Bin.f (k + 1) 11 a b = some ((a * 2 ^ (b % 32).toNat) % 4294967296, true) := by
  simp [word_Bin.f, word_Bin.j0, and31 b h0 h1, shl32 a (b % 32) (by omega)]; omega
theorem bin_shrs (k : Nat) (a b : Int) (h0 : 0 ≤ b) (h1 : b < 4294967296) : word_Bin.f (k + 1) 12 a b = some ((wrap32 a / 2 ^ (b % 32).toNat) % 4294967296, true) := by
  simp [word_Bin.f, word_Bin.j0, and31 b h0 h1, shri32 _ (b % 32) (by omega)]; omega
theorem bin_shru (k : Nat) (a b : Int) (h0 : 0 ≤ b) (h1 : b < 4294967296) : word_Bin.f (k + 1) 13 a b = some (a / 2 ^ (b % 32).toNat, true) := by
  simp [word_Bin.f, word_Bin.j0, and31 b h0 h1, shr32 a (b % 32) (by omega)]; omega
theorem bin_divu (k : Nat) (a b : Int) (hb : b ≠ 0) : word_Bin.f (k + 1) 5 a b = some ((Int.tdiv a b) % 4294967296, true) := by simp [word_Bin.f, word_Bin.j0, word_divided.f, hb]
def bvOf (a : Int) : BitVec 32 := BitVec.ofInt 32 a
def back (A : BitVec 32) : Int := A.toNat
theorem back_lt (A : BitVec 32) : 0 ≤ back A ∧ back A < 4294967296 := by
  unfold back; have := A.isLt; omega
theorem wrap_back (A : BitVec 32) : IntKind.u32.wrap (A.toNat : Int) = back A := by
  rw [IntKind.wrap_u32]; have := back_lt A; unfold back at *; omega
theorem and_bv (a b : Int) : bits .and .u32 a b = back (bvOf a &&& bvOf b) := wrap_back _
theorem or_bv (a b : Int) : bits .or .u32 a b = back (bvOf a ||| bvOf b) := wrap_back _
theorem xor_bv (a b : Int) : bits .xor .u32 a b = back (bvOf a ^^^ bvOf b) := wrap_back _
end Go.Proofs.YtejhnlljddjicaaDoor.La
namespace Go.Proofs.YtejhnlljddjicaaDoor.La
set_option linter.unusedVariables false
open Go.RowKit Go.Proofs.YtejhnlljddjicaaDoor.PEm Go.Proofs.YtejhnlljddjicaaDoorW.PrintWords Go.Proofs.YtejhnlljddjicaaDoorW.PrintLast Go.Proofs.YtejhnlljddjicaaDoorW.PrintMore

theorem wrap_u64 (n : Int) : IntKind.u64.wrap n = n % 18446744073709551616 := by simp [IntKind.wrap, IntKind.bits, IntKind.signed]
theorem or_range (a b : Int) : 0 ≤ bits .or .u32 a b ∧ bits .or .u32 a b < 4294967296 := by rw [or_bv]; exact back_lt _
/-- What 'low' answers. -/
def lowv (v : Int) (n : Nat) (s : Bool) : Int :=
  if n = 4 then v else if n = 2 then (if s = true ∧ 32768 ≤ v % 65536 then v % 65536 + 4294901760 else v % 65536)
  else (if s = true ∧ 128 ≤ v % 256 then v % 256 + 4294967040 else v % 256)
theorem low1 (v : Int) (s : Bool) (h0 : 0 ≤ v) (h1 : v < 4294967296) : word_low.f v 8 s = some (lowv v 1 s) := by
  unfold word_low.f lowv
  have e : IntKind.u64.wrap (32 - 8) = 24 := by decide
  rw [e, shl32 v 24 (by omega), shri32 _ 24 (by omega), shr32 _ 24 (by omega)]
  have e2 : (2 : Int) ^ (24 : Int).toNat = 16777216 := by decide
  rw [e2]
  cases s
  · simp; omega
  · simp; unfold wrap32; split <;> omega
theorem low2 (v : Int) (s : Bool) (h0 : 0 ≤ v) (h1 : v < 4294967296) : word_low.f v 16 s = some (lowv v 2 s) := by
  unfold word_low.f lowv
  have e : IntKind.u64.wrap (32 - 16) = 16 := by decide
  rw [e, shl32 v 16 (by omega), shri32 _ 16 (by omega), shr32 _ 16 (by omega)]
  have e2 : (2 : Int) ^ (16 : Int).toNat = 65536 := by decide
  rw [e2]
  cases s
  · simp; omega
  · simp; unfold wrap32; split <;> omega
theorem low4 (v : Int) (s : Bool) (h0 : 0 ≤ v) (h1 : v < 4294967296) : word_low.f v 32 s = some (lowv v 4 s) := by
  unfold word_low.f lowv
  have e : IntKind.u64.wrap (32 - 32) = 0 := by decide
  rw [e, shl32 v 0 (by omega), shri32 _ 0 (by omega), shr32 _ 0 (by omega)]
  have e2 : (2 : Int) ^ (0 : Int).toNat = 1 := by decide
  rw [e2]
  cases s
  · simp; omega
  · simp; unfold wrap32; omega
theorem and255 (v : Int) (h0 : 0 ≤ v) (h1 : v < 4294967296) : bits .and .u32 v 255 = v % 256 := bits_mask .u32 32 (by decide) wraps_u32 8 (by decide) v h0 h1
/-! Values. -/
def val1 (x : Int) : Int := bits .or .u32 0 (shl .u32 (x % 4294967296) 0)
def val2 (x y : Int) : Int := bits .or .u32 (val1 x) (shl .u32 (y % 4294967296) 8)
def val4 (x y z u : Int) : Int := bits .or .u32 (bits .or .u32 (val2 x y) (shl .u32 (z % 4294967296) 16)) (shl .u32 (u % 4294967296) 24)
theorem w8 : IntKind.u64.wrap (wrap64 (8 * 1)) = 8 := by decide +kernel
theorem w16 : IntKind.u64.wrap (wrap64 (8 * 2)) = 16 := by decide +kernel
theorem w32 : IntKind.u64.wrap (wrap64 (8 * 4)) = 32 := by decide +kernel
theorem value1 (x : Int) (s : Bool) : word_Value.f 20 [x] s = some (lowv (val1 x) 1 s, 0) := by
  have h := low1 (val1 x) s (or_range _ _).1 (or_range _ _).2
  unfold val1 at h
  simp [word_Value.f, word_Value.j0, word_Value.l0, rd, wrap64, wrap_u64, h, val1]
theorem value2 (x y : Int) (s : Bool) : word_Value.f 20 [x, y] s = some (lowv (val2 x y) 2 s, 0) := by
  have h := low2 (val2 x y) s (or_range _ _).1 (or_range _ _).2
  unfold val2 val1 at h
  simp [word_Value.f, word_Value.j0, word_Value.l0, rd, wrap64, wrap_u64, h, val1, val2]
theorem value4 (x y z u : Int) (s : Bool) : word_Value.f 20 [x, y, z, u] s = some (lowv (val4 x y z u) 4 s, 0) := by
  have h := low4 (val4 x y z u) s (or_range _ _).1 (or_range _ _).2
  unfold val4 val2 val1 at h
  simp [word_Value.f, word_Value.j0, word_Value.l0, rd, wrap64, wrap_u64, h, val1, val2, val4]
end Go.Proofs.YtejhnlljddjicaaDoor.La
namespace Go.Proofs.YtejhnlljddjicaaDoor.La
open Go.RowKit Go.Proofs.YtejhnlljddjicaaDoor.PEm Go.Proofs.YtejhnlljddjicaaDoorW.PrintWords Go.Proofs.YtejhnlljddjicaaDoorW.PrintLast Go.Proofs.YtejhnlljddjicaaDoorW.PrintMore
theorem refInt (a : Int) (h0 : 0 ≤ a) (h1 : a < 4294967296) : mortiseref01_Int.f a = some (wrap32 a) := by
  unfold mortiseref01_Int.f
  by_cases h : a ≥ 2147483648
  · rw [if_pos h]; congr 1; unfold wrap64 wrap32; omega
  · rw [if_neg h]; congr 1; unfold wrap64 wrap32; omega
theorem refOf (n : Int) : mortiseref01_Of.f n = some (n % 4294967296) := by
  unfold mortiseref01_Of.f
  have h := bits_mask .u64 64 (by decide) (fun n h0 h1 => by rw [wrap_u64]; omega) 32 (by decide) (n % 18446744073709551616) (by omega) (by omega)
  have e : ((2 : Int) ^ 32 - 1) = 4294967295 := by decide
  rw [e] at h
  rw [wrap_u64, h]
  congr 1
  omega
theorem refFlag (b : Bool) : mortiseref01_flag.f b = some (bif b then 1 else 0) := by cases b <;> rfl
theorem flagv (b : Bool) : word_flag.f b = some (bif b then 1 else 0) := by cases b <;> rfl
theorem u64m (b : Int) (h0 : 0 ≤ b) : IntKind.u64.wrap (Int.tmod b 32) = b % 32 := by rw [wrap_u64, tmod32 b h0]; omega
theorem shri64 (a m : Int) (h0 : 0 ≤ m) (hm : m < 32) : shr .i64 a m = a / 2 ^ m.toNat := by
  unfold shr; rw [Nat.min_eq_left (by simp [IntKind.bits]; omega)]

theorem bin_eq (op a b : Int) (ha0 : 0 ≤ a) (ha1 : a < 4294967296) (hb0 : 0 ≤ b) (hb1 : b < 4294967296) :
    mortiseref01_Bin.f 30 op a b = word_Bin.f 30 op a b ∧ ∃ r, word_Bin.f 30 op a b = some r := by
  have hm0 : 0 ≤ b % 32 := by omega
  have hm1 : b % 32 < 32 := by omega
  by_cases e : op = 1 ∨ op = 2 ∨ op = 3 ∨ op = 4 ∨ op = 5 ∨ op = 6 ∨ op = 7 ∨ op = 8 ∨ op = 9 ∨ op = 10 ∨ op = 11 ∨ op = 12 ∨ op = 13 ∨ op = 14 ∨ op = 15 ∨ op = 16 ∨ op = 17 ∨ op = 18 ∨ op = 19
  · rcases e with rfl | rfl | rfl | rfl | rfl | rfl | rfl | rfl | rfl | rfl | rfl | rfl | rfl | rfl | rfl | rfl | rfl | rfl | rfl
    all_goals first
      | (simp [mortiseref01_Bin.f, mortiseref01_Bin.j0, word_Bin.f, word_Bin.j0, refFlag, flagv]; done)
      | (simp [mortiseref01_Bin.f, mortiseref01_Bin.j0, word_Bin.f, word_Bin.j0, refFlag, flagv, refInt a ha0 ha1, refInt b hb0 hb1, apply_ite]; done)
      | (rw [mortiseref01_Bin.f]; simp only [u64m b hb0]; simp [mortiseref01_Bin.j0, word_Bin.f, word_Bin.j0, and31 b hb0 hb1, refInt a ha0 ha1, refOf, shri64 _ _ hm0 hm1, shri32 _ _ hm1, hm0]; done)
      | (by_cases hb : b = 0
         · subst hb; simp [mortiseref01_Bin.f, mortiseref01_Bin.j0, word_Bin.f, word_Bin.j0]
         · have hw : wrap32 b ≠ 0 := by unfold wrap32; omega
           have hwb : wrap64 b = b := by unfold wrap64; omega
           have hwa : wrap64 a = a := by unfold wrap64; omega
           have ht : 0 ≤ Int.tdiv a b ∧ Int.tdiv a b < 4294967296 := by
             rw [Int.tdiv_eq_ediv_of_nonneg ha0]
             exact ⟨Int.ediv_nonneg ha0 hb0, Int.lt_of_le_of_lt (Int.ediv_le_self _ ha0) ha1⟩
           have hu : 0 ≤ Int.tmod a b ∧ Int.tmod a b < 4294967296 := by
             rw [Int.tmod_eq_emod_of_nonneg ha0]
             have := Int.emod_nonneg a hb
             have := Int.emod_lt_of_pos a (show 0 < b by omega)
             omega
           have hwt : wrap64 (Int.tdiv a b) = Int.tdiv a b := by unfold wrap64; omega
           have hum : Int.tmod a b % 4294967296 = Int.tmod a b := by omega
           simp [mortiseref01_Bin.f, mortiseref01_Bin.j0, mortiseref01_Bin.j1, mortiseref01_Bin.j2, mortiseref01_Bin.j3, mortiseref01_quotient.f, word_Bin.f, word_Bin.j0, word_divided.f, hb, refInt a ha0 ha1, refInt b hb0 hb1, refOf, wrap3264, hw, hwa, hwb, hwt, hum])
  · have n1 : op ≠ 1 := by omega
    have n2 : op ≠ 2 := by omega
    have n3 : op ≠ 3 := by omega
    have n4 : op ≠ 4 := by omega
    have n5 : op ≠ 5 := by omega
    have n6 : op ≠ 6 := by omega
    have n7 : op ≠ 7 := by omega
    have n8 : op ≠ 8 := by omega
    have n9 : op ≠ 9 := by omega
    have n10 : op ≠ 10 := by omega
    have n11 : op ≠ 11 := by omega
    have n12 : op ≠ 12 := by omega
    have n13 : op ≠ 13 := by omega
    have n14 : op ≠ 14 := by omega
    have n15 : op ≠ 15 := by omega
    have n16 : op ≠ 16 := by omega
    have n17 : op ≠ 17 := by omega
    have n18 : op ≠ 18 := by omega
    have n19 : op ≠ 19 := by omega
    have f7 : (op == 7) = false := by simpa using n7
    simp [mortiseref01_Bin.f, mortiseref01_Bin.j0, word_Bin.f, word_Bin.j0, n1, n2, n3, n4, n5, n6, n7, n8, n9, n10, n11, n12, n13, n14, n15, n16, n17, n18, n19]

end Go.Proofs.YtejhnlljddjicaaDoor.La
namespace Go.Proofs.YtejhnlljddjicaaDoor.Ma
open Go.RowKit Go.Proofs.YtejhnlljddjicaaDoor.PEm Go.Proofs.YtejhnlljddjicaaDoorW.PrintWords Go.Proofs.YtejhnlljddjicaaDoorW.PrintLast Go.Proofs.YtejhnlljddjicaaDoorW.PrintMore Go.Proofs.YtejhnlljddjicaaDoor.La
set_option linter.unusedVariables false
set_option linter.unusedSimpArgs false
variable {w w' : World} {c pg : Nat} {ps ps' : Pages} {S S' : Cpu} {inp out inp' out' : List Int}
/-- n bytes of the memory. -/
def memL (ps : Pages) (a : Nat) (n : Nat) : List Int := (List.range n).map fun i => byteAt ps (a + i)
/-- A number of n bytes. -/
def wordF (ps : Pages) (a : Nat) (n : Int) (sg : Bool) : Int :=
  if n = 1 then lowv (val1 (byteAt ps a)) 1 sg else if n = 2 then lowv (val2 (byteAt ps a) (byteAt ps (a + 1))) 2 sg
  else lowv (val4 (byteAt ps a) (byteAt ps (a + 1)) (byteAt ps (a + 2)) (byteAt ps (a + 3))) 4 sg
theorem word_value (ps : Pages) (a : Nat) (n : Int) (sg : Bool) (hn : n = 1 ∨ n = 2 ∨ n = 4) : word_Value.f 20 (memL ps a n.toNat) sg = some (wordF ps a n sg, 0) := by
  rcases hn with rfl | rfl | rfl
  · exact value1 _ sg
  · exact value2 _ _ sg
  · exact value4 _ _ _ _ sg
theorem byte_in {g : Nat} {bs : List Int} {a : Nat} (hk : ps[a / 4096]? = some (some (g, bs))) : byteAt ps a = (bs[a % 4096]?).getD 0 := by unfold byteAt; rw [hk]
theorem byte_out {a : Nat} (hk : ps[a / 4096]? = some none) : byteAt ps a = 0 := by unfold byteAt; rw [hk]
theorem page_C {g : Nat} {bs : List Int} (hg : w.heap[g]? = some (.cells (byteRow bs) 5 (0, 0))) (hl : bs.length = 4096) {a n : Nat} (hk : ps[a / 4096]? = some (some (g, bs))) (hr : a % 4096 + n ≤ 4096) :
    Kd.C (Kd.int .u8) w (some ⟨g, a % 4096, none⟩) n (memL ps a n) := by
  refine ⟨by simp [memL], by omega, fun h0 => ⟨_, rfl, ?_⟩⟩
  intro j p hp
  have hj : j < n := by
    have := (List.getElem?_eq_some_iff.1 hp).1
    simpa [memL] using this
  refine ⟨[.int .u8 p], rfl, rfl, ?_⟩
  intro q u hu
  have hq : q = 0 := by
    have := (List.getElem?_eq_some_iff.1 hu).1
    simp at this; omega
  subst hq
  simp only [List.getElem?_cons_zero, Option.some.injEq] at hu
  subst hu
  have e : (Kd.int .u8).sz = 1 := rfl
  rw [e]
  have hp2 : p = byteAt ps (a + j) := by
    simp only [memL, List.getElem?_map, List.getElem?_range hj, Option.map_some, Option.some.injEq] at hp
    exact hp.symm
  have hd : (a + j) / 4096 = a / 4096 := by omega
  have hm : (a + j) % 4096 = a % 4096 + j := by omega
  rw [byte_in (by rw [hd]; exact hk), hm] at hp2
  have hx : bs[a % 4096 + j]? = some p := by
    rw [List.getElem?_eq_getElem (by omega)] at hp2 ⊢
    simp at hp2; rw [hp2]
  have hc : w.cell? ⟨g, a % 4096 + j, none⟩ = some (.int .u8 p) := by
    rw [blk_cell hg]
    simp [byteRow, hx]
  simp only [Addr.add]
  split
  · next h => rw [show a % 4096 + j = a % 4096 by omega] at hc; exact hc
  · rw [show a % 4096 + (j * 1 + 0) = a % 4096 + j by omega]; exact hc
theorem wordF_out {a : Nat} {n : Int} (sg : Bool) (hn : n = 1 ∨ n = 2 ∨ n = 4) (hk : ps[a / 4096]? = some none) (hr : a % 4096 + n.toNat ≤ 4096) : wordF ps a n sg = 0 := by
  have hb : ∀ j, j < n.toNat → byteAt ps (a + j) = 0 := fun j hj => byte_out (by rw [show (a + j) / 4096 = a / 4096 by omega]; exact hk)
  unfold wordF
  rcases hn with rfl | rfl | rfl
  · have h0 := hb 0 (by decide)
    simp only [Nat.add_zero] at h0
    rw [if_pos rfl, h0]; cases sg <;> decide +kernel
  · have h0 := hb 0 (by decide)
    simp only [Nat.add_zero] at h0
    rw [if_neg (by decide), if_pos rfl, h0, hb 1 (by decide)]; cases sg <;> decide +kernel
  · have h0 := hb 0 (by decide)
    simp only [Nat.add_zero] at h0
    rw [if_neg (by decide), if_neg (by decide), h0, hb 1 (by decide), hb 2 (by decide), hb 3 (by decide)]; cases sg <;> decide +kernel
set_option maxHeartbeats 4000000 in
set_option maxRecDepth 100000 in
theorem word_calls (h : EM w c pg ps S inp out) (a : Int) (n : Int) (sg : Bool) (h0 : 0 ≤ a) (h1 : a < 8388608) (hn : n = 1 ∨ n = 2 ∨ n = 4) (hr : a % 4096 + n ≤ 4096) : Calls Tryd.prog 37 #[.pointer (some ⟨c, 0, none⟩), .int .i64 a, .int .i64 n, .bool sg] w fun e w' => e = .returned (.int .u32 (wordF ps a.toNat n sg)) ∧ Below w.heap.size w w' := by
  have c0 := h.k0
  have c1 := h.pgcell (a / 4096).toNat
  have e1 := ne22
  have e0 := eq22
  have hb0 : 0 ≤ a / 4096 := by omega
  have hb1 : a / 4096 < 2048 := by omega
  have hm0 : 0 ≤ a % 4096 := by omega
  have hn0 : 1 ≤ n := by omega
  have hn1 : n ≤ 4 := by omega
  have hkn : (a / 4096).toNat = a.toNat / 4096 := by omega
  have hmn : (a % 4096).toNat = a.toNat % 4096 := by omega
  have hl : (a / 4096).toNat < ps.length := by rw [h.npg]; omega
  cases hk : ps[(a / 4096).toNat]? with
  | none => rw [List.getElem?_eq_none_iff] at hk; omega
  | some p =>
    rw [hk] at c1
    simp only [Option.map_some] at c1
    cases p with
    | none =>
      have hw := wordF_out sg hn (by rw [← hkn]; exact hk) (by omega)
      rw [hw]
      simp only [pgVal] at c1
      clear h hk hl hw hkn hmn
      go_enter Tryd.func37, Tryd.ntmps37
      go_wp2
      go_ret
      exact ⟨rfl, Below.refl _ _⟩
    | some q =>
      obtain ⟨g, bs⟩ := q
      simp only [pgVal] at c1
      obtain ⟨hg, hlen, _⟩ := h.page g bs (List.mem_of_getElem? hk)
      have hC := page_C (a := a.toNat) (n := n.toNat) hg hlen (by rw [← hkn]; exact hk) (by omega)
      have hln : (memL ps a.toNat n.toNat).length = n.toNat := by simp [memL]
      have HV := Aside0.mk (fun W (hW : Below w.heap.size w W) => word_Value.calls 20 (some ⟨g, a.toNat % 4096, none⟩) (4096 - a.toNat % 4096) (memL ps a.toNat n.toNat) sg (wordF ps a.toNat n sg) 0 W (by rw [hln]; exact Kd.C_below hC hW) (by rw [hln]; omega) (word_value ps a.toNat n sg hn))
      rw [hln] at HV
      have HM := Aside0.mk hmn
      have HQ := Aside0.mk (show (a % 4096 + n).toNat - (a % 4096).toNat = n.toNat by omega)
      clear h hk hl hkn hmn hC hg hlen hln
      go_enter Tryd.func37, Tryd.ntmps37
      go_wp2_with (fail)
      rw [HQ.out, HM.out]
      go_at_call 62
      refine (HV.out w (Below.refl _ _)).mono ?_
      rintro e w' ⟨rfl, ⟨nd, rfl⟩⟩
      go_wp2_with (fail)
      go_ret
      exact ⟨rfl, by (repeat (first | (with_reducible exact Below.refl _ _) | (with_reducible assumption) | with_reducible apply below_alloc | with_reducible apply pw_below_drewN | with_reducible apply below_drew1))⟩
end Go.Proofs.YtejhnlljddjicaaDoor.Ma
namespace Go.Proofs.YtejhnlljddjicaaDoor.Ma
open Go.RowKit Go.Proofs.YtejhnlljddjicaaDoor.PEm Go.Proofs.YtejhnlljddjicaaDoorW.PrintWords Go.Proofs.YtejhnlljddjicaaDoorW.PrintLast Go.Proofs.YtejhnlljddjicaaDoorW.PrintMore
set_option linter.unusedVariables false
set_option linter.unusedSimpArgs false
variable {w w' : World} {c pg : Nat} {ps ps' : Pages} {S S' : Cpu} {inp out inp' out' : List Int}
theorem map_same {α β : Type} (f : α → β) (l : List α) (k : Nat) (x y : α) (hk : l[k]? = some x) (e : f y = f x) : (l.set k y).map f = l.map f := by
  rw [List.map_set]
  apply List.ext_getElem?
  intro i
  by_cases h : k = i
  · subst h
    have := (List.getElem?_eq_some_iff.1 hk).1
    rw [List.getElem?_set_self (by simpa using this), List.getElem?_map, hk, e]; rfl
  · rw [List.getElem?_set_ne h]
theorem blocks_same {k g : Nat} {bs bs' : List Int} (hk : ps[k]? = some (some (g, bs))) : blocks (ps.set k (some (g, bs'))) = blocks ps := by
  have h1 : ∀ l : Pages, blocks l = (l.map fun p => p.map (·.1)).filterMap id := by intro l; unfold blocks; rw [List.filterMap_map]; rfl
  rw [h1, h1, map_same _ _ _ _ _ hk]
  rfl
theorem blocks_inj : ∀ (ps : Pages), (blocks ps).Nodup → ∀ (i k g : Nat) (a b : List Int), ps[i]? = some (some (g, a)) → ps[k]? = some (some (g, b)) → i = k
  | [], _, i, k, g, a, b, h, _ => by simp at h
  | none :: ps, hn, 0, k, g, a, b, h, _ => by simp at h
  | none :: ps, hn, i + 1, 0, g, a, b, _, h => by simp at h
  | none :: ps, hn, i + 1, k + 1, g, a, b, h1, h2 => by
    have := blocks_inj ps (by simpa [blocks] using hn) i k g a b (by simpa using h1) (by simpa using h2)
    omega
  | some q :: ps, hn, i, k, g, a, b, h1, h2 => by
    have hn2 : (q.1 :: blocks ps).Nodup := by simpa [blocks] using hn
    obtain ⟨hq, hn3⟩ := List.nodup_cons.1 hn2
    have hm : ∀ (j : Nat) (x : List Int), ps[j]? = some (some (g, x)) → g ∈ blocks ps := fun j x hx => by
      unfold blocks; rw [List.mem_filterMap]; exact ⟨_, List.mem_of_getElem? hx, rfl⟩
    cases i with
    | zero =>
      cases k with
      | zero => rfl
      | succ k =>
        simp only [List.getElem?_cons_zero, Option.some.injEq] at h1
        subst h1
        exact absurd (hm k b (by simpa using h2)) hq
    | succ i =>
      cases k with
      | zero =>
        simp only [List.getElem?_cons_zero, Option.some.injEq] at h2
        subst h2
        exact absurd (hm i a (by simpa using h1)) hq
      | succ k =>
        have := blocks_inj ps hn3 i k g a b (by simpa using h1) (by simpa using h2)
        omega
theorem EM.setbyte (h : EM w c pg ps S inp out) {k g : Nat} {bs : List Int} (hk : ps[k]? = some (some (g, bs))) (o : Nat) (ho : o < 4096) (b : Int) (hb : 0 ≤ b ∧ b < 256) :
    Did w (w.setCell ⟨g, o, none⟩ (.int .u8 b)) c pg ps S (ps.set k (some (g, bs.set o b))) S inp out := by
  have hnd := h.nodup
  have hgb : g ∈ blocks ps := by unfold blocks; rw [List.mem_filterMap]; exact ⟨_, List.mem_of_getElem? hk, rfl⟩
  have hgf : g ∈ foot c pg ps S := by simp only [foot, List.mem_cons, List.mem_append]; exact .inr (.inr (.inl hgb))
  have xE : Ext (fun i => i = g) w (w.setCell ⟨g, o, none⟩ (.int .u8 b)) := Ext.setCell (F := fun i => i = g) (p := ⟨g, o, none⟩) (Ext.refl _ _) (Or.inl rfl) _
  have hf : foot c pg (ps.set k (some (g, bs.set o b))) S = foot c pg ps S := by unfold foot; rw [blocks_same hk]
  have hn1 := hnd
  unfold foot at hn1
  obtain ⟨a1, hn2⟩ := List.nodup_cons.1 hn1
  obtain ⟨a2, hn3⟩ := List.nodup_cons.1 hn2
  obtain ⟨a3, a4, a5⟩ := List.nodup_append.1 hn3
  obtain ⟨hg, hlen, hbs⟩ := h.page g bs (List.mem_of_getElem? hk)
  refine ⟨⟨xE.at h.head (fun e => a1 (e ▸ by simp [hgb])), h.nreg, h.regIn, h.pcIn, h.codeIn, ?_, by simp [h.npg], ?_, by rw [hf]; exact hnd, ?_, ?_⟩, xE.mono (fun i hi => by subst hi; exact hgf), fun i hi => .inl (by rw [hf] at hi; exact hi)⟩
  · rw [map_same pgVal ps k _ (some (g, bs.set o b)) hk rfl]
    exact xE.at h.pages (fun e => a2 (e ▸ by simp [hgb]))
  · intro g' bs' hm
    obtain ⟨i, hi⟩ := List.getElem?_of_mem hm
    by_cases e : k = i
    · subst e
      rw [List.getElem?_set_self (List.getElem?_eq_some_iff.1 hk).1] at hi
      simp only [Option.some.injEq, Prod.mk.injEq] at hi
      obtain ⟨rfl, rfl⟩ := hi
      refine ⟨blk_put hg o _ ?_, by simp [hlen], fun x hx => ?_⟩
      · apply Array.ext'
        simp [byteRow, List.map_set]
      · exact (List.mem_or_eq_of_mem_set hx).elim (hbs x) (fun e => e ▸ hb)
    · rw [List.getElem?_set_ne e] at hi
      have hne : g' ≠ g := fun e2 => e (blocks_inj ps a3 k i g bs bs' hk (e2 ▸ hi))
      obtain ⟨h1, h2⟩ := h.page g' bs' (List.mem_of_getElem? hi)
      exact ⟨xE.at h1 hne, h2⟩
  · obtain ⟨A, cap, e1, hl, hC, hA⟩ := h.inS
    refine ⟨A, cap, e1, hl, ?_, fun ad ha => ⟨by rw [hf]; exact (hA ad ha).1, Nat.lt_of_lt_of_le (hA ad ha).2 xE.size⟩⟩
    refine ⟨hC.1, hC.2.1, fun h0 => ?_⟩
    obtain ⟨ad, ha, hx⟩ := hC.2.2 h0
    refine ⟨ad, ha, fun j p hj => ?_⟩
    obtain ⟨cs, h1, h2, h3⟩ := hx j p hj
    refine ⟨cs, h1, h2, fun q v hq => ?_⟩
    have hb := xE.block ad.block (hA ad ha).2 (fun e2 => (hA ad ha).1 (by rw [e2]; exact hgf))
    have := h3 q v hq
    have hbl : (ad.add (j * (Kd.int .u8).sz + q)).block = ad.block := by unfold Addr.add; split <;> rfl
    unfold World.cell? at this ⊢
    rw [hbl] at this ⊢
    rw [hb]; exact this
  · obtain ⟨base, hR⟩ := h.outS
    refine ⟨base, Kd.R_mono (Kd.R_step (Kd.R_tight rfl hR) (fun j hj hlt => xE.block j hlt (fun e2 => a5 g hgb j (by simp [← hj]) e2.symm))) (fun _ _ => trivial)⟩
/-- The memory with a byte put into it. -/
theorem byte_set {k g : Nat} {bs : List Int} (hk : ps[k]? = some (some (g, bs))) (hl : bs.length = 4096) (o : Nat) (ho : o < 4096) (b : Int) (a : Nat) :
    byteAt (ps.set k (some (g, bs.set o b))) a = if a = k * 4096 + o then b else byteAt ps a := by
  unfold byteAt
  by_cases e : k = a / 4096
  · subst e
    rw [List.getElem?_set_self (List.getElem?_eq_some_iff.1 hk).1, hk]
    simp only
    by_cases e2 : a % 4096 = o
    · rw [if_pos (by omega), e2, List.getElem?_set_self (by omega)]; rfl
    · rw [if_neg (by omega), List.getElem?_set_ne (by omega)]
  · rw [List.getElem?_set_ne e, if_neg (by omega)]
end Go.Proofs.YtejhnlljddjicaaDoor.Ma
namespace Go.Proofs.YtejhnlljddjicaaDoor.Ma
open Go.RowKit Go.Proofs.YtejhnlljddjicaaDoor.PEm Go.Proofs.YtejhnlljddjicaaDoorW.PrintWords Go.Proofs.YtejhnlljddjicaaDoorW.PrintLast Go.Proofs.YtejhnlljddjicaaDoorW.PrintMore Go.Proofs.YtejhnlljddjicaaDoor.La
set_option linter.unusedVariables false
set_option linter.unusedSimpArgs false
variable {w w' : World} {c pg : Nat} {ps ps' : Pages} {S S' : Cpu} {inp out inp' out' : List Int}
/-- What an operation makes of two numbers; false: a division by nought. -/
def binP (op a b : Int) : Int × Bool := (word_Bin.f 30 op a b).getD (0, false)
def reckF (S : Cpu) (op : Int) (a : Nat) (x y : Int) : Cpu := if (binP op x y).2 then { S with regs := S.regs.set a (binP op x y).1 } else S
set_option maxHeartbeats 4000000 in
set_option maxRecDepth 100000 in
theorem reckon_calls (h : EM w c pg ps S inp out) (op : Int) (a : Nat) (ha : a < 16) (x y : Int) (hx : 0 ≤ x ∧ x < 4294967296) (hy : 0 ≤ y ∧ y < 4294967296) (hr : 0 ≤ (binP op x y).1 ∧ (binP op x y).1 < 4294967296) :
    Calls Tryd.prog 39 #[.pointer (some ⟨c, 0, none⟩), .int .i64 op, .int .i64 a, .int .u32 x, .int .u32 y] w fun e w' => e = .returned (if (binP op x y).2 then .nilIface else .iface 79 (.agg #[.int .i64 2, .int .i64 0])) ∧ Did w w' c pg ps S ps (reckF S op a x y) inp out := by
  obtain ⟨_, ⟨r, ok⟩, hf⟩ := bin_eq op x y hx.1 hx.2 hy.1 hy.2
  have hb : binP op x y = (r, ok) := by unfold binP; rw [hf]; rfl
  unfold reckF
  rw [hb] at hr ⊢
  simp only at hr ⊢
  have HF := Aside0.mk hf
  have H := Aside0.mk h
  have HR := Aside0.mk hr
  have ha0 : (a : Int) < 16 := by omega
  obtain ⟨v, hv⟩ : ∃ v, S.regs[a]? = some v := ⟨_, List.getElem?_eq_getElem (by rw [h.nreg]; exact ha)⟩
  have k := h.kr hv
  have fz := h.fz (3 + a)
  clear h hf hb hr hx hy hv
  cases ok
  · go_enter Tryd.func39, Tryd.ntmps39
    go_wp2_with (first | (go_at_call 63; refine (word_Bin.calls 30 _ _ _ _ _ _ HF.out).mono ?_; rintro e w' ⟨rfl, ⟨nd, rfl⟩⟩))
    go_ret
    exact ⟨rfl, Did.same H.out (by (repeat (first | (with_reducible exact Below.refl _ _) | (with_reducible assumption) | with_reducible apply below_alloc | with_reducible apply pw_below_drewN | with_reducible apply below_drew1)))⟩
  · go_enter Tryd.func39, Tryd.ntmps39
    go_wp2_with (first | (go_at_call 63; refine (word_Bin.calls 30 _ _ _ _ _ _ HF.out).mono ?_; rintro e w' ⟨rfl, ⟨nd, rfl⟩⟩))
    go_ret
    exact ⟨rfl, Did.pre (by (repeat (first | (with_reducible exact Below.refl _ _) | (with_reducible assumption) | with_reducible apply below_alloc | with_reducible apply pw_below_drewN | with_reducible apply below_drew1))) ((H.out.below (by (repeat (first | (with_reducible exact Below.refl _ _) | (with_reducible assumption) | with_reducible apply below_alloc | with_reducible apply pw_below_drewN | with_reducible apply below_drew1)))).set_reg a ha r HR.out.1 HR.out.2)⟩
end Go.Proofs.YtejhnlljddjicaaDoor.Ma
namespace Go.Proofs.YtejhnlljddjicaaDoor.Ma
open Go.RowKit Go.Proofs.YtejhnlljddjicaaDoor.PEm Go.Proofs.YtejhnlljddjicaaDoorW.PrintWords Go.Proofs.YtejhnlljddjicaaDoorW.PrintLast Go.Proofs.YtejhnlljddjicaaDoorW.PrintMore Go.Proofs.YtejhnlljddjicaaDoor.La
set_option linter.unusedVariables false
set_option linter.unusedSimpArgs false
variable {w w' : World} {c pg : Nat} {ps ps' : Pages} {S S' : Cpu} {inp out inp' out' : List Int}
theorem far_cell {W W1 : World} {g i k j : Nat} {v u : Value} (hk : W1.cell? ⟨g, i, none⟩ = some v) (hb : Below W1.heap.size W1 W) (hne : ¬ k = g) : (W.setCell ⟨k, j, none⟩ u).cell? ⟨g, i, none⟩ = some v := by
  rw [World.cell?_setCell_far _ _ _ _ (show (⟨k, j, none⟩ : Addr).block ≠ (⟨g, i, none⟩ : Addr).block from hne)]
  exact pw_cell_below hb hk
/-- An instruction. -/
structure I5 where
  op : Int
  a : Nat
  b : Nat
  c : Nat
  imm : Int
def I5.enc (x : I5) : Value := .agg #[.int .i64 x.op, .int .i64 x.a, .int .i64 x.b, .int .i64 x.c, .int .i64 x.imm]
theorem lowv_range (v : Int) (n : Nat) (s : Bool) (h0 : 0 ≤ v) (h1 : v < 4294967296) : 0 ≤ lowv v n s ∧ lowv v n s < 4294967296 := by
  unfold lowv; repeat' split <;> omega
theorem wordF_range (ps : Pages) (a : Nat) (n : Int) (sg : Bool) : 0 ≤ wordF ps a n sg ∧ wordF ps a n sg < 4294967296 := by
  unfold wordF
  split
  · exact lowv_range _ _ _ (or_range _ _).1 (or_range _ _).2
  · split
    · exact lowv_range _ _ _ (or_range _ _).1 (or_range _ _).2
    · exact lowv_range _ _ _ (or_range _ _).1 (or_range _ _).2
/-- The address of an access. -/
def addrF (S : Cpu) (x : I5) : Int := ((S.regs[x.b]?).getD 0 + x.imm % 4294967296) % 4294967296
def loadF (ps : Pages) (S : Cpu) (x : I5) (n : Int) (sg : Bool) : Cpu := if mayF S.code (addrF S x) n false = 0 then { S with regs := S.regs.set x.a (wordF ps (addrF S x).toNat n sg) } else S
theorem may_zero {code i n : Int} (h : mayF code i n false = 0) : i % n = 0 ∧ 4096 ≤ i ∧ i ≤ 8388608 - n := by
  unfold mayF at h
  split at h
  · omega
  · split at h
    · omega
    · simp at *; omega
set_option maxHeartbeats 4000000 in
set_option maxRecDepth 100000 in
theorem load_calls (h : EM w c pg ps S inp out) (x : I5) (n : Int) (sg : Bool) (hn : n = 1 ∨ n = 2 ∨ n = 4) (ha : x.a < 16) (hb : x.b < 16) (hi : -8388608 ≤ x.imm ∧ x.imm ≤ 16777216) :
    Calls Tryd.prog 64 #[.pointer (some ⟨c, 0, none⟩), x.enc, .int .i64 n, .bool sg] w fun e w' => e = .returned (errT (mayF S.code (addrF S x) n false)) ∧ Did w w' c pg ps S ps (loadF ps S x n sg) inp out := by
  obtain ⟨op, a, b, d, imm⟩ := x
  unfold I5.enc
  simp only at ha hb hi ⊢
  obtain ⟨v, hv⟩ : ∃ v, S.regs[b]? = some v := ⟨_, List.getElem?_eq_getElem (by rw [h.nreg]; exact hb)⟩
  have hva := h.regIn v (List.mem_of_getElem? hv)
  obtain ⟨u, hu⟩ : ∃ u, S.regs[a]? = some u := ⟨_, List.getElem?_eq_getElem (by rw [h.nreg]; exact ha)⟩
  have hA : addrF S ⟨op, a, b, d, imm⟩ = (v + imm % 4294967296) % 4294967296 := by unfold addrF; simp only; rw [hv]; rfl
  obtain ⟨at_, hat⟩ : ∃ q, q = (v + imm % 4294967296) % 4294967296 := ⟨_, rfl⟩
  unfold loadF
  rw [hA, ← hat]
  have HAT := Aside0.mk hat
  have H := Aside0.mk h
  have HB := Aside0.mk (h.below (below_alloc (Below.refl _ _) (.cells #[.int .i64 op, .int .i64 a, .int .i64 b, .int .i64 d, .int .i64 imm] 67)))
  have kb := HB.out.kr hv
  have ha0 : (a : Int) < 16 := by omega
  have hb0 : (b : Int) < 16 := by omega
  have hw0 : IntKind.u32.wrap (v + imm % 4294967296) = at_ := by rw [hat, IntKind.wrap_u32]
  have hw1 : IntKind.i64.wrap at_ = at_ := IntWalk.i64_in _ (by omega)
  obtain ⟨i0, i1⟩ := hi
  obtain ⟨v0, v1⟩ := hva
  have hr := Aside0.mk (show 0 ≤ at_ ∧ at_ < 4294967296 by omega)
  have HN := Aside0.mk hn
  have HU := Aside0.mk hu
  clear h hv hu hA hat hn
  go_enter Tryd.func64, Tryd.ntmps64
  go_upto_region 1 with (fail)
  have R5 := Aside0.mk (show (w.alloc (.cells #[.int .i64 op, .int .i64 a, .int .i64 b, .int .i64 d, .int .i64 imm] 67)).heap[w.heap.size]? = some (.cells #[.int .i64 op, .int .i64 a, .int .i64 b, .int .i64 d, .int .i64 imm] 67 (0, 0)) from heap_at _ _ _ rfl)
  have B0 := Aside0.mk (show Below w.heap.size w (w.alloc (.cells #[.int .i64 op, .int .i64 a, .int .i64 b, .int .i64 d, .int .i64 imm] 67)) by (repeat (first | (with_reducible exact Below.refl _ _) | (with_reducible assumption) | with_reducible apply below_alloc | with_reducible apply pw_below_drewN | with_reducible apply below_drew1)))
  have NG := Aside0.mk (show w.heap.size ∉ foot c pg ps S from fun hh => absurd (H.out.foot_lt _ hh) (by omega))
  generalize (w.alloc (.cells #[.int .i64 op, .int .i64 a, .int .i64 b, .int .i64 d, .int .i64 imm] 67)) = W0 at HB kb R5 B0 ⊢
  generalize w.heap.size = g5 at R5 NG ⊢
  have b1 := (blk_cell R5.out 1).trans rfl
  have b2 := (blk_cell R5.out 2).trans rfl
  have b4 := (blk_cell R5.out 4).trans rfl
  refine wp_region_still_tail 13 (by kernel_rfl) (by kernel_rfl) ?_
  simp only [List.take_succ_cons, List.take_zero, List.drop_succ_cons, List.drop_zero]
  repeat (with_reducible refine wpStill_step (fun K hK => ?_); go_simp; with_reducible refine hK _ ?_; clear hK K)
  with_reducible refine wpStill_step (fun K hK => ?_)
  go_simp
  refine ⟨_, Of_still _ _, hK _ ?_⟩
  clear hK K
  repeat (with_reducible refine wpStill_step (fun K hK => ?_); go_simp; with_reducible refine hK _ ?_; clear hK K)
  with_reducible refine wpStill_nil ?_
  change wpList _ _ _ _ _ W0.drew
  clear b1 b2 b4 kb
  have D0 := Aside0.mk (Below.refl W0.heap.size W0).drew
  have EW := Aside0.mk (HB.out.below D0.out)
  have R6 := Aside0.mk (blk_below R5.out D0.out)
  have b1 := (blk_cell R6.out 1).trans rfl
  go_wp2_with (fail)
  go_at_call 83
  refine (may_calls EW.out at_ n false hr.out HN.out).mono ?_
  rintro e w' ⟨rfl, rfl⟩
  by_cases c0 : mayF S.code at_ n false = 0
  · obtain ⟨m0, m1, m2⟩ := may_zero c0
    have hpg : at_ % 4096 + n ≤ 4096 := by rcases HN.out with rfl | rfl | rfl <;> omega
    have hat2 : at_ < 8388608 := by rcases HN.out with rfl | rfl | rfl <;> omega
    have hat3 : 0 ≤ at_ := hr.out.1
    have C0 := Aside0.mk c0
    rw [c0, show errT 0 = .nilIface from rfl]
    have HM := Aside0.mk (And.intro hat3 (And.intro hat2 hpg))
    have NGC : ¬ c = g5 := fun e => NG.out (by rw [← e]; simp [foot])
    clear m0 m1 m2 hpg hat2 hat3
    obtain ⟨W1, hW1⟩ : ∃ x, x = W0.drew := ⟨_, rfl⟩
    rw [← hW1] at EW R6 b1 D0 ⊢
    clear hW1
    go_upto_region 4 with (fail)
    go_region_held3 (fun w' => w'.cell? ⟨g5, 1, none⟩ = some (.int .i64 a)) (first | assumption | exact far_cell b1 hBx NGC | (refine pw_cell_below ?_ b1; (repeat (first | (with_reducible exact Below.refl _ _) | (with_reducible assumption) | with_reducible apply below_alloc | with_reducible apply pw_below_drewN | with_reducible apply below_drew1)); done)) ((go_at_call 37; refine (word_calls (EW.out.below (by first | assumption | (repeat (first | (with_reducible exact Below.refl _ _) | (with_reducible assumption) | with_reducible apply below_alloc | with_reducible apply pw_below_drewN | with_reducible apply below_drew1)))) at_ n sg HM.out.1 HM.out.2.1 HN.out HM.out.2.2).mono ?_; rintro e WX ⟨rfl, hB1⟩; have hBx := pm_chain (w := W1) (by first | assumption | (repeat (first | (with_reducible exact Below.refl _ _) | (with_reducible assumption) | with_reducible apply below_alloc | with_reducible apply pw_below_drewN | with_reducible apply below_drew1))) hB1; have kx := (EW.out.below hBx).kr HU.out; have fx := (EW.out.below hBx).fz (3 + a); clear hB1))
    all_goals go_wp2_with (fail)
    all_goals go_ret
    all_goals first | exact ⟨rfl, Did.pre (pm_chain B0.out (pm_chain D0.out hBx)) ((EW.out.below hBx).set_reg a ha _ (wordF_range _ _ _ _).1 (wordF_range _ _ _ _).2)⟩ | trace_state
  · have hne : errT (mayF S.code at_ n false) = .iface 77 (.agg #[.int .i64 (mayF S.code at_ n false)]) := by unfold errT; rw [if_neg c0]
    have C0 := Aside0.mk c0
    rw [hne]
    clear hne
    go_wp2_with (fail)
    go_ret
    have hd : Did w W0.drew c pg ps S ps S inp out := Did.same H.out (pm_chain B0.out D0.out)
    first | exact ⟨rfl, hd⟩ | (simp [errT, C0.out]; exact hd)
end Go.Proofs.YtejhnlljddjicaaDoor.Ma
