/- The pure statement of WordBins: each operation on two 32-bit numbers is the document's. No condition. -/
import Derived.Test.YtmkhfedemoccoaaPWdx6
import Derived.Test.YtmkhfedemoccoaaLa
namespace Go.Proofs.Ytmkhfedemoccoaa.Pure
open Go.RowKit Go.Proofs.Ytmkhfedemoccoaa.PWd Go.Proofs.YtmkhfedemoccoaaW.PrintWords Go.Proofs.YtmkhfedemoccoaaW.PrintLast Go.Proofs.YtmkhfedemoccoaaW.PrintMore Go.Proofs.Ytmkhfedemoccoaa.La

theorem refInt (a : Int) (h0 : 0 ≤ a) (h1 : a < 4294967296) : mortiseref01_Int.f a = some (wrap32 a) := by
  unfold mortiseref01_Int.f
  by_cases h : a ≥ 2147483648
  · rw [if_pos h]; congr 1; unfold wrap64 wrap32; omega
  · rw [if_neg h]; congr 1; unfold wrap64 wrap32; omega
theorem wrap_u64 (n : Int) : IntKind.u64.wrap n = n % 18446744073709551616 := by simp [IntKind.wrap, IntKind.bits, IntKind.signed]
theorem refOf (n : Int) : mortiseref01_Of.f n = some (n % 4294967296) := by
  unfold mortiseref01_Of.f
  have h := bits_mask .u64 64 (by decide) (fun n h0 h1 => by rw [wrap_u64]; omega) 32 (by decide) (n % 18446744073709551616) (by omega) (by omega)
  have e : ((2 : Int) ^ 32 - 1) = 4294967295 := by decide
  rw [e] at h
  rw [wrap_u64, h]
  congr 1
  omega
theorem refFlag (b : Bool) : mortiseref01_flag.f b = some (bif b then 1 else 0) := by cases b <;> rfl
theorem flagv (b : Bool) : word_flag.f b = some (bif b then 1 else 0) := by cases b <;> rfl
theorem u64m (b : Int) (h0 : 0 ≤ b) : IntKind.u64.wrap (Int.tmod b 32) = b % 32 := by rw [wrap_u64, tmod32 b h0]; omega
theorem shri64 (a m : Int) (h0 : 0 ≤ m) (hm : m < 32) : shr .i64 a m = a / 2 ^ m.toNat := by
  unfold shr; rw [Nat.min_eq_left (by simp [IntKind.bits]; omega)]

theorem bin_eq (op a b : Int) (ha0 : 0 ≤ a) (ha1 : a < 4294967296) (hb0 : 0 ≤ b) (hb1 : b < 4294967296) :
    mortiseref01_Bin.f 30 op a b = word_Bin.f 30 op a b ∧ ∃ r, word_Bin.f 30 op a b = some r := by
  have hm0 : 0 ≤ b % 32 := by omega
  have hm1 : b % 32 < 32 := by omega
  by_cases e : op = 1 ∨ op = 2 ∨ op = 3 ∨ op = 4 ∨ op = 5 ∨ op = 6 ∨ op = 7 ∨ op = 8 ∨ op = 9 ∨ op = 10 ∨ op = 11 ∨ op = 12 ∨ op = 13 ∨ op = 14 ∨ op = 15 ∨ op = 16 ∨ op = 17 ∨ op = 18 ∨ op = 19
  · rcases e with rfl | rfl | rfl | rfl | rfl | rfl | rfl | rfl | rfl | rfl | rfl | rfl | rfl | rfl | rfl | rfl | rfl | rfl | rfl
    all_goals first
      | (simp [mortiseref01_Bin.f, mortiseref01_Bin.j0, word_Bin.f, word_Bin.j0, refFlag, flagv]; done)
      | (simp [mortiseref01_Bin.f, mortiseref01_Bin.j0, word_Bin.f, word_Bin.j0, refFlag, flagv, refInt a ha0 ha1, refInt b hb0 hb1, apply_ite]; done)
      | (rw [mortiseref01_Bin.f]; simp only [u64m b hb0]; simp [mortiseref01_Bin.j0, word_Bin.f, word_Bin.j0, and31 b hb0 hb1, refInt a ha0 ha1, refOf, shri64 _ _ hm0 hm1, shri32 _ _ hm1, hm0]; done)
      | (by_cases hb : b = 0
         · subst hb; simp [mortiseref01_Bin.f, mortiseref01_Bin.j0, word_Bin.f, word_Bin.j0]
         · have hw : wrap32 b ≠ 0 := by unfold wrap32; omega
           have hwb : wrap64 b = b := by unfold wrap64; omega
           have hwa : wrap64 a = a := by unfold wrap64; omega
           have ht : 0 ≤ Int.tdiv a b ∧ Int.tdiv a b < 4294967296 := by
             rw [Int.tdiv_eq_ediv_of_nonneg ha0]
             exact ⟨Int.ediv_nonneg ha0 hb0, Int.lt_of_le_of_lt (Int.ediv_le_self _ ha0) ha1⟩
           have hu : 0 ≤ Int.tmod a b ∧ Int.tmod a b < 4294967296 := by
             rw [Int.tmod_eq_emod_of_nonneg ha0]
             have := Int.emod_nonneg a hb
             have := Int.emod_lt_of_pos a (show 0 < b by omega)
             omega
           have hwt : wrap64 (Int.tdiv a b) = Int.tdiv a b := by unfold wrap64; omega
           have hum : Int.tmod a b % 4294967296 = Int.tmod a b := by omega
           simp [mortiseref01_Bin.f, mortiseref01_Bin.j0, mortiseref01_Bin.j1, mortiseref01_Bin.j2, mortiseref01_Bin.j3, mortiseref01_quotient.f, word_Bin.f, word_Bin.j0, word_divided.f, hb, refInt a ha0 ha1, refInt b hb0 hb1, refOf, wrap3264, hw, hwa, hwb, hwt, hum])
  · have n1 : op ≠ 1 := by omega
    have n2 : op ≠ 2 := by omega
    have n3 : op ≠ 3 := by omega
    have n4 : op ≠ 4 := by omega
    have n5 : op ≠ 5 := by omega
    have n6 : op ≠ 6 := by omega
    have n7 : op ≠ 7 := by omega
    have n8 : op ≠ 8 := by omega
    have n9 : op ≠ 9 := by omega
    have n10 : op ≠ 10 := by omega
    have n11 : op ≠ 11 := by omega
    have n12 : op ≠ 12 := by omega
    have n13 : op ≠ 13 := by omega
    have n14 : op ≠ 14 := by omega
    have n15 : op ≠ 15 := by omega
    have n16 : op ≠ 16 := by omega
    have n17 : op ≠ 17 := by omega
    have n18 : op ≠ 18 := by omega
    have n19 : op ≠ 19 := by omega
    have f7 : (op == 7) = false := by simpa using n7
    simp [mortiseref01_Bin.f, mortiseref01_Bin.j0, word_Bin.f, word_Bin.j0, n1, n2, n3, n4, n5, n6, n7, n8, n9, n10, n11, n12, n13, n14, n15, n16, n17, n18, n19]

theorem name_eq (op : Int) : ∃ s, word_Name.f op = some s ∧ mortiseref01_Name.f op = some s := by
  unfold word_Name.f mortiseref01_Name.f
  by_cases h1 : op < 1
  · exact ⟨_, by rw [if_pos h1], by rw [if_pos h1]⟩
  · rw [if_neg h1, if_neg h1]
    by_cases h2 : op > 19
    · exact ⟨_, by rw [if_pos h2], by rw [if_pos h2]⟩
    · rw [if_neg h2, if_neg h2]
      refine ⟨_, rfl, ?_⟩
      have hw : wrap64 (op - 1) = op - 1 := by unfold wrap64; omega
      simp only [mortiseref01_Names.f, Option.bind_some, hw]
      rw [if_pos (by omega), if_pos (by simp; omega)]
      rfl

theorem WordBins : mortiselaw01_WordBins.Pure := by
  intro op a b ho ha hb
  refine ⟨30, ?_⟩
  obtain ⟨ha0, ha1⟩ := u32_of ha
  obtain ⟨hb0, hb1⟩ := u32_of hb
  obtain ⟨h, r, hr⟩ := bin_eq op a b ha0 ha1 hb0 hb1
  obtain ⟨s, hs, hs'⟩ := name_eq op
  unfold mortiselaw01_WordBins.f
  rw [h, hr]
  simp only [Option.bind_some, if_true, beq_self_eq_true]
  rw [hs, hs']
  simp only [Option.bind_some, if_true, heads_true]

end Go.Proofs.Ytmkhfedemoccoaa.Pure
