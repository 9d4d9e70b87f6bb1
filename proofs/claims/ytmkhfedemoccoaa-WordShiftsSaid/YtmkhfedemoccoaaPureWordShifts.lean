/- The pure statement of WordShifts: shifts of 32-bit numbers are multiplications and divisions. No condition. -/
import Derived.Test.YtmkhfedemoccoaaPWdx4
import Derived.Test.YtmkhfedemoccoaaLa
namespace Go.Proofs.Ytmkhfedemoccoaa.Pure
open Go.RowKit Go.Proofs.Ytmkhfedemoccoaa.PWd Go.Proofs.YtmkhfedemoccoaaW.PrintWords Go.Proofs.YtmkhfedemoccoaaW.PrintLast Go.Proofs.YtmkhfedemoccoaaW.PrintMore Go.Proofs.Ytmkhfedemoccoaa.La

theorem WordShifts : mortiselaw01_WordShifts.Pure := by
  intro a n ha hn
  refine ⟨30, ?_⟩
  obtain ⟨ha0, ha1⟩ := u32_of ha
  obtain ⟨hn0, hn1⟩ := u32_of hn
  have hm0 : 0 ≤ n % 32 := by omega
  have hm1 : n % 32 < 32 := by omega
  have hp := pow_pos (n % 32).toNat
  have hq := pow_lt32 (n % 32) hm0 hm1
  have hone : shl .u32 1 (n % 32) = 2 ^ (n % 32).toNat := by
    rw [shl32 _ _ hm1, Int.one_mul, Int.emod_eq_of_lt (by omega) hq]
  have hdiv0 : 0 ≤ a / 2 ^ (n % 32).toNat := Int.ediv_nonneg ha0 (by omega)
  have hdiv1 : a / 2 ^ (n % 32).toNat < 4294967296 := Int.lt_of_le_of_lt (Int.ediv_le_self _ ha0) ha1
  have htd : Int.tdiv a (2 ^ (n % 32).toNat) % 4294967296 = a / 2 ^ (n % 32).toNat := by
    rw [Int.tdiv_eq_ediv_of_nonneg ha0, Int.emod_eq_of_lt hdiv0 hdiv1]
  have hmm : (n % 32) % 32 = n % 32 := by omega
  have hs : -2147483648 ≤ wrap32 a ∧ wrap32 a < 2147483648 := by unfold wrap32; omega
  have hs0 : -2147483648 ≤ wrap32 a / 2 ^ (n % 32).toNat ∧ wrap32 a / 2 ^ (n % 32).toNat < 2147483648 ∧ (wrap32 a / 2 ^ (n % 32).toNat < 0 ↔ wrap32 a < 0) := by
    generalize (2 : Int) ^ (n % 32).toNat = p at hp
    generalize wrap32 a = s at hs
    refine ⟨?_, ?_, ?_⟩
    · rw [Int.le_ediv_iff_mul_le hp]
      have : (-2147483648 : Int) * p ≤ -2147483648 * 1 := by omega
      omega
    · rw [Int.ediv_lt_iff_lt_mul hp]
      have : (2147483648 : Int) * 1 ≤ 2147483648 * p := by omega
      omega
    · rw [Int.ediv_lt_iff_lt_mul hp]; omega
  have hw : wrap32 ((wrap32 a / 2 ^ (n % 32).toNat) % 4294967296) = wrap32 a / 2 ^ (n % 32).toNat := by
    generalize wrap32 a / 2 ^ (n % 32).toNat = q at hs0
    unfold wrap32; omega
  have hw64 : wrap64 (wrap32 a / 2 ^ (n % 32).toNat) = wrap32 a / 2 ^ (n % 32).toNat := by
    generalize wrap32 a / 2 ^ (n % 32).toNat = q at hs0
    unfold wrap64; omega
  have hz : ((wrap32 a / 2 ^ (n % 32).toNat) % 4294967296) % 4294967296 = (wrap32 a / 2 ^ (n % 32).toNat) % 4294967296 := by omega
  unfold mortiselaw01_WordShifts.f
  rw [tmod32 n hn0, hone, bin_shl _ a n hn0 hn1]
  simp only [Option.bind_some, if_pos hm0]
  rw [bin_mul]; simp only [Option.bind_some]
  rw [bin_shru _ a n hn0 hn1]; simp only [Option.bind_some]
  rw [bin_divu _ a _ (by omega)]; simp only [Option.bind_some]
  rw [bin_shrs _ a n hn0 hn1]; simp only [Option.bind_some]
  rw [bin_shrs _ _ 0 (by omega) (by omega)]; simp only [Option.bind_some]
  rw [bin_shl _ a (n % 32) hm0 (by omega), hmm]; simp only [Option.bind_some]
  rw [htd, hw]
  simp only [word_Int.f, Option.bind_some, if_true, wrap3264, hw, heads_true]
  have h0 : (wrap32 a / 2 ^ (n % 32).toNat / 2 ^ ((0 : Int) % 32).toNat) % 4294967296 = (wrap32 a / 2 ^ (n % 32).toNat) % 4294967296 := by simp
  rw [if_pos h0]
  have hb : ((decide (wrap32 a / 2 ^ (n % 32).toNat < 0)) == (decide (wrap32 a < 0))) = true := by
    rw [beq_iff_eq, decide_eq_decide]; exact hs0.2.2
  rw [hw64, if_pos hb]

end Go.Proofs.Ytmkhfedemoccoaa.Pure
