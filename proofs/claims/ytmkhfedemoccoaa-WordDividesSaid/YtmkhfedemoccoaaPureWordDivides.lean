/- The pure statement of WordDivides: quotient times divisor and the remainder are the dividend; sums, products either way. No condition. -/
import Derived.Test.YtmkhfedemoccoaaPWdx7
import Derived.Test.YtmkhfedemoccoaaLa
namespace Go.Proofs.Ytmkhfedemoccoaa.Pure
open Go.RowKit Go.Proofs.Ytmkhfedemoccoaa.PWd Go.Proofs.YtmkhfedemoccoaaW.PrintWords Go.Proofs.YtmkhfedemoccoaaW.PrintLast Go.Proofs.YtmkhfedemoccoaaW.PrintMore Go.Proofs.Ytmkhfedemoccoaa.La
set_option linter.unusedVariables false

theorem flagv' (b : Bool) : word_flag.f b = some (bif b then 1 else 0) := by cases b <;> rfl
theorem bin_lts (k : Nat) (a b : Int) : word_Bin.f (k + 1) 16 a b = some (bif decide (wrap32 a < wrap32 b) then 1 else 0, true) := by simp [word_Bin.f, word_Bin.j0, flagv']
theorem bin_les (k : Nat) (a b : Int) : word_Bin.f (k + 1) 18 a b = some (bif decide (wrap32 a ≤ wrap32 b) then 1 else 0, true) := by simp [word_Bin.f, word_Bin.j0, flagv']
theorem bin_eqq (k : Nat) (a b : Int) : word_Bin.f (k + 1) 14 a b = some (bif a == b then 1 else 0, true) := by simp [word_Bin.f, word_Bin.j0, flagv']
theorem bin_nee (k : Nat) (a b : Int) : word_Bin.f (k + 1) 15 a b = some (bif a != b then 1 else 0, true) := by simp [word_Bin.f, word_Bin.j0, flagv']
theorem bin_zero (k : Nat) (op a : Int) (h : op = 4 ∨ op = 5 ∨ op = 6 ∨ op = 7) : word_Bin.f (k + 1) op a 0 = some (0, false) := by
  rcases h with rfl | rfl | rfl | rfl <;> simp [word_Bin.f, word_Bin.j0]
theorem bin_divs (k : Nat) (a b : Int) (hb : wrap32 b ≠ 0) (hb' : b ≠ 0) : word_Bin.f (k + 1) 4 a b = some (wrap64 (Int.tdiv (wrap32 a) (wrap32 b)) % 4294967296, true) := by
  simp [word_Bin.f, word_Bin.j0, word_divided.f, hb, hb', wrap3264]
theorem bin_rems (k : Nat) (a b : Int) (hb : wrap32 b ≠ 0) (hb' : b ≠ 0) : word_Bin.f (k + 1) 6 a b = some (Int.tmod (wrap32 a) (wrap32 b) % 4294967296, true) := by
  simp [word_Bin.f, word_Bin.j0, word_divided.f, hb, hb', wrap3264]
theorem bin_remu (k : Nat) (a b : Int) (hb' : b ≠ 0) : word_Bin.f (k + 1) 7 a b = some (Int.tmod a b, true) := by
  simp [word_Bin.f, word_Bin.j0, word_divided.f, hb']

/-- The rest of the law: sums, products, comparisons. -/
theorem rest (a b c : Int) (ha0 : 0 ≤ a) (ha1 : a < 4294967296) : mortiselaw01_WordDivides.j1 39 a b c false = some true := by
  have h1 : ((a + b) % 4294967296 - b) % 4294967296 = a := by omega
  have h2 : (bif decide (wrap32 a < wrap32 b) then (1 : Int) else 0) + (bif decide (wrap32 b ≤ wrap32 a) then 1 else 0) = 1 := by
    by_cases h : wrap32 a < wrap32 b
    · have h' : ¬ wrap32 b ≤ wrap32 a := by omega
      simp [h, h']
    · have h' : wrap32 b ≤ wrap32 a := by omega
      simp [h, h']
  have h3 : (bif a == b then (1 : Int) else 0) + (bif a != b then 1 else 0) = 1 := by
    by_cases h : a = b
    · subst h; simp
    · have h1 : (a == b) = false := beq_eq_false_iff_ne.mpr h
      have h2 : (a != b) = true := bne_iff_ne.mpr h
      rw [h1, h2]; rfl
  have hh := at_rounds (g := fun k => mortiselaw01_heads.f k) (fun k => mortiselaw01_heads.mono k) (show 30 ≤ 38 by omega) heads_true
  rw [mortiselaw01_WordDivides.j1]
  rw [if_neg (by decide), bin_add, bin_add, bin_mul, bin_mul, bin_lts, bin_les, bin_eqq, bin_nee]
  simp only [Option.bind_some]
  rw [bin_sub]
  simp only [Option.bind_some, h1, h2, h3, hh, if_true, Int.add_comm b a, Int.mul_comm c a]
  rfl

theorem mulm (x y m : Int) : (x % m * y) % m = (x * y) % m := by rw [Int.mul_emod, Int.emod_emod, ← Int.mul_emod]
theorem sq (a b : Int) (ha0 : 0 ≤ a) (ha1 : a < 4294967296) (hb0 : 0 ≤ b) (hb1 : b < 4294967296) :
    ((wrap64 (Int.tdiv (wrap32 a) (wrap32 b)) % 4294967296 * b) % 4294967296 + Int.tmod (wrap32 a) (wrap32 b) % 4294967296) % 4294967296 = a := by
  have e1 : wrap64 (Int.tdiv (wrap32 a) (wrap32 b)) % 4294967296 = Int.tdiv (wrap32 a) (wrap32 b) % 4294967296 := by unfold wrap64; omega
  have e2 : b % 4294967296 = wrap32 b % 4294967296 := by unfold wrap32; omega
  have e3 : a = wrap32 a % 4294967296 := by unfold wrap32; omega
  rw [e1, mulm, Int.mul_emod, e2, ← Int.mul_emod, ← Int.add_emod]
  conv => rhs; rw [e3]
  congr 1
  have := Int.tmod_add_mul_tdiv (wrap32 a) (wrap32 b)
  rw [Int.mul_comm] at this
  omega
theorem uq (a b : Int) (ha0 : 0 ≤ a) (ha1 : a < 4294967296) (hb0 : 0 ≤ b) :
    ((Int.tdiv a b % 4294967296 * b) % 4294967296 + Int.tmod a b) % 4294967296 = a := by
  rw [mulm, Int.emod_add_emod]
  have := Int.tmod_add_mul_tdiv a b
  rw [Int.mul_comm] at this
  have e : Int.tdiv a b * b + Int.tmod a b = a := by omega
  rw [e]; omega

theorem WordDivides : mortiselaw01_WordDivides.Pure := by
  intro a b c ha hb hc
  refine ⟨40, ?_⟩
  obtain ⟨ha0, ha1⟩ := u32_of ha
  obtain ⟨hb0, hb1⟩ := u32_of hb
  unfold mortiselaw01_WordDivides.f
  by_cases h : b = 0
  · subst h
    rw [bin_zero _ 4 a (by simp), bin_zero _ 6 a (by simp), bin_zero _ 5 a (by simp), bin_zero _ 7 a (by simp)]
    simp only [Option.bind_some]
    have e : (false != ((0 : Int) != 0)) = false := by decide
    rw [e, if_neg (by decide)]
    have e' : (false != false) = false := by decide
    rw [e']
    rw [mortiselaw01_WordDivides.j0]
    rw [if_neg (by decide), if_neg (by decide)]
    exact rest a 0 c ha0 ha1
  · have hw : wrap32 b ≠ 0 := by unfold wrap32; omega
    rw [bin_divs _ a b hw h, bin_rems _ a b hw h, bin_divu _ a b h, bin_remu _ a b h]
    simp only [Option.bind_some]
    have e : (true != (b != 0)) = false := by simp [h]
    rw [e, if_neg (by decide)]
    have e' : (true != true) = false := by decide
    rw [e']
    rw [mortiselaw01_WordDivides.j0]
    rw [if_neg (by decide), if_pos rfl, if_pos (sq a b ha0 ha1 hb0 hb1), if_pos (uq a b ha0 ha1 hb0)]
    have hlt : decide (Int.tmod a b ≥ b) = false := by
      rw [Int.tmod_eq_emod_of_nonneg ha0]
      have := Int.emod_lt_of_pos a (show 0 < b by omega)
      simp; omega
    rw [hlt]
    exact rest a b c ha0 ha1

end Go.Proofs.Ytmkhfedemoccoaa.Pure
