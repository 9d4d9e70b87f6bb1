/- What Go functions answer, proved by walking their code (written by a program of this session, a changed copy of the print). Conditions: none beyond the ones each theorem names. -/
import Derived.Test.YtejhnlljddjicaaJPLkx0
namespace Go.Proofs.Ytejhnlljddjicaa.PLk
open Go.RowKit Go.Proofs.YtejhnlljddjicaaW.PrintWords Go.Proofs.YtejhnlljddjicaaW.PrintLast Go.Proofs.YtejhnlljddjicaaW.PrintMore
attribute [local go_sem] max2_int min2_int max_two min_two max_three min_three max_four min_four   -- for this text's walks alone
set_option linter.unusedVariables false
set_option linter.unusedSimpArgs false

/-! ### mortiseref01_extended: function 17 -/
def mortiseref01_extended.j0 : Nat → Int → Int → Bool → Bool → Option (Int)
 | 0, _, _, _, _ => none
 | k + 1, x0, x1, x2, x14 => if x14 = true then (some x0) else (if 0 ≤ (IntKind.u64.wrap (wrap64 (8 * x1))) then (if x2 = true then (if 0 ≤ (IntKind.u64.wrap ((IntKind.u64.wrap (wrap64 (8 * x1))) - 1)) then (if (shr .u32 (Go.bits .and .u32 x0 (((shl .u32 1 (IntKind.u64.wrap (wrap64 (8 * x1)))) - 1) % 4294967296)) (IntKind.u64.wrap ((IntKind.u64.wrap (wrap64 (8 * x1))) - 1))) = 1 then (some (Go.bits .or .u32 (Go.bits .and .u32 x0 (((shl .u32 1 (IntKind.u64.wrap (wrap64 (8 * x1)))) - 1) % 4294967296)) (shl .u32 4294967295 (IntKind.u64.wrap (wrap64 (8 * x1)))))) else (some (Go.bits .and .u32 x0 (((shl .u32 1 (IntKind.u64.wrap (wrap64 (8 * x1)))) - 1) % 4294967296)))) else (none)) else (some (Go.bits .and .u32 x0 (((shl .u32 1 (IntKind.u64.wrap (wrap64 (8 * x1)))) - 1) % 4294967296)))) else (none))
def mortiseref01_extended.f (k : Nat) (a0 : Int) (a1 : Int) (a2 : Bool) : Option (Int) := if a1 = 1 then (mortiseref01_extended.j0 k a0 a1 a2 false) else (mortiseref01_extended.j0 k a0 a1 a2 (a1 != 2))
set_option maxHeartbeats 8000000 in
set_option maxRecDepth 100000 in
theorem mortiseref01_extended.calls (k : Nat) (a0 : Int) (a1 : Int) (a2 : Bool) (r : Int) (w : World) (h : mortiseref01_extended.f k a0 a1 a2 = some r) :
  Calls Try.prog 17 #[.int .u32 a0, .int .i64 a1, .bool a2] w fun e w' => e = .returned (.int .u32 r) ∧ Drawn0 w w' := by
 have H : (if a1 = 1 then (mortiseref01_extended.j0 k a0 a1 a2 false) else (mortiseref01_extended.j0 k a0 a1 a2 (a1 != 2))) = some r := h
 clear h
 have HC4 := Aside0.mk H
 clear H
 go_enter Try.func17, Try.ntmps17
 go_upto_region 1 with (fail)
 go_cut [14] (fun v14 wc => ∃ (kq : Nat) (x14_73 : Bool), v14 = .bool x14_73 ∧ Aside0 (mortiseref01_extended.j0 kq a0 a1 a2 x14_73 = some r) ∧ Aside0 (kq ≤ k) ∧ Drawn0 w wc)
 case first =>
  have H := HC4.out
  clear HC4
  by_cases c5 : a1 = 1
  ·rw [if_pos c5] at H
   have c5b0 : (a1 == 1) = true := beq_iff_eq.mpr c5
   have c5b1 : (a1 != 1) = false := bne_eq_false_iff_eq.mpr c5
   clear c5
   (first | rw [c5b0] | (simp only [i64_w, i32_w]; rw [c5b0]) | skip)
   have H' := Aside0.mk H
   clear H
   go_wp2
   go_meet
   case rel => exact ⟨_, (false), (by first | rfl | (simp; done) | (simp [*]; done)), H', ⟨by first | omega | exact Nat.le_refl _⟩, by repeat (first | exact Drawn0.refl _ | apply Drawn0.step)⟩
  ·rw [if_neg c5] at H
   have c5b0 : (a1 == 1) = false := beq_eq_false_iff_ne.mpr c5
   have c5b1 : (a1 != 1) = true := bne_iff_ne.mpr c5
   (first | rw [c5b0] | (simp only [i64_w, i32_w]; rw [c5b0]) | skip)
   have H' := Aside0.mk H
   clear H
   go_wp2
   go_meet
   case rel => exact ⟨_, ((a1 != 2)), (by first | rfl | (simp; done) | (simp [*]; done)), H', ⟨by first | omega | exact Nat.le_refl _⟩, by repeat (first | exact Drawn0.refl _ | apply Drawn0.step)⟩
 case rest =>
  clear HC4
  try clear c1
  try clear p2
  try clear c5
  try clear c5b0
  try clear c5b1
  obtain ⟨kq, x14_73, rfl, HA, HJ73, ⟨mc73, rfl⟩⟩ := hcut
  cases kq with
  | zero => exact absurd HA.out (by simp [mortiseref01_extended.j0])
  | succ kj73 =>
   have H := HA.out
   clear HA
   simp only [mortiseref01_extended.j0] at H
   by_cases c6 : x14_73 = true
   ·subst c6
    have H1 : (some a0) = some r := by rw [if_pos rfl] at H; exact H
    clear H
    have H := H1
    clear H1
    obtain rfl := Option.some.inj H
    go_wp2
    go_ret
    exact ⟨by first | rfl | (simp; done) | (simp [*]; done), by repeat (first | exact Drawn0.refl _ | apply Drawn0.step)⟩
   ·replace c6 := Bool.eq_false_iff.mpr c6
    subst c6
    have H1 : (if 0 ≤ (IntKind.u64.wrap (wrap64 (8 * a1))) then (if a2 = true then (if 0 ≤ (IntKind.u64.wrap ((IntKind.u64.wrap (wrap64 (8 * a1))) - 1)) then (if (shr .u32 (Go.bits .and .u32 a0 (((shl .u32 1 (IntKind.u64.wrap (wrap64 (8 * a1)))) - 1) % 4294967296)) (IntKind.u64.wrap ((IntKind.u64.wrap (wrap64 (8 * a1))) - 1))) = 1 then (some (Go.bits .or .u32 (Go.bits .and .u32 a0 (((shl .u32 1 (IntKind.u64.wrap (wrap64 (8 * a1)))) - 1) % 4294967296)) (shl .u32 4294967295 (IntKind.u64.wrap (wrap64 (8 * a1)))))) else (some (Go.bits .and .u32 a0 (((shl .u32 1 (IntKind.u64.wrap (wrap64 (8 * a1)))) - 1) % 4294967296)))) else (none)) else (some (Go.bits .and .u32 a0 (((shl .u32 1 (IntKind.u64.wrap (wrap64 (8 * a1)))) - 1) % 4294967296)))) else (none)) = some r := by rw [if_neg (show ¬ (false = true) by decide)] at H; exact H
    clear H
    have H := H1
    clear H1
    obtain ⟨ji7, hji7⟩ : ∃ j_ : Int, (IntKind.u64.wrap (wrap64 (8 * a1))) = j_ := ⟨_, rfl⟩
    replace H : (if 0 ≤ (ji7) then (if a2 = true then (if 0 ≤ (IntKind.u64.wrap ((ji7) - 1)) then (if (shr .u32 (Go.bits .and .u32 a0 (((shl .u32 1 (ji7)) - 1) % 4294967296)) (IntKind.u64.wrap ((ji7) - 1))) = 1 then (some (Go.bits .or .u32 (Go.bits .and .u32 a0 (((shl .u32 1 (ji7)) - 1) % 4294967296)) (shl .u32 4294967295 (ji7)))) else (some (Go.bits .and .u32 a0 (((shl .u32 1 (ji7)) - 1) % 4294967296)))) else (none)) else (some (Go.bits .and .u32 a0 (((shl .u32 1 (ji7)) - 1) % 4294967296)))) else (none)) = some r := by first | (rw [hji7] at H; exact H) | (simp only [hji7] at H ⊢; exact H)
    by_cases c8 : 0 ≤ (ji7)
    ·rw [if_pos c8] at H
     have c8b0 := eq_true c8
     have c8b1 : decide (0 ≤ (ji7)) = true := decide_eq_true c8
     clear c8
     obtain ⟨ji9, hji9⟩ : ∃ j_ : Int, (shl .u32 1 (ji7)) = j_ := ⟨_, rfl⟩
     replace H : (if a2 = true then (if 0 ≤ (IntKind.u64.wrap ((ji7) - 1)) then (if (shr .u32 (Go.bits .and .u32 a0 (((ji9) - 1) % 4294967296)) (IntKind.u64.wrap ((ji7) - 1))) = 1 then (some (Go.bits .or .u32 (Go.bits .and .u32 a0 (((ji9) - 1) % 4294967296)) (shl .u32 4294967295 (ji7)))) else (some (Go.bits .and .u32 a0 (((ji9) - 1) % 4294967296)))) else (none)) else (some (Go.bits .and .u32 a0 (((ji9) - 1) % 4294967296)))) = some r := by first | (rw [hji9] at H; exact H) | (simp only [hji9] at H ⊢; exact H)
     have hji9_ : (IntKind.u32.wrap (1 * 2 ^ min (ji7).toNat 32)) = ji9 := hji9
     have hji9z : (ji7) ≤ 32 → (IntKind.u32.wrap (1 * 2 ^ (ji7).toNat)) = ji9 := shl_small hji9
     have hji9u : (IntKind.u32.wrap (2 ^ min (ji7).toNat 32)) = ji9 := by have h_ := hji9_; rw [Int.one_mul] at h_; exact h_
     have hji9v : (ji7) ≤ 32 → (IntKind.u32.wrap (2 ^ (ji7).toNat)) = ji9 := fun hle_ => by have h_ := hji9z hle_; rw [Int.one_mul] at h_; exact h_
     by_cases c10 : a2 = true
     ·subst c10
      have H1 : (if 0 ≤ (IntKind.u64.wrap ((ji7) - 1)) then (if (shr .u32 (Go.bits .and .u32 a0 (((ji9) - 1) % 4294967296)) (IntKind.u64.wrap ((ji7) - 1))) = 1 then (some (Go.bits .or .u32 (Go.bits .and .u32 a0 (((ji9) - 1) % 4294967296)) (shl .u32 4294967295 (ji7)))) else (some (Go.bits .and .u32 a0 (((ji9) - 1) % 4294967296)))) else (none)) = some r := by rw [if_pos rfl] at H; exact H
      clear H
      have H := H1
      clear H1
      obtain ⟨ji11, hji11⟩ : ∃ j_ : Int, (IntKind.u64.wrap ((ji7) - 1)) = j_ := ⟨_, rfl⟩
      replace H : (if 0 ≤ (ji11) then (if (shr .u32 (Go.bits .and .u32 a0 (((ji9) - 1) % 4294967296)) (ji11)) = 1 then (some (Go.bits .or .u32 (Go.bits .and .u32 a0 (((ji9) - 1) % 4294967296)) (shl .u32 4294967295 (ji7)))) else (some (Go.bits .and .u32 a0 (((ji9) - 1) % 4294967296)))) else (none)) = some r := by first | (rw [hji11] at H; exact H) | (simp only [hji11] at H ⊢; exact H)
      by_cases c12 : 0 ≤ (ji11)
      ·rw [if_pos c12] at H
       have c12b0 := eq_true c12
       have c12b1 : decide (0 ≤ (ji11)) = true := decide_eq_true c12
       clear c12
       obtain ⟨ji13, hji13⟩ : ∃ j_ : Int, (shr .u32 (Go.bits .and .u32 a0 (((ji9) - 1) % 4294967296)) (ji11)) = j_ := ⟨_, rfl⟩
       replace H : (if (ji13) = 1 then (some (Go.bits .or .u32 (Go.bits .and .u32 a0 (((ji9) - 1) % 4294967296)) (shl .u32 4294967295 (ji7)))) else (some (Go.bits .and .u32 a0 (((ji9) - 1) % 4294967296)))) = some r := by first | (rw [hji13] at H; exact H) | (simp only [hji13] at H ⊢; exact H)
       have hji13_ : ((Go.bits .and .u32 a0 (((ji9) - 1) % 4294967296)) / 2 ^ min (ji11).toNat 32) = ji13 := hji13
       have hji13z : (ji11) ≤ 32 → ((Go.bits .and .u32 a0 (((ji9) - 1) % 4294967296)) / 2 ^ (ji11).toNat) = ji13 := shr_small hji13
       by_cases c14 : (ji13) = 1
       ·rw [if_pos c14] at H
        have c14b0 : ((ji13) == 1) = true := beq_iff_eq.mpr c14
        have c14b1 : ((ji13) != 1) = false := bne_eq_false_iff_eq.mpr c14
        clear c14
        have c15b0 := eq_true (of_decide_eq_true (by first | (with_reducible assumption) | assumption) : 0 ≤ (ji7))
        obtain ⟨ji16, hji16⟩ : ∃ j_ : Int, (shl .u32 4294967295 (ji7)) = j_ := ⟨_, rfl⟩
        replace H : (some (Go.bits .or .u32 (Go.bits .and .u32 a0 (((ji9) - 1) % 4294967296)) (ji16))) = some r := by first | (rw [hji16] at H; exact H) | (simp only [hji16] at H ⊢; exact H)
        have hji16_ : (IntKind.u32.wrap (4294967295 * 2 ^ min (ji7).toNat 32)) = ji16 := hji16
        have hji16z : (ji7) ≤ 32 → (IntKind.u32.wrap (4294967295 * 2 ^ (ji7).toNat)) = ji16 := shl_small hji16
        obtain rfl := Option.some.inj H
        go_wp2
        go_ret
        exact ⟨by first | rfl | (simp; done) | (simp only [← hji7, ← hji9, ← hji11, ← hji13, ← hji16] <;> (first | rfl | (simp; done) | (simp [shl, IntKind.wrap, IntKind.bits, IntKind.signed]; done))) | (simp [*]; done), by repeat (first | exact Drawn0.refl _ | apply Drawn0.step)⟩
       ·rw [if_neg c14] at H
        have c14b0 : ((ji13) == 1) = false := beq_eq_false_iff_ne.mpr c14
        have c14b1 : ((ji13) != 1) = true := bne_iff_ne.mpr c14
        obtain rfl := Option.some.inj H
        go_wp2
        go_ret
        exact ⟨by first | rfl | (simp; done) | (simp only [← hji7, ← hji9, ← hji11, ← hji13] <;> (first | rfl | (simp; done) | (simp [shl, IntKind.wrap, IntKind.bits, IntKind.signed]; done))) | (simp [*]; done), by repeat (first | exact Drawn0.refl _ | apply Drawn0.step)⟩
      ·rw [if_neg c12] at H
       exact absurd H (by simp)
     ·replace c10 := Bool.eq_false_iff.mpr c10
      subst c10
      have H1 : (some (Go.bits .and .u32 a0 (((ji9) - 1) % 4294967296))) = some r := by rw [if_neg (show ¬ (false = true) by decide)] at H; exact H
      clear H
      have H := H1
      clear H1
      obtain rfl := Option.some.inj H
      go_wp2
      go_ret
      exact ⟨by first | rfl | (simp; done) | (simp only [← hji7, ← hji9] <;> (first | rfl | (simp; done) | (simp [shl, IntKind.wrap, IntKind.bits, IntKind.signed]; done))) | (simp [*]; done), by repeat (first | exact Drawn0.refl _ | apply Drawn0.step)⟩
    ·rw [if_neg c8] at H
     exact absurd H (by simp)

/-! ### mortiseref01_Value: function 7 -/
mutual
def mortiseref01_Value.j0 : Nat → List Int → Bool → Bool → Option (Int × Int)
 | 0, _, _, _ => none
 | k + 1, x0, x1, x20 => if x20 = true then (some (0, 2)) else (mortiseref01_Value.l0 k x0 x1 0 0)
def mortiseref01_Value.l0 : Nat → List Int → Bool → Int → Int → Option (Int × Int)
 | 0, _, _, _, _ => none
 | k + 1, x0, x1, x6, x7 => if x7 < (x0.length : Int) then (if 0 ≤ x7 then (if 0 ≤ (IntKind.u64.wrap (wrap64 (8 * x7))) then (mortiseref01_Value.l0 k x0 x1 (Go.bits .or .u32 x6 (shl .u32 ((rd x0 x7) % 4294967296) (IntKind.u64.wrap (wrap64 (8 * x7))))) (wrap64 (x7 + 1))) else (none)) else (none)) else ((mortiseref01_extended.f k x6 (x0.length : Int) x1).bind fun t214 => (some (t214, 0)))
end
def mortiseref01_Value.f (k : Nat) (l0 : List Int) (a1 : Bool) : Option (Int × Int) := if (l0.length : Int) = 1 then (mortiseref01_Value.j0 k l0 a1 false) else (if (l0.length : Int) = 2 then (mortiseref01_Value.j0 k l0 a1 false) else (mortiseref01_Value.j0 k l0 a1 ((l0.length : Int) != 4)))
set_option maxHeartbeats 8000000 in
set_option maxRecDepth 100000 in
theorem mortiseref01_Value.calls (k : Nat) (A0 : Option Addr) (c0 : Nat) (l0 : List Int) (a1 : Bool) (r1 : Int) (r2 : Int) (w : World) (hr0 : Kd.C (Kd.int .u8) w A0 l0.length l0) (hc0 : l0.length ≤ c0) (h : mortiseref01_Value.f k l0 a1 = some (r1, r2)) :
  Calls Try.prog 7 #[.slice A0 l0.length c0, .bool a1] w fun e w' => e = .returned (.tuple #[.int .u32 r1, .int .i64 r2]) ∧ Drawn0 w w' := by
 have HR0 := Aside0.mk hr0
 have HC0 := Aside0.mk hc0
 clear hr0 hc0
 have H : (if (l0.length : Int) = 1 then (mortiseref01_Value.j0 k l0 a1 false) else (if (l0.length : Int) = 2 then (mortiseref01_Value.j0 k l0 a1 false) else (mortiseref01_Value.j0 k l0 a1 ((l0.length : Int) != 4)))) = some (r1, r2) := h
 clear h
 have HC3 := Aside0.mk H
 clear H
 go_enter Try.func7, Try.ntmps7
 go_upto_region 1 with (fail)
 go_cut [20] (fun v20 wc => ∃ (kq : Nat) (x20_72 : Bool), v20 = .bool x20_72 ∧ Aside0 (mortiseref01_Value.j0 kq l0 a1 x20_72 = some (r1, r2)) ∧ Aside0 (kq ≤ k) ∧ Drawn0 w wc)
 case first =>
  have H := HC3.out
  clear HC3
  by_cases c4 : (l0.length : Int) = 1
  ·rw [if_pos c4] at H
   have c4b0 : ((l0.length : Int) == 1) = true := beq_iff_eq.mpr c4
   have c4b1 : ((l0.length : Int) != 1) = false := bne_eq_false_iff_eq.mpr c4
   clear c4
   (first | rw [c4b0] | (simp only [i64_w, i32_w]; rw [c4b0]) | skip)
   have H' := Aside0.mk H
   clear H
   go_wp2
   go_meet
   case rel => exact ⟨_, (false), (by first | rfl | (simp; done) | (simp [*]; done)), H', ⟨by first | omega | exact Nat.le_refl _⟩, by repeat (first | exact Drawn0.refl _ | apply Drawn0.step)⟩
  ·rw [if_neg c4] at H
   have c4b0 : ((l0.length : Int) == 1) = false := beq_eq_false_iff_ne.mpr c4
   have c4b1 : ((l0.length : Int) != 1) = true := bne_iff_ne.mpr c4
   (first | rw [c4b0] | (simp only [i64_w, i32_w]; rw [c4b0]) | skip)
   by_cases c5 : (l0.length : Int) = 2
   ·rw [if_pos c5] at H
    have c5b0 : ((l0.length : Int) == 2) = true := beq_iff_eq.mpr c5
    have c5b1 : ((l0.length : Int) != 2) = false := bne_eq_false_iff_eq.mpr c5
    clear c5
    have H' := Aside0.mk H
    clear H
    go_wp2
    go_meet
    case rel => exact ⟨_, (false), (by first | rfl | (simp; done) | (simp [*]; done)), H', ⟨by first | omega | exact Nat.le_refl _⟩, by repeat (first | exact Drawn0.refl _ | apply Drawn0.step)⟩
   ·rw [if_neg c5] at H
    have c5b0 : ((l0.length : Int) == 2) = false := beq_eq_false_iff_ne.mpr c5
    have c5b1 : ((l0.length : Int) != 2) = true := bne_iff_ne.mpr c5
    have H' := Aside0.mk H
    clear H
    go_wp2
    go_meet
    case rel => exact ⟨_, (((l0.length : Int) != 4)), (by first | rfl | (simp; done) | (simp [*]; done)), H', ⟨by first | omega | exact Nat.le_refl _⟩, by repeat (first | exact Drawn0.refl _ | apply Drawn0.step)⟩
 case rest =>
  clear HC3
  try clear p2
  try clear c4
  try clear c4b0
  try clear c4b1
  try clear c5
  try clear c5b0
  try clear c5b1
  obtain ⟨kq, x20_72, rfl, HA, HJ72, ⟨mc72, rfl⟩⟩ := hcut
  cases kq with
  | zero => exact absurd HA.out (by simp [mortiseref01_Value.j0])
  | succ kj72 =>
   have H := HA.out
   clear HA
   simp only [mortiseref01_Value.j0] at H
   by_cases c6 : x20_72 = true
   ·subst c6
    have H1 : (some (0, 2)) = some (r1, r2) := by rw [if_pos rfl] at H; exact H
    clear H
    have H := H1
    clear H1
    simp only [Option.some.injEq, Prod.mk.injEq] at H
    obtain ⟨rfl, rfl⟩ := H
    go_wp2
    go_ret2
    exact ⟨by first | rfl | (simp; done) | (simp [*]; done), by repeat (first | exact Drawn0.refl _ | apply Drawn0.step)⟩
   ·replace c6 := Bool.eq_false_iff.mpr c6
    subst c6
    have H1 : (mortiseref01_Value.l0 kj72 l0 a1 0 0) = some (r1, r2) := by rw [if_neg (show ¬ (false = true) by decide)] at H; exact H
    clear H
    have H := H1
    clear H1
    have H' := Aside0.mk H
    clear H
    go_wp2
    go_loopg [6, 7] kj72 (fun kq v6 v7 w' => ∃ (x6_2 : Int) (x7_2 : Int), v6 = .int .u32 x6_2 ∧ v7 = .int .i64 x7_2 ∧ Aside0 (mortiseref01_Value.l0 kq l0 a1 x6_2 x7_2 = some (r1, r2)) ∧ Aside0 (kq ≤ kj72) ∧ Drawn0 w w')
    case atStart => exact ⟨(0), (0), (by first | rfl | (simp; done) | (simp [*]; done)), (by first | rfl | (simp; done) | (simp [*]; done)), H', ⟨Nat.le_refl _⟩, by repeat (first | exact Drawn0.refl _ | apply Drawn0.step)⟩
    case round =>
     clear H'
     try clear p2
     try clear c4
     try clear c4b0
     try clear c4b1
     try clear c5
     try clear c5b0
     try clear c5b1
     try clear c6
     try clear p2
     obtain ⟨x6_2, x7_2, rfl, rfl, HA, HK2, ⟨m2, rfl⟩⟩ := hrel
     cases gk with
     | zero => exact absurd HA.out (by simp [mortiseref01_Value.l0])
     | succ k2 =>
      have H := HA.out
      clear HA
      simp only [mortiseref01_Value.l0] at H
      by_cases c7 : x7_2 < (l0.length : Int)
      ·rw [if_pos c7] at H
       have c7b0 : decide (x7_2 < (l0.length : Int)) = true := decide_eq_true c7
       clear c7
       by_cases c8 : 0 ≤ x7_2
       ·rw [if_pos c8] at H
        have c8b0 : decide (0 ≤ x7_2) = true := decide_eq_true c8
        clear c8
        obtain ⟨ji9, hji9⟩ : ∃ j_ : Int, (IntKind.u64.wrap (wrap64 (8 * x7_2))) = j_ := ⟨_, rfl⟩
        replace H : (if 0 ≤ (ji9) then (mortiseref01_Value.l0 k2 l0 a1 (Go.bits .or .u32 x6_2 (shl .u32 ((rd l0 x7_2) % 4294967296) (ji9))) (wrap64 (x7_2 + 1))) else (none)) = some (r1, r2) := by first | (rw [hji9] at H; exact H) | (simp only [hji9] at H ⊢; exact H)
        by_cases c10 : 0 ≤ (ji9)
        ·rw [if_pos c10] at H
         have c10b0 := eq_true c10
         have c10b1 : decide (0 ≤ (ji9)) = true := decide_eq_true c10
         clear c10
         obtain ⟨ji11, hji11⟩ : ∃ j_ : Int, (shl .u32 ((rd l0 x7_2) % 4294967296) (ji9)) = j_ := ⟨_, rfl⟩
         replace H : (mortiseref01_Value.l0 k2 l0 a1 (Go.bits .or .u32 x6_2 (ji11)) (wrap64 (x7_2 + 1))) = some (r1, r2) := by first | (rw [hji11] at H; exact H) | (simp only [hji11] at H ⊢; exact H)
         have hji11_ : (IntKind.u32.wrap (((rd l0 x7_2) % 4294967296) * 2 ^ min (ji9).toNat 32)) = ji11 := hji11
         have hji11z : (ji9) ≤ 32 → (IntKind.u32.wrap (((rd l0 x7_2) % 4294967296) * 2 ^ (ji9).toNat)) = ji11 := shl_small hji11
         have H' := Aside0.mk H
         clear H
         have p213 : 0 ≤ (x7_2 : Int) := of_decide_eq_true (by first | (with_reducible assumption) | assumption)
         have q213 : x7_2 < (l0.length : Int) := of_decide_eq_true (by first | (with_reducible assumption) | assumption)
         obtain ⟨ad213, e213, hx213_0⟩ := Kd.at_int HR0.out x7_2 p213 q213
         cases e213
         replace p213 := eq_true p213
         replace q213 := eq_true q213
         go_wp2
         go_roundg k2
         case measure => have := HJ72.out; have := HK2.out; omega
         case rel => exact ⟨(Go.bits .or .u32 x6_2 (ji11)), (wrap64 (x7_2 + 1)), (by first | rfl | (simp; done) | (simp only [← hji11] <;> (first | rfl | (simp; done) | (simp [shl, IntKind.wrap, IntKind.bits, IntKind.signed]; done))) | (simp [*]; done)), (by first | rfl | (simp; done) | (simp [*]; done)), H', ⟨by have := HJ72.out; have := HK2.out; omega⟩, by repeat (first | exact Drawn0.refl _ | apply Drawn0.step)⟩
        ·rw [if_neg c10] at H
         exact absurd H (by simp)
       ·rw [if_neg c8] at H
        exact absurd H (by simp)
      ·rw [if_neg c7] at H
       have c7b0 : decide (x7_2 < (l0.length : Int)) = false := decide_eq_false c7
       clear c7
       replace H := Option.bind_eq_some_iff.mp H
       obtain ⟨t214, A120, H⟩ := H
       replace H : (some (t214, 0)) = some (r1, r2) := H
       have A12 := Aside0.mk A120
       clear A120
       simp only [Option.some.injEq, Prod.mk.injEq] at H
       obtain ⟨rfl, rfl⟩ := H
       go_wp2_with (first | ((with_reducible refine gate_callee (f := 17) rfl ?_); refine goesL_ (some 42) rfl rfl Try.func17 (by kernel_rfl) rfl #[.int .u32 x6_2, .int .i64 (l0.length : Int), .bool a1] rfl (by (try simp only [List.map_toArray, List.map_cons, List.map_nil]); first | done | rfl | (simp only [List.length_drop, List.length_take]; rfl)) ?_; (with_reducible refine (mortiseref01_extended.calls k2 x6_2 (l0.length : Int) a1 t214 _ A12.out).mono ?_); rintro e w' ⟨rfl, ⟨nd, rfl⟩⟩; refine ⟨_, rfl, ?_⟩))
       go_ret2
       exact ⟨by first | rfl | (simp; done) | (simp [*]; done), by repeat (first | exact Drawn0.refl _ | apply Drawn0.step)⟩

-- NOT PRINTED: function 60 (mortiseref21_M_may)

-- NOT PRINTED: function 53 (mortiseref21_M_read)

-- NOT PRINTED: function 61 (mortiseref21_M_setByte)

-- NOT PRINTED: function 54 (mortiseref21_M_write)

-- NOT PRINTED: function 62 (mortiseref21_M_jump)

-- NOT PRINTED: function 55 (mortiseref21_M_other)

-- NOT PRINTED: function 41 (mortiseref21_M_do)

-- NOT PRINTED: function 28 (mortiseref21_M_Step)

-- NOT PRINTED: function 29 (mortiseref21_M_Outcome)

-- NOT PRINTED: function 15 (mortiseref21_Run)

-- NOT PRINTED: function 16 (link_Find)

-- NOT PRINTED: function 5 (mortiselaw25_heads)

-- NOT PRINTED: function 3 (mortiselaw25_LinkKeeps)

end Go.Proofs.Ytejhnlljddjicaa.PLk
