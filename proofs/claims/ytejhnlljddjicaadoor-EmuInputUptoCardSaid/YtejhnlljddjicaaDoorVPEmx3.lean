/- What Go functions answer, proved by walking their code (written by a program of this session, a changed copy of the print). Conditions: none beyond the ones each theorem names. -/
import Derived.Test.YtejhnlljddjicaaDoorVPEmx0
namespace Go.Proofs.YtejhnlljddjicaaDoor.PEm
open Go.RowKit Go.Proofs.YtejhnlljddjicaaDoorW.PrintWords Go.Proofs.YtejhnlljddjicaaDoorW.PrintLast Go.Proofs.YtejhnlljddjicaaDoorW.PrintMore
attribute [local go_sem] max2_int min2_int max_two min_two max_three min_three max_four min_four   -- for this text's walks alone
set_option linter.unusedVariables false
set_option linter.unusedSimpArgs false

/-! ### enc_far: function 60 -/
def enc_far.f (a0 : Int) : Option (Bool) := if a0 = 5 then (some true) else (some (a0 == 6))
set_option maxHeartbeats 8000000 in
set_option maxRecDepth 100000 in
theorem enc_far.calls (a0 : Int) (r : Bool) (w : World) (h : enc_far.f a0 = some r) :
  Calls Tryd.prog 60 #[.int .i64 a0] w fun e w' => e = .returned (.bool r) ∧ Drawn0 w w' := by
 have H : (if a0 = 5 then (some true) else (some (a0 == 6))) = some r := h
 clear h
 by_cases c2 : a0 = 5
 ·rw [if_pos c2] at H
  have c2b0 : (a0 == 5) = true := beq_iff_eq.mpr c2
  have c2b1 : (a0 != 5) = false := bne_eq_false_iff_eq.mpr c2
  clear c2
  obtain rfl := Option.some.inj H
  go_enter Tryd.func60, Tryd.ntmps60
  go_wp2
  go_ret
  exact ⟨by first | rfl | (simp; done) | (simp [*]; done), by repeat (first | exact Drawn0.refl _ | apply Drawn0.step)⟩
 ·rw [if_neg c2] at H
  have c2b0 : (a0 == 5) = false := beq_eq_false_iff_ne.mpr c2
  have c2b1 : (a0 != 5) = true := bne_iff_ne.mpr c2
  obtain rfl := Option.some.inj H
  go_enter Tryd.func60, Tryd.ntmps60
  go_wp2
  go_ret
  exact ⟨by first | rfl | (simp; done) | (simp [*]; done), by repeat (first | exact Drawn0.refl _ | apply Drawn0.step)⟩

-- NOT PRINTED: function 78 (enc_right)

-- NOT PRINTED: function 61 (enc_Encode)

-- NOT PRINTED: function 36 (enc_Decode)

/-! ### word_low: function 80 -/
def word_low.f (a0 : Int) (a1 : Int) (a2 : Bool) : Option (Int) := if a2 = true then (if 0 ≤ (IntKind.u64.wrap (32 - a1)) then (some ((shr .i32 (wrap32 (shl .u32 a0 (IntKind.u64.wrap (32 - a1)))) (IntKind.u64.wrap (32 - a1))) % 4294967296)) else (none)) else (if 0 ≤ (IntKind.u64.wrap (32 - a1)) then (some (shr .u32 (shl .u32 a0 (IntKind.u64.wrap (32 - a1))) (IntKind.u64.wrap (32 - a1)))) else (none))
set_option maxHeartbeats 8000000 in
set_option maxRecDepth 100000 in
theorem word_low.calls (a0 : Int) (a1 : Int) (a2 : Bool) (r : Int) (w : World) (h : word_low.f a0 a1 a2 = some r) :
  Calls Tryd.prog 80 #[.int .u32 a0, .int .u64 a1, .bool a2] w fun e w' => e = .returned (.int .u32 r) ∧ Drawn0 w w' := by
 have H : (if a2 = true then (if 0 ≤ (IntKind.u64.wrap (32 - a1)) then (some ((shr .i32 (wrap32 (shl .u32 a0 (IntKind.u64.wrap (32 - a1)))) (IntKind.u64.wrap (32 - a1))) % 4294967296)) else (none)) else (if 0 ≤ (IntKind.u64.wrap (32 - a1)) then (some (shr .u32 (shl .u32 a0 (IntKind.u64.wrap (32 - a1))) (IntKind.u64.wrap (32 - a1)))) else (none))) = some r := h
 clear h
 by_cases c4 : a2 = true
 ·subst c4
  have H1 : (if 0 ≤ (IntKind.u64.wrap (32 - a1)) then (some ((shr .i32 (wrap32 (shl .u32 a0 (IntKind.u64.wrap (32 - a1)))) (IntKind.u64.wrap (32 - a1))) % 4294967296)) else (none)) = some r := by rw [if_pos rfl] at H; exact H
  clear H
  have H := H1
  clear H1
  obtain ⟨ji5, hji5⟩ : ∃ j_ : Int, (IntKind.u64.wrap (32 - a1)) = j_ := ⟨_, rfl⟩
  replace H : (if 0 ≤ (ji5) then (some ((shr .i32 (wrap32 (shl .u32 a0 (ji5))) (ji5)) % 4294967296)) else (none)) = some r := by first | (rw [hji5] at H; exact H) | (simp only [hji5] at H ⊢; exact H)
  by_cases c6 : 0 ≤ (ji5)
  ·rw [if_pos c6] at H
   have c6b0 := eq_true c6
   have c6b1 : decide (0 ≤ (ji5)) = true := decide_eq_true c6
   clear c6
   obtain ⟨ji7, hji7⟩ : ∃ j_ : Int, (shl .u32 a0 (ji5)) = j_ := ⟨_, rfl⟩
   replace H : (some ((shr .i32 (wrap32 (ji7)) (ji5)) % 4294967296)) = some r := by first | (rw [hji7] at H; exact H) | (simp only [hji7] at H ⊢; exact H)
   have hji7_ : (IntKind.u32.wrap (a0 * 2 ^ min (ji5).toNat 32)) = ji7 := hji7
   have hji7z : (ji5) ≤ 32 → (IntKind.u32.wrap (a0 * 2 ^ (ji5).toNat)) = ji7 := shl_small hji7
   have c8b0 := eq_true (of_decide_eq_true (by first | (with_reducible assumption) | assumption) : 0 ≤ (ji5))
   obtain ⟨ji9, hji9⟩ : ∃ j_ : Int, (shr .i32 (wrap32 (ji7)) (ji5)) = j_ := ⟨_, rfl⟩
   replace H : (some ((ji9) % 4294967296)) = some r := by first | (rw [hji9] at H; exact H) | (simp only [hji9] at H ⊢; exact H)
   have hji9_ : ((wrap32 (ji7)) / 2 ^ min (ji5).toNat 32) = ji9 := hji9
   have hji9z : (ji5) ≤ 32 → ((wrap32 (ji7)) / 2 ^ (ji5).toNat) = ji9 := shr_small hji9
   obtain rfl := Option.some.inj H
   go_enter Tryd.func80, Tryd.ntmps80
   go_wp2
   go_ret
   exact ⟨by first | rfl | (simp; done) | (simp only [← hji5, ← hji7, ← hji9] <;> (first | rfl | (simp; done) | (simp [shl, IntKind.wrap, IntKind.bits, IntKind.signed]; done))) | (simp [*]; done), by repeat (first | exact Drawn0.refl _ | apply Drawn0.step)⟩
  ·rw [if_neg c6] at H
   exact absurd H (by simp)
 ·replace c4 := Bool.eq_false_iff.mpr c4
  subst c4
  have H1 : (if 0 ≤ (IntKind.u64.wrap (32 - a1)) then (some (shr .u32 (shl .u32 a0 (IntKind.u64.wrap (32 - a1))) (IntKind.u64.wrap (32 - a1)))) else (none)) = some r := by rw [if_neg (show ¬ (false = true) by decide)] at H; exact H
  clear H
  have H := H1
  clear H1
  obtain ⟨ji10, hji10⟩ : ∃ j_ : Int, (IntKind.u64.wrap (32 - a1)) = j_ := ⟨_, rfl⟩
  replace H : (if 0 ≤ (ji10) then (some (shr .u32 (shl .u32 a0 (ji10)) (ji10))) else (none)) = some r := by first | (rw [hji10] at H; exact H) | (simp only [hji10] at H ⊢; exact H)
  by_cases c11 : 0 ≤ (ji10)
  ·rw [if_pos c11] at H
   have c11b0 := eq_true c11
   have c11b1 : decide (0 ≤ (ji10)) = true := decide_eq_true c11
   clear c11
   obtain ⟨ji12, hji12⟩ : ∃ j_ : Int, (shl .u32 a0 (ji10)) = j_ := ⟨_, rfl⟩
   replace H : (some (shr .u32 (ji12) (ji10))) = some r := by first | (rw [hji12] at H; exact H) | (simp only [hji12] at H ⊢; exact H)
   have hji12_ : (IntKind.u32.wrap (a0 * 2 ^ min (ji10).toNat 32)) = ji12 := hji12
   have hji12z : (ji10) ≤ 32 → (IntKind.u32.wrap (a0 * 2 ^ (ji10).toNat)) = ji12 := shl_small hji12
   have c13b0 := eq_true (of_decide_eq_true (by first | (with_reducible assumption) | assumption) : 0 ≤ (ji10))
   obtain ⟨ji14, hji14⟩ : ∃ j_ : Int, (shr .u32 (ji12) (ji10)) = j_ := ⟨_, rfl⟩
   replace H : (some ji14) = some r := by first | (rw [hji14] at H; exact H) | (simp only [hji14] at H ⊢; exact H)
   have hji14_ : ((ji12) / 2 ^ min (ji10).toNat 32) = ji14 := hji14
   have hji14z : (ji10) ≤ 32 → ((ji12) / 2 ^ (ji10).toNat) = ji14 := shr_small hji14
   obtain rfl := Option.some.inj H
   go_enter Tryd.func80, Tryd.ntmps80
   go_wp2
   go_ret
   exact ⟨by first | rfl | (simp; done) | (simp only [← hji10, ← hji12, ← hji14] <;> (first | rfl | (simp; done) | (simp [shl, IntKind.wrap, IntKind.bits, IntKind.signed]; done))) | (simp [*]; done), by repeat (first | exact Drawn0.refl _ | apply Drawn0.step)⟩
  ·rw [if_neg c11] at H
   exact absurd H (by simp)

/-! ### word_Value: function 62 -/
mutual
def word_Value.j0 : Nat → List Int → Bool → Int → Bool → Option (Int × Int)
 | 0, _, _, _, _ => none
 | k + 1, x0, x1, x6, x21 => if x21 = true then (some (0, 2)) else (word_Value.l0 k x1 x6 0 x0 (x0.length : Int) 0)
def word_Value.l0 : Nat → Bool → Int → Int → List Int → Int → Int → Option (Int × Int)
 | 0, _, _, _, _, _, _ => none
 | k + 1, x1, x6, x7, x22, x23, x24 => if x24 < x23 then (if 0 ≤ x24 then (if x24 < (x22.length : Int) then (if 0 ≤ (wrap64 (8 * x24)) then (word_Value.l0 k x1 x6 (Go.bits .or .u32 x7 (shl .u32 ((rd x22 x24) % 4294967296) (wrap64 (8 * x24)))) x22 x23 (wrap64 (x24 + 1))) else (none)) else (none)) else (none)) else ((word_low.f x7 (IntKind.u64.wrap (wrap64 (8 * x6))) x1).bind fun t115 => (some (t115, 0)))
end
def word_Value.f (k : Nat) (l0 : List Int) (a1 : Bool) : Option (Int × Int) := if (l0.length : Int) = 1 then (word_Value.j0 k l0 a1 (l0.length : Int) false) else (if (l0.length : Int) = 2 then (word_Value.j0 k l0 a1 (l0.length : Int) false) else (word_Value.j0 k l0 a1 (l0.length : Int) ((l0.length : Int) != 4)))
set_option maxHeartbeats 8000000 in
set_option maxRecDepth 100000 in
theorem word_Value.calls (k : Nat) (A0 : Option Addr) (c0 : Nat) (l0 : List Int) (a1 : Bool) (r1 : Int) (r2 : Int) (w : World) (hr0 : Kd.C (Kd.int .u8) w A0 l0.length l0) (hc0 : l0.length ≤ c0) (h : word_Value.f k l0 a1 = some (r1, r2)) :
  Calls Tryd.prog 62 #[.slice A0 l0.length c0, .bool a1] w fun e w' => e = .returned (.tuple #[.int .u32 r1, .int .i64 r2]) ∧ Drawn0 w w' := by
 have HR0 := Aside0.mk hr0
 have HC0 := Aside0.mk hc0
 clear hr0 hc0
 have H : (if (l0.length : Int) = 1 then (word_Value.j0 k l0 a1 (l0.length : Int) false) else (if (l0.length : Int) = 2 then (word_Value.j0 k l0 a1 (l0.length : Int) false) else (word_Value.j0 k l0 a1 (l0.length : Int) ((l0.length : Int) != 4)))) = some (r1, r2) := h
 clear h
 have HC3 := Aside0.mk H
 clear H
 go_enter Tryd.func62, Tryd.ntmps62
 go_upto_region 2 with (fail)
 go_cut [21] (fun v21 wc => ∃ (kq : Nat) (x21_72 : Bool), v21 = .bool x21_72 ∧ Aside0 (word_Value.j0 kq l0 a1 (l0.length : Int) x21_72 = some (r1, r2)) ∧ Aside0 (kq ≤ k) ∧ Drawn0 w wc)
 case first =>
  have H := HC3.out
  clear HC3
  by_cases c4 : (l0.length : Int) = 1
  ·rw [if_pos c4] at H
   have c4b0 : ((l0.length : Int) == 1) = true := beq_iff_eq.mpr c4
   have c4b1 : ((l0.length : Int) != 1) = false := bne_eq_false_iff_eq.mpr c4
   clear c4
   (first | rw [c4b0] | (simp only [i64_w, i32_w]; rw [c4b0]) | skip)
   have H' := Aside0.mk H
   clear H
   go_wp2
   go_meet
   case rel => exact ⟨_, (false), (by first | rfl | (simp; done) | (simp [*]; done)), H', ⟨by first | omega | exact Nat.le_refl _⟩, by repeat (first | exact Drawn0.refl _ | apply Drawn0.step)⟩
  ·rw [if_neg c4] at H
   have c4b0 : ((l0.length : Int) == 1) = false := beq_eq_false_iff_ne.mpr c4
   have c4b1 : ((l0.length : Int) != 1) = true := bne_iff_ne.mpr c4
   (first | rw [c4b0] | (simp only [i64_w, i32_w]; rw [c4b0]) | skip)
   by_cases c5 : (l0.length : Int) = 2
   ·rw [if_pos c5] at H
    have c5b0 : ((l0.length : Int) == 2) = true := beq_iff_eq.mpr c5
    have c5b1 : ((l0.length : Int) != 2) = false := bne_eq_false_iff_eq.mpr c5
    clear c5
    have H' := Aside0.mk H
    clear H
    go_wp2
    go_meet
    case rel => exact ⟨_, (false), (by first | rfl | (simp; done) | (simp [*]; done)), H', ⟨by first | omega | exact Nat.le_refl _⟩, by repeat (first | exact Drawn0.refl _ | apply Drawn0.step)⟩
   ·rw [if_neg c5] at H
    have c5b0 : ((l0.length : Int) == 2) = false := beq_eq_false_iff_ne.mpr c5
    have c5b1 : ((l0.length : Int) != 2) = true := bne_iff_ne.mpr c5
    have H' := Aside0.mk H
    clear H
    go_wp2
    go_meet
    case rel => exact ⟨_, (((l0.length : Int) != 4)), (by first | rfl | (simp; done) | (simp [*]; done)), H', ⟨by first | omega | exact Nat.le_refl _⟩, by repeat (first | exact Drawn0.refl _ | apply Drawn0.step)⟩
 case rest =>
  clear HC3
  try clear p2
  try clear c4
  try clear c4b0
  try clear c4b1
  try clear c5
  try clear c5b0
  try clear c5b1
  obtain ⟨kq, x21_72, rfl, HA, HJ72, ⟨mc72, rfl⟩⟩ := hcut
  cases kq with
  | zero => exact absurd HA.out (by simp [word_Value.j0])
  | succ kj72 =>
   have H := HA.out
   clear HA
   simp only [word_Value.j0] at H
   by_cases c6 : x21_72 = true
   ·subst c6
    have H1 : (some (0, 2)) = some (r1, r2) := by rw [if_pos rfl] at H; exact H
    clear H
    have H := H1
    clear H1
    simp only [Option.some.injEq, Prod.mk.injEq] at H
    obtain ⟨rfl, rfl⟩ := H
    go_wp2
    go_ret2
    exact ⟨by first | rfl | (simp; done) | (simp [*]; done), by repeat (first | exact Drawn0.refl _ | apply Drawn0.step)⟩
   ·replace c6 := Bool.eq_false_iff.mpr c6
    subst c6
    have H1 : (word_Value.l0 kj72 a1 (l0.length : Int) 0 l0 (l0.length : Int) 0) = some (r1, r2) := by rw [if_neg (show ¬ (false = true) by decide)] at H; exact H
    clear H
    have H := H1
    clear H1
    have H' := Aside0.mk H
    clear H
    go_wp2
    go_loopg [7, 24] kj72 (fun kq v7 v24 w' => ∃ (x7_2 : Int) (x24_2 : Int), v7 = .int .u32 x7_2 ∧ v24 = .int .i64 x24_2 ∧ Aside0 (word_Value.l0 kq a1 (l0.length : Int) x7_2 l0 (l0.length : Int) x24_2 = some (r1, r2)) ∧ Aside0 (kq ≤ kj72) ∧ Drawn0 w w')
    case atStart => exact ⟨(0), (0), (by first | rfl | (simp; done) | (simp [*]; done)), (by first | rfl | (simp; done) | (simp [*]; done)), H', ⟨Nat.le_refl _⟩, by repeat (first | exact Drawn0.refl _ | apply Drawn0.step)⟩
    case round =>
     clear H'
     try clear p2
     try clear c4
     try clear c4b0
     try clear c4b1
     try clear c5
     try clear c5b0
     try clear c5b1
     try clear c6
     try clear p2
     obtain ⟨x7_2, x24_2, rfl, rfl, HA, HK2, ⟨m2, rfl⟩⟩ := hrel
     cases gk with
     | zero => exact absurd HA.out (by simp [word_Value.l0])
     | succ k2 =>
      have H := HA.out
      clear HA
      simp only [word_Value.l0] at H
      by_cases c7 : x24_2 < (l0.length : Int)
      ·rw [if_pos c7] at H
       have c7b0 : decide (x24_2 < (l0.length : Int)) = true := decide_eq_true c7
       clear c7
       by_cases c8 : 0 ≤ x24_2
       ·rw [if_pos c8] at H
        have c8b0 : decide (0 ≤ x24_2) = true := decide_eq_true c8
        clear c8
        by_cases c9 : x24_2 < (l0.length : Int)
        ·rw [if_pos c9] at H
         have c9b0 : decide (x24_2 < (l0.length : Int)) = true := decide_eq_true c9
         clear c9
         obtain ⟨ji10, hji10⟩ : ∃ j_ : Int, (wrap64 (8 * x24_2)) = j_ := ⟨_, rfl⟩
         replace H : (if 0 ≤ (ji10) then (word_Value.l0 k2 a1 (l0.length : Int) (Go.bits .or .u32 x7_2 (shl .u32 ((rd l0 x24_2) % 4294967296) (ji10))) l0 (l0.length : Int) (wrap64 (x24_2 + 1))) else (none)) = some (r1, r2) := by first | (rw [hji10] at H; exact H) | (simp only [hji10] at H ⊢; exact H)
         have hji10w : (IntKind.i64.wrap (8 * x24_2)) = ji10 := (i64_w _).trans hji10
         by_cases c11 : 0 ≤ (ji10)
         ·rw [if_pos c11] at H
          have c11b0 := eq_true c11
          have c11b1 : decide (0 ≤ (ji10)) = true := decide_eq_true c11
          clear c11
          obtain ⟨ji12, hji12⟩ : ∃ j_ : Int, (shl .u32 ((rd l0 x24_2) % 4294967296) (ji10)) = j_ := ⟨_, rfl⟩
          replace H : (word_Value.l0 k2 a1 (l0.length : Int) (Go.bits .or .u32 x7_2 (ji12)) l0 (l0.length : Int) (wrap64 (x24_2 + 1))) = some (r1, r2) := by first | (rw [hji12] at H; exact H) | (simp only [hji12] at H ⊢; exact H)
          have hji12_ : (IntKind.u32.wrap (((rd l0 x24_2) % 4294967296) * 2 ^ min (ji10).toNat 32)) = ji12 := hji12
          have hji12z : (ji10) ≤ 32 → (IntKind.u32.wrap (((rd l0 x24_2) % 4294967296) * 2 ^ (ji10).toNat)) = ji12 := shl_small hji12
          have H' := Aside0.mk H
          clear H
          have p114 : 0 ≤ (x24_2 : Int) := of_decide_eq_true (by first | (with_reducible assumption) | assumption)
          have q114 : x24_2 < (l0.length : Int) := of_decide_eq_true (by first | (with_reducible assumption) | assumption)
          obtain ⟨ad114, e114, hx114_0⟩ := Kd.at_int HR0.out x24_2 p114 q114
          cases e114
          replace p114 := eq_true p114
          replace q114 := eq_true q114
          go_wp2
          go_roundg k2
          case measure => have := HJ72.out; have := HK2.out; omega
          case rel => exact ⟨(Go.bits .or .u32 x7_2 (ji12)), (wrap64 (x24_2 + 1)), (by first | rfl | (simp; done) | (simp only [← hji12] <;> (first | rfl | (simp; done) | (simp [shl, IntKind.wrap, IntKind.bits, IntKind.signed]; done))) | (simp [*]; done)), (by first | rfl | (simp; done) | (simp [*]; done)), H', ⟨by have := HJ72.out; have := HK2.out; omega⟩, by repeat (first | exact Drawn0.refl _ | apply Drawn0.step)⟩
         ·rw [if_neg c11] at H
          exact absurd H (by simp)
        ·rw [if_neg c9] at H
         exact absurd H (by simp)
       ·rw [if_neg c8] at H
        exact absurd H (by simp)
      ·rw [if_neg c7] at H
       have c7b0 : decide (x24_2 < (l0.length : Int)) = false := decide_eq_false c7
       clear c7
       replace H := Option.bind_eq_some_iff.mp H
       obtain ⟨t115, A130, H⟩ := H
       replace H : (some (t115, 0)) = some (r1, r2) := H
       have A13 := Aside0.mk A130
       clear A130
       simp only [Option.some.injEq, Prod.mk.injEq] at H
       obtain ⟨rfl, rfl⟩ := H
       go_wp2_with (first | ((with_reducible refine gate_callee (f := 80) rfl ?_); refine goesL_ (some 42) rfl rfl Tryd.func80 (by kernel_rfl) rfl #[.int .u32 x7_2, .int .u64 (IntKind.u64.wrap (wrap64 (8 * (l0.length : Int)))), .bool a1] rfl (by (try simp only [List.map_toArray, List.map_cons, List.map_nil]); first | done | rfl | (simp only [List.length_drop, List.length_take]; rfl)) ?_; (with_reducible refine (word_low.calls x7_2 (IntKind.u64.wrap (wrap64 (8 * (l0.length : Int)))) a1 t115 _ A13.out).mono ?_); rintro e w' ⟨rfl, ⟨nd, rfl⟩⟩; refine ⟨_, rfl, ?_⟩))
       go_ret2
       exact ⟨by first | rfl | (simp; done) | (simp [*]; done), by repeat (first | exact Drawn0.refl _ | apply Drawn0.step)⟩

-- NOT PRINTED: function 37 (emu_Machine_word)

-- NOT PRINTED: function 28 (emu_Machine_fetch)

/-! ### word_divided: function 81 -/
def word_divided.f (a0 : Int) (a1 : Int) (a2 : Int) : Option (Int) := if a0 = 5 then (if a2 = 0 then (none) else (some ((Int.tdiv a1 a2) % 4294967296))) else (if a0 = 7 then (if a2 = 0 then (none) else (some (Int.tmod a1 a2))) else (if a0 = 6 then (if (wrap64 (wrap32 (a2))) = 0 then (none) else (some ((Int.tmod (wrap64 (wrap32 (a1))) (wrap64 (wrap32 (a2)))) % 4294967296))) else (if (wrap64 (wrap32 (a2))) = 0 then (none) else (some ((wrap64 (Int.tdiv (wrap64 (wrap32 (a1))) (wrap64 (wrap32 (a2))))) % 4294967296)))))
set_option maxHeartbeats 8000000 in
set_option maxRecDepth 100000 in
theorem word_divided.calls (a0 : Int) (a1 : Int) (a2 : Int) (r : Int) (w : World) (h : word_divided.f a0 a1 a2 = some r) :
  Calls Tryd.prog 81 #[.int .i64 a0, .int .u32 a1, .int .u32 a2] w fun e w' => e = .returned (.int .u32 r) ∧ Drawn0 w w' := by
 have H : (if a0 = 5 then (if a2 = 0 then (none) else (some ((Int.tdiv a1 a2) % 4294967296))) else (if a0 = 7 then (if a2 = 0 then (none) else (some (Int.tmod a1 a2))) else (if a0 = 6 then (if (wrap64 (wrap32 (a2))) = 0 then (none) else (some ((Int.tmod (wrap64 (wrap32 (a1))) (wrap64 (wrap32 (a2)))) % 4294967296))) else (if (wrap64 (wrap32 (a2))) = 0 then (none) else (some ((wrap64 (Int.tdiv (wrap64 (wrap32 (a1))) (wrap64 (wrap32 (a2))))) % 4294967296)))))) = some r := h
 clear h
 by_cases c4 : a0 = 5
 ·rw [if_pos c4] at H
  have c4b0 : (a0 == 5) = true := beq_iff_eq.mpr c4
  have c4b1 : (a0 != 5) = false := bne_eq_false_iff_eq.mpr c4
  clear c4
  by_cases c5 : a2 = 0
  ·rw [if_pos c5] at H
   exact absurd H (by simp)
  ·rw [if_neg c5] at H
   have c5b0 : (a2 == 0) = false := beq_eq_false_iff_ne.mpr c5
   have c5b1 : (a2 != 0) = true := bne_iff_ne.mpr c5
   obtain rfl := Option.some.inj H
   go_enter Tryd.func81, Tryd.ntmps81
   go_wp2
   go_ret
   exact ⟨by first | rfl | (simp; done) | (simp [*]; done), by repeat (first | exact Drawn0.refl _ | apply Drawn0.step)⟩
 ·rw [if_neg c4] at H
  have c4b0 : (a0 == 5) = false := beq_eq_false_iff_ne.mpr c4
  have c4b1 : (a0 != 5) = true := bne_iff_ne.mpr c4
  by_cases c6 : a0 = 7
  ·rw [if_pos c6] at H
   have c6b0 : (a0 == 7) = true := beq_iff_eq.mpr c6
   have c6b1 : (a0 != 7) = false := bne_eq_false_iff_eq.mpr c6
   clear c6
   by_cases c7 : a2 = 0
   ·rw [if_pos c7] at H
    exact absurd H (by simp)
   ·rw [if_neg c7] at H
    have c7b0 : (a2 == 0) = false := beq_eq_false_iff_ne.mpr c7
    have c7b1 : (a2 != 0) = true := bne_iff_ne.mpr c7
    obtain rfl := Option.some.inj H
    go_enter Tryd.func81, Tryd.ntmps81
    go_wp2
    go_ret
    exact ⟨by first | rfl | (simp; done) | (simp [*]; done), by repeat (first | exact Drawn0.refl _ | apply Drawn0.step)⟩
  ·rw [if_neg c6] at H
   have c6b0 : (a0 == 7) = false := beq_eq_false_iff_ne.mpr c6
   have c6b1 : (a0 != 7) = true := bne_iff_ne.mpr c6
   by_cases c8 : a0 = 6
   ·rw [if_pos c8] at H
    have c8b0 : (a0 == 6) = true := beq_iff_eq.mpr c8
    have c8b1 : (a0 != 6) = false := bne_eq_false_iff_eq.mpr c8
    clear c8
    by_cases c9 : (wrap64 (wrap32 (a2))) = 0
    ·rw [if_pos c9] at H
     exact absurd H (by simp)
    ·rw [if_neg c9] at H
     have c9b0 : ((wrap64 (wrap32 (a2))) == 0) = false := beq_eq_false_iff_ne.mpr c9
     have c9b1 : ((wrap64 (wrap32 (a2))) != 0) = true := bne_iff_ne.mpr c9
     obtain rfl := Option.some.inj H
     go_enter Tryd.func81, Tryd.ntmps81
     go_wp2
     go_ret
     exact ⟨by first | rfl | (simp; done) | (simp [*]; done), by repeat (first | exact Drawn0.refl _ | apply Drawn0.step)⟩
   ·rw [if_neg c8] at H
    have c8b0 : (a0 == 6) = false := beq_eq_false_iff_ne.mpr c8
    have c8b1 : (a0 != 6) = true := bne_iff_ne.mpr c8
    by_cases c10 : (wrap64 (wrap32 (a2))) = 0
    ·rw [if_pos c10] at H
     exact absurd H (by simp)
    ·rw [if_neg c10] at H
     have c10b0 : ((wrap64 (wrap32 (a2))) == 0) = false := beq_eq_false_iff_ne.mpr c10
     have c10b1 : ((wrap64 (wrap32 (a2))) != 0) = true := bne_iff_ne.mpr c10
     obtain rfl := Option.some.inj H
     go_enter Tryd.func81, Tryd.ntmps81
     go_wp2
     go_ret
     exact ⟨by first | rfl | (simp; done) | (simp [*]; done), by repeat (first | exact Drawn0.refl _ | apply Drawn0.step)⟩

/-! ### word_flag: function 82 -/
def word_flag.f (a0 : Bool) : Option (Int) := if a0 = true then (some 1) else (some 0)
set_option maxHeartbeats 8000000 in
set_option maxRecDepth 100000 in
theorem word_flag.calls (a0 : Bool) (r : Int) (w : World) (h : word_flag.f a0 = some r) :
  Calls Tryd.prog 82 #[.bool a0] w fun e w' => e = .returned (.int .u32 r) ∧ Drawn0 w w' := by
 have H : (if a0 = true then (some 1) else (some 0)) = some r := h
 clear h
 by_cases c2 : a0 = true
 ·subst c2
  have H1 : (some 1) = some r := by rw [if_pos rfl] at H; exact H
  clear H
  have H := H1
  clear H1
  obtain rfl := Option.some.inj H
  go_enter Tryd.func82, Tryd.ntmps82
  go_wp2
  go_ret
  exact ⟨by first | rfl | (simp; done) | (simp [*]; done), by repeat (first | exact Drawn0.refl _ | apply Drawn0.step)⟩
 ·replace c2 := Bool.eq_false_iff.mpr c2
  subst c2
  have H1 : (some 0) = some r := by rw [if_neg (show ¬ (false = true) by decide)] at H; exact H
  clear H
  have H := H1
  clear H1
  obtain rfl := Option.some.inj H
  go_enter Tryd.func82, Tryd.ntmps82
  go_wp2
  go_ret
  exact ⟨by first | rfl | (simp; done) | (simp [*]; done), by repeat (first | exact Drawn0.refl _ | apply Drawn0.step)⟩

/-! ### word_Bin: function 63 -/
def word_Bin.j0 : Nat → Int → Int → Int → Int → Int → Int → Bool → Option (Int × Bool)
 | 0, _, _, _, _, _, _, _ => none
 | k + 1, x0, x1, x2, x8, x9, x14, x15 => if x15 = true then (if x2 = 0 then (some (0, false)) else ((word_divided.f x0 x1 x2).bind fun t116 => (some (t116, true)))) else (if x14 = 1 then (some ((x1 + x2) % 4294967296, true)) else (if x14 = 2 then (some ((x1 - x2) % 4294967296, true)) else (if x14 = 3 then (some ((x1 * x2) % 4294967296, true)) else (if x14 = 8 then (some (Go.bits .and .u32 x1 x2, true)) else (if x14 = 9 then (some (Go.bits .or .u32 x1 x2, true)) else (if x14 = 10 then (some (Go.bits .xor .u32 x1 x2, true)) else (if x14 = 11 then (if 0 ≤ (Go.bits .and .u32 x2 31) then (some (shl .u32 x1 (Go.bits .and .u32 x2 31), true)) else (none)) else (if x14 = 12 then (if 0 ≤ (Go.bits .and .u32 x2 31) then (some ((shr .i32 x8 (Go.bits .and .u32 x2 31)) % 4294967296, true)) else (none)) else (if x14 = 13 then (if 0 ≤ (Go.bits .and .u32 x2 31) then (some (shr .u32 x1 (Go.bits .and .u32 x2 31), true)) else (none)) else (if x14 = 14 then ((word_flag.f (x1 == x2)).bind fun t117 => (some (t117, true))) else (if x14 = 15 then ((word_flag.f (x1 != x2)).bind fun t118 => (some (t118, true))) else (if x14 = 16 then ((word_flag.f (decide (x8 < x9))).bind fun t119 => (some (t119, true))) else (if x14 = 17 then ((word_flag.f (decide (x1 < x2))).bind fun t120 => (some (t120, true))) else (if x14 = 18 then ((word_flag.f (decide (x8 ≤ x9))).bind fun t121 => (some (t121, true))) else (if x14 = 19 then ((word_flag.f (decide (x1 ≤ x2))).bind fun t122 => (some (t122, true))) else (some (0, false)))))))))))))))))
def word_Bin.f (k : Nat) (a0 : Int) (a1 : Int) (a2 : Int) : Option (Int × Bool) := if a0 = 4 then (word_Bin.j0 k a0 a1 a2 (wrap32 (a1)) (wrap32 (a2)) a0 (a0 == 4)) else (if a0 = 5 then (word_Bin.j0 k a0 a1 a2 (wrap32 (a1)) (wrap32 (a2)) a0 (a0 == 5)) else (if a0 = 6 then (word_Bin.j0 k a0 a1 a2 (wrap32 (a1)) (wrap32 (a2)) a0 (a0 == 6)) else (word_Bin.j0 k a0 a1 a2 (wrap32 (a1)) (wrap32 (a2)) a0 (a0 == 7))))
set_option maxHeartbeats 8000000 in
set_option maxRecDepth 100000 in
theorem word_Bin.calls (k : Nat) (a0 : Int) (a1 : Int) (a2 : Int) (r1 : Int) (r2 : Bool) (w : World) (h : word_Bin.f k a0 a1 a2 = some (r1, r2)) :
  Calls Tryd.prog 63 #[.int .i64 a0, .int .u32 a1, .int .u32 a2] w fun e w' => e = .returned (.tuple #[.int .u32 r1, .bool r2]) ∧ Drawn0 w w' := by
 have H : (if a0 = 4 then (word_Bin.j0 k a0 a1 a2 (wrap32 (a1)) (wrap32 (a2)) a0 (a0 == 4)) else (if a0 = 5 then (word_Bin.j0 k a0 a1 a2 (wrap32 (a1)) (wrap32 (a2)) a0 (a0 == 5)) else (if a0 = 6 then (word_Bin.j0 k a0 a1 a2 (wrap32 (a1)) (wrap32 (a2)) a0 (a0 == 6)) else (word_Bin.j0 k a0 a1 a2 (wrap32 (a1)) (wrap32 (a2)) a0 (a0 == 7))))) = some (r1, r2) := h
 clear h
 have HC4 := Aside0.mk H
 clear H
 go_enter Tryd.func63, Tryd.ntmps63
 go_upto_if 15 with (fail)
 go_cut [15] (fun v15 wc => ∃ (kq : Nat) (x15_73 : Bool), v15 = .bool x15_73 ∧ Aside0 (word_Bin.j0 kq a0 a1 a2 (wrap32 (a1)) (wrap32 (a2)) a0 x15_73 = some (r1, r2)) ∧ Aside0 (kq ≤ k) ∧ Drawn0 w wc)
 case first =>
  have H := HC4.out
  clear HC4
  by_cases c5 : a0 = 4
  ·rw [if_pos c5] at H
   have c5b0 : (a0 == 4) = true := beq_iff_eq.mpr c5
   have c5b1 : (a0 != 4) = false := bne_eq_false_iff_eq.mpr c5
   clear c5
   (first | rw [c5b0] | (simp only [i64_w, i32_w]; rw [c5b0]) | skip)
   have H' := Aside0.mk H
   clear H
   go_wp2
   go_meet
   case rel => exact ⟨_, ((a0 == 4)), (by first | rfl | (simp; done) | (simp [*]; done)), H', ⟨by first | omega | exact Nat.le_refl _⟩, by repeat (first | exact Drawn0.refl _ | apply Drawn0.step)⟩
  ·rw [if_neg c5] at H
   have c5b0 : (a0 == 4) = false := beq_eq_false_iff_ne.mpr c5
   have c5b1 : (a0 != 4) = true := bne_iff_ne.mpr c5
   (first | rw [c5b0] | (simp only [i64_w, i32_w]; rw [c5b0]) | skip)
   by_cases c6 : a0 = 5
   ·rw [if_pos c6] at H
    have c6b0 : (a0 == 5) = true := beq_iff_eq.mpr c6
    have c6b1 : (a0 != 5) = false := bne_eq_false_iff_eq.mpr c6
    clear c6
    have H' := Aside0.mk H
    clear H
    go_wp2
    go_meet
    case rel => exact ⟨_, ((a0 == 5)), (by first | rfl | (simp; done) | (simp [*]; done)), H', ⟨by first | omega | exact Nat.le_refl _⟩, by repeat (first | exact Drawn0.refl _ | apply Drawn0.step)⟩
   ·rw [if_neg c6] at H
    have c6b0 : (a0 == 5) = false := beq_eq_false_iff_ne.mpr c6
    have c6b1 : (a0 != 5) = true := bne_iff_ne.mpr c6
    by_cases c7 : a0 = 6
    ·rw [if_pos c7] at H
     have c7b0 : (a0 == 6) = true := beq_iff_eq.mpr c7
     have c7b1 : (a0 != 6) = false := bne_eq_false_iff_eq.mpr c7
     clear c7
     have H' := Aside0.mk H
     clear H
     go_wp2
     go_meet
     case rel => exact ⟨_, ((a0 == 6)), (by first | rfl | (simp; done) | (simp [*]; done)), H', ⟨by first | omega | exact Nat.le_refl _⟩, by repeat (first | exact Drawn0.refl _ | apply Drawn0.step)⟩
    ·rw [if_neg c7] at H
     have c7b0 : (a0 == 6) = false := beq_eq_false_iff_ne.mpr c7
     have c7b1 : (a0 != 6) = true := bne_iff_ne.mpr c7
     have H' := Aside0.mk H
     clear H
     go_wp2
     go_meet
     case rel => exact ⟨_, ((a0 == 7)), (by first | rfl | (simp; done) | (simp [*]; done)), H', ⟨by first | omega | exact Nat.le_refl _⟩, by repeat (first | exact Drawn0.refl _ | apply Drawn0.step)⟩
 case rest =>
  clear HC4
  try clear p2
  try clear p3
  try clear c5
  try clear c5b0
  try clear c5b1
  try clear c6
  try clear c6b0
  try clear c6b1
  try clear c7
  try clear c7b0
  try clear c7b1
  obtain ⟨kq, x15_73, rfl, HA, HJ73, ⟨mc73, rfl⟩⟩ := hcut
  cases kq with
  | zero => exact absurd HA.out (by simp [word_Bin.j0])
  | succ kj73 =>
   have H := HA.out
   clear HA
   simp only [word_Bin.j0] at H
   by_cases c8 : x15_73 = true
   ·subst c8
    have H1 : (if a2 = 0 then (some (0, false)) else ((word_divided.f a0 a1 a2).bind fun t116 => (some (t116, true)))) = some (r1, r2) := by rw [if_pos rfl] at H; exact H
    clear H
    have H := H1
    clear H1
    by_cases c9 : a2 = 0
    ·rw [if_pos c9] at H
     have c9b0 : (a2 == 0) = true := beq_iff_eq.mpr c9
     have c9b1 : (a2 != 0) = false := bne_eq_false_iff_eq.mpr c9
     clear c9
     simp only [Option.some.injEq, Prod.mk.injEq] at H
     obtain ⟨rfl, rfl⟩ := H
     go_wp2
     go_ret2
     exact ⟨by first | rfl | (simp; done) | (simp [*]; done), by repeat (first | exact Drawn0.refl _ | apply Drawn0.step)⟩
    ·rw [if_neg c9] at H
     have c9b0 : (a2 == 0) = false := beq_eq_false_iff_ne.mpr c9
     have c9b1 : (a2 != 0) = true := bne_iff_ne.mpr c9
     replace H := Option.bind_eq_some_iff.mp H
     obtain ⟨t116, A100, H⟩ := H
     replace H : (some (t116, true)) = some (r1, r2) := H
     have A10 := Aside0.mk A100
     clear A100
     simp only [Option.some.injEq, Prod.mk.injEq] at H
     obtain ⟨rfl, rfl⟩ := H
     go_wp2_with (first | ((with_reducible refine gate_callee (f := 81) rfl ?_); refine goesL_ (some 25) rfl rfl Tryd.func81 (by kernel_rfl) rfl #[.int .i64 a0, .int .u32 a1, .int .u32 a2] rfl (by (try simp only [List.map_toArray, List.map_cons, List.map_nil]); first | done | rfl | (simp only [List.length_drop, List.length_take]; rfl)) ?_; (with_reducible refine (word_divided.calls a0 a1 a2 t116 _ A10.out).mono ?_); rintro e w' ⟨rfl, ⟨nd, rfl⟩⟩; refine ⟨_, rfl, ?_⟩))
     go_ret2
     exact ⟨by first | rfl | (simp; done) | (simp [*]; done), by repeat (first | exact Drawn0.refl _ | apply Drawn0.step)⟩
   ·replace c8 := Bool.eq_false_iff.mpr c8
    subst c8
    have H1 : (if a0 = 1 then (some ((a1 + a2) % 4294967296, true)) else (if a0 = 2 then (some ((a1 - a2) % 4294967296, true)) else (if a0 = 3 then (some ((a1 * a2) % 4294967296, true)) else (if a0 = 8 then (some (Go.bits .and .u32 a1 a2, true)) else (if a0 = 9 then (some (Go.bits .or .u32 a1 a2, true)) else (if a0 = 10 then (some (Go.bits .xor .u32 a1 a2, true)) else (if a0 = 11 then (if 0 ≤ (Go.bits .and .u32 a2 31) then (some (shl .u32 a1 (Go.bits .and .u32 a2 31), true)) else (none)) else (if a0 = 12 then (if 0 ≤ (Go.bits .and .u32 a2 31) then (some ((shr .i32 (wrap32 (a1)) (Go.bits .and .u32 a2 31)) % 4294967296, true)) else (none)) else (if a0 = 13 then (if 0 ≤ (Go.bits .and .u32 a2 31) then (some (shr .u32 a1 (Go.bits .and .u32 a2 31), true)) else (none)) else (if a0 = 14 then ((word_flag.f (a1 == a2)).bind fun t117 => (some (t117, true))) else (if a0 = 15 then ((word_flag.f (a1 != a2)).bind fun t118 => (some (t118, true))) else (if a0 = 16 then ((word_flag.f (decide ((wrap32 (a1)) < (wrap32 (a2))))).bind fun t119 => (some (t119, true))) else (if a0 = 17 then ((word_flag.f (decide (a1 < a2))).bind fun t120 => (some (t120, true))) else (if a0 = 18 then ((word_flag.f (decide ((wrap32 (a1)) ≤ (wrap32 (a2))))).bind fun t121 => (some (t121, true))) else (if a0 = 19 then ((word_flag.f (decide (a1 ≤ a2))).bind fun t122 => (some (t122, true))) else (some (0, false))))))))))))))))) = some (r1, r2) := by rw [if_neg (show ¬ (false = true) by decide)] at H; exact H
    clear H
    have H := H1
    clear H1
    by_cases c11 : a0 = 1
    ·rw [if_pos c11] at H
     have c11b0 : (a0 == 1) = true := beq_iff_eq.mpr c11
     have c11b1 : (a0 != 1) = false := bne_eq_false_iff_eq.mpr c11
     clear c11
     simp only [Option.some.injEq, Prod.mk.injEq] at H
     obtain ⟨rfl, rfl⟩ := H
     go_wp2
     go_ret2
     exact ⟨by first | rfl | (simp; done) | (simp [*]; done), by repeat (first | exact Drawn0.refl _ | apply Drawn0.step)⟩
    ·rw [if_neg c11] at H
     have c11b0 : (a0 == 1) = false := beq_eq_false_iff_ne.mpr c11
     have c11b1 : (a0 != 1) = true := bne_iff_ne.mpr c11
     by_cases c12 : a0 = 2
     ·rw [if_pos c12] at H
      have c12b0 : (a0 == 2) = true := beq_iff_eq.mpr c12
      have c12b1 : (a0 != 2) = false := bne_eq_false_iff_eq.mpr c12
      clear c12
      simp only [Option.some.injEq, Prod.mk.injEq] at H
      obtain ⟨rfl, rfl⟩ := H
      go_wp2
      go_ret2
      exact ⟨by first | rfl | (simp; done) | (simp [*]; done), by repeat (first | exact Drawn0.refl _ | apply Drawn0.step)⟩
     ·rw [if_neg c12] at H
      have c12b0 : (a0 == 2) = false := beq_eq_false_iff_ne.mpr c12
      have c12b1 : (a0 != 2) = true := bne_iff_ne.mpr c12
      by_cases c13 : a0 = 3
      ·rw [if_pos c13] at H
       have c13b0 : (a0 == 3) = true := beq_iff_eq.mpr c13
       have c13b1 : (a0 != 3) = false := bne_eq_false_iff_eq.mpr c13
       clear c13
       simp only [Option.some.injEq, Prod.mk.injEq] at H
       obtain ⟨rfl, rfl⟩ := H
       go_wp2
       go_ret2
       exact ⟨by first | rfl | (simp; done) | (simp [*]; done), by repeat (first | exact Drawn0.refl _ | apply Drawn0.step)⟩
      ·rw [if_neg c13] at H
       have c13b0 : (a0 == 3) = false := beq_eq_false_iff_ne.mpr c13
       have c13b1 : (a0 != 3) = true := bne_iff_ne.mpr c13
       by_cases c14 : a0 = 8
       ·rw [if_pos c14] at H
        have c14b0 : (a0 == 8) = true := beq_iff_eq.mpr c14
        have c14b1 : (a0 != 8) = false := bne_eq_false_iff_eq.mpr c14
        clear c14
        simp only [Option.some.injEq, Prod.mk.injEq] at H
        obtain ⟨rfl, rfl⟩ := H
        go_wp2
        go_ret2
        exact ⟨by first | rfl | (simp; done) | (simp [*]; done), by repeat (first | exact Drawn0.refl _ | apply Drawn0.step)⟩
       ·rw [if_neg c14] at H
        have c14b0 : (a0 == 8) = false := beq_eq_false_iff_ne.mpr c14
        have c14b1 : (a0 != 8) = true := bne_iff_ne.mpr c14
        by_cases c15 : a0 = 9
        ·rw [if_pos c15] at H
         have c15b0 : (a0 == 9) = true := beq_iff_eq.mpr c15
         have c15b1 : (a0 != 9) = false := bne_eq_false_iff_eq.mpr c15
         clear c15
         simp only [Option.some.injEq, Prod.mk.injEq] at H
         obtain ⟨rfl, rfl⟩ := H
         go_wp2
         go_ret2
         exact ⟨by first | rfl | (simp; done) | (simp [*]; done), by repeat (first | exact Drawn0.refl _ | apply Drawn0.step)⟩
        ·rw [if_neg c15] at H
         have c15b0 : (a0 == 9) = false := beq_eq_false_iff_ne.mpr c15
         have c15b1 : (a0 != 9) = true := bne_iff_ne.mpr c15
         by_cases c16 : a0 = 10
         ·rw [if_pos c16] at H
          have c16b0 : (a0 == 10) = true := beq_iff_eq.mpr c16
          have c16b1 : (a0 != 10) = false := bne_eq_false_iff_eq.mpr c16
          clear c16
          simp only [Option.some.injEq, Prod.mk.injEq] at H
          obtain ⟨rfl, rfl⟩ := H
          go_wp2
          go_ret2
          exact ⟨by first | rfl | (simp; done) | (simp [*]; done), by repeat (first | exact Drawn0.refl _ | apply Drawn0.step)⟩
         ·rw [if_neg c16] at H
          have c16b0 : (a0 == 10) = false := beq_eq_false_iff_ne.mpr c16
          have c16b1 : (a0 != 10) = true := bne_iff_ne.mpr c16
          by_cases c17 : a0 = 11
          ·rw [if_pos c17] at H
           have c17b0 : (a0 == 11) = true := beq_iff_eq.mpr c17
           have c17b1 : (a0 != 11) = false := bne_eq_false_iff_eq.mpr c17
           clear c17
           by_cases c18 : 0 ≤ (Go.bits .and .u32 a2 31)
           ·rw [if_pos c18] at H
            have c18b0 := eq_true c18
            have c18b1 : decide (0 ≤ (Go.bits .and .u32 a2 31)) = true := decide_eq_true c18
            clear c18
            obtain ⟨ji19, hji19⟩ : ∃ j_ : Int, (shl .u32 a1 (Go.bits .and .u32 a2 31)) = j_ := ⟨_, rfl⟩
            replace H : (some (ji19, true)) = some (r1, r2) := by first | (rw [hji19] at H; exact H) | (simp only [hji19] at H ⊢; exact H)
            have hji19_ : (IntKind.u32.wrap (a1 * 2 ^ min (Go.bits .and .u32 a2 31).toNat 32)) = ji19 := hji19
            have hji19z : (Go.bits .and .u32 a2 31) ≤ 32 → (IntKind.u32.wrap (a1 * 2 ^ (Go.bits .and .u32 a2 31).toNat)) = ji19 := shl_small hji19
            simp only [Option.some.injEq, Prod.mk.injEq] at H
            obtain ⟨rfl, rfl⟩ := H
            go_wp2
            go_ret2
            exact ⟨by first | rfl | (simp; done) | (simp only [← hji19] <;> (first | rfl | (simp; done) | (simp [shl, IntKind.wrap, IntKind.bits, IntKind.signed]; done))) | (simp [*]; done), by repeat (first | exact Drawn0.refl _ | apply Drawn0.step)⟩
           ·rw [if_neg c18] at H
            exact absurd H (by simp)
          ·rw [if_neg c17] at H
           have c17b0 : (a0 == 11) = false := beq_eq_false_iff_ne.mpr c17
           have c17b1 : (a0 != 11) = true := bne_iff_ne.mpr c17
           by_cases c20 : a0 = 12
           ·rw [if_pos c20] at H
            have c20b0 : (a0 == 12) = true := beq_iff_eq.mpr c20
            have c20b1 : (a0 != 12) = false := bne_eq_false_iff_eq.mpr c20
            clear c20
            by_cases c21 : 0 ≤ (Go.bits .and .u32 a2 31)
            ·rw [if_pos c21] at H
             have c21b0 := eq_true c21
             have c21b1 : decide (0 ≤ (Go.bits .and .u32 a2 31)) = true := decide_eq_true c21
             clear c21
             obtain ⟨ji22, hji22⟩ : ∃ j_ : Int, (shr .i32 (wrap32 (a1)) (Go.bits .and .u32 a2 31)) = j_ := ⟨_, rfl⟩
             replace H : (some ((ji22) % 4294967296, true)) = some (r1, r2) := by first | (rw [hji22] at H; exact H) | (simp only [hji22] at H ⊢; exact H)
             have hji22_ : ((wrap32 (a1)) / 2 ^ min (Go.bits .and .u32 a2 31).toNat 32) = ji22 := hji22
             have hji22z : (Go.bits .and .u32 a2 31) ≤ 32 → ((wrap32 (a1)) / 2 ^ (Go.bits .and .u32 a2 31).toNat) = ji22 := shr_small hji22
             simp only [Option.some.injEq, Prod.mk.injEq] at H
             obtain ⟨rfl, rfl⟩ := H
             go_wp2
             go_ret2
             exact ⟨by first | rfl | (simp; done) | (simp only [← hji22] <;> (first | rfl | (simp; done) | (simp [shl, IntKind.wrap, IntKind.bits, IntKind.signed]; done))) | (simp [*]; done), by repeat (first | exact Drawn0.refl _ | apply Drawn0.step)⟩
            ·rw [if_neg c21] at H
             exact absurd H (by simp)
           ·rw [if_neg c20] at H
            have c20b0 : (a0 == 12) = false := beq_eq_false_iff_ne.mpr c20
            have c20b1 : (a0 != 12) = true := bne_iff_ne.mpr c20
            by_cases c23 : a0 = 13
            ·rw [if_pos c23] at H
             have c23b0 : (a0 == 13) = true := beq_iff_eq.mpr c23
             have c23b1 : (a0 != 13) = false := bne_eq_false_iff_eq.mpr c23
             clear c23
             by_cases c24 : 0 ≤ (Go.bits .and .u32 a2 31)
             ·rw [if_pos c24] at H
              have c24b0 := eq_true c24
              have c24b1 : decide (0 ≤ (Go.bits .and .u32 a2 31)) = true := decide_eq_true c24
              clear c24
              obtain ⟨ji25, hji25⟩ : ∃ j_ : Int, (shr .u32 a1 (Go.bits .and .u32 a2 31)) = j_ := ⟨_, rfl⟩
              replace H : (some (ji25, true)) = some (r1, r2) := by first | (rw [hji25] at H; exact H) | (simp only [hji25] at H ⊢; exact H)
              have hji25_ : (a1 / 2 ^ min (Go.bits .and .u32 a2 31).toNat 32) = ji25 := hji25
              have hji25z : (Go.bits .and .u32 a2 31) ≤ 32 → (a1 / 2 ^ (Go.bits .and .u32 a2 31).toNat) = ji25 := shr_small hji25
              simp only [Option.some.injEq, Prod.mk.injEq] at H
              obtain ⟨rfl, rfl⟩ := H
              go_wp2
              go_ret2
              exact ⟨by first | rfl | (simp; done) | (simp only [← hji25] <;> (first | rfl | (simp; done) | (simp [shl, IntKind.wrap, IntKind.bits, IntKind.signed]; done))) | (simp [*]; done), by repeat (first | exact Drawn0.refl _ | apply Drawn0.step)⟩
             ·rw [if_neg c24] at H
              exact absurd H (by simp)
            ·rw [if_neg c23] at H
             have c23b0 : (a0 == 13) = false := beq_eq_false_iff_ne.mpr c23
             have c23b1 : (a0 != 13) = true := bne_iff_ne.mpr c23
             by_cases c26 : a0 = 14
             ·rw [if_pos c26] at H
              have c26b0 : (a0 == 14) = true := beq_iff_eq.mpr c26
              have c26b1 : (a0 != 14) = false := bne_eq_false_iff_eq.mpr c26
              clear c26
              replace H := Option.bind_eq_some_iff.mp H
              obtain ⟨t117, A270, H⟩ := H
              replace H : (some (t117, true)) = some (r1, r2) := H
              have A27 := Aside0.mk A270
              clear A270
              simp only [Option.some.injEq, Prod.mk.injEq] at H
              obtain ⟨rfl, rfl⟩ := H
              go_wp2_with (first | ((with_reducible refine gate_callee (f := 82) rfl ?_); refine goesL_ (some 80) rfl rfl Tryd.func82 (by kernel_rfl) rfl #[.bool (a1 == a2)] rfl (by (try simp only [List.map_toArray, List.map_cons, List.map_nil]); first | done | rfl | (simp only [List.length_drop, List.length_take]; rfl)) ?_; (with_reducible refine (word_flag.calls (a1 == a2) t117 _ A27.out).mono ?_); rintro e w' ⟨rfl, ⟨nd, rfl⟩⟩; refine ⟨_, rfl, ?_⟩))
              go_ret2
              exact ⟨by first | rfl | (simp; done) | (simp [*]; done), by repeat (first | exact Drawn0.refl _ | apply Drawn0.step)⟩
             ·rw [if_neg c26] at H
              have c26b0 : (a0 == 14) = false := beq_eq_false_iff_ne.mpr c26
              have c26b1 : (a0 != 14) = true := bne_iff_ne.mpr c26
              by_cases c28 : a0 = 15
              ·rw [if_pos c28] at H
               have c28b0 : (a0 == 15) = true := beq_iff_eq.mpr c28
               have c28b1 : (a0 != 15) = false := bne_eq_false_iff_eq.mpr c28
               clear c28
               replace H := Option.bind_eq_some_iff.mp H
               obtain ⟨t118, A290, H⟩ := H
               replace H : (some (t118, true)) = some (r1, r2) := H
               have A29 := Aside0.mk A290
               clear A290
               simp only [Option.some.injEq, Prod.mk.injEq] at H
               obtain ⟨rfl, rfl⟩ := H
               go_wp2_with (first | ((with_reducible refine gate_callee (f := 82) rfl ?_); refine goesL_ (some 86) rfl rfl Tryd.func82 (by kernel_rfl) rfl #[.bool (a1 != a2)] rfl (by (try simp only [List.map_toArray, List.map_cons, List.map_nil]); first | done | rfl | (simp only [List.length_drop, List.length_take]; rfl)) ?_; (with_reducible refine (word_flag.calls (a1 != a2) t118 _ A29.out).mono ?_); rintro e w' ⟨rfl, ⟨nd, rfl⟩⟩; refine ⟨_, rfl, ?_⟩))
               go_ret2
               exact ⟨by first | rfl | (simp; done) | (simp [*]; done), by repeat (first | exact Drawn0.refl _ | apply Drawn0.step)⟩
              ·rw [if_neg c28] at H
               have c28b0 : (a0 == 15) = false := beq_eq_false_iff_ne.mpr c28
               have c28b1 : (a0 != 15) = true := bne_iff_ne.mpr c28
               by_cases c30 : a0 = 16
               ·rw [if_pos c30] at H
                have c30b0 : (a0 == 16) = true := beq_iff_eq.mpr c30
                have c30b1 : (a0 != 16) = false := bne_eq_false_iff_eq.mpr c30
                clear c30
                replace H := Option.bind_eq_some_iff.mp H
                obtain ⟨t119, A310, H⟩ := H
                replace H : (some (t119, true)) = some (r1, r2) := H
                have A31 := Aside0.mk A310
                clear A310
                simp only [Option.some.injEq, Prod.mk.injEq] at H
                obtain ⟨rfl, rfl⟩ := H
                go_wp2_with (first | ((with_reducible refine gate_callee (f := 82) rfl ?_); refine goesL_ (some 92) rfl rfl Tryd.func82 (by kernel_rfl) rfl #[.bool (decide ((wrap32 (a1)) < (wrap32 (a2))))] rfl (by (try simp only [List.map_toArray, List.map_cons, List.map_nil]); first | done | rfl | (simp only [List.length_drop, List.length_take]; rfl)) ?_; (with_reducible refine (word_flag.calls (decide ((wrap32 (a1)) < (wrap32 (a2)))) t119 _ A31.out).mono ?_); rintro e w' ⟨rfl, ⟨nd, rfl⟩⟩; refine ⟨_, rfl, ?_⟩))
                go_ret2
                exact ⟨by first | rfl | (simp; done) | (simp [*]; done), by repeat (first | exact Drawn0.refl _ | apply Drawn0.step)⟩
               ·rw [if_neg c30] at H
                have c30b0 : (a0 == 16) = false := beq_eq_false_iff_ne.mpr c30
                have c30b1 : (a0 != 16) = true := bne_iff_ne.mpr c30
                by_cases c32 : a0 = 17
                ·rw [if_pos c32] at H
                 have c32b0 : (a0 == 17) = true := beq_iff_eq.mpr c32
                 have c32b1 : (a0 != 17) = false := bne_eq_false_iff_eq.mpr c32
                 clear c32
                 replace H := Option.bind_eq_some_iff.mp H
                 obtain ⟨t120, A330, H⟩ := H
                 replace H : (some (t120, true)) = some (r1, r2) := H
                 have A33 := Aside0.mk A330
                 clear A330
                 simp only [Option.some.injEq, Prod.mk.injEq] at H
                 obtain ⟨rfl, rfl⟩ := H
                 go_wp2_with (first | ((with_reducible refine gate_callee (f := 82) rfl ?_); refine goesL_ (some 98) rfl rfl Tryd.func82 (by kernel_rfl) rfl #[.bool (decide (a1 < a2))] rfl (by (try simp only [List.map_toArray, List.map_cons, List.map_nil]); first | done | rfl | (simp only [List.length_drop, List.length_take]; rfl)) ?_; (with_reducible refine (word_flag.calls (decide (a1 < a2)) t120 _ A33.out).mono ?_); rintro e w' ⟨rfl, ⟨nd, rfl⟩⟩; refine ⟨_, rfl, ?_⟩))
                 go_ret2
                 exact ⟨by first | rfl | (simp; done) | (simp [*]; done), by repeat (first | exact Drawn0.refl _ | apply Drawn0.step)⟩
                ·rw [if_neg c32] at H
                 have c32b0 : (a0 == 17) = false := beq_eq_false_iff_ne.mpr c32
                 have c32b1 : (a0 != 17) = true := bne_iff_ne.mpr c32
                 by_cases c34 : a0 = 18
                 ·rw [if_pos c34] at H
                  have c34b0 : (a0 == 18) = true := beq_iff_eq.mpr c34
                  have c34b1 : (a0 != 18) = false := bne_eq_false_iff_eq.mpr c34
                  clear c34
                  replace H := Option.bind_eq_some_iff.mp H
                  obtain ⟨t121, A350, H⟩ := H
                  replace H : (some (t121, true)) = some (r1, r2) := H
                  have A35 := Aside0.mk A350
                  clear A350
                  simp only [Option.some.injEq, Prod.mk.injEq] at H
                  obtain ⟨rfl, rfl⟩ := H
                  go_wp2_with (first | ((with_reducible refine gate_callee (f := 82) rfl ?_); refine goesL_ (some 104) rfl rfl Tryd.func82 (by kernel_rfl) rfl #[.bool (decide ((wrap32 (a1)) ≤ (wrap32 (a2))))] rfl (by (try simp only [List.map_toArray, List.map_cons, List.map_nil]); first | done | rfl | (simp only [List.length_drop, List.length_take]; rfl)) ?_; (with_reducible refine (word_flag.calls (decide ((wrap32 (a1)) ≤ (wrap32 (a2)))) t121 _ A35.out).mono ?_); rintro e w' ⟨rfl, ⟨nd, rfl⟩⟩; refine ⟨_, rfl, ?_⟩))
                  go_ret2
                  exact ⟨by first | rfl | (simp; done) | (simp [*]; done), by repeat (first | exact Drawn0.refl _ | apply Drawn0.step)⟩
                 ·rw [if_neg c34] at H
                  have c34b0 : (a0 == 18) = false := beq_eq_false_iff_ne.mpr c34
                  have c34b1 : (a0 != 18) = true := bne_iff_ne.mpr c34
                  by_cases c36 : a0 = 19
                  ·rw [if_pos c36] at H
                   have c36b0 : (a0 == 19) = true := beq_iff_eq.mpr c36
                   have c36b1 : (a0 != 19) = false := bne_eq_false_iff_eq.mpr c36
                   clear c36
                   replace H := Option.bind_eq_some_iff.mp H
                   obtain ⟨t122, A370, H⟩ := H
                   replace H : (some (t122, true)) = some (r1, r2) := H
                   have A37 := Aside0.mk A370
                   clear A370
                   simp only [Option.some.injEq, Prod.mk.injEq] at H
                   obtain ⟨rfl, rfl⟩ := H
                   go_wp2_with (first | ((with_reducible refine gate_callee (f := 82) rfl ?_); refine goesL_ (some 110) rfl rfl Tryd.func82 (by kernel_rfl) rfl #[.bool (decide (a1 ≤ a2))] rfl (by (try simp only [List.map_toArray, List.map_cons, List.map_nil]); first | done | rfl | (simp only [List.length_drop, List.length_take]; rfl)) ?_; (with_reducible refine (word_flag.calls (decide (a1 ≤ a2)) t122 _ A37.out).mono ?_); rintro e w' ⟨rfl, ⟨nd, rfl⟩⟩; refine ⟨_, rfl, ?_⟩))
                   go_ret2
                   exact ⟨by first | rfl | (simp; done) | (simp [*]; done), by repeat (first | exact Drawn0.refl _ | apply Drawn0.step)⟩
                  ·rw [if_neg c36] at H
                   have c36b0 : (a0 == 19) = false := beq_eq_false_iff_ne.mpr c36
                   have c36b1 : (a0 != 19) = true := bne_iff_ne.mpr c36
                   simp only [Option.some.injEq, Prod.mk.injEq] at H
                   obtain ⟨rfl, rfl⟩ := H
                   go_wp2
                   go_ret2
                   exact ⟨by first | rfl | (simp; done) | (simp [*]; done), by repeat (first | exact Drawn0.refl _ | apply Drawn0.step)⟩

-- NOT PRINTED: function 39 (emu_Machine_reckon)

-- NOT PRINTED: function 83 (emu_Machine_may)

-- NOT PRINTED: function 64 (emu_Machine_load)

-- NOT PRINTED: function 65 (emu_Machine_store)

-- NOT PRINTED: function 41 (emu_Machine_access)

-- NOT PRINTED: function 42 (emu_Machine_jump)

-- NOT PRINTED: function 29 (emu_Machine_do)

-- NOT PRINTED: function 44 (reflectlite_ValueOf)

-- NOT PRINTED: function 45 (reflectlite_Value_Type)

-- NOT PRINTED: function 46 (reflectlite_Value_IsNil)

-- NOT PRINTED: function 66 (reflectlite_TypeOf)

-- NOT PRINTED: function 67 (reflectlite_Value_Elem)

-- NOT PRINTED: function 68 (reflectlite_Value_Set)

end Go.Proofs.YtejhnlljddjicaaDoor.PEm
