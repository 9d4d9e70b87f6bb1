/- What Go functions answer, proved by walking their code (written by a program of this session, a changed copy of the print). Conditions: none beyond the ones each theorem names. -/
import Derived.Test.YtejhnlljddjicaaJPLkx0
import Derived.Test.YtejhnlljddjicaaJPLkx4
import Derived.Test.YtejhnlljddjicaaJPLkx7
namespace Go.Proofs.Ytejhnlljddjicaa.PLk
open Go.RowKit Go.Proofs.YtejhnlljddjicaaW.PrintWords Go.Proofs.YtejhnlljddjicaaW.PrintLast Go.Proofs.YtejhnlljddjicaaW.PrintMore
attribute [local go_sem] max2_int min2_int max_two min_two max_three min_three max_four min_four   -- for this text's walks alone
set_option linter.unusedVariables false
set_option linter.unusedSimpArgs false

/-! ### mortiseref01_Bin: function 59 -/
mutual
def mortiseref01_Bin.j0 : Nat → Int → Int → Int → Int → Int → Bool → Option (Int × Bool)
 | 0, _, _, _, _, _, _ => none
 | k + 1, x0, x1, x2, x8, x16, x32 => if x32 = true then (if x2 = 0 then (some (0, false)) else (if x0 = 4 then (mortiseref01_Bin.j1 k x0 x1 x2 (wrap64 (x1)) (wrap64 (x2)) true) else (mortiseref01_Bin.j1 k x0 x1 x2 (wrap64 (x1)) (wrap64 (x2)) (x0 == 6)))) else (if x16 = 8 then (some (Go.bits .and .u32 x1 x2, true)) else (if x16 = 9 then (some (Go.bits .or .u32 x1 x2, true)) else (if x16 = 10 then (some (Go.bits .xor .u32 x1 x2, true)) else (if x16 = 11 then (if 0 ≤ x8 then (some (shl .u32 x1 x8, true)) else (none)) else (if x16 = 13 then (if 0 ≤ x8 then (some (shr .u32 x1 x8, true)) else (none)) else (if x16 = 12 then ((mortiseref01_Int.f x1).bind fun t201 => (if 0 ≤ x8 then ((mortiseref01_Of.f (shr .i64 t201 x8)).bind fun t202 => (some (t202, true))) else (none))) else (if x16 = 14 then ((mortiseref01_flag.f (x1 == x2)).bind fun t203 => (some (t203, true))) else (if x16 = 15 then ((mortiseref01_flag.f (x1 != x2)).bind fun t204 => (some (t204, true))) else (if x16 = 16 then ((mortiseref01_Int.f x1).bind fun t205 => ((mortiseref01_Int.f x2).bind fun t206 => ((mortiseref01_flag.f (decide (t205 < t206))).bind fun t207 => (some (t207, true))))) else (if x16 = 17 then ((mortiseref01_flag.f (decide (x1 < x2))).bind fun t208 => (some (t208, true))) else (if x16 = 18 then ((mortiseref01_Int.f x1).bind fun t209 => ((mortiseref01_Int.f x2).bind fun t210 => ((mortiseref01_flag.f (decide (t209 ≤ t210))).bind fun t211 => (some (t211, true))))) else (if x16 = 19 then ((mortiseref01_flag.f (decide (x1 ≤ x2))).bind fun t212 => (some (t212, true))) else (some (0, false))))))))))))))
def mortiseref01_Bin.j1 : Nat → Int → Int → Int → Int → Int → Bool → Option (Int × Bool)
 | 0, _, _, _, _, _, _ => none
 | k + 1, x0, x1, x2, x9, x10, x48 => if x48 = true then ((mortiseref01_Int.f x1).bind fun t195 => ((mortiseref01_Int.f x2).bind fun t196 => (mortiseref01_Bin.j2 k x0 t195 t196))) else (mortiseref01_Bin.j2 k x0 x9 x10)
def mortiseref01_Bin.j2 : Nat → Int → Int → Int → Option (Int × Bool)
 | 0, _, _, _ => none
 | k + 1, x0, x9, x10 => (mortiseref01_quotient.f x9 x10).bind fun bt197 => (if x0 = 4 then (mortiseref01_Bin.j3 k bt197.1 bt197.2 true) else (mortiseref01_Bin.j3 k bt197.1 bt197.2 (x0 == 5)))
def mortiseref01_Bin.j3 : Nat → Int → Int → Bool → Option (Int × Bool)
 | 0, _, _, _ => none
 | k + 1, x11, x12, x64 => if x64 = true then ((mortiseref01_Of.f x11).bind fun t199 => (some (t199, true))) else ((mortiseref01_Of.f x12).bind fun t200 => (some (t200, true)))
end
def mortiseref01_Bin.f (k : Nat) (a0 : Int) (a1 : Int) (a2 : Int) : Option (Int × Bool) := if a0 = 1 then (some ((a1 + a2) % 4294967296, true)) else (if a0 = 2 then (some ((a1 - a2) % 4294967296, true)) else (if a0 = 3 then (some ((a1 * a2) % 4294967296, true)) else (if a0 = 4 then (mortiseref01_Bin.j0 k a0 a1 a2 (IntKind.u64.wrap (Int.tmod a2 32)) a0 (a0 == 4)) else (if a0 = 6 then (mortiseref01_Bin.j0 k a0 a1 a2 (IntKind.u64.wrap (Int.tmod a2 32)) a0 (a0 == 6)) else (if a0 = 5 then (mortiseref01_Bin.j0 k a0 a1 a2 (IntKind.u64.wrap (Int.tmod a2 32)) a0 (a0 == 5)) else (mortiseref01_Bin.j0 k a0 a1 a2 (IntKind.u64.wrap (Int.tmod a2 32)) a0 (a0 == 7)))))))
set_option maxHeartbeats 8000000 in
set_option maxRecDepth 100000 in
theorem mortiseref01_Bin.calls (k : Nat) (a0 : Int) (a1 : Int) (a2 : Int) (r1 : Int) (r2 : Bool) (w : World) (h : mortiseref01_Bin.f k a0 a1 a2 = some (r1, r2)) :
  Calls Try.prog 59 #[.int .i64 a0, .int .u32 a1, .int .u32 a2] w fun e w' => e = .returned (.tuple #[.int .u32 r1, .bool r2]) ∧ Drawn0 w w' := by
 have H : (if a0 = 1 then (some ((a1 + a2) % 4294967296, true)) else (if a0 = 2 then (some ((a1 - a2) % 4294967296, true)) else (if a0 = 3 then (some ((a1 * a2) % 4294967296, true)) else (if a0 = 4 then (mortiseref01_Bin.j0 k a0 a1 a2 (IntKind.u64.wrap (Int.tmod a2 32)) a0 (a0 == 4)) else (if a0 = 6 then (mortiseref01_Bin.j0 k a0 a1 a2 (IntKind.u64.wrap (Int.tmod a2 32)) a0 (a0 == 6)) else (if a0 = 5 then (mortiseref01_Bin.j0 k a0 a1 a2 (IntKind.u64.wrap (Int.tmod a2 32)) a0 (a0 == 5)) else (mortiseref01_Bin.j0 k a0 a1 a2 (IntKind.u64.wrap (Int.tmod a2 32)) a0 (a0 == 7)))))))) = some (r1, r2) := h
 clear h
 by_cases c4 : a0 = 1
 ·rw [if_pos c4] at H
  have c4b0 : (a0 == 1) = true := beq_iff_eq.mpr c4
  have c4b1 : (a0 != 1) = false := bne_eq_false_iff_eq.mpr c4
  clear c4
  simp only [Option.some.injEq, Prod.mk.injEq] at H
  obtain ⟨rfl, rfl⟩ := H
  go_enter Try.func59, Try.ntmps59
  go_wp2
  go_ret2
  exact ⟨by first | rfl | (simp; done) | (simp [*]; done), by repeat (first | exact Drawn0.refl _ | apply Drawn0.step)⟩
 ·rw [if_neg c4] at H
  have c4b0 : (a0 == 1) = false := beq_eq_false_iff_ne.mpr c4
  have c4b1 : (a0 != 1) = true := bne_iff_ne.mpr c4
  by_cases c5 : a0 = 2
  ·rw [if_pos c5] at H
   have c5b0 : (a0 == 2) = true := beq_iff_eq.mpr c5
   have c5b1 : (a0 != 2) = false := bne_eq_false_iff_eq.mpr c5
   clear c5
   simp only [Option.some.injEq, Prod.mk.injEq] at H
   obtain ⟨rfl, rfl⟩ := H
   go_enter Try.func59, Try.ntmps59
   go_wp2
   go_ret2
   exact ⟨by first | rfl | (simp; done) | (simp [*]; done), by repeat (first | exact Drawn0.refl _ | apply Drawn0.step)⟩
  ·rw [if_neg c5] at H
   have c5b0 : (a0 == 2) = false := beq_eq_false_iff_ne.mpr c5
   have c5b1 : (a0 != 2) = true := bne_iff_ne.mpr c5
   by_cases c6 : a0 = 3
   ·rw [if_pos c6] at H
    have c6b0 : (a0 == 3) = true := beq_iff_eq.mpr c6
    have c6b1 : (a0 != 3) = false := bne_eq_false_iff_eq.mpr c6
    clear c6
    simp only [Option.some.injEq, Prod.mk.injEq] at H
    obtain ⟨rfl, rfl⟩ := H
    go_enter Try.func59, Try.ntmps59
    go_wp2
    go_ret2
    exact ⟨by first | rfl | (simp; done) | (simp [*]; done), by repeat (first | exact Drawn0.refl _ | apply Drawn0.step)⟩
   ·rw [if_neg c6] at H
    have c6b0 : (a0 == 3) = false := beq_eq_false_iff_ne.mpr c6
    have c6b1 : (a0 != 3) = true := bne_iff_ne.mpr c6
    have HC7 := Aside0.mk H
    clear H
    go_enter Try.func59, Try.ntmps59
    go_upto_if 32 with (fail)
    go_cut [32] (fun v32 wc => ∃ (kq : Nat) (x32_76 : Bool), v32 = .bool x32_76 ∧ Aside0 (mortiseref01_Bin.j0 kq a0 a1 a2 (IntKind.u64.wrap (Int.tmod a2 32)) a0 x32_76 = some (r1, r2)) ∧ Aside0 (kq ≤ k) ∧ Drawn0 w wc)
    case first =>
     have H := HC7.out
     clear HC7
     by_cases c8 : a0 = 4
     ·rw [if_pos c8] at H
      have c8b0 : (a0 == 4) = true := beq_iff_eq.mpr c8
      have c8b1 : (a0 != 4) = false := bne_eq_false_iff_eq.mpr c8
      clear c8
      (first | rw [c8b0] | (simp only [i64_w, i32_w]; rw [c8b0]) | skip)
      have H' := Aside0.mk H
      clear H
      go_wp2
      go_meet
      case rel => exact ⟨_, ((a0 == 4)), (by first | rfl | (simp; done) | (simp [*]; done)), H', ⟨by first | omega | exact Nat.le_refl _⟩, by repeat (first | exact Drawn0.refl _ | apply Drawn0.step)⟩
     ·rw [if_neg c8] at H
      have c8b0 : (a0 == 4) = false := beq_eq_false_iff_ne.mpr c8
      have c8b1 : (a0 != 4) = true := bne_iff_ne.mpr c8
      (first | rw [c8b0] | (simp only [i64_w, i32_w]; rw [c8b0]) | skip)
      by_cases c9 : a0 = 6
      ·rw [if_pos c9] at H
       have c9b0 : (a0 == 6) = true := beq_iff_eq.mpr c9
       have c9b1 : (a0 != 6) = false := bne_eq_false_iff_eq.mpr c9
       clear c9
       have H' := Aside0.mk H
       clear H
       go_wp2
       go_meet
       case rel => exact ⟨_, ((a0 == 6)), (by first | rfl | (simp; done) | (simp [*]; done)), H', ⟨by first | omega | exact Nat.le_refl _⟩, by repeat (first | exact Drawn0.refl _ | apply Drawn0.step)⟩
      ·rw [if_neg c9] at H
       have c9b0 : (a0 == 6) = false := beq_eq_false_iff_ne.mpr c9
       have c9b1 : (a0 != 6) = true := bne_iff_ne.mpr c9
       by_cases c10 : a0 = 5
       ·rw [if_pos c10] at H
        have c10b0 : (a0 == 5) = true := beq_iff_eq.mpr c10
        have c10b1 : (a0 != 5) = false := bne_eq_false_iff_eq.mpr c10
        clear c10
        have H' := Aside0.mk H
        clear H
        go_wp2
        go_meet
        case rel => exact ⟨_, ((a0 == 5)), (by first | rfl | (simp; done) | (simp [*]; done)), H', ⟨by first | omega | exact Nat.le_refl _⟩, by repeat (first | exact Drawn0.refl _ | apply Drawn0.step)⟩
       ·rw [if_neg c10] at H
        have c10b0 : (a0 == 5) = false := beq_eq_false_iff_ne.mpr c10
        have c10b1 : (a0 != 5) = true := bne_iff_ne.mpr c10
        have H' := Aside0.mk H
        clear H
        go_wp2
        go_meet
        case rel => exact ⟨_, ((a0 == 7)), (by first | rfl | (simp; done) | (simp [*]; done)), H', ⟨by first | omega | exact Nat.le_refl _⟩, by repeat (first | exact Drawn0.refl _ | apply Drawn0.step)⟩
    case rest =>
     clear HC7
     try clear c1
     try clear p2
     try clear c4
     try clear c4b0
     try clear c4b1
     try clear c5
     try clear c5b0
     try clear c5b1
     try clear c6
     try clear c6b0
     try clear c6b1
     try clear c8
     try clear c8b0
     try clear c8b1
     try clear c9
     try clear c9b0
     try clear c9b1
     try clear c10
     try clear c10b0
     try clear c10b1
     obtain ⟨kq, x32_76, rfl, HA, HJ76, ⟨mc76, rfl⟩⟩ := hcut
     cases kq with
     | zero => exact absurd HA.out (by simp [mortiseref01_Bin.j0])
     | succ kj76 =>
      have H := HA.out
      clear HA
      simp only [mortiseref01_Bin.j0] at H
      by_cases c11 : x32_76 = true
      ·subst c11
       have H1 : (if a2 = 0 then (some (0, false)) else (if a0 = 4 then (mortiseref01_Bin.j1 kj76 a0 a1 a2 (wrap64 (a1)) (wrap64 (a2)) true) else (mortiseref01_Bin.j1 kj76 a0 a1 a2 (wrap64 (a1)) (wrap64 (a2)) (a0 == 6)))) = some (r1, r2) := by rw [if_pos rfl] at H; exact H
       clear H
       have H := H1
       clear H1
       by_cases c12 : a2 = 0
       ·rw [if_pos c12] at H
        have c12b0 : (a2 == 0) = true := beq_iff_eq.mpr c12
        have c12b1 : (a2 != 0) = false := bne_eq_false_iff_eq.mpr c12
        clear c12
        simp only [Option.some.injEq, Prod.mk.injEq] at H
        obtain ⟨rfl, rfl⟩ := H
        go_wp2
        go_ret2
        exact ⟨by first | rfl | (simp; done) | (simp [*]; done), by repeat (first | exact Drawn0.refl _ | apply Drawn0.step)⟩
       ·rw [if_neg c12] at H
        have c12b0 : (a2 == 0) = false := beq_eq_false_iff_ne.mpr c12
        have c12b1 : (a2 != 0) = true := bne_iff_ne.mpr c12
        have HC13 := Aside0.mk H
        clear H
        go_upto_region 16 with (fail)
        go_cut [48] (fun v48 wc => ∃ (kq : Nat) (x48_712 : Bool), v48 = .bool x48_712 ∧ Aside0 (mortiseref01_Bin.j1 kq a0 a1 a2 (wrap64 (a1)) (wrap64 (a2)) x48_712 = some (r1, r2)) ∧ Aside0 (kq ≤ kj76) ∧ Drawn0 w wc)
        case first =>
         have H := HC13.out
         clear HC13
         by_cases c14 : a0 = 4
         ·rw [if_pos c14] at H
          have c14b0 : (a0 == 4) = true := beq_iff_eq.mpr c14
          have c14b1 : (a0 != 4) = false := bne_eq_false_iff_eq.mpr c14
          clear c14
          (first | rw [c14b0] | (simp only [i64_w, i32_w]; rw [c14b0]) | skip)
          have H' := Aside0.mk H
          clear H
          go_wp2
          go_meet
          case rel => exact ⟨_, (true), (by first | rfl | (simp; done) | (simp [*]; done)), H', ⟨by have := HJ76.out; first | omega | exact Nat.le_refl _⟩, by repeat (first | exact Drawn0.refl _ | apply Drawn0.step)⟩
         ·rw [if_neg c14] at H
          have c14b0 : (a0 == 4) = false := beq_eq_false_iff_ne.mpr c14
          have c14b1 : (a0 != 4) = true := bne_iff_ne.mpr c14
          (first | rw [c14b0] | (simp only [i64_w, i32_w]; rw [c14b0]) | skip)
          have H' := Aside0.mk H
          clear H
          go_wp2
          go_meet
          case rel => exact ⟨_, ((a0 == 6)), (by first | rfl | (simp; done) | (simp [*]; done)), H', ⟨by have := HJ76.out; first | omega | exact Nat.le_refl _⟩, by repeat (first | exact Drawn0.refl _ | apply Drawn0.step)⟩
        case rest =>
         clear HC13
         try clear c1
         try clear p2
         try clear c4
         try clear c4b0
         try clear c4b1
         try clear c5
         try clear c5b0
         try clear c5b1
         try clear c6
         try clear c6b0
         try clear c6b1
         try clear p6
         try clear c7
         try clear c8
         try clear c8b0
         try clear c8b1
         try clear c9
         try clear c9b0
         try clear c9b1
         try clear c10
         try clear c10b0
         try clear c10b1
         try clear c11
         try clear c12
         try clear c12b0
         try clear c12b1
         try clear c14
         try clear c14b0
         try clear c14b1
         try clear p2
         obtain ⟨kq, x48_712, rfl, HA, HJ712, ⟨mc712, rfl⟩⟩ := hcut
         cases kq with
         | zero => exact absurd HA.out (by simp [mortiseref01_Bin.j1])
         | succ kj712 =>
          have H := HA.out
          clear HA
          simp only [mortiseref01_Bin.j1] at H
          have HC15 := Aside0.mk H
          clear H
          go_upto_if 48 with (fail)
          go_cut [9, 10] (fun v9 v10 wc => ∃ (kq : Nat) (x9_714 : Int) (x10_714 : Int), v9 = .int .i64 x9_714 ∧ v10 = .int .i64 x10_714 ∧ Aside0 (mortiseref01_Bin.j2 kq a0 x9_714 x10_714 = some (r1, r2)) ∧ Aside0 (kq ≤ kj712) ∧ Drawn0 w wc)
          case first =>
           have H := HC15.out
           clear HC15
           by_cases c16 : x48_712 = true
           ·subst c16
            have H1 : ((mortiseref01_Int.f a1).bind fun t195 => ((mortiseref01_Int.f a2).bind fun t196 => (mortiseref01_Bin.j2 kj712 a0 t195 t196))) = some (r1, r2) := by rw [if_pos rfl] at H; exact H
            clear H
            have H := H1
            clear H1
            replace H := Option.bind_eq_some_iff.mp H
            obtain ⟨t195, A170, H⟩ := H
            replace H : ((mortiseref01_Int.f a2).bind fun t196 => (mortiseref01_Bin.j2 kj712 a0 t195 t196)) = some (r1, r2) := H
            have A17 := Aside0.mk A170
            clear A170
            replace H := Option.bind_eq_some_iff.mp H
            obtain ⟨t196, A180, H⟩ := H
            replace H : (mortiseref01_Bin.j2 kj712 a0 t195 t196) = some (r1, r2) := H
            have A18 := Aside0.mk A180
            clear A180
            have H' := Aside0.mk H
            clear H
            go_wp2_with (first | ((with_reducible refine gate_callee (f := 63) rfl ?_); refine goesL_ (some 50) rfl rfl Try.func63 (by kernel_rfl) rfl #[.int .u32 a1] rfl (by (try simp only [List.map_toArray, List.map_cons, List.map_nil]); first | done | rfl | (simp only [List.length_drop, List.length_take]; rfl)) ?_; (with_reducible refine (mortiseref01_Int.calls a1 t195 _ A17.out).mono ?_); rintro e w' ⟨rfl, ⟨nd, rfl⟩⟩; refine ⟨_, rfl, ?_⟩) | ((with_reducible refine gate_callee (f := 63) rfl ?_); refine goesL_ (some 52) rfl rfl Try.func63 (by kernel_rfl) rfl #[.int .u32 a2] rfl (by (try simp only [List.map_toArray, List.map_cons, List.map_nil]); first | done | rfl | (simp only [List.length_drop, List.length_take]; rfl)) ?_; (with_reducible refine (mortiseref01_Int.calls a2 t196 _ A18.out).mono ?_); rintro e w' ⟨rfl, ⟨nd, rfl⟩⟩; refine ⟨_, rfl, ?_⟩))
            go_meet
            case rel => exact ⟨_, (t195), (t196), (by first | rfl | (simp; done) | (simp [*]; done)), (by first | rfl | (simp; done) | (simp [*]; done)), H', ⟨by have := HJ76.out; have := HJ712.out; first | omega | exact Nat.le_refl _⟩, by repeat (first | exact Drawn0.refl _ | apply Drawn0.step)⟩
           ·replace c16 := Bool.eq_false_iff.mpr c16
            subst c16
            have H1 : (mortiseref01_Bin.j2 kj712 a0 (wrap64 (a1)) (wrap64 (a2))) = some (r1, r2) := by rw [if_neg (show ¬ (false = true) by decide)] at H; exact H
            clear H
            have H := H1
            clear H1
            have H' := Aside0.mk H
            clear H
            go_wp2
            go_meet
            case rel => exact ⟨_, ((wrap64 (a1))), ((wrap64 (a2))), (by first | rfl | (simp; done) | (simp [*]; done)), (by first | rfl | (simp; done) | (simp [*]; done)), H', ⟨by have := HJ76.out; have := HJ712.out; first | omega | exact Nat.le_refl _⟩, by repeat (first | exact Drawn0.refl _ | apply Drawn0.step)⟩
          case rest =>
           clear HC15
           try clear c1
           try clear p2
           try clear c4
           try clear c4b0
           try clear c4b1
           try clear c5
           try clear c5b0
           try clear c5b1
           try clear c6
           try clear c6b0
           try clear c6b1
           try clear p6
           try clear c7
           try clear c8
           try clear c8b0
           try clear c8b1
           try clear c9
           try clear c9b0
           try clear c9b1
           try clear c10
           try clear c10b0
           try clear c10b1
           try clear c11
           try clear c12
           try clear c12b0
           try clear c12b1
           try clear c14
           try clear c14b0
           try clear c14b1
           try clear c16
           try clear p2
           try clear p6
           obtain ⟨kq, x9_714, x10_714, rfl, rfl, HA, HJ714, ⟨mc714, rfl⟩⟩ := hcut
           cases kq with
           | zero => exact absurd HA.out (by simp [mortiseref01_Bin.j2])
           | succ kj714 =>
            have H := HA.out
            clear HA
            simp only [mortiseref01_Bin.j2] at H
            replace H := Option.bind_eq_some_iff.mp H
            obtain ⟨⟨t197, t198⟩, A190, H⟩ := H
            replace H : (if a0 = 4 then (mortiseref01_Bin.j3 kj714 t197 t198 true) else (mortiseref01_Bin.j3 kj714 t197 t198 (a0 == 5))) = some (r1, r2) := H
            have A19 := Aside0.mk A190
            clear A190
            have HC20 := Aside0.mk H
            clear H
            go_upto_region 19 with (first | ((with_reducible refine gate_callee (f := 64) rfl ?_); refine goesL_ (some 56) rfl rfl Try.func64 (by kernel_rfl) rfl #[.int .i64 x9_714, .int .i64 x10_714] rfl (by (try simp only [List.map_toArray, List.map_cons, List.map_nil]); first | done | rfl | (simp only [List.length_drop, List.length_take]; rfl)) ?_; (with_reducible refine (mortiseref01_quotient.calls x9_714 x10_714 t197 t198 _ A19.out).mono ?_); rintro e w' ⟨rfl, ⟨nd, rfl⟩⟩; refine ⟨_, rfl, ?_⟩))
            (try simp only [Act.put, List.setIfInBounds_toArray, List.set_cons_zero, List.set_cons_succ])
            go_cut [64] (fun v64 wc => ∃ (kq : Nat) (x64_719 : Bool), v64 = .bool x64_719 ∧ Aside0 (mortiseref01_Bin.j3 kq t197 t198 x64_719 = some (r1, r2)) ∧ Aside0 (kq ≤ kj714) ∧ Drawn0 w wc)
            case first =>
             have H := HC20.out
             clear HC20
             by_cases c21 : a0 = 4
             ·rw [if_pos c21] at H
              have c21b0 : (a0 == 4) = true := beq_iff_eq.mpr c21
              have c21b1 : (a0 != 4) = false := bne_eq_false_iff_eq.mpr c21
              clear c21
              (first | rw [c21b0] | (simp only [i64_w, i32_w]; rw [c21b0]) | skip)
              have H' := Aside0.mk H
              clear H
              go_wp2
              go_meet
              case rel => exact ⟨_, (true), (by first | rfl | (simp; done) | (simp [*]; done)), H', ⟨by have := HJ76.out; have := HJ712.out; have := HJ714.out; first | omega | exact Nat.le_refl _⟩, by repeat (first | exact Drawn0.refl _ | apply Drawn0.step)⟩
             ·rw [if_neg c21] at H
              have c21b0 : (a0 == 4) = false := beq_eq_false_iff_ne.mpr c21
              have c21b1 : (a0 != 4) = true := bne_iff_ne.mpr c21
              (first | rw [c21b0] | (simp only [i64_w, i32_w]; rw [c21b0]) | skip)
              have H' := Aside0.mk H
              clear H
              go_wp2
              go_meet
              case rel => exact ⟨_, ((a0 == 5)), (by first | rfl | (simp; done) | (simp [*]; done)), H', ⟨by have := HJ76.out; have := HJ712.out; have := HJ714.out; first | omega | exact Nat.le_refl _⟩, by repeat (first | exact Drawn0.refl _ | apply Drawn0.step)⟩
            case rest =>
             clear HC20
             try clear c1
             try clear c2
             try clear p2
             try clear c4
             try clear c4b0
             try clear c4b1
             try clear c5
             try clear c5b0
             try clear c5b1
             try clear c6
             try clear c6b0
             try clear c6b1
             try clear p6
             try clear c7
             try clear c8
             try clear c8b0
             try clear c8b1
             try clear c9
             try clear c9b0
             try clear c9b1
             try clear c10
             try clear c10b0
             try clear c10b1
             try clear c11
             try clear c12
             try clear c12b0
             try clear c12b1
             try clear c14
             try clear c14b0
             try clear c14b1
             try clear c16
             try clear c21
             try clear c21b0
             try clear c21b1
             try clear p2
             try clear p6
             obtain ⟨kq, x64_719, rfl, HA, HJ719, ⟨mc719, rfl⟩⟩ := hcut
             cases kq with
             | zero => exact absurd HA.out (by simp [mortiseref01_Bin.j3])
             | succ kj719 =>
              have H := HA.out
              clear HA
              simp only [mortiseref01_Bin.j3] at H
              by_cases c22 : x64_719 = true
              ·subst c22
               have H1 : ((mortiseref01_Of.f t197).bind fun t199 => (some (t199, true))) = some (r1, r2) := by rw [if_pos rfl] at H; exact H
               clear H
               have H := H1
               clear H1
               replace H := Option.bind_eq_some_iff.mp H
               obtain ⟨t199, A230, H⟩ := H
               replace H : (some (t199, true)) = some (r1, r2) := H
               have A23 := Aside0.mk A230
               clear A230
               simp only [Option.some.injEq, Prod.mk.injEq] at H
               obtain ⟨rfl, rfl⟩ := H
               go_wp2_with (first | ((with_reducible refine gate_callee (f := 32) rfl ?_); refine goesL_ (some 66) rfl rfl Try.func32 (by kernel_rfl) rfl #[.int .i64 t197] rfl (by (try simp only [List.map_toArray, List.map_cons, List.map_nil]); first | done | rfl | (simp only [List.length_drop, List.length_take]; rfl)) ?_; (with_reducible refine (mortiseref01_Of.calls t197 t199 _ A23.out).mono ?_); rintro e w' ⟨rfl, ⟨nd, rfl⟩⟩; refine ⟨_, rfl, ?_⟩))
               go_ret2
               exact ⟨by first | rfl | (simp; done) | (simp [*]; done), by repeat (first | exact Drawn0.refl _ | apply Drawn0.step)⟩
              ·replace c22 := Bool.eq_false_iff.mpr c22
               subst c22
               have H1 : ((mortiseref01_Of.f t198).bind fun t200 => (some (t200, true))) = some (r1, r2) := by rw [if_neg (show ¬ (false = true) by decide)] at H; exact H
               clear H
               have H := H1
               clear H1
               replace H := Option.bind_eq_some_iff.mp H
               obtain ⟨t200, A240, H⟩ := H
               replace H : (some (t200, true)) = some (r1, r2) := H
               have A24 := Aside0.mk A240
               clear A240
               simp only [Option.some.injEq, Prod.mk.injEq] at H
               obtain ⟨rfl, rfl⟩ := H
               go_wp2_with (first | ((with_reducible refine gate_callee (f := 32) rfl ?_); refine goesL_ (some 68) rfl rfl Try.func32 (by kernel_rfl) rfl #[.int .i64 t198] rfl (by (try simp only [List.map_toArray, List.map_cons, List.map_nil]); first | done | rfl | (simp only [List.length_drop, List.length_take]; rfl)) ?_; (with_reducible refine (mortiseref01_Of.calls t198 t200 _ A24.out).mono ?_); rintro e w' ⟨rfl, ⟨nd, rfl⟩⟩; refine ⟨_, rfl, ?_⟩))
               go_ret2
               exact ⟨by first | rfl | (simp; done) | (simp [*]; done), by repeat (first | exact Drawn0.refl _ | apply Drawn0.step)⟩
      ·replace c11 := Bool.eq_false_iff.mpr c11
       subst c11
       have H1 : (if a0 = 8 then (some (Go.bits .and .u32 a1 a2, true)) else (if a0 = 9 then (some (Go.bits .or .u32 a1 a2, true)) else (if a0 = 10 then (some (Go.bits .xor .u32 a1 a2, true)) else (if a0 = 11 then (if 0 ≤ (IntKind.u64.wrap (Int.tmod a2 32)) then (some (shl .u32 a1 (IntKind.u64.wrap (Int.tmod a2 32)), true)) else (none)) else (if a0 = 13 then (if 0 ≤ (IntKind.u64.wrap (Int.tmod a2 32)) then (some (shr .u32 a1 (IntKind.u64.wrap (Int.tmod a2 32)), true)) else (none)) else (if a0 = 12 then ((mortiseref01_Int.f a1).bind fun t201 => (if 0 ≤ (IntKind.u64.wrap (Int.tmod a2 32)) then ((mortiseref01_Of.f (shr .i64 t201 (IntKind.u64.wrap (Int.tmod a2 32)))).bind fun t202 => (some (t202, true))) else (none))) else (if a0 = 14 then ((mortiseref01_flag.f (a1 == a2)).bind fun t203 => (some (t203, true))) else (if a0 = 15 then ((mortiseref01_flag.f (a1 != a2)).bind fun t204 => (some (t204, true))) else (if a0 = 16 then ((mortiseref01_Int.f a1).bind fun t205 => ((mortiseref01_Int.f a2).bind fun t206 => ((mortiseref01_flag.f (decide (t205 < t206))).bind fun t207 => (some (t207, true))))) else (if a0 = 17 then ((mortiseref01_flag.f (decide (a1 < a2))).bind fun t208 => (some (t208, true))) else (if a0 = 18 then ((mortiseref01_Int.f a1).bind fun t209 => ((mortiseref01_Int.f a2).bind fun t210 => ((mortiseref01_flag.f (decide (t209 ≤ t210))).bind fun t211 => (some (t211, true))))) else (if a0 = 19 then ((mortiseref01_flag.f (decide (a1 ≤ a2))).bind fun t212 => (some (t212, true))) else (some (0, false)))))))))))))) = some (r1, r2) := by rw [if_neg (show ¬ (false = true) by decide)] at H; exact H
       clear H
       have H := H1
       clear H1
       by_cases c25 : a0 = 8
       ·rw [if_pos c25] at H
        have c25b0 : (a0 == 8) = true := beq_iff_eq.mpr c25
        have c25b1 : (a0 != 8) = false := bne_eq_false_iff_eq.mpr c25
        clear c25
        simp only [Option.some.injEq, Prod.mk.injEq] at H
        obtain ⟨rfl, rfl⟩ := H
        go_wp2
        go_ret2
        exact ⟨by first | rfl | (simp; done) | (simp [*]; done), by repeat (first | exact Drawn0.refl _ | apply Drawn0.step)⟩
       ·rw [if_neg c25] at H
        have c25b0 : (a0 == 8) = false := beq_eq_false_iff_ne.mpr c25
        have c25b1 : (a0 != 8) = true := bne_iff_ne.mpr c25
        by_cases c26 : a0 = 9
        ·rw [if_pos c26] at H
         have c26b0 : (a0 == 9) = true := beq_iff_eq.mpr c26
         have c26b1 : (a0 != 9) = false := bne_eq_false_iff_eq.mpr c26
         clear c26
         simp only [Option.some.injEq, Prod.mk.injEq] at H
         obtain ⟨rfl, rfl⟩ := H
         go_wp2
         go_ret2
         exact ⟨by first | rfl | (simp; done) | (simp [*]; done), by repeat (first | exact Drawn0.refl _ | apply Drawn0.step)⟩
        ·rw [if_neg c26] at H
         have c26b0 : (a0 == 9) = false := beq_eq_false_iff_ne.mpr c26
         have c26b1 : (a0 != 9) = true := bne_iff_ne.mpr c26
         by_cases c27 : a0 = 10
         ·rw [if_pos c27] at H
          have c27b0 : (a0 == 10) = true := beq_iff_eq.mpr c27
          have c27b1 : (a0 != 10) = false := bne_eq_false_iff_eq.mpr c27
          clear c27
          simp only [Option.some.injEq, Prod.mk.injEq] at H
          obtain ⟨rfl, rfl⟩ := H
          go_wp2
          go_ret2
          exact ⟨by first | rfl | (simp; done) | (simp [*]; done), by repeat (first | exact Drawn0.refl _ | apply Drawn0.step)⟩
         ·rw [if_neg c27] at H
          have c27b0 : (a0 == 10) = false := beq_eq_false_iff_ne.mpr c27
          have c27b1 : (a0 != 10) = true := bne_iff_ne.mpr c27
          by_cases c28 : a0 = 11
          ·rw [if_pos c28] at H
           have c28b0 : (a0 == 11) = true := beq_iff_eq.mpr c28
           have c28b1 : (a0 != 11) = false := bne_eq_false_iff_eq.mpr c28
           clear c28
           obtain ⟨ji29, hji29⟩ : ∃ j_ : Int, (IntKind.u64.wrap (Int.tmod a2 32)) = j_ := ⟨_, rfl⟩
           replace H : (if 0 ≤ (ji29) then (some (shl .u32 a1 (ji29), true)) else (none)) = some (r1, r2) := by first | (rw [hji29] at H; exact H) | (simp only [hji29] at H ⊢; exact H)
           by_cases c30 : 0 ≤ (ji29)
           ·rw [if_pos c30] at H
            have c30b0 := eq_true c30
            have c30b1 : decide (0 ≤ (ji29)) = true := decide_eq_true c30
            clear c30
            obtain ⟨ji31, hji31⟩ : ∃ j_ : Int, (shl .u32 a1 (ji29)) = j_ := ⟨_, rfl⟩
            replace H : (some (ji31, true)) = some (r1, r2) := by first | (rw [hji31] at H; exact H) | (simp only [hji31] at H ⊢; exact H)
            have hji31_ : (IntKind.u32.wrap (a1 * 2 ^ min (ji29).toNat 32)) = ji31 := hji31
            have hji31z : (ji29) ≤ 32 → (IntKind.u32.wrap (a1 * 2 ^ (ji29).toNat)) = ji31 := shl_small hji31
            simp only [Option.some.injEq, Prod.mk.injEq] at H
            obtain ⟨rfl, rfl⟩ := H
            go_wp2
            go_ret2
            exact ⟨by first | rfl | (simp; done) | (simp only [← hji29, ← hji31] <;> (first | rfl | (simp; done) | (simp [shl, IntKind.wrap, IntKind.bits, IntKind.signed]; done))) | (simp [*]; done), by repeat (first | exact Drawn0.refl _ | apply Drawn0.step)⟩
           ·rw [if_neg c30] at H
            exact absurd H (by simp)
          ·rw [if_neg c28] at H
           have c28b0 : (a0 == 11) = false := beq_eq_false_iff_ne.mpr c28
           have c28b1 : (a0 != 11) = true := bne_iff_ne.mpr c28
           by_cases c32 : a0 = 13
           ·rw [if_pos c32] at H
            have c32b0 : (a0 == 13) = true := beq_iff_eq.mpr c32
            have c32b1 : (a0 != 13) = false := bne_eq_false_iff_eq.mpr c32
            clear c32
            obtain ⟨ji33, hji33⟩ : ∃ j_ : Int, (IntKind.u64.wrap (Int.tmod a2 32)) = j_ := ⟨_, rfl⟩
            replace H : (if 0 ≤ (ji33) then (some (shr .u32 a1 (ji33), true)) else (none)) = some (r1, r2) := by first | (rw [hji33] at H; exact H) | (simp only [hji33] at H ⊢; exact H)
            by_cases c34 : 0 ≤ (ji33)
            ·rw [if_pos c34] at H
             have c34b0 := eq_true c34
             have c34b1 : decide (0 ≤ (ji33)) = true := decide_eq_true c34
             clear c34
             obtain ⟨ji35, hji35⟩ : ∃ j_ : Int, (shr .u32 a1 (ji33)) = j_ := ⟨_, rfl⟩
             replace H : (some (ji35, true)) = some (r1, r2) := by first | (rw [hji35] at H; exact H) | (simp only [hji35] at H ⊢; exact H)
             have hji35_ : (a1 / 2 ^ min (ji33).toNat 32) = ji35 := hji35
             have hji35z : (ji33) ≤ 32 → (a1 / 2 ^ (ji33).toNat) = ji35 := shr_small hji35
             simp only [Option.some.injEq, Prod.mk.injEq] at H
             obtain ⟨rfl, rfl⟩ := H
             go_wp2
             go_ret2
             exact ⟨by first | rfl | (simp; done) | (simp only [← hji33, ← hji35] <;> (first | rfl | (simp; done) | (simp [shl, IntKind.wrap, IntKind.bits, IntKind.signed]; done))) | (simp [*]; done), by repeat (first | exact Drawn0.refl _ | apply Drawn0.step)⟩
            ·rw [if_neg c34] at H
             exact absurd H (by simp)
           ·rw [if_neg c32] at H
            have c32b0 : (a0 == 13) = false := beq_eq_false_iff_ne.mpr c32
            have c32b1 : (a0 != 13) = true := bne_iff_ne.mpr c32
            by_cases c36 : a0 = 12
            ·rw [if_pos c36] at H
             have c36b0 : (a0 == 12) = true := beq_iff_eq.mpr c36
             have c36b1 : (a0 != 12) = false := bne_eq_false_iff_eq.mpr c36
             clear c36
             replace H := Option.bind_eq_some_iff.mp H
             obtain ⟨t201, A370, H⟩ := H
             replace H : (if 0 ≤ (IntKind.u64.wrap (Int.tmod a2 32)) then ((mortiseref01_Of.f (shr .i64 t201 (IntKind.u64.wrap (Int.tmod a2 32)))).bind fun t202 => (some (t202, true))) else (none)) = some (r1, r2) := H
             have A37 := Aside0.mk A370
             clear A370
             obtain ⟨ji38, hji38⟩ : ∃ j_ : Int, (IntKind.u64.wrap (Int.tmod a2 32)) = j_ := ⟨_, rfl⟩
             replace H : (if 0 ≤ (ji38) then ((mortiseref01_Of.f (shr .i64 t201 (ji38))).bind fun t202 => (some (t202, true))) else (none)) = some (r1, r2) := by first | (rw [hji38] at H; exact H) | (simp only [hji38] at H ⊢; exact H)
             (try rw [hji38] at A37)
             by_cases c39 : 0 ≤ (ji38)
             ·rw [if_pos c39] at H
              have c39b0 := eq_true c39
              have c39b1 : decide (0 ≤ (ji38)) = true := decide_eq_true c39
              clear c39
              obtain ⟨ji40, hji40⟩ : ∃ j_ : Int, (shr .i64 t201 (ji38)) = j_ := ⟨_, rfl⟩
              replace H : ((mortiseref01_Of.f (ji40)).bind fun t202 => (some (t202, true))) = some (r1, r2) := by first | (rw [hji40] at H; exact H) | (simp only [hji40] at H ⊢; exact H)
              (try rw [hji40] at A37)
              have hji40_ : (t201 / 2 ^ min (ji38).toNat 64) = ji40 := hji40
              have hji40z : (ji38) ≤ 64 → (t201 / 2 ^ (ji38).toNat) = ji40 := shr_small hji40
              replace H := Option.bind_eq_some_iff.mp H
              obtain ⟨t202, A410, H⟩ := H
              replace H : (some (t202, true)) = some (r1, r2) := H
              have A41 := Aside0.mk A410
              clear A410
              simp only [Option.some.injEq, Prod.mk.injEq] at H
              obtain ⟨rfl, rfl⟩ := H
              go_wp2_with (first | ((with_reducible refine gate_callee (f := 63) rfl ?_); refine goesL_ (some 97) rfl rfl Try.func63 (by kernel_rfl) rfl #[.int .u32 a1] rfl (by (try simp only [List.map_toArray, List.map_cons, List.map_nil]); first | done | rfl | (simp only [List.length_drop, List.length_take]; rfl)) ?_; (with_reducible refine (mortiseref01_Int.calls a1 t201 _ A37.out).mono ?_); rintro e w' ⟨rfl, ⟨nd, rfl⟩⟩; refine ⟨_, rfl, ?_⟩) | ((with_reducible refine gate_callee (f := 32) rfl ?_); refine goesL_ (some 100) rfl rfl Try.func32 (by kernel_rfl) rfl #[.int .i64 ji40] rfl (by (try simp only [List.map_toArray, List.map_cons, List.map_nil]); first | done | (simp only [hji40]; rfl) | rfl | (simp only [List.length_drop, List.length_take]; rfl)) ?_; (with_reducible refine (mortiseref01_Of.calls ji40 t202 _ A41.out).mono ?_); rintro e w' ⟨rfl, ⟨nd, rfl⟩⟩; refine ⟨_, rfl, ?_⟩))
              go_ret2
              exact ⟨by first | rfl | (simp; done) | (simp only [← hji38, ← hji40] <;> (first | rfl | (simp; done) | (simp [shl, IntKind.wrap, IntKind.bits, IntKind.signed]; done))) | (simp [*]; done), by repeat (first | exact Drawn0.refl _ | apply Drawn0.step)⟩
             ·rw [if_neg c39] at H
              exact absurd H (by simp)
            ·rw [if_neg c36] at H
             have c36b0 : (a0 == 12) = false := beq_eq_false_iff_ne.mpr c36
             have c36b1 : (a0 != 12) = true := bne_iff_ne.mpr c36
             by_cases c42 : a0 = 14
             ·rw [if_pos c42] at H
              have c42b0 : (a0 == 14) = true := beq_iff_eq.mpr c42
              have c42b1 : (a0 != 14) = false := bne_eq_false_iff_eq.mpr c42
              clear c42
              replace H := Option.bind_eq_some_iff.mp H
              obtain ⟨t203, A430, H⟩ := H
              replace H : (some (t203, true)) = some (r1, r2) := H
              have A43 := Aside0.mk A430
              clear A430
              simp only [Option.some.injEq, Prod.mk.injEq] at H
              obtain ⟨rfl, rfl⟩ := H
              go_wp2_with (first | ((with_reducible refine gate_callee (f := 65) rfl ?_); refine goesL_ (some 106) rfl rfl Try.func65 (by kernel_rfl) rfl #[.bool (a1 == a2)] rfl (by (try simp only [List.map_toArray, List.map_cons, List.map_nil]); first | done | rfl | (simp only [List.length_drop, List.length_take]; rfl)) ?_; (with_reducible refine (mortiseref01_flag.calls (a1 == a2) t203 _ A43.out).mono ?_); rintro e w' ⟨rfl, ⟨nd, rfl⟩⟩; refine ⟨_, rfl, ?_⟩))
              go_ret2
              exact ⟨by first | rfl | (simp; done) | (simp [*]; done), by repeat (first | exact Drawn0.refl _ | apply Drawn0.step)⟩
             ·rw [if_neg c42] at H
              have c42b0 : (a0 == 14) = false := beq_eq_false_iff_ne.mpr c42
              have c42b1 : (a0 != 14) = true := bne_iff_ne.mpr c42
              by_cases c44 : a0 = 15
              ·rw [if_pos c44] at H
               have c44b0 : (a0 == 15) = true := beq_iff_eq.mpr c44
               have c44b1 : (a0 != 15) = false := bne_eq_false_iff_eq.mpr c44
               clear c44
               replace H := Option.bind_eq_some_iff.mp H
               obtain ⟨t204, A450, H⟩ := H
               replace H : (some (t204, true)) = some (r1, r2) := H
               have A45 := Aside0.mk A450
               clear A450
               simp only [Option.some.injEq, Prod.mk.injEq] at H
               obtain ⟨rfl, rfl⟩ := H
               go_wp2_with (first | ((with_reducible refine gate_callee (f := 65) rfl ?_); refine goesL_ (some 112) rfl rfl Try.func65 (by kernel_rfl) rfl #[.bool (a1 != a2)] rfl (by (try simp only [List.map_toArray, List.map_cons, List.map_nil]); first | done | rfl | (simp only [List.length_drop, List.length_take]; rfl)) ?_; (with_reducible refine (mortiseref01_flag.calls (a1 != a2) t204 _ A45.out).mono ?_); rintro e w' ⟨rfl, ⟨nd, rfl⟩⟩; refine ⟨_, rfl, ?_⟩))
               go_ret2
               exact ⟨by first | rfl | (simp; done) | (simp [*]; done), by repeat (first | exact Drawn0.refl _ | apply Drawn0.step)⟩
              ·rw [if_neg c44] at H
               have c44b0 : (a0 == 15) = false := beq_eq_false_iff_ne.mpr c44
               have c44b1 : (a0 != 15) = true := bne_iff_ne.mpr c44
               by_cases c46 : a0 = 16
               ·rw [if_pos c46] at H
                have c46b0 : (a0 == 16) = true := beq_iff_eq.mpr c46
                have c46b1 : (a0 != 16) = false := bne_eq_false_iff_eq.mpr c46
                clear c46
                replace H := Option.bind_eq_some_iff.mp H
                obtain ⟨t205, A470, H⟩ := H
                replace H : ((mortiseref01_Int.f a2).bind fun t206 => ((mortiseref01_flag.f (decide (t205 < t206))).bind fun t207 => (some (t207, true)))) = some (r1, r2) := H
                have A47 := Aside0.mk A470
                clear A470
                replace H := Option.bind_eq_some_iff.mp H
                obtain ⟨t206, A480, H⟩ := H
                replace H : ((mortiseref01_flag.f (decide (t205 < t206))).bind fun t207 => (some (t207, true))) = some (r1, r2) := H
                have A48 := Aside0.mk A480
                clear A480
                replace H := Option.bind_eq_some_iff.mp H
                obtain ⟨t207, A490, H⟩ := H
                replace H : (some (t207, true)) = some (r1, r2) := H
                have A49 := Aside0.mk A490
                clear A490
                simp only [Option.some.injEq, Prod.mk.injEq] at H
                obtain ⟨rfl, rfl⟩ := H
                go_wp2_with (first | ((with_reducible refine gate_callee (f := 63) rfl ?_); refine goesL_ (some 116) rfl rfl Try.func63 (by kernel_rfl) rfl #[.int .u32 a1] rfl (by (try simp only [List.map_toArray, List.map_cons, List.map_nil]); first | done | rfl | (simp only [List.length_drop, List.length_take]; rfl)) ?_; (with_reducible refine (mortiseref01_Int.calls a1 t205 _ A47.out).mono ?_); rintro e w' ⟨rfl, ⟨nd, rfl⟩⟩; refine ⟨_, rfl, ?_⟩) | ((with_reducible refine gate_callee (f := 63) rfl ?_); refine goesL_ (some 118) rfl rfl Try.func63 (by kernel_rfl) rfl #[.int .u32 a2] rfl (by (try simp only [List.map_toArray, List.map_cons, List.map_nil]); first | done | rfl | (simp only [List.length_drop, List.length_take]; rfl)) ?_; (with_reducible refine (mortiseref01_Int.calls a2 t206 _ A48.out).mono ?_); rintro e w' ⟨rfl, ⟨nd, rfl⟩⟩; refine ⟨_, rfl, ?_⟩) | ((with_reducible refine gate_callee (f := 65) rfl ?_); refine goesL_ (some 120) rfl rfl Try.func65 (by kernel_rfl) rfl #[.bool (decide (t205 < t206))] rfl (by (try simp only [List.map_toArray, List.map_cons, List.map_nil]); first | done | rfl | (simp only [List.length_drop, List.length_take]; rfl)) ?_; (with_reducible refine (mortiseref01_flag.calls (decide (t205 < t206)) t207 _ A49.out).mono ?_); rintro e w' ⟨rfl, ⟨nd, rfl⟩⟩; refine ⟨_, rfl, ?_⟩))
                go_ret2
                exact ⟨by first | rfl | (simp; done) | (simp [*]; done), by repeat (first | exact Drawn0.refl _ | apply Drawn0.step)⟩
               ·rw [if_neg c46] at H
                have c46b0 : (a0 == 16) = false := beq_eq_false_iff_ne.mpr c46
                have c46b1 : (a0 != 16) = true := bne_iff_ne.mpr c46
                by_cases c50 : a0 = 17
                ·rw [if_pos c50] at H
                 have c50b0 : (a0 == 17) = true := beq_iff_eq.mpr c50
                 have c50b1 : (a0 != 17) = false := bne_eq_false_iff_eq.mpr c50
                 clear c50
                 replace H := Option.bind_eq_some_iff.mp H
                 obtain ⟨t208, A510, H⟩ := H
                 replace H : (some (t208, true)) = some (r1, r2) := H
                 have A51 := Aside0.mk A510
                 clear A510
                 simp only [Option.some.injEq, Prod.mk.injEq] at H
                 obtain ⟨rfl, rfl⟩ := H
                 go_wp2_with (first | ((with_reducible refine gate_callee (f := 65) rfl ?_); refine goesL_ (some 126) rfl rfl Try.func65 (by kernel_rfl) rfl #[.bool (decide (a1 < a2))] rfl (by (try simp only [List.map_toArray, List.map_cons, List.map_nil]); first | done | rfl | (simp only [List.length_drop, List.length_take]; rfl)) ?_; (with_reducible refine (mortiseref01_flag.calls (decide (a1 < a2)) t208 _ A51.out).mono ?_); rintro e w' ⟨rfl, ⟨nd, rfl⟩⟩; refine ⟨_, rfl, ?_⟩))
                 go_ret2
                 exact ⟨by first | rfl | (simp; done) | (simp [*]; done), by repeat (first | exact Drawn0.refl _ | apply Drawn0.step)⟩
                ·rw [if_neg c50] at H
                 have c50b0 : (a0 == 17) = false := beq_eq_false_iff_ne.mpr c50
                 have c50b1 : (a0 != 17) = true := bne_iff_ne.mpr c50
                 by_cases c52 : a0 = 18
                 ·rw [if_pos c52] at H
                  have c52b0 : (a0 == 18) = true := beq_iff_eq.mpr c52
                  have c52b1 : (a0 != 18) = false := bne_eq_false_iff_eq.mpr c52
                  clear c52
                  replace H := Option.bind_eq_some_iff.mp H
                  obtain ⟨t209, A530, H⟩ := H
                  replace H : ((mortiseref01_Int.f a2).bind fun t210 => ((mortiseref01_flag.f (decide (t209 ≤ t210))).bind fun t211 => (some (t211, true)))) = some (r1, r2) := H
                  have A53 := Aside0.mk A530
                  clear A530
                  replace H := Option.bind_eq_some_iff.mp H
                  obtain ⟨t210, A540, H⟩ := H
                  replace H : ((mortiseref01_flag.f (decide (t209 ≤ t210))).bind fun t211 => (some (t211, true))) = some (r1, r2) := H
                  have A54 := Aside0.mk A540
                  clear A540
                  replace H := Option.bind_eq_some_iff.mp H
                  obtain ⟨t211, A550, H⟩ := H
                  replace H : (some (t211, true)) = some (r1, r2) := H
                  have A55 := Aside0.mk A550
                  clear A550
                  simp only [Option.some.injEq, Prod.mk.injEq] at H
                  obtain ⟨rfl, rfl⟩ := H
                  go_wp2_with (first | ((with_reducible refine gate_callee (f := 63) rfl ?_); refine goesL_ (some 130) rfl rfl Try.func63 (by kernel_rfl) rfl #[.int .u32 a1] rfl (by (try simp only [List.map_toArray, List.map_cons, List.map_nil]); first | done | rfl | (simp only [List.length_drop, List.length_take]; rfl)) ?_; (with_reducible refine (mortiseref01_Int.calls a1 t209 _ A53.out).mono ?_); rintro e w' ⟨rfl, ⟨nd, rfl⟩⟩; refine ⟨_, rfl, ?_⟩) | ((with_reducible refine gate_callee (f := 63) rfl ?_); refine goesL_ (some 132) rfl rfl Try.func63 (by kernel_rfl) rfl #[.int .u32 a2] rfl (by (try simp only [List.map_toArray, List.map_cons, List.map_nil]); first | done | rfl | (simp only [List.length_drop, List.length_take]; rfl)) ?_; (with_reducible refine (mortiseref01_Int.calls a2 t210 _ A54.out).mono ?_); rintro e w' ⟨rfl, ⟨nd, rfl⟩⟩; refine ⟨_, rfl, ?_⟩) | ((with_reducible refine gate_callee (f := 65) rfl ?_); refine goesL_ (some 134) rfl rfl Try.func65 (by kernel_rfl) rfl #[.bool (decide (t209 ≤ t210))] rfl (by (try simp only [List.map_toArray, List.map_cons, List.map_nil]); first | done | rfl | (simp only [List.length_drop, List.length_take]; rfl)) ?_; (with_reducible refine (mortiseref01_flag.calls (decide (t209 ≤ t210)) t211 _ A55.out).mono ?_); rintro e w' ⟨rfl, ⟨nd, rfl⟩⟩; refine ⟨_, rfl, ?_⟩))
                  go_ret2
                  exact ⟨by first | rfl | (simp; done) | (simp [*]; done), by repeat (first | exact Drawn0.refl _ | apply Drawn0.step)⟩
                 ·rw [if_neg c52] at H
                  have c52b0 : (a0 == 18) = false := beq_eq_false_iff_ne.mpr c52
                  have c52b1 : (a0 != 18) = true := bne_iff_ne.mpr c52
                  by_cases c56 : a0 = 19
                  ·rw [if_pos c56] at H
                   have c56b0 : (a0 == 19) = true := beq_iff_eq.mpr c56
                   have c56b1 : (a0 != 19) = false := bne_eq_false_iff_eq.mpr c56
                   clear c56
                   replace H := Option.bind_eq_some_iff.mp H
                   obtain ⟨t212, A570, H⟩ := H
                   replace H : (some (t212, true)) = some (r1, r2) := H
                   have A57 := Aside0.mk A570
                   clear A570
                   simp only [Option.some.injEq, Prod.mk.injEq] at H
                   obtain ⟨rfl, rfl⟩ := H
                   go_wp2_with (first | ((with_reducible refine gate_callee (f := 65) rfl ?_); refine goesL_ (some 140) rfl rfl Try.func65 (by kernel_rfl) rfl #[.bool (decide (a1 ≤ a2))] rfl (by (try simp only [List.map_toArray, List.map_cons, List.map_nil]); first | done | rfl | (simp only [List.length_drop, List.length_take]; rfl)) ?_; (with_reducible refine (mortiseref01_flag.calls (decide (a1 ≤ a2)) t212 _ A57.out).mono ?_); rintro e w' ⟨rfl, ⟨nd, rfl⟩⟩; refine ⟨_, rfl, ?_⟩))
                   go_ret2
                   exact ⟨by first | rfl | (simp; done) | (simp [*]; done), by repeat (first | exact Drawn0.refl _ | apply Drawn0.step)⟩
                  ·rw [if_neg c56] at H
                   have c56b0 : (a0 == 19) = false := beq_eq_false_iff_ne.mpr c56
                   have c56b1 : (a0 != 19) = true := bne_iff_ne.mpr c56
                   simp only [Option.some.injEq, Prod.mk.injEq] at H
                   obtain ⟨rfl, rfl⟩ := H
                   go_wp2
                   go_ret2
                   exact ⟨by first | rfl | (simp; done) | (simp [*]; done), by repeat (first | exact Drawn0.refl _ | apply Drawn0.step)⟩

-- NOT PRINTED: function 52 (mortiseref21_M_bin)

end Go.Proofs.Ytejhnlljddjicaa.PLk
