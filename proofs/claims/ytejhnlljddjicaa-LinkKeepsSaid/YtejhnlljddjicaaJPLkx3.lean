/- What Go functions answer, proved by walking their code (written by a program of this session, a changed copy of the print). Conditions: none beyond the ones each theorem names. -/
import Derived.Test.YtejhnlljddjicaaJPLkx0
import Derived.Test.YtejhnlljddjicaaJPLkx2
namespace Go.Proofs.Ytejhnlljddjicaa.PLk
open Go.RowKit Go.Proofs.YtejhnlljddjicaaW.PrintWords Go.Proofs.YtejhnlljddjicaaW.PrintLast Go.Proofs.YtejhnlljddjicaaW.PrintMore
attribute [local go_sem] max2_int min2_int max_two min_two max_three min_three max_four min_four   -- for this text's walks alone
set_option linter.unusedVariables false
set_option linter.unusedSimpArgs false

/-! ### mortiseref20_Name: function 30 -/
mutual
def mortiseref20_Name.j1 : Nat → Int → Option (ByteArray)
 | 0, _ => none
 | k + 1, x0 => if x0 = 64 then (some (⟨#[108, 105]⟩ : ByteArray)) else (if x0 = 65 then (some (⟨#[108, 104]⟩ : ByteArray)) else (if x0 = 80 then (some (⟨#[108, 100, 98]⟩ : ByteArray)) else (if x0 = 81 then (some (⟨#[108, 100, 98, 117]⟩ : ByteArray)) else (if x0 = 82 then (some (⟨#[108, 100, 104]⟩ : ByteArray)) else (if x0 = 83 then (some (⟨#[108, 100, 104, 117]⟩ : ByteArray)) else (if x0 = 84 then (some (⟨#[108, 100, 119]⟩ : ByteArray)) else (if x0 = 88 then (some (⟨#[115, 116, 98]⟩ : ByteArray)) else (if x0 = 89 then (some (⟨#[115, 116, 104]⟩ : ByteArray)) else (if x0 = 90 then (some (⟨#[115, 116, 119]⟩ : ByteArray)) else (if x0 = 96 then (some (⟨#[106, 109, 112]⟩ : ByteArray)) else (if x0 = 97 then (some (⟨#[98, 122]⟩ : ByteArray)) else (if x0 = 98 then (some (⟨#[98, 110, 122]⟩ : ByteArray)) else (if x0 = 99 then (some (⟨#[99, 97, 108, 108]⟩ : ByteArray)) else (if x0 = 100 then (some (⟨#[106, 114]⟩ : ByteArray)) else (if x0 = 104 then (some (⟨#[101, 110, 116, 101, 114]⟩ : ByteArray)) else (if x0 = 105 then (some (⟨#[108, 101, 97, 118, 101]⟩ : ByteArray)) else (if x0 = 112 then (some (⟨#[112, 117, 116]⟩ : ByteArray)) else (if x0 = 113 then (some (⟨#[103, 101, 116]⟩ : ByteArray)) else (if x0 = 114 then (some (⟨#[101, 120, 105, 116]⟩ : ByteArray)) else (some (⟨#[]⟩ : ByteArray)))))))))))))))))))))
def mortiseref20_Name.j0 : Nat → Int → Bool → Option (ByteArray)
 | 0, _, _ => none
 | k + 1, x0, x3 => if x3 = true then ((mortiseref01_Name.f x0).bind fun t157 => (some t157)) else (if x0 ≥ 33 then (if x0 ≤ 51 then ((mortiseref01_Name.f (wrap64 (x0 - 32))).bind fun t158 => (if t158.size + 1 ≤ 9223372036854775807 then (some (t158 ++ (⟨#[105]⟩ : ByteArray))) else (none))) else (mortiseref20_Name.j1 k x0)) else (mortiseref20_Name.j1 k x0))
end
def mortiseref20_Name.f (k : Nat) (a0 : Int) : Option (ByteArray) := if a0 ≥ 1 then (mortiseref20_Name.j0 k a0 (decide (a0 ≤ 19))) else (mortiseref20_Name.j0 k a0 false)
set_option maxHeartbeats 8000000 in
set_option maxRecDepth 100000 in
theorem mortiseref20_Name.calls (k : Nat) (a0 : Int) (r : ByteArray) (w : World) (h : mortiseref20_Name.f k a0 = some r) :
  Calls Try.prog 30 #[.int .i64 a0] w fun e w' => e = .returned (.string r) ∧ Below w.heap.size w w' := by
 have HB := Aside0.mk (Below.refl w.heap.size w)
 have H : (if a0 ≥ 1 then (mortiseref20_Name.j0 k a0 (decide (a0 ≤ 19))) else (mortiseref20_Name.j0 k a0 false)) = some r := h
 clear h
 have HC2 := Aside0.mk H
 clear H
 go_enter Try.func30, Try.ntmps30
 go_upto_block 0 with (fail)
 go_cut [] (fun wc => ∃ (kq : Nat), Aside0 (mortiseref20_Name.j1 kq a0 = some r) ∧ Aside0 (kq ≤ k) ∧ Aside0 (Below w.heap.size w wc))
 case first =>
  have H := HC2.out
  clear HC2
  have HC3 := Aside0.mk H
  clear H
  go_upto_region 1 with (fail)
  go_cut [3] (fun v3 wc => ∃ (kq : Nat) (x3_72 : Bool), v3 = .bool x3_72 ∧ Aside0 (mortiseref20_Name.j0 kq a0 x3_72 = some r) ∧ Aside0 (kq ≤ k) ∧ Aside0 (Below w.heap.size w wc))
  case first =>
   have H := HC3.out
   clear HC3
   by_cases c4 : a0 ≥ 1
   ·rw [if_pos c4] at H
    have c4b0 : decide (1 ≤ a0) = true := decide_eq_true c4
    clear c4
    (first | rw [c4b0] | (simp only [i64_w, i32_w]; rw [c4b0]) | skip)
    have H' := Aside0.mk H
    clear H
    go_wp2
    go_meet
    case rel => exact ⟨_, (decide (a0 ≤ 19)), (by first | rfl | (simp; done) | (simp [*]; done)), H', ⟨by first | omega | exact Nat.le_refl _⟩, ⟨by repeat (first | (with_reducible first | exact HB.out | apply below_alloc | apply pw_below_drewN | apply below_drew1) | exact HB.out)⟩⟩
   ·rw [if_neg c4] at H
    have c4b0 : decide (1 ≤ a0) = false := decide_eq_false c4
    clear c4
    (first | rw [c4b0] | (simp only [i64_w, i32_w]; rw [c4b0]) | skip)
    have H' := Aside0.mk H
    clear H
    go_wp2
    go_meet
    case rel => exact ⟨_, (false), (by first | rfl | (simp; done) | (simp [*]; done)), H', ⟨by first | omega | exact Nat.le_refl _⟩, ⟨by repeat (first | (with_reducible first | exact HB.out | apply below_alloc | apply pw_below_drewN | apply below_drew1) | exact HB.out)⟩⟩
  case rest =>
   clear HC3
   try clear p2
   try clear c3
   try clear c4
   try clear c4b0
   obtain ⟨kq, x3_72, rfl, HA, HJ72, HB⟩ := hcut
   cases kq with
   | zero => exact absurd HA.out (by simp [mortiseref20_Name.j0])
   | succ kj72 =>
    have H := HA.out
    clear HA
    simp only [mortiseref20_Name.j0] at H
    by_cases c5 : x3_72 = true
    ·subst c5
     have H1 : ((mortiseref01_Name.f a0).bind fun t157 => (some t157)) = some r := by rw [if_pos rfl] at H; exact H
     clear H
     have H := H1
     clear H1
     replace H := Option.bind_eq_some_iff.mp H
     obtain ⟨t157, A60, H⟩ := H
     replace H : (some t157) = some r := H
     have A6 := Aside0.mk A60
     clear A60
     obtain rfl := Option.some.inj H
     go_wp2_with (first | ((with_reducible refine gate_callee (f := 42) rfl ?_); refine goesL_ (some 11) rfl rfl Try.func42 (by kernel_rfl) rfl #[.int .i64 a0] rfl (by (try simp only [List.map_toArray, List.map_cons, List.map_nil]); first | done | rfl | (simp only [List.length_drop, List.length_take]; rfl)) ?_; (with_reducible refine (mortiseref01_Name.calls a0 t157 _ A6.out).mono ?_); rintro e w7 ⟨rfl, hb⟩; refine ⟨_, rfl, ?_⟩; have n0_ := Aside0.mk (below_step (by repeat (first | (with_reducible first | exact HB.out | apply below_alloc | apply pw_below_drewN | apply below_drew1) | exact HB.out)) hb); clear HB; have HB := n0_; clear n0_; (try clear hb); (try clear hb2); (try clear hk); (try clear hi)))
     go_ret
     exact ⟨by first | rfl | (simp [errW_none, errW_some] <;> rfl) | (simp [*, errW_none, errW_some] <;> rfl), by repeat (first | (with_reducible first | exact HB.out | apply below_alloc | apply pw_below_drewN | apply below_drew1) | exact HB.out)⟩
    ·replace c5 := Bool.eq_false_iff.mpr c5
     subst c5
     have H1 : (if a0 ≥ 33 then (if a0 ≤ 51 then ((mortiseref01_Name.f (wrap64 (a0 - 32))).bind fun t158 => (if t158.size + 1 ≤ 9223372036854775807 then (some (t158 ++ (⟨#[105]⟩ : ByteArray))) else (none))) else (mortiseref20_Name.j1 kj72 a0)) else (mortiseref20_Name.j1 kj72 a0)) = some r := by rw [if_neg (show ¬ (false = true) by decide)] at H; exact H
     clear H
     have H := H1
     clear H1
     by_cases c8 : a0 ≥ 33
     ·rw [if_pos c8] at H
      have c8b0 : decide (33 ≤ a0) = true := decide_eq_true c8
      clear c8
      by_cases c9 : a0 ≤ 51
      ·rw [if_pos c9] at H
       have c9b0 : decide (a0 ≤ 51) = true := decide_eq_true c9
       clear c9
       replace H := Option.bind_eq_some_iff.mp H
       obtain ⟨t158, A100, H⟩ := H
       replace H : (if t158.size + 1 ≤ 9223372036854775807 then (some (t158 ++ (⟨#[105]⟩ : ByteArray))) else (none)) = some r := H
       have A10 := Aside0.mk A100
       clear A100
       by_cases c11 : t158.size + 1 ≤ 9223372036854775807
       ·rw [if_pos c11] at H
        have c11b0 := eq_true c11
        have c11b1 : decide (t158.size + 1 ≤ 9223372036854775807) = true := decide_eq_true c11
        try have c11b2 : (9223372036854775807 < t158.size + 1) = False := eq_false (Nat.not_lt.2 c11)
        obtain rfl := Option.some.inj H
        go_wp2_with (first | ((with_reducible refine gate_callee (f := 42) rfl ?_); refine goesL_ (some 21) rfl rfl Try.func42 (by kernel_rfl) rfl #[.int .i64 (wrap64 (a0 - 32))] rfl (by (try simp only [List.map_toArray, List.map_cons, List.map_nil]); first | done | rfl | (simp only [List.length_drop, List.length_take]; rfl)) ?_; (with_reducible refine (mortiseref01_Name.calls (wrap64 (a0 - 32)) t158 _ A10.out).mono ?_); rintro e w12 ⟨rfl, hb⟩; refine ⟨_, rfl, ?_⟩; have n0_ := Aside0.mk (below_step (by repeat (first | (with_reducible first | exact HB.out | apply below_alloc | apply pw_below_drewN | apply below_drew1) | exact HB.out)) hb); clear HB; have HB := n0_; clear n0_; (try clear hb); (try clear hb2); (try clear hk); (try clear hi)))
        go_ret
        exact ⟨by first | rfl | (simp [errW_none, errW_some] <;> rfl) | (simp [*, errW_none, errW_some] <;> rfl), by repeat (first | (with_reducible first | exact HB.out | apply below_alloc | apply pw_below_drewN | apply below_drew1) | exact HB.out)⟩
       ·rw [if_neg c11] at H
        exact absurd H (by simp)
      ·rw [if_neg c9] at H
       have c9b0 : decide (a0 ≤ 51) = false := decide_eq_false c9
       clear c9
       have H' := Aside0.mk H
       clear H
       go_wp2
       go_meet
       case rel => exact ⟨_, H', ⟨by have := HJ72.out; first | omega | exact Nat.le_refl _⟩, ⟨by repeat (first | (with_reducible first | exact HB.out | apply below_alloc | apply pw_below_drewN | apply below_drew1) | exact HB.out)⟩⟩
     ·rw [if_neg c8] at H
      have c8b0 : decide (33 ≤ a0) = false := decide_eq_false c8
      clear c8
      have H' := Aside0.mk H
      clear H
      go_wp2
      go_meet
      case rel => exact ⟨_, H', ⟨by have := HJ72.out; first | omega | exact Nat.le_refl _⟩, ⟨by repeat (first | (with_reducible first | exact HB.out | apply below_alloc | apply pw_below_drewN | apply below_drew1) | exact HB.out)⟩⟩
 case rest =>
  clear HC2
  try clear c1
  try clear p2
  try clear c3
  try clear c4
  try clear c4b0
  try clear c5
  try clear p6
  try clear c8
  try clear c8b0
  try clear c9
  try clear c9b0
  try clear c11
  try clear c11b0
  try clear c11b1
  try clear c11b2
  try clear p2
  obtain ⟨kq, HA, HJ71, HB⟩ := hcut
  cases kq with
  | zero => exact absurd HA.out (by simp [mortiseref20_Name.j1])
  | succ kj71 =>
   have H := HA.out
   clear HA
   simp only [mortiseref20_Name.j1] at H
   by_cases c13 : a0 = 64
   ·rw [if_pos c13] at H
    have c13b0 : (a0 == 64) = true := beq_iff_eq.mpr c13
    have c13b1 : (a0 != 64) = false := bne_eq_false_iff_eq.mpr c13
    clear c13
    obtain rfl := Option.some.inj H
    go_wp2
    go_ret
    exact ⟨by first | rfl | (simp [errW_none, errW_some] <;> rfl) | (simp [*, errW_none, errW_some] <;> rfl), by repeat (first | (with_reducible first | exact HB.out | apply below_alloc | apply pw_below_drewN | apply below_drew1) | exact HB.out)⟩
   ·rw [if_neg c13] at H
    have c13b0 : (a0 == 64) = false := beq_eq_false_iff_ne.mpr c13
    have c13b1 : (a0 != 64) = true := bne_iff_ne.mpr c13
    by_cases c14 : a0 = 65
    ·rw [if_pos c14] at H
     have c14b0 : (a0 == 65) = true := beq_iff_eq.mpr c14
     have c14b1 : (a0 != 65) = false := bne_eq_false_iff_eq.mpr c14
     clear c14
     obtain rfl := Option.some.inj H
     go_wp2
     go_ret
     exact ⟨by first | rfl | (simp [errW_none, errW_some] <;> rfl) | (simp [*, errW_none, errW_some] <;> rfl), by repeat (first | (with_reducible first | exact HB.out | apply below_alloc | apply pw_below_drewN | apply below_drew1) | exact HB.out)⟩
    ·rw [if_neg c14] at H
     have c14b0 : (a0 == 65) = false := beq_eq_false_iff_ne.mpr c14
     have c14b1 : (a0 != 65) = true := bne_iff_ne.mpr c14
     by_cases c15 : a0 = 80
     ·rw [if_pos c15] at H
      have c15b0 : (a0 == 80) = true := beq_iff_eq.mpr c15
      have c15b1 : (a0 != 80) = false := bne_eq_false_iff_eq.mpr c15
      clear c15
      obtain rfl := Option.some.inj H
      go_wp2
      go_ret
      exact ⟨by first | rfl | (simp [errW_none, errW_some] <;> rfl) | (simp [*, errW_none, errW_some] <;> rfl), by repeat (first | (with_reducible first | exact HB.out | apply below_alloc | apply pw_below_drewN | apply below_drew1) | exact HB.out)⟩
     ·rw [if_neg c15] at H
      have c15b0 : (a0 == 80) = false := beq_eq_false_iff_ne.mpr c15
      have c15b1 : (a0 != 80) = true := bne_iff_ne.mpr c15
      by_cases c16 : a0 = 81
      ·rw [if_pos c16] at H
       have c16b0 : (a0 == 81) = true := beq_iff_eq.mpr c16
       have c16b1 : (a0 != 81) = false := bne_eq_false_iff_eq.mpr c16
       clear c16
       obtain rfl := Option.some.inj H
       go_wp2
       go_ret
       exact ⟨by first | rfl | (simp [errW_none, errW_some] <;> rfl) | (simp [*, errW_none, errW_some] <;> rfl), by repeat (first | (with_reducible first | exact HB.out | apply below_alloc | apply pw_below_drewN | apply below_drew1) | exact HB.out)⟩
      ·rw [if_neg c16] at H
       have c16b0 : (a0 == 81) = false := beq_eq_false_iff_ne.mpr c16
       have c16b1 : (a0 != 81) = true := bne_iff_ne.mpr c16
       by_cases c17 : a0 = 82
       ·rw [if_pos c17] at H
        have c17b0 : (a0 == 82) = true := beq_iff_eq.mpr c17
        have c17b1 : (a0 != 82) = false := bne_eq_false_iff_eq.mpr c17
        clear c17
        obtain rfl := Option.some.inj H
        go_wp2
        go_ret
        exact ⟨by first | rfl | (simp [errW_none, errW_some] <;> rfl) | (simp [*, errW_none, errW_some] <;> rfl), by repeat (first | (with_reducible first | exact HB.out | apply below_alloc | apply pw_below_drewN | apply below_drew1) | exact HB.out)⟩
       ·rw [if_neg c17] at H
        have c17b0 : (a0 == 82) = false := beq_eq_false_iff_ne.mpr c17
        have c17b1 : (a0 != 82) = true := bne_iff_ne.mpr c17
        by_cases c18 : a0 = 83
        ·rw [if_pos c18] at H
         have c18b0 : (a0 == 83) = true := beq_iff_eq.mpr c18
         have c18b1 : (a0 != 83) = false := bne_eq_false_iff_eq.mpr c18
         clear c18
         obtain rfl := Option.some.inj H
         go_wp2
         go_ret
         exact ⟨by first | rfl | (simp [errW_none, errW_some] <;> rfl) | (simp [*, errW_none, errW_some] <;> rfl), by repeat (first | (with_reducible first | exact HB.out | apply below_alloc | apply pw_below_drewN | apply below_drew1) | exact HB.out)⟩
        ·rw [if_neg c18] at H
         have c18b0 : (a0 == 83) = false := beq_eq_false_iff_ne.mpr c18
         have c18b1 : (a0 != 83) = true := bne_iff_ne.mpr c18
         by_cases c19 : a0 = 84
         ·rw [if_pos c19] at H
          have c19b0 : (a0 == 84) = true := beq_iff_eq.mpr c19
          have c19b1 : (a0 != 84) = false := bne_eq_false_iff_eq.mpr c19
          clear c19
          obtain rfl := Option.some.inj H
          go_wp2
          go_ret
          exact ⟨by first | rfl | (simp [errW_none, errW_some] <;> rfl) | (simp [*, errW_none, errW_some] <;> rfl), by repeat (first | (with_reducible first | exact HB.out | apply below_alloc | apply pw_below_drewN | apply below_drew1) | exact HB.out)⟩
         ·rw [if_neg c19] at H
          have c19b0 : (a0 == 84) = false := beq_eq_false_iff_ne.mpr c19
          have c19b1 : (a0 != 84) = true := bne_iff_ne.mpr c19
          by_cases c20 : a0 = 88
          ·rw [if_pos c20] at H
           have c20b0 : (a0 == 88) = true := beq_iff_eq.mpr c20
           have c20b1 : (a0 != 88) = false := bne_eq_false_iff_eq.mpr c20
           clear c20
           obtain rfl := Option.some.inj H
           go_wp2
           go_ret
           exact ⟨by first | rfl | (simp [errW_none, errW_some] <;> rfl) | (simp [*, errW_none, errW_some] <;> rfl), by repeat (first | (with_reducible first | exact HB.out | apply below_alloc | apply pw_below_drewN | apply below_drew1) | exact HB.out)⟩
          ·rw [if_neg c20] at H
           have c20b0 : (a0 == 88) = false := beq_eq_false_iff_ne.mpr c20
           have c20b1 : (a0 != 88) = true := bne_iff_ne.mpr c20
           by_cases c21 : a0 = 89
           ·rw [if_pos c21] at H
            have c21b0 : (a0 == 89) = true := beq_iff_eq.mpr c21
            have c21b1 : (a0 != 89) = false := bne_eq_false_iff_eq.mpr c21
            clear c21
            obtain rfl := Option.some.inj H
            go_wp2
            go_ret
            exact ⟨by first | rfl | (simp [errW_none, errW_some] <;> rfl) | (simp [*, errW_none, errW_some] <;> rfl), by repeat (first | (with_reducible first | exact HB.out | apply below_alloc | apply pw_below_drewN | apply below_drew1) | exact HB.out)⟩
           ·rw [if_neg c21] at H
            have c21b0 : (a0 == 89) = false := beq_eq_false_iff_ne.mpr c21
            have c21b1 : (a0 != 89) = true := bne_iff_ne.mpr c21
            by_cases c22 : a0 = 90
            ·rw [if_pos c22] at H
             have c22b0 : (a0 == 90) = true := beq_iff_eq.mpr c22
             have c22b1 : (a0 != 90) = false := bne_eq_false_iff_eq.mpr c22
             clear c22
             obtain rfl := Option.some.inj H
             go_wp2
             go_ret
             exact ⟨by first | rfl | (simp [errW_none, errW_some] <;> rfl) | (simp [*, errW_none, errW_some] <;> rfl), by repeat (first | (with_reducible first | exact HB.out | apply below_alloc | apply pw_below_drewN | apply below_drew1) | exact HB.out)⟩
            ·rw [if_neg c22] at H
             have c22b0 : (a0 == 90) = false := beq_eq_false_iff_ne.mpr c22
             have c22b1 : (a0 != 90) = true := bne_iff_ne.mpr c22
             by_cases c23 : a0 = 96
             ·rw [if_pos c23] at H
              have c23b0 : (a0 == 96) = true := beq_iff_eq.mpr c23
              have c23b1 : (a0 != 96) = false := bne_eq_false_iff_eq.mpr c23
              clear c23
              obtain rfl := Option.some.inj H
              go_wp2
              go_ret
              exact ⟨by first | rfl | (simp [errW_none, errW_some] <;> rfl) | (simp [*, errW_none, errW_some] <;> rfl), by repeat (first | (with_reducible first | exact HB.out | apply below_alloc | apply pw_below_drewN | apply below_drew1) | exact HB.out)⟩
             ·rw [if_neg c23] at H
              have c23b0 : (a0 == 96) = false := beq_eq_false_iff_ne.mpr c23
              have c23b1 : (a0 != 96) = true := bne_iff_ne.mpr c23
              by_cases c24 : a0 = 97
              ·rw [if_pos c24] at H
               have c24b0 : (a0 == 97) = true := beq_iff_eq.mpr c24
               have c24b1 : (a0 != 97) = false := bne_eq_false_iff_eq.mpr c24
               clear c24
               obtain rfl := Option.some.inj H
               go_wp2
               go_ret
               exact ⟨by first | rfl | (simp [errW_none, errW_some] <;> rfl) | (simp [*, errW_none, errW_some] <;> rfl), by repeat (first | (with_reducible first | exact HB.out | apply below_alloc | apply pw_below_drewN | apply below_drew1) | exact HB.out)⟩
              ·rw [if_neg c24] at H
               have c24b0 : (a0 == 97) = false := beq_eq_false_iff_ne.mpr c24
               have c24b1 : (a0 != 97) = true := bne_iff_ne.mpr c24
               by_cases c25 : a0 = 98
               ·rw [if_pos c25] at H
                have c25b0 : (a0 == 98) = true := beq_iff_eq.mpr c25
                have c25b1 : (a0 != 98) = false := bne_eq_false_iff_eq.mpr c25
                clear c25
                obtain rfl := Option.some.inj H
                go_wp2
                go_ret
                exact ⟨by first | rfl | (simp [errW_none, errW_some] <;> rfl) | (simp [*, errW_none, errW_some] <;> rfl), by repeat (first | (with_reducible first | exact HB.out | apply below_alloc | apply pw_below_drewN | apply below_drew1) | exact HB.out)⟩
               ·rw [if_neg c25] at H
                have c25b0 : (a0 == 98) = false := beq_eq_false_iff_ne.mpr c25
                have c25b1 : (a0 != 98) = true := bne_iff_ne.mpr c25
                by_cases c26 : a0 = 99
                ·rw [if_pos c26] at H
                 have c26b0 : (a0 == 99) = true := beq_iff_eq.mpr c26
                 have c26b1 : (a0 != 99) = false := bne_eq_false_iff_eq.mpr c26
                 clear c26
                 obtain rfl := Option.some.inj H
                 go_wp2
                 go_ret
                 exact ⟨by first | rfl | (simp [errW_none, errW_some] <;> rfl) | (simp [*, errW_none, errW_some] <;> rfl), by repeat (first | (with_reducible first | exact HB.out | apply below_alloc | apply pw_below_drewN | apply below_drew1) | exact HB.out)⟩
                ·rw [if_neg c26] at H
                 have c26b0 : (a0 == 99) = false := beq_eq_false_iff_ne.mpr c26
                 have c26b1 : (a0 != 99) = true := bne_iff_ne.mpr c26
                 by_cases c27 : a0 = 100
                 ·rw [if_pos c27] at H
                  have c27b0 : (a0 == 100) = true := beq_iff_eq.mpr c27
                  have c27b1 : (a0 != 100) = false := bne_eq_false_iff_eq.mpr c27
                  clear c27
                  obtain rfl := Option.some.inj H
                  go_wp2
                  go_ret
                  exact ⟨by first | rfl | (simp [errW_none, errW_some] <;> rfl) | (simp [*, errW_none, errW_some] <;> rfl), by repeat (first | (with_reducible first | exact HB.out | apply below_alloc | apply pw_below_drewN | apply below_drew1) | exact HB.out)⟩
                 ·rw [if_neg c27] at H
                  have c27b0 : (a0 == 100) = false := beq_eq_false_iff_ne.mpr c27
                  have c27b1 : (a0 != 100) = true := bne_iff_ne.mpr c27
                  by_cases c28 : a0 = 104
                  ·rw [if_pos c28] at H
                   have c28b0 : (a0 == 104) = true := beq_iff_eq.mpr c28
                   have c28b1 : (a0 != 104) = false := bne_eq_false_iff_eq.mpr c28
                   clear c28
                   obtain rfl := Option.some.inj H
                   go_wp2
                   go_ret
                   exact ⟨by first | rfl | (simp [errW_none, errW_some] <;> rfl) | (simp [*, errW_none, errW_some] <;> rfl), by repeat (first | (with_reducible first | exact HB.out | apply below_alloc | apply pw_below_drewN | apply below_drew1) | exact HB.out)⟩
                  ·rw [if_neg c28] at H
                   have c28b0 : (a0 == 104) = false := beq_eq_false_iff_ne.mpr c28
                   have c28b1 : (a0 != 104) = true := bne_iff_ne.mpr c28
                   by_cases c29 : a0 = 105
                   ·rw [if_pos c29] at H
                    have c29b0 : (a0 == 105) = true := beq_iff_eq.mpr c29
                    have c29b1 : (a0 != 105) = false := bne_eq_false_iff_eq.mpr c29
                    clear c29
                    obtain rfl := Option.some.inj H
                    go_wp2
                    go_ret
                    exact ⟨by first | rfl | (simp [errW_none, errW_some] <;> rfl) | (simp [*, errW_none, errW_some] <;> rfl), by repeat (first | (with_reducible first | exact HB.out | apply below_alloc | apply pw_below_drewN | apply below_drew1) | exact HB.out)⟩
                   ·rw [if_neg c29] at H
                    have c29b0 : (a0 == 105) = false := beq_eq_false_iff_ne.mpr c29
                    have c29b1 : (a0 != 105) = true := bne_iff_ne.mpr c29
                    by_cases c30 : a0 = 112
                    ·rw [if_pos c30] at H
                     have c30b0 : (a0 == 112) = true := beq_iff_eq.mpr c30
                     have c30b1 : (a0 != 112) = false := bne_eq_false_iff_eq.mpr c30
                     clear c30
                     obtain rfl := Option.some.inj H
                     go_wp2
                     go_ret
                     exact ⟨by first | rfl | (simp [errW_none, errW_some] <;> rfl) | (simp [*, errW_none, errW_some] <;> rfl), by repeat (first | (with_reducible first | exact HB.out | apply below_alloc | apply pw_below_drewN | apply below_drew1) | exact HB.out)⟩
                    ·rw [if_neg c30] at H
                     have c30b0 : (a0 == 112) = false := beq_eq_false_iff_ne.mpr c30
                     have c30b1 : (a0 != 112) = true := bne_iff_ne.mpr c30
                     by_cases c31 : a0 = 113
                     ·rw [if_pos c31] at H
                      have c31b0 : (a0 == 113) = true := beq_iff_eq.mpr c31
                      have c31b1 : (a0 != 113) = false := bne_eq_false_iff_eq.mpr c31
                      clear c31
                      obtain rfl := Option.some.inj H
                      go_wp2
                      go_ret
                      exact ⟨by first | rfl | (simp [errW_none, errW_some] <;> rfl) | (simp [*, errW_none, errW_some] <;> rfl), by repeat (first | (with_reducible first | exact HB.out | apply below_alloc | apply pw_below_drewN | apply below_drew1) | exact HB.out)⟩
                     ·rw [if_neg c31] at H
                      have c31b0 : (a0 == 113) = false := beq_eq_false_iff_ne.mpr c31
                      have c31b1 : (a0 != 113) = true := bne_iff_ne.mpr c31
                      by_cases c32 : a0 = 114
                      ·rw [if_pos c32] at H
                       have c32b0 : (a0 == 114) = true := beq_iff_eq.mpr c32
                       have c32b1 : (a0 != 114) = false := bne_eq_false_iff_eq.mpr c32
                       clear c32
                       obtain rfl := Option.some.inj H
                       go_wp2
                       go_ret
                       exact ⟨by first | rfl | (simp [errW_none, errW_some] <;> rfl) | (simp [*, errW_none, errW_some] <;> rfl), by repeat (first | (with_reducible first | exact HB.out | apply below_alloc | apply pw_below_drewN | apply below_drew1) | exact HB.out)⟩
                      ·rw [if_neg c32] at H
                       have c32b0 : (a0 == 114) = false := beq_eq_false_iff_ne.mpr c32
                       have c32b1 : (a0 != 114) = true := bne_iff_ne.mpr c32
                       obtain rfl := Option.some.inj H
                       go_wp2
                       go_ret
                       exact ⟨by first | rfl | (simp [errW_none, errW_some] <;> rfl) | (simp [*, errW_none, errW_some] <;> rfl), by repeat (first | (with_reducible first | exact HB.out | apply below_alloc | apply pw_below_drewN | apply below_drew1) | exact HB.out)⟩

/-! ### mortiseref20_Form: function 18 -/
mutual
def mortiseref20_Form.j0 : Nat → Int → Bool → Option (Int)
 | 0, _, _ => none
 | k + 1, x0, x10 => if x10 = true then (some 2) else (if x0 = 64 then (mortiseref20_Form.j1 k x0 true) else (if x0 = 97 then (mortiseref20_Form.j1 k x0 true) else (mortiseref20_Form.j1 k x0 (x0 == 98))))
def mortiseref20_Form.j1 : Nat → Int → Bool → Option (Int)
 | 0, _, _ => none
 | k + 1, x0, x21 => if x21 = true then (some 3) else (if x0 = 65 then (some 4) else (if x0 = 96 then (mortiseref20_Form.j2 k x0 true) else (mortiseref20_Form.j2 k x0 (x0 == 99))))
def mortiseref20_Form.j2 : Nat → Int → Bool → Option (Int)
 | 0, _, _ => none
 | k + 1, x0, x35 => if x35 = true then (some 5) else (if x0 = 104 then (some 6) else (if x0 = 105 then (some 6) else (some 7)))
end
def mortiseref20_Form.f (k : Nat) (a0 : Int) : Option (Int) := (mortiseref20_Name.f k a0).bind fun t159 => (if t159.toList = ([] : List UInt8) then (some 0) else (if a0 ≤ 19 then (some 1) else (if a0 ≤ 51 then (mortiseref20_Form.j0 k a0 true) else (if a0 ≥ 80 then (mortiseref20_Form.j0 k a0 (decide (a0 ≤ 90))) else (mortiseref20_Form.j0 k a0 false)))))
set_option maxHeartbeats 8000000 in
set_option maxRecDepth 100000 in
theorem mortiseref20_Form.calls (k : Nat) (a0 : Int) (r : Int) (w : World) (h : mortiseref20_Form.f k a0 = some r) :
  Calls Try.prog 18 #[.int .i64 a0] w fun e w' => e = .returned (.int .i64 r) ∧ Below w.heap.size w w' := by
 have HB := Aside0.mk (Below.refl w.heap.size w)
 have H : ((mortiseref20_Name.f k a0).bind fun t159 => (if t159.toList = ([] : List UInt8) then (some 0) else (if a0 ≤ 19 then (some 1) else (if a0 ≤ 51 then (mortiseref20_Form.j0 k a0 true) else (if a0 ≥ 80 then (mortiseref20_Form.j0 k a0 (decide (a0 ≤ 90))) else (mortiseref20_Form.j0 k a0 false)))))) = some r := h
 clear h
 replace H := Option.bind_eq_some_iff.mp H
 obtain ⟨t159, A20, H⟩ := H
 replace H : (if t159.toList = ([] : List UInt8) then (some 0) else (if a0 ≤ 19 then (some 1) else (if a0 ≤ 51 then (mortiseref20_Form.j0 k a0 true) else (if a0 ≥ 80 then (mortiseref20_Form.j0 k a0 (decide (a0 ≤ 90))) else (mortiseref20_Form.j0 k a0 false))))) = some r := H
 have A2 := Aside0.mk A20
 clear A20
 by_cases c3 : t159.toList = ([] : List UInt8)
 ·rw [if_pos c3] at H
  have c3b0 : (t159.toList == ([] : List UInt8)) = true := beq_iff_eq.mpr c3
  have c3b1 : (t159.toList != ([] : List UInt8)) = false := bne_eq_false_iff_eq.mpr c3
  clear c3
  obtain rfl := Option.some.inj H
  go_enter Try.func18, Try.ntmps18
  go_wp2_with (first | ((with_reducible refine gate_callee (f := 30) rfl ?_); refine goesL_ (some 5) rfl rfl Try.func30 (by kernel_rfl) rfl #[.int .i64 a0] rfl (by (try simp only [List.map_toArray, List.map_cons, List.map_nil]); first | done | rfl | (simp only [List.length_drop, List.length_take]; rfl)) ?_; (with_reducible refine (mortiseref20_Name.calls k a0 t159 _ A2.out).mono ?_); rintro e w4 ⟨rfl, hb⟩; refine ⟨_, rfl, ?_⟩; have n0_ := Aside0.mk (below_step (by repeat (first | (with_reducible first | exact HB.out | apply below_alloc | apply pw_below_drewN | apply below_drew1) | exact HB.out)) hb); clear HB; have HB := n0_; clear n0_; (try clear hb); (try clear hb2); (try clear hk); (try clear hi)))
  go_ret
  exact ⟨by first | rfl | (simp [errW_none, errW_some] <;> rfl) | (simp [*, errW_none, errW_some] <;> rfl), by repeat (first | (with_reducible first | exact HB.out | apply below_alloc | apply pw_below_drewN | apply below_drew1) | exact HB.out)⟩
 ·rw [if_neg c3] at H
  have c3b0 : (t159.toList == ([] : List UInt8)) = false := beq_eq_false_iff_ne.mpr c3
  have c3b1 : (t159.toList != ([] : List UInt8)) = true := bne_iff_ne.mpr c3
  by_cases c5 : a0 ≤ 19
  ·rw [if_pos c5] at H
   have c5b0 : decide (a0 ≤ 19) = true := decide_eq_true c5
   clear c5
   obtain rfl := Option.some.inj H
   go_enter Try.func18, Try.ntmps18
   go_wp2_with (first | ((with_reducible refine gate_callee (f := 30) rfl ?_); refine goesL_ (some 5) rfl rfl Try.func30 (by kernel_rfl) rfl #[.int .i64 a0] rfl (by (try simp only [List.map_toArray, List.map_cons, List.map_nil]); first | done | rfl | (simp only [List.length_drop, List.length_take]; rfl)) ?_; (with_reducible refine (mortiseref20_Name.calls k a0 t159 _ A2.out).mono ?_); rintro e w6 ⟨rfl, hb⟩; refine ⟨_, rfl, ?_⟩; have n0_ := Aside0.mk (below_step (by repeat (first | (with_reducible first | exact HB.out | apply below_alloc | apply pw_below_drewN | apply below_drew1) | exact HB.out)) hb); clear HB; have HB := n0_; clear n0_; (try clear hb); (try clear hb2); (try clear hk); (try clear hi)))
   go_ret
   exact ⟨by first | rfl | (simp [errW_none, errW_some] <;> rfl) | (simp [*, errW_none, errW_some] <;> rfl), by repeat (first | (with_reducible first | exact HB.out | apply below_alloc | apply pw_below_drewN | apply below_drew1) | exact HB.out)⟩
  ·rw [if_neg c5] at H
   have c5b0 : decide (a0 ≤ 19) = false := decide_eq_false c5
   clear c5
   have HC7 := Aside0.mk H
   clear H
   go_enter Try.func18, Try.ntmps18
   go_upto_region 5 with (first | ((with_reducible refine gate_callee (f := 30) rfl ?_); refine goesL_ (some 5) rfl rfl Try.func30 (by kernel_rfl) rfl #[.int .i64 a0] rfl (by (try simp only [List.map_toArray, List.map_cons, List.map_nil]); first | done | rfl | (simp only [List.length_drop, List.length_take]; rfl)) ?_; (with_reducible refine (mortiseref20_Name.calls k a0 t159 _ A2.out).mono ?_); rintro e w8 ⟨rfl, hb⟩; refine ⟨_, rfl, ?_⟩; have n0_ := Aside0.mk (below_step (by repeat (first | (with_reducible first | exact HB.out | apply below_alloc | apply pw_below_drewN | apply below_drew1) | exact HB.out)) hb); clear HB; have HB := n0_; clear n0_; (try clear hb); (try clear hb2); (try clear hk); (try clear hi)))
   (try simp only [Act.put, List.setIfInBounds_toArray, List.set_cons_zero, List.set_cons_succ])
   go_cut [10] (fun v10 wc => ∃ (kq : Nat) (x10_76 : Bool), v10 = .bool x10_76 ∧ Aside0 (mortiseref20_Form.j0 kq a0 x10_76 = some r) ∧ Aside0 (kq ≤ k) ∧ Aside0 (Below w.heap.size w wc))
   case first =>
    have H := HC7.out
    clear HC7
    by_cases c9 : a0 ≤ 51
    ·rw [if_pos c9] at H
     have c9b0 : decide (a0 ≤ 51) = true := decide_eq_true c9
     clear c9
     (first | rw [c9b0] | (simp only [i64_w, i32_w]; rw [c9b0]) | skip)
     have H' := Aside0.mk H
     clear H
     go_wp2
     go_meet
     case rel => exact ⟨_, (true), (by first | rfl | (simp; done) | (simp [*]; done)), H', ⟨by first | omega | exact Nat.le_refl _⟩, ⟨by repeat (first | (with_reducible first | exact HB.out | apply below_alloc | apply pw_below_drewN | apply below_drew1) | exact HB.out)⟩⟩
    ·rw [if_neg c9] at H
     have c9b0 : decide (a0 ≤ 51) = false := decide_eq_false c9
     clear c9
     (first | rw [c9b0] | (simp only [i64_w, i32_w]; rw [c9b0]) | skip)
     by_cases c10 : a0 ≥ 80
     ·rw [if_pos c10] at H
      have c10b0 : decide (80 ≤ a0) = true := decide_eq_true c10
      clear c10
      have H' := Aside0.mk H
      clear H
      go_wp2
      go_meet
      case rel => exact ⟨_, (decide (a0 ≤ 90)), (by first | rfl | (simp; done) | (simp [*]; done)), H', ⟨by first | omega | exact Nat.le_refl _⟩, ⟨by repeat (first | (with_reducible first | exact HB.out | apply below_alloc | apply pw_below_drewN | apply below_drew1) | exact HB.out)⟩⟩
     ·rw [if_neg c10] at H
      have c10b0 : decide (80 ≤ a0) = false := decide_eq_false c10
      clear c10
      have H' := Aside0.mk H
      clear H
      go_wp2
      go_meet
      case rel => exact ⟨_, (false), (by first | rfl | (simp; done) | (simp [*]; done)), H', ⟨by first | omega | exact Nat.le_refl _⟩, ⟨by repeat (first | (with_reducible first | exact HB.out | apply below_alloc | apply pw_below_drewN | apply below_drew1) | exact HB.out)⟩⟩
   case rest =>
    clear HC7
    try clear c1
    try clear p2
    try clear c3
    try clear c3b0
    try clear c3b1
    try clear c5
    try clear c5b0
    try clear c9
    try clear c9b0
    try clear c10
    try clear c10b0
    obtain ⟨kq, x10_76, rfl, HA, HJ76, HB⟩ := hcut
    cases kq with
    | zero => exact absurd HA.out (by simp [mortiseref20_Form.j0])
    | succ kj76 =>
     have H := HA.out
     clear HA
     simp only [mortiseref20_Form.j0] at H
     by_cases c11 : x10_76 = true
     ·subst c11
      have H1 : (some 2) = some r := by rw [if_pos rfl] at H; exact H
      clear H
      have H := H1
      clear H1
      obtain rfl := Option.some.inj H
      go_wp2
      go_ret
      exact ⟨by first | rfl | (simp [errW_none, errW_some] <;> rfl) | (simp [*, errW_none, errW_some] <;> rfl), by repeat (first | (with_reducible first | exact HB.out | apply below_alloc | apply pw_below_drewN | apply below_drew1) | exact HB.out)⟩
     ·replace c11 := Bool.eq_false_iff.mpr c11
      subst c11
      have H1 : (if a0 = 64 then (mortiseref20_Form.j1 kj76 a0 true) else (if a0 = 97 then (mortiseref20_Form.j1 kj76 a0 true) else (mortiseref20_Form.j1 kj76 a0 (a0 == 98)))) = some r := by rw [if_neg (show ¬ (false = true) by decide)] at H; exact H
      clear H
      have H := H1
      clear H1
      have HC12 := Aside0.mk H
      clear H
      go_upto_region 7 with (fail)
      go_cut [21] (fun v21 wc => ∃ (kq : Nat) (x21_711 : Bool), v21 = .bool x21_711 ∧ Aside0 (mortiseref20_Form.j1 kq a0 x21_711 = some r) ∧ Aside0 (kq ≤ kj76) ∧ Aside0 (Below w.heap.size w wc))
      case first =>
       have H := HC12.out
       clear HC12
       by_cases c13 : a0 = 64
       ·rw [if_pos c13] at H
        have c13b0 : (a0 == 64) = true := beq_iff_eq.mpr c13
        have c13b1 : (a0 != 64) = false := bne_eq_false_iff_eq.mpr c13
        clear c13
        (first | rw [c13b0] | (simp only [i64_w, i32_w]; rw [c13b0]) | skip)
        have H' := Aside0.mk H
        clear H
        go_wp2
        go_meet
        case rel => exact ⟨_, (true), (by first | rfl | (simp; done) | (simp [*]; done)), H', ⟨by have := HJ76.out; first | omega | exact Nat.le_refl _⟩, ⟨by repeat (first | (with_reducible first | exact HB.out | apply below_alloc | apply pw_below_drewN | apply below_drew1) | exact HB.out)⟩⟩
       ·rw [if_neg c13] at H
        have c13b0 : (a0 == 64) = false := beq_eq_false_iff_ne.mpr c13
        have c13b1 : (a0 != 64) = true := bne_iff_ne.mpr c13
        (first | rw [c13b0] | (simp only [i64_w, i32_w]; rw [c13b0]) | skip)
        by_cases c14 : a0 = 97
        ·rw [if_pos c14] at H
         have c14b0 : (a0 == 97) = true := beq_iff_eq.mpr c14
         have c14b1 : (a0 != 97) = false := bne_eq_false_iff_eq.mpr c14
         clear c14
         have H' := Aside0.mk H
         clear H
         go_wp2
         go_meet
         case rel => exact ⟨_, (true), (by first | rfl | (simp; done) | (simp [*]; done)), H', ⟨by have := HJ76.out; first | omega | exact Nat.le_refl _⟩, ⟨by repeat (first | (with_reducible first | exact HB.out | apply below_alloc | apply pw_below_drewN | apply below_drew1) | exact HB.out)⟩⟩
        ·rw [if_neg c14] at H
         have c14b0 : (a0 == 97) = false := beq_eq_false_iff_ne.mpr c14
         have c14b1 : (a0 != 97) = true := bne_iff_ne.mpr c14
         have H' := Aside0.mk H
         clear H
         go_wp2
         go_meet
         case rel => exact ⟨_, ((a0 == 98)), (by first | rfl | (simp; done) | (simp [*]; done)), H', ⟨by have := HJ76.out; first | omega | exact Nat.le_refl _⟩, ⟨by repeat (first | (with_reducible first | exact HB.out | apply below_alloc | apply pw_below_drewN | apply below_drew1) | exact HB.out)⟩⟩
      case rest =>
       clear HC12
       try clear c1
       try clear p2
       try clear c3
       try clear c3b0
       try clear c3b1
       try clear c5
       try clear c5b0
       try clear c9
       try clear c9b0
       try clear c10
       try clear c10b0
       try clear c11
       try clear c13
       try clear c13b0
       try clear c13b1
       try clear c14
       try clear c14b0
       try clear c14b1
       try clear p2
       obtain ⟨kq, x21_711, rfl, HA, HJ711, HB⟩ := hcut
       cases kq with
       | zero => exact absurd HA.out (by simp [mortiseref20_Form.j1])
       | succ kj711 =>
        have H := HA.out
        clear HA
        simp only [mortiseref20_Form.j1] at H
        by_cases c15 : x21_711 = true
        ·subst c15
         have H1 : (some 3) = some r := by rw [if_pos rfl] at H; exact H
         clear H
         have H := H1
         clear H1
         obtain rfl := Option.some.inj H
         go_wp2
         go_ret
         exact ⟨by first | rfl | (simp [errW_none, errW_some] <;> rfl) | (simp [*, errW_none, errW_some] <;> rfl), by repeat (first | (with_reducible first | exact HB.out | apply below_alloc | apply pw_below_drewN | apply below_drew1) | exact HB.out)⟩
        ·replace c15 := Bool.eq_false_iff.mpr c15
         subst c15
         have H1 : (if a0 = 65 then (some 4) else (if a0 = 96 then (mortiseref20_Form.j2 kj711 a0 true) else (mortiseref20_Form.j2 kj711 a0 (a0 == 99)))) = some r := by rw [if_neg (show ¬ (false = true) by decide)] at H; exact H
         clear H
         have H := H1
         clear H1
         by_cases c16 : a0 = 65
         ·rw [if_pos c16] at H
          have c16b0 : (a0 == 65) = true := beq_iff_eq.mpr c16
          have c16b1 : (a0 != 65) = false := bne_eq_false_iff_eq.mpr c16
          clear c16
          obtain rfl := Option.some.inj H
          go_wp2
          go_ret
          exact ⟨by first | rfl | (simp [errW_none, errW_some] <;> rfl) | (simp [*, errW_none, errW_some] <;> rfl), by repeat (first | (with_reducible first | exact HB.out | apply below_alloc | apply pw_below_drewN | apply below_drew1) | exact HB.out)⟩
         ·rw [if_neg c16] at H
          have c16b0 : (a0 == 65) = false := beq_eq_false_iff_ne.mpr c16
          have c16b1 : (a0 != 65) = true := bne_iff_ne.mpr c16
          have HC17 := Aside0.mk H
          clear H
          go_upto_region 11 with (fail)
          go_cut [35] (fun v35 wc => ∃ (kq : Nat) (x35_716 : Bool), v35 = .bool x35_716 ∧ Aside0 (mortiseref20_Form.j2 kq a0 x35_716 = some r) ∧ Aside0 (kq ≤ kj711) ∧ Aside0 (Below w.heap.size w wc))
          case first =>
           have H := HC17.out
           clear HC17
           by_cases c18 : a0 = 96
           ·rw [if_pos c18] at H
            have c18b0 : (a0 == 96) = true := beq_iff_eq.mpr c18
            have c18b1 : (a0 != 96) = false := bne_eq_false_iff_eq.mpr c18
            clear c18
            (first | rw [c18b0] | (simp only [i64_w, i32_w]; rw [c18b0]) | skip)
            have H' := Aside0.mk H
            clear H
            go_wp2
            go_meet
            case rel => exact ⟨_, (true), (by first | rfl | (simp; done) | (simp [*]; done)), H', ⟨by have := HJ76.out; have := HJ711.out; first | omega | exact Nat.le_refl _⟩, ⟨by repeat (first | (with_reducible first | exact HB.out | apply below_alloc | apply pw_below_drewN | apply below_drew1) | exact HB.out)⟩⟩
           ·rw [if_neg c18] at H
            have c18b0 : (a0 == 96) = false := beq_eq_false_iff_ne.mpr c18
            have c18b1 : (a0 != 96) = true := bne_iff_ne.mpr c18
            (first | rw [c18b0] | (simp only [i64_w, i32_w]; rw [c18b0]) | skip)
            have H' := Aside0.mk H
            clear H
            go_wp2
            go_meet
            case rel => exact ⟨_, ((a0 == 99)), (by first | rfl | (simp; done) | (simp [*]; done)), H', ⟨by have := HJ76.out; have := HJ711.out; first | omega | exact Nat.le_refl _⟩, ⟨by repeat (first | (with_reducible first | exact HB.out | apply below_alloc | apply pw_below_drewN | apply below_drew1) | exact HB.out)⟩⟩
          case rest =>
           clear HC17
           try clear c1
           try clear p2
           try clear c3
           try clear c3b0
           try clear c3b1
           try clear c5
           try clear c5b0
           try clear c9
           try clear c9b0
           try clear c10
           try clear c10b0
           try clear c11
           try clear c13
           try clear c13b0
           try clear c13b1
           try clear c14
           try clear c14b0
           try clear c14b1
           try clear c15
           try clear c16
           try clear c16b0
           try clear c16b1
           try clear c18
           try clear c18b0
           try clear c18b1
           try clear p2
           obtain ⟨kq, x35_716, rfl, HA, HJ716, HB⟩ := hcut
           cases kq with
           | zero => exact absurd HA.out (by simp [mortiseref20_Form.j2])
           | succ kj716 =>
            have H := HA.out
            clear HA
            simp only [mortiseref20_Form.j2] at H
            by_cases c19 : x35_716 = true
            ·subst c19
             have H1 : (some 5) = some r := by rw [if_pos rfl] at H; exact H
             clear H
             have H := H1
             clear H1
             obtain rfl := Option.some.inj H
             go_wp2
             go_ret
             exact ⟨by first | rfl | (simp [errW_none, errW_some] <;> rfl) | (simp [*, errW_none, errW_some] <;> rfl), by repeat (first | (with_reducible first | exact HB.out | apply below_alloc | apply pw_below_drewN | apply below_drew1) | exact HB.out)⟩
            ·replace c19 := Bool.eq_false_iff.mpr c19
             subst c19
             have H1 : (if a0 = 104 then (some 6) else (if a0 = 105 then (some 6) else (some 7))) = some r := by rw [if_neg (show ¬ (false = true) by decide)] at H; exact H
             clear H
             have H := H1
             clear H1
             by_cases c20 : a0 = 104
             ·rw [if_pos c20] at H
              have c20b0 : (a0 == 104) = true := beq_iff_eq.mpr c20
              have c20b1 : (a0 != 104) = false := bne_eq_false_iff_eq.mpr c20
              clear c20
              obtain rfl := Option.some.inj H
              go_wp2
              go_ret
              exact ⟨by first | rfl | (simp [errW_none, errW_some] <;> rfl) | (simp [*, errW_none, errW_some] <;> rfl), by repeat (first | (with_reducible first | exact HB.out | apply below_alloc | apply pw_below_drewN | apply below_drew1) | exact HB.out)⟩
             ·rw [if_neg c20] at H
              have c20b0 : (a0 == 104) = false := beq_eq_false_iff_ne.mpr c20
              have c20b1 : (a0 != 104) = true := bne_iff_ne.mpr c20
              by_cases c21 : a0 = 105
              ·rw [if_pos c21] at H
               have c21b0 : (a0 == 105) = true := beq_iff_eq.mpr c21
               have c21b1 : (a0 != 105) = false := bne_eq_false_iff_eq.mpr c21
               clear c21
               obtain rfl := Option.some.inj H
               go_wp2
               go_ret
               exact ⟨by first | rfl | (simp [errW_none, errW_some] <;> rfl) | (simp [*, errW_none, errW_some] <;> rfl), by repeat (first | (with_reducible first | exact HB.out | apply below_alloc | apply pw_below_drewN | apply below_drew1) | exact HB.out)⟩
              ·rw [if_neg c21] at H
               have c21b0 : (a0 == 105) = false := beq_eq_false_iff_ne.mpr c21
               have c21b1 : (a0 != 105) = true := bne_iff_ne.mpr c21
               obtain rfl := Option.some.inj H
               go_wp2
               go_ret
               exact ⟨by first | rfl | (simp [errW_none, errW_some] <;> rfl) | (simp [*, errW_none, errW_some] <;> rfl), by repeat (first | (with_reducible first | exact HB.out | apply below_alloc | apply pw_below_drewN | apply below_drew1) | exact HB.out)⟩

/-! ### mortiseref20_reg: function 43 -/
def mortiseref20_reg.f (a0 : Int) : Option (Bool) := if a0 ≥ 0 then (some (decide (a0 ≤ 15))) else (some false)
set_option maxHeartbeats 8000000 in
set_option maxRecDepth 100000 in
theorem mortiseref20_reg.calls (a0 : Int) (r : Bool) (w : World) (h : mortiseref20_reg.f a0 = some r) :
  Calls Try.prog 43 #[.int .i64 a0] w fun e w' => e = .returned (.bool r) ∧ Drawn0 w w' := by
 have H : (if a0 ≥ 0 then (some (decide (a0 ≤ 15))) else (some false)) = some r := h
 clear h
 by_cases c2 : a0 ≥ 0
 ·rw [if_pos c2] at H
  have c2b0 : decide (0 ≤ a0) = true := decide_eq_true c2
  clear c2
  obtain rfl := Option.some.inj H
  go_enter Try.func43, Try.ntmps43
  go_wp2
  go_ret
  exact ⟨by first | rfl | (simp; done) | (simp [*]; done), by repeat (first | exact Drawn0.refl _ | apply Drawn0.step)⟩
 ·rw [if_neg c2] at H
  have c2b0 : decide (0 ≤ a0) = false := decide_eq_false c2
  clear c2
  obtain rfl := Option.some.inj H
  go_enter Try.func43, Try.ntmps43
  go_wp2
  go_ret
  exact ⟨by first | rfl | (simp; done) | (simp [*]; done), by repeat (first | exact Drawn0.refl _ | apply Drawn0.step)⟩

/-! ### mortiseref20_within: function 44 -/
def mortiseref20_within.f (a0 : Int) (a1 : Int) (a2 : Int) : Option (Bool) := if a0 ≥ a1 then (some (decide (a0 ≤ a2))) else (some false)
set_option maxHeartbeats 8000000 in
set_option maxRecDepth 100000 in
theorem mortiseref20_within.calls (a0 : Int) (a1 : Int) (a2 : Int) (r : Bool) (w : World) (h : mortiseref20_within.f a0 a1 a2 = some r) :
  Calls Try.prog 44 #[.int .i64 a0, .int .i64 a1, .int .i64 a2] w fun e w' => e = .returned (.bool r) ∧ Drawn0 w w' := by
 have H : (if a0 ≥ a1 then (some (decide (a0 ≤ a2))) else (some false)) = some r := h
 clear h
 by_cases c4 : a0 ≥ a1
 ·rw [if_pos c4] at H
  have c4b0 : decide (a1 ≤ a0) = true := decide_eq_true c4
  clear c4
  obtain rfl := Option.some.inj H
  go_enter Try.func44, Try.ntmps44
  go_wp2
  go_ret
  exact ⟨by first | rfl | (simp; done) | (simp [*]; done), by repeat (first | exact Drawn0.refl _ | apply Drawn0.step)⟩
 ·rw [if_neg c4] at H
  have c4b0 : decide (a1 ≤ a0) = false := decide_eq_false c4
  clear c4
  obtain rfl := Option.some.inj H
  go_enter Try.func44, Try.ntmps44
  go_wp2
  go_ret
  exact ⟨by first | rfl | (simp; done) | (simp [*]; done), by repeat (first | exact Drawn0.refl _ | apply Drawn0.step)⟩

end Go.Proofs.Ytejhnlljddjicaa.PLk
