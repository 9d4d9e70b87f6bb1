/- What Go functions answer, proved by walking their code (written by a program of this session, a changed copy of the print). Conditions: none beyond the ones each theorem names. -/
import Derived.Test.YtejhnlljddjicaaJPLkx0
namespace Go.Proofs.Ytejhnlljddjicaa.PLk
open Go.RowKit Go.Proofs.YtejhnlljddjicaaW.PrintWords Go.Proofs.YtejhnlljddjicaaW.PrintLast Go.Proofs.YtejhnlljddjicaaW.PrintMore
attribute [local go_sem] max2_int min2_int max_two min_two max_three min_three max_four min_four   -- for this text's walks alone
set_option linter.unusedVariables false
set_option linter.unusedSimpArgs false

/-! ### enc_Form: function 35 -/
mutual
def enc_Form.j3 : Nat → Int → Option (Int)
 | 0, _ => none
 | k + 1, x0 => if x0 = 64 then (enc_Form.j4 k x0 (x0 == 64)) else (if x0 = 97 then (enc_Form.j4 k x0 (x0 == 97)) else (enc_Form.j4 k x0 (x0 == 98)))
def enc_Form.j4 : Nat → Int → Bool → Option (Int)
 | 0, _, _ => none
 | k + 1, x29, x30 => if x30 = true then (some 3) else (if x29 = 65 then (some 4) else (if x29 = 96 then (enc_Form.j5 k x29 (x29 == 96)) else (enc_Form.j5 k x29 (x29 == 99))))
def enc_Form.j5 : Nat → Int → Bool → Option (Int)
 | 0, _, _ => none
 | k + 1, x29, x36 => if x36 = true then (some 5) else (if x29 = 104 then (enc_Form.j6 k x29 (x29 == 104)) else (enc_Form.j6 k x29 (x29 == 105)))
def enc_Form.j6 : Nat → Int → Bool → Option (Int)
 | 0, _, _ => none
 | k + 1, x29, x39 => if x39 = true then (some 6) else (if x29 = 100 then (some 7) else (if x29 = 112 then (some 7) else (if x29 = 113 then (some 7) else (if x29 = 114 then (some 7) else (some 0)))))
def enc_Form.j0 : Nat → Int → Bool → Option (Int)
 | 0, _, _ => none
 | k + 1, x0, x3 => if x3 = true then (some 1) else (if x0 > 32 then (enc_Form.j1 k x0 (decide (x0 ≤ 51))) else (enc_Form.j1 k x0 false))
def enc_Form.j1 : Nat → Int → Bool → Option (Int)
 | 0, _, _ => none
 | k + 1, x0, x10 => if x10 = true then (some 2) else (if x0 ≥ 80 then (enc_Form.j2 k x0 (decide (x0 ≤ 84))) else (enc_Form.j2 k x0 false))
def enc_Form.j2 : Nat → Int → Bool → Option (Int)
 | 0, _, _ => none
 | k + 1, x0, x10 => if x10 = true then (some 2) else (if x0 ≥ 88 then (if x0 ≤ 90 then (some 2) else (enc_Form.j3 k x0)) else (enc_Form.j3 k x0))
end
def enc_Form.f (k : Nat) (a0 : Int) : Option (Int) := if a0 ≥ 1 then (enc_Form.j0 k a0 (decide (a0 ≤ 19))) else (enc_Form.j0 k a0 false)
set_option maxHeartbeats 8000000 in
set_option maxRecDepth 100000 in
theorem enc_Form.calls (k : Nat) (a0 : Int) (r : Int) (w : World) (h : enc_Form.f k a0 = some r) :
  Calls Try.prog 35 #[.int .i64 a0] w fun e w' => e = .returned (.int .i64 r) ∧ Drawn0 w w' := by
 have H : (if a0 ≥ 1 then (enc_Form.j0 k a0 (decide (a0 ≤ 19))) else (enc_Form.j0 k a0 false)) = some r := h
 clear h
 have HC2 := Aside0.mk H
 clear H
 go_enter Try.func35, Try.ntmps35
 go_upto_block 0 with (fail)
 go_cut [] (fun wc => ∃ (kq : Nat), Aside0 (enc_Form.j3 kq a0 = some r) ∧ Aside0 (kq ≤ k) ∧ Drawn0 w wc)
 case first =>
  have H := HC2.out
  clear HC2
  have HC3 := Aside0.mk H
  clear H
  go_upto_region 1 with (fail)
  go_cut [3] (fun v3 wc => ∃ (kq : Nat) (x3_72 : Bool), v3 = .bool x3_72 ∧ Aside0 (enc_Form.j0 kq a0 x3_72 = some r) ∧ Aside0 (kq ≤ k) ∧ Drawn0 w wc)
  case first =>
   have H := HC3.out
   clear HC3
   by_cases c4 : a0 ≥ 1
   ·rw [if_pos c4] at H
    have c4b0 : decide (1 ≤ a0) = true := decide_eq_true c4
    clear c4
    (first | rw [c4b0] | (simp only [i64_w, i32_w]; rw [c4b0]) | skip)
    have H' := Aside0.mk H
    clear H
    go_wp2
    go_meet
    case rel => exact ⟨_, (decide (a0 ≤ 19)), (by first | rfl | (simp; done) | (simp [*]; done)), H', ⟨by first | omega | exact Nat.le_refl _⟩, by repeat (first | exact Drawn0.refl _ | apply Drawn0.step)⟩
   ·rw [if_neg c4] at H
    have c4b0 : decide (1 ≤ a0) = false := decide_eq_false c4
    clear c4
    (first | rw [c4b0] | (simp only [i64_w, i32_w]; rw [c4b0]) | skip)
    have H' := Aside0.mk H
    clear H
    go_wp2
    go_meet
    case rel => exact ⟨_, (false), (by first | rfl | (simp; done) | (simp [*]; done)), H', ⟨by first | omega | exact Nat.le_refl _⟩, by repeat (first | exact Drawn0.refl _ | apply Drawn0.step)⟩
  case rest =>
   clear HC3
   try clear p2
   try clear c3
   try clear c4
   try clear c4b0
   obtain ⟨kq, x3_72, rfl, HA, HJ72, ⟨mc72, rfl⟩⟩ := hcut
   cases kq with
   | zero => exact absurd HA.out (by simp [enc_Form.j0])
   | succ kj72 =>
    have H := HA.out
    clear HA
    simp only [enc_Form.j0] at H
    by_cases c5 : x3_72 = true
    ·subst c5
     have H1 : (some 1) = some r := by rw [if_pos rfl] at H; exact H
     clear H
     have H := H1
     clear H1
     obtain rfl := Option.some.inj H
     go_wp2
     go_ret
     exact ⟨by first | rfl | (simp; done) | (simp [*]; done), by repeat (first | exact Drawn0.refl _ | apply Drawn0.step)⟩
    ·replace c5 := Bool.eq_false_iff.mpr c5
     subst c5
     have H1 : (if a0 > 32 then (enc_Form.j1 kj72 a0 (decide (a0 ≤ 51))) else (enc_Form.j1 kj72 a0 false)) = some r := by rw [if_neg (show ¬ (false = true) by decide)] at H; exact H
     clear H
     have H := H1
     clear H1
     have HC6 := Aside0.mk H
     clear H
     go_upto_region 3 with (fail)
     go_cut [10] (fun v10 wc => ∃ (kq : Nat) (x10_75 : Bool), v10 = .bool x10_75 ∧ Aside0 (enc_Form.j1 kq a0 x10_75 = some r) ∧ Aside0 (kq ≤ kj72) ∧ Drawn0 w wc)
     case first =>
      have H := HC6.out
      clear HC6
      by_cases c7 : a0 > 32
      ·rw [if_pos c7] at H
       have c7b0 : decide (32 < a0) = true := decide_eq_true c7
       clear c7
       (first | rw [c7b0] | (simp only [i64_w, i32_w]; rw [c7b0]) | skip)
       have H' := Aside0.mk H
       clear H
       go_wp2
       go_meet
       case rel => exact ⟨_, (decide (a0 ≤ 51)), (by first | rfl | (simp; done) | (simp [*]; done)), H', ⟨by have := HJ72.out; first | omega | exact Nat.le_refl _⟩, by repeat (first | exact Drawn0.refl _ | apply Drawn0.step)⟩
      ·rw [if_neg c7] at H
       have c7b0 : decide (32 < a0) = false := decide_eq_false c7
       clear c7
       (first | rw [c7b0] | (simp only [i64_w, i32_w]; rw [c7b0]) | skip)
       have H' := Aside0.mk H
       clear H
       go_wp2
       go_meet
       case rel => exact ⟨_, (false), (by first | rfl | (simp; done) | (simp [*]; done)), H', ⟨by have := HJ72.out; first | omega | exact Nat.le_refl _⟩, by repeat (first | exact Drawn0.refl _ | apply Drawn0.step)⟩
     case rest =>
      clear HC6
      try clear p2
      try clear c3
      try clear c4
      try clear c4b0
      try clear c5
      try clear c7
      try clear c7b0
      try clear p2
      obtain ⟨kq, x10_75, rfl, HA, HJ75, ⟨mc75, rfl⟩⟩ := hcut
      cases kq with
      | zero => exact absurd HA.out (by simp [enc_Form.j1])
      | succ kj75 =>
       have H := HA.out
       clear HA
       simp only [enc_Form.j1] at H
       by_cases c8 : x10_75 = true
       ·subst c8
        have H1 : (some 2) = some r := by rw [if_pos rfl] at H; exact H
        clear H
        have H := H1
        clear H1
        obtain rfl := Option.some.inj H
        go_wp2
        go_ret
        exact ⟨by first | rfl | (simp; done) | (simp [*]; done), by repeat (first | exact Drawn0.refl _ | apply Drawn0.step)⟩
       ·replace c8 := Bool.eq_false_iff.mpr c8
        subst c8
        have H1 : (if a0 ≥ 80 then (enc_Form.j2 kj75 a0 (decide (a0 ≤ 84))) else (enc_Form.j2 kj75 a0 false)) = some r := by rw [if_neg (show ¬ (false = true) by decide)] at H; exact H
        clear H
        have H := H1
        clear H1
        have HC9 := Aside0.mk H
        clear H
        go_upto_region 4 with (fail)
        go_cut [10] (fun v10 wc => ∃ (kq : Nat) (x10_78 : Bool), v10 = .bool x10_78 ∧ Aside0 (enc_Form.j2 kq a0 x10_78 = some r) ∧ Aside0 (kq ≤ kj75) ∧ Drawn0 w wc)
        case first =>
         have H := HC9.out
         clear HC9
         by_cases c10 : a0 ≥ 80
         ·rw [if_pos c10] at H
          have c10b0 : decide (80 ≤ a0) = true := decide_eq_true c10
          clear c10
          (first | rw [c10b0] | (simp only [i64_w, i32_w]; rw [c10b0]) | skip)
          have H' := Aside0.mk H
          clear H
          go_wp2
          go_meet
          case rel => exact ⟨_, (decide (a0 ≤ 84)), (by first | rfl | (simp; done) | (simp [*]; done)), H', ⟨by have := HJ72.out; have := HJ75.out; first | omega | exact Nat.le_refl _⟩, by repeat (first | exact Drawn0.refl _ | apply Drawn0.step)⟩
         ·rw [if_neg c10] at H
          have c10b0 : decide (80 ≤ a0) = false := decide_eq_false c10
          clear c10
          (first | rw [c10b0] | (simp only [i64_w, i32_w]; rw [c10b0]) | skip)
          have H' := Aside0.mk H
          clear H
          go_wp2
          go_meet
          case rel => exact ⟨_, (false), (by first | rfl | (simp; done) | (simp [*]; done)), H', ⟨by have := HJ72.out; have := HJ75.out; first | omega | exact Nat.le_refl _⟩, by repeat (first | exact Drawn0.refl _ | apply Drawn0.step)⟩
        case rest =>
         clear HC9
         try clear c1
         try clear p2
         try clear c3
         try clear c4
         try clear c4b0
         try clear c5
         try clear c7
         try clear c7b0
         try clear c8
         try clear c10
         try clear c10b0
         try clear p2
         obtain ⟨kq, x10_78, rfl, HA, HJ78, ⟨mc78, rfl⟩⟩ := hcut
         cases kq with
         | zero => exact absurd HA.out (by simp [enc_Form.j2])
         | succ kj78 =>
          have H := HA.out
          clear HA
          simp only [enc_Form.j2] at H
          by_cases c11 : x10_78 = true
          ·subst c11
           have H1 : (some 2) = some r := by rw [if_pos rfl] at H; exact H
           clear H
           have H := H1
           clear H1
           obtain rfl := Option.some.inj H
           go_wp2
           go_ret
           exact ⟨by first | rfl | (simp; done) | (simp [*]; done), by repeat (first | exact Drawn0.refl _ | apply Drawn0.step)⟩
          ·replace c11 := Bool.eq_false_iff.mpr c11
           subst c11
           have H1 : (if a0 ≥ 88 then (if a0 ≤ 90 then (some 2) else (enc_Form.j3 kj78 a0)) else (enc_Form.j3 kj78 a0)) = some r := by rw [if_neg (show ¬ (false = true) by decide)] at H; exact H
           clear H
           have H := H1
           clear H1
           by_cases c12 : a0 ≥ 88
           ·rw [if_pos c12] at H
            have c12b0 : decide (88 ≤ a0) = true := decide_eq_true c12
            clear c12
            by_cases c13 : a0 ≤ 90
            ·rw [if_pos c13] at H
             have c13b0 : decide (a0 ≤ 90) = true := decide_eq_true c13
             clear c13
             obtain rfl := Option.some.inj H
             go_wp2
             go_ret
             exact ⟨by first | rfl | (simp; done) | (simp [*]; done), by repeat (first | exact Drawn0.refl _ | apply Drawn0.step)⟩
            ·rw [if_neg c13] at H
             have c13b0 : decide (a0 ≤ 90) = false := decide_eq_false c13
             clear c13
             have H' := Aside0.mk H
             clear H
             go_wp2
             go_meet
             case rel => exact ⟨_, H', ⟨by have := HJ72.out; have := HJ75.out; have := HJ78.out; first | omega | exact Nat.le_refl _⟩, by repeat (first | exact Drawn0.refl _ | apply Drawn0.step)⟩
           ·rw [if_neg c12] at H
            have c12b0 : decide (88 ≤ a0) = false := decide_eq_false c12
            clear c12
            have H' := Aside0.mk H
            clear H
            go_wp2
            go_meet
            case rel => exact ⟨_, H', ⟨by have := HJ72.out; have := HJ75.out; have := HJ78.out; first | omega | exact Nat.le_refl _⟩, by repeat (first | exact Drawn0.refl _ | apply Drawn0.step)⟩
 case rest =>
  clear HC2
  try clear c1
  try clear p2
  try clear c3
  try clear c4
  try clear c4b0
  try clear c5
  try clear c7
  try clear c7b0
  try clear c8
  try clear c10
  try clear c10b0
  try clear c11
  try clear c12
  try clear c12b0
  try clear c13
  try clear c13b0
  try clear p2
  obtain ⟨kq, HA, HJ71, ⟨mc71, rfl⟩⟩ := hcut
  cases kq with
  | zero => exact absurd HA.out (by simp [enc_Form.j3])
  | succ kj71 =>
   have H := HA.out
   clear HA
   simp only [enc_Form.j3] at H
   have HC14 := Aside0.mk H
   clear H
   go_upto_if 30 with (fail)
   go_cut [30] (fun v30 wc => ∃ (kq : Nat) (x30_713 : Bool), v30 = .bool x30_713 ∧ Aside0 (enc_Form.j4 kq a0 x30_713 = some r) ∧ Aside0 (kq ≤ kj71) ∧ Drawn0 w wc)
   case first =>
    have H := HC14.out
    clear HC14
    by_cases c15 : a0 = 64
    ·rw [if_pos c15] at H
     have c15b0 : (a0 == 64) = true := beq_iff_eq.mpr c15
     have c15b1 : (a0 != 64) = false := bne_eq_false_iff_eq.mpr c15
     clear c15
     (first | rw [c15b0] | (simp only [i64_w, i32_w]; rw [c15b0]) | skip)
     have H' := Aside0.mk H
     clear H
     go_wp2
     go_meet
     case rel => exact ⟨_, ((a0 == 64)), (by first | rfl | (simp; done) | (simp [*]; done)), H', ⟨by have := HJ71.out; first | omega | exact Nat.le_refl _⟩, by repeat (first | exact Drawn0.refl _ | apply Drawn0.step)⟩
    ·rw [if_neg c15] at H
     have c15b0 : (a0 == 64) = false := beq_eq_false_iff_ne.mpr c15
     have c15b1 : (a0 != 64) = true := bne_iff_ne.mpr c15
     (first | rw [c15b0] | (simp only [i64_w, i32_w]; rw [c15b0]) | skip)
     by_cases c16 : a0 = 97
     ·rw [if_pos c16] at H
      have c16b0 : (a0 == 97) = true := beq_iff_eq.mpr c16
      have c16b1 : (a0 != 97) = false := bne_eq_false_iff_eq.mpr c16
      clear c16
      have H' := Aside0.mk H
      clear H
      go_wp2
      go_meet
      case rel => exact ⟨_, ((a0 == 97)), (by first | rfl | (simp; done) | (simp [*]; done)), H', ⟨by have := HJ71.out; first | omega | exact Nat.le_refl _⟩, by repeat (first | exact Drawn0.refl _ | apply Drawn0.step)⟩
     ·rw [if_neg c16] at H
      have c16b0 : (a0 == 97) = false := beq_eq_false_iff_ne.mpr c16
      have c16b1 : (a0 != 97) = true := bne_iff_ne.mpr c16
      have H' := Aside0.mk H
      clear H
      go_wp2
      go_meet
      case rel => exact ⟨_, ((a0 == 98)), (by first | rfl | (simp; done) | (simp [*]; done)), H', ⟨by have := HJ71.out; first | omega | exact Nat.le_refl _⟩, by repeat (first | exact Drawn0.refl _ | apply Drawn0.step)⟩
   case rest =>
    clear HC14
    try clear c1
    try clear p2
    try clear c3
    try clear c4
    try clear c4b0
    try clear c5
    try clear c7
    try clear c7b0
    try clear c8
    try clear c10
    try clear c10b0
    try clear c11
    try clear c12
    try clear c12b0
    try clear c13
    try clear c13b0
    try clear c15
    try clear c15b0
    try clear c15b1
    try clear c16
    try clear c16b0
    try clear c16b1
    try clear p2
    obtain ⟨kq, x30_713, rfl, HA, HJ713, ⟨mc713, rfl⟩⟩ := hcut
    cases kq with
    | zero => exact absurd HA.out (by simp [enc_Form.j4])
    | succ kj713 =>
     have H := HA.out
     clear HA
     simp only [enc_Form.j4] at H
     by_cases c17 : x30_713 = true
     ·subst c17
      have H1 : (some 3) = some r := by rw [if_pos rfl] at H; exact H
      clear H
      have H := H1
      clear H1
      obtain rfl := Option.some.inj H
      go_wp2
      go_ret
      exact ⟨by first | rfl | (simp; done) | (simp [*]; done), by repeat (first | exact Drawn0.refl _ | apply Drawn0.step)⟩
     ·replace c17 := Bool.eq_false_iff.mpr c17
      subst c17
      have H1 : (if a0 = 65 then (some 4) else (if a0 = 96 then (enc_Form.j5 kj713 a0 (a0 == 96)) else (enc_Form.j5 kj713 a0 (a0 == 99)))) = some r := by rw [if_neg (show ¬ (false = true) by decide)] at H; exact H
      clear H
      have H := H1
      clear H1
      by_cases c18 : a0 = 65
      ·rw [if_pos c18] at H
       have c18b0 : (a0 == 65) = true := beq_iff_eq.mpr c18
       have c18b1 : (a0 != 65) = false := bne_eq_false_iff_eq.mpr c18
       clear c18
       obtain rfl := Option.some.inj H
       go_wp2
       go_ret
       exact ⟨by first | rfl | (simp; done) | (simp [*]; done), by repeat (first | exact Drawn0.refl _ | apply Drawn0.step)⟩
      ·rw [if_neg c18] at H
       have c18b0 : (a0 == 65) = false := beq_eq_false_iff_ne.mpr c18
       have c18b1 : (a0 != 65) = true := bne_iff_ne.mpr c18
       have HC19 := Aside0.mk H
       clear H
       go_upto_if 36 with (fail)
       go_cut [36] (fun v36 wc => ∃ (kq : Nat) (x36_718 : Bool), v36 = .bool x36_718 ∧ Aside0 (enc_Form.j5 kq a0 x36_718 = some r) ∧ Aside0 (kq ≤ kj713) ∧ Drawn0 w wc)
       case first =>
        have H := HC19.out
        clear HC19
        by_cases c20 : a0 = 96
        ·rw [if_pos c20] at H
         have c20b0 : (a0 == 96) = true := beq_iff_eq.mpr c20
         have c20b1 : (a0 != 96) = false := bne_eq_false_iff_eq.mpr c20
         clear c20
         (first | rw [c20b0] | (simp only [i64_w, i32_w]; rw [c20b0]) | skip)
         have H' := Aside0.mk H
         clear H
         go_wp2
         go_meet
         case rel => exact ⟨_, ((a0 == 96)), (by first | rfl | (simp; done) | (simp [*]; done)), H', ⟨by have := HJ71.out; have := HJ713.out; first | omega | exact Nat.le_refl _⟩, by repeat (first | exact Drawn0.refl _ | apply Drawn0.step)⟩
        ·rw [if_neg c20] at H
         have c20b0 : (a0 == 96) = false := beq_eq_false_iff_ne.mpr c20
         have c20b1 : (a0 != 96) = true := bne_iff_ne.mpr c20
         (first | rw [c20b0] | (simp only [i64_w, i32_w]; rw [c20b0]) | skip)
         have H' := Aside0.mk H
         clear H
         go_wp2
         go_meet
         case rel => exact ⟨_, ((a0 == 99)), (by first | rfl | (simp; done) | (simp [*]; done)), H', ⟨by have := HJ71.out; have := HJ713.out; first | omega | exact Nat.le_refl _⟩, by repeat (first | exact Drawn0.refl _ | apply Drawn0.step)⟩
       case rest =>
        clear HC19
        try clear c1
        try clear c2
        try clear p2
        try clear c3
        try clear c4
        try clear c4b0
        try clear c5
        try clear c7
        try clear c7b0
        try clear c8
        try clear c10
        try clear c10b0
        try clear c11
        try clear c12
        try clear c12b0
        try clear c13
        try clear c13b0
        try clear c15
        try clear c15b0
        try clear c15b1
        try clear c16
        try clear c16b0
        try clear c16b1
        try clear c17
        try clear c18
        try clear c18b0
        try clear c18b1
        try clear c20
        try clear c20b0
        try clear c20b1
        try clear p2
        obtain ⟨kq, x36_718, rfl, HA, HJ718, ⟨mc718, rfl⟩⟩ := hcut
        cases kq with
        | zero => exact absurd HA.out (by simp [enc_Form.j5])
        | succ kj718 =>
         have H := HA.out
         clear HA
         simp only [enc_Form.j5] at H
         by_cases c21 : x36_718 = true
         ·subst c21
          have H1 : (some 5) = some r := by rw [if_pos rfl] at H; exact H
          clear H
          have H := H1
          clear H1
          obtain rfl := Option.some.inj H
          go_wp2
          go_ret
          exact ⟨by first | rfl | (simp; done) | (simp [*]; done), by repeat (first | exact Drawn0.refl _ | apply Drawn0.step)⟩
         ·replace c21 := Bool.eq_false_iff.mpr c21
          subst c21
          have H1 : (if a0 = 104 then (enc_Form.j6 kj718 a0 (a0 == 104)) else (enc_Form.j6 kj718 a0 (a0 == 105))) = some r := by rw [if_neg (show ¬ (false = true) by decide)] at H; exact H
          clear H
          have H := H1
          clear H1
          have HC22 := Aside0.mk H
          clear H
          go_upto_if 39 with (fail)
          go_cut [39] (fun v39 wc => ∃ (kq : Nat) (x39_721 : Bool), v39 = .bool x39_721 ∧ Aside0 (enc_Form.j6 kq a0 x39_721 = some r) ∧ Aside0 (kq ≤ kj718) ∧ Drawn0 w wc)
          case first =>
           have H := HC22.out
           clear HC22
           by_cases c23 : a0 = 104
           ·rw [if_pos c23] at H
            have c23b0 : (a0 == 104) = true := beq_iff_eq.mpr c23
            have c23b1 : (a0 != 104) = false := bne_eq_false_iff_eq.mpr c23
            clear c23
            (first | rw [c23b0] | (simp only [i64_w, i32_w]; rw [c23b0]) | skip)
            have H' := Aside0.mk H
            clear H
            go_wp2
            go_meet
            case rel => exact ⟨_, ((a0 == 104)), (by first | rfl | (simp; done) | (simp [*]; done)), H', ⟨by have := HJ71.out; have := HJ713.out; have := HJ718.out; first | omega | exact Nat.le_refl _⟩, by repeat (first | exact Drawn0.refl _ | apply Drawn0.step)⟩
           ·rw [if_neg c23] at H
            have c23b0 : (a0 == 104) = false := beq_eq_false_iff_ne.mpr c23
            have c23b1 : (a0 != 104) = true := bne_iff_ne.mpr c23
            (first | rw [c23b0] | (simp only [i64_w, i32_w]; rw [c23b0]) | skip)
            have H' := Aside0.mk H
            clear H
            go_wp2
            go_meet
            case rel => exact ⟨_, ((a0 == 105)), (by first | rfl | (simp; done) | (simp [*]; done)), H', ⟨by have := HJ71.out; have := HJ713.out; have := HJ718.out; first | omega | exact Nat.le_refl _⟩, by repeat (first | exact Drawn0.refl _ | apply Drawn0.step)⟩
          case rest =>
           clear HC22
           try clear c1
           try clear c2
           try clear p2
           try clear c3
           try clear c4
           try clear c4b0
           try clear c5
           try clear c7
           try clear c7b0
           try clear c8
           try clear c10
           try clear c10b0
           try clear c11
           try clear c12
           try clear c12b0
           try clear c13
           try clear c13b0
           try clear c15
           try clear c15b0
           try clear c15b1
           try clear c16
           try clear c16b0
           try clear c16b1
           try clear c17
           try clear c18
           try clear c18b0
           try clear c18b1
           try clear c20
           try clear c20b0
           try clear c20b1
           try clear c21
           try clear c23
           try clear c23b0
           try clear c23b1
           try clear p2
           obtain ⟨kq, x39_721, rfl, HA, HJ721, ⟨mc721, rfl⟩⟩ := hcut
           cases kq with
           | zero => exact absurd HA.out (by simp [enc_Form.j6])
           | succ kj721 =>
            have H := HA.out
            clear HA
            simp only [enc_Form.j6] at H
            by_cases c24 : x39_721 = true
            ·subst c24
             have H1 : (some 6) = some r := by rw [if_pos rfl] at H; exact H
             clear H
             have H := H1
             clear H1
             obtain rfl := Option.some.inj H
             go_wp2
             go_ret
             exact ⟨by first | rfl | (simp; done) | (simp [*]; done), by repeat (first | exact Drawn0.refl _ | apply Drawn0.step)⟩
            ·replace c24 := Bool.eq_false_iff.mpr c24
             subst c24
             have H1 : (if a0 = 100 then (some 7) else (if a0 = 112 then (some 7) else (if a0 = 113 then (some 7) else (if a0 = 114 then (some 7) else (some 0))))) = some r := by rw [if_neg (show ¬ (false = true) by decide)] at H; exact H
             clear H
             have H := H1
             clear H1
             by_cases c25 : a0 = 100
             ·rw [if_pos c25] at H
              have c25b0 : (a0 == 100) = true := beq_iff_eq.mpr c25
              have c25b1 : (a0 != 100) = false := bne_eq_false_iff_eq.mpr c25
              clear c25
              obtain rfl := Option.some.inj H
              go_wp2
              go_ret
              exact ⟨by first | rfl | (simp; done) | (simp [*]; done), by repeat (first | exact Drawn0.refl _ | apply Drawn0.step)⟩
             ·rw [if_neg c25] at H
              have c25b0 : (a0 == 100) = false := beq_eq_false_iff_ne.mpr c25
              have c25b1 : (a0 != 100) = true := bne_iff_ne.mpr c25
              by_cases c26 : a0 = 112
              ·rw [if_pos c26] at H
               have c26b0 : (a0 == 112) = true := beq_iff_eq.mpr c26
               have c26b1 : (a0 != 112) = false := bne_eq_false_iff_eq.mpr c26
               clear c26
               obtain rfl := Option.some.inj H
               go_wp2
               go_ret
               exact ⟨by first | rfl | (simp; done) | (simp [*]; done), by repeat (first | exact Drawn0.refl _ | apply Drawn0.step)⟩
              ·rw [if_neg c26] at H
               have c26b0 : (a0 == 112) = false := beq_eq_false_iff_ne.mpr c26
               have c26b1 : (a0 != 112) = true := bne_iff_ne.mpr c26
               by_cases c27 : a0 = 113
               ·rw [if_pos c27] at H
                have c27b0 : (a0 == 113) = true := beq_iff_eq.mpr c27
                have c27b1 : (a0 != 113) = false := bne_eq_false_iff_eq.mpr c27
                clear c27
                obtain rfl := Option.some.inj H
                go_wp2
                go_ret
                exact ⟨by first | rfl | (simp; done) | (simp [*]; done), by repeat (first | exact Drawn0.refl _ | apply Drawn0.step)⟩
               ·rw [if_neg c27] at H
                have c27b0 : (a0 == 113) = false := beq_eq_false_iff_ne.mpr c27
                have c27b1 : (a0 != 113) = true := bne_iff_ne.mpr c27
                by_cases c28 : a0 = 114
                ·rw [if_pos c28] at H
                 have c28b0 : (a0 == 114) = true := beq_iff_eq.mpr c28
                 have c28b1 : (a0 != 114) = false := bne_eq_false_iff_eq.mpr c28
                 clear c28
                 obtain rfl := Option.some.inj H
                 go_wp2
                 go_ret
                 exact ⟨by first | rfl | (simp; done) | (simp [*]; done), by repeat (first | exact Drawn0.refl _ | apply Drawn0.step)⟩
                ·rw [if_neg c28] at H
                 have c28b0 : (a0 == 114) = false := beq_eq_false_iff_ne.mpr c28
                 have c28b1 : (a0 != 114) = true := bne_iff_ne.mpr c28
                 obtain rfl := Option.some.inj H
                 go_wp2
                 go_ret
                 exact ⟨by first | rfl | (simp; done) | (simp [*]; done), by repeat (first | exact Drawn0.refl _ | apply Drawn0.step)⟩

/-! ### enc_far: function 37 -/
def enc_far.f (a0 : Int) : Option (Bool) := if a0 = 5 then (some true) else (some (a0 == 6))
set_option maxHeartbeats 8000000 in
set_option maxRecDepth 100000 in
theorem enc_far.calls (a0 : Int) (r : Bool) (w : World) (h : enc_far.f a0 = some r) :
  Calls Try.prog 37 #[.int .i64 a0] w fun e w' => e = .returned (.bool r) ∧ Drawn0 w w' := by
 have H : (if a0 = 5 then (some true) else (some (a0 == 6))) = some r := h
 clear h
 by_cases c2 : a0 = 5
 ·rw [if_pos c2] at H
  have c2b0 : (a0 == 5) = true := beq_iff_eq.mpr c2
  have c2b1 : (a0 != 5) = false := bne_eq_false_iff_eq.mpr c2
  clear c2
  obtain rfl := Option.some.inj H
  go_enter Try.func37, Try.ntmps37
  go_wp2
  go_ret
  exact ⟨by first | rfl | (simp; done) | (simp [*]; done), by repeat (first | exact Drawn0.refl _ | apply Drawn0.step)⟩
 ·rw [if_neg c2] at H
  have c2b0 : (a0 == 5) = false := beq_eq_false_iff_ne.mpr c2
  have c2b1 : (a0 != 5) = true := bne_iff_ne.mpr c2
  obtain rfl := Option.some.inj H
  go_enter Try.func37, Try.ntmps37
  go_wp2
  go_ret
  exact ⟨by first | rfl | (simp; done) | (simp [*]; done), by repeat (first | exact Drawn0.refl _ | apply Drawn0.step)⟩

end Go.Proofs.Ytejhnlljddjicaa.PLk
