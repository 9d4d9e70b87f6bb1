/- What Go functions answer, proved by walking their code (written by a program of this session, a changed copy of the print). Conditions: none beyond the ones each theorem names. -/
import Derived.Test.YtmkhfedemoccoaaPFdx0
import Derived.Test.YtmkhfedemoccoaaPFdx1
import Derived.Test.YtmkhfedemoccoaaPFdx2
import Derived.Test.YtmkhfedemoccoaaPFdx3
import Derived.Test.YtmkhfedemoccoaaPFdx4
namespace Go.Proofs.Ytmkhfedemoccoaa.PFd
open Go.RowKit Go.Proofs.YtmkhfedemoccoaaW.PrintWords Go.Proofs.YtmkhfedemoccoaaW.PrintLast Go.Proofs.YtmkhfedemoccoaaW.PrintMore
attribute [local go_sem] max2_int min2_int max_two min_two max_three min_three max_four min_four   -- for this text's walks alone
set_option linter.unusedVariables false
set_option linter.unusedSimpArgs false

/-! ### mortiselaw08_FieldUnits: function 8 -/
def mortiselaw08_FieldUnits.f (k : Nat) (a0 : Int) (a1 : Int) (a2 : Int) (a3 : Int) (a4 : Int) : Option (Bool) := (field_Mask.f a2 a3).bind fun bt194 => ((mortiseref08_Mask.f k a2 a3).bind fun bt196 => ((field_Get.f a0 a1 a2 a3 ((Go.bits .and .u32 a4 1) == 1)).bind fun bt198 => ((mortiseref08_Get.f k a0 a1 a2 a3 ((Go.bits .and .u32 a4 1) == 1)).bind fun bt201 => ((field_Put.f a0 a1 a2 a3 a4).bind fun bt204 => ((mortiseref08_Put.f k a0 a1 a2 a3 a4).bind fun bt207 => (if bt194.1 = bt196.1 then ((mortiselaw08_num.f bt194.2).bind fun t210 => (if t210 = bt196.2 then (if bt198.1 = bt201.1 then (if (bt198.2.1 == bt201.2.1) = true then ((mortiselaw08_num.f bt198.2.2).bind fun t211 => (if t211 = bt201.2.2 then (if bt204.1 = bt207.1 then (if bt204.2.1 = bt207.2.1 then ((mortiselaw08_num.f bt204.2.2).bind fun t212 => (if t212 = bt207.2.2 then ((mortiselaw08_heads.f k).bind fun t213 => (some t213)) else (none))) else (none)) else (none)) else (none))) else (none)) else (none)) else (none))) else (none)))))))
theorem mortiselaw08_FieldUnits.mono : ∀ a0 a1 a2 a3 a4 k, LeO (mortiselaw08_FieldUnits.f k a0 a1 a2 a3 a4) (mortiselaw08_FieldUnits.f (k + 1) a0 a1 a2 a3 a4) := by
  intro a0 a1 a2 a3 a4 k
  unfold mortiselaw08_FieldUnits.f
  repeat' first
      | (with_reducible exact mortiselaw08_heads.mono _)
      | (with_reducible exact mortiseref08_Get.mono _ _ _ _ _ _)
      | (with_reducible exact mortiseref08_Mask.mono _ _ _)
      | (with_reducible exact mortiseref08_Put.mono _ _ _ _ _ _)
      | (with_reducible exact LeO.refl _)
      | (with_reducible exact LeO.none _)
      | (with_reducible refine LeO.ite ?_ ?_)
      | (with_reducible refine LeO.bind ?_ (fun _ => ?_))
      | exact mortiselaw08_heads.mono _
      | exact mortiseref08_Get.mono _ _ _ _ _ _
      | exact mortiseref08_Mask.mono _ _ _
      | exact mortiseref08_Put.mono _ _ _ _ _ _
      | exact LeO.none _
      | refine LeO.ite ?_ ?_
      | refine LeO.bind ?_ (fun _ => ?_)
set_option maxHeartbeats 8000000 in
set_option maxRecDepth 100000 in
theorem mortiselaw08_FieldUnits.calls (k : Nat) (a0 : Int) (a1 : Int) (a2 : Int) (a3 : Int) (a4 : Int) (r : Bool) (w : World) (h : mortiselaw08_FieldUnits.f k a0 a1 a2 a3 a4 = some r) :
    Calls Try.prog 8 #[.int .u32 a0, .int .u32 a1, .int .i64 a2, .int .i64 a3, .int .u32 a4] w fun e w' => e = .returned (.bool r) ∧ Below w.heap.size w w' := by
  have HB := Aside0.mk (Below.refl w.heap.size w)
  have H : ((field_Mask.f a2 a3).bind fun bt194 => ((mortiseref08_Mask.f k a2 a3).bind fun bt196 => ((field_Get.f a0 a1 a2 a3 ((Go.bits .and .u32 a4 1) == 1)).bind fun bt198 => ((mortiseref08_Get.f k a0 a1 a2 a3 ((Go.bits .and .u32 a4 1) == 1)).bind fun bt201 => ((field_Put.f a0 a1 a2 a3 a4).bind fun bt204 => ((mortiseref08_Put.f k a0 a1 a2 a3 a4).bind fun bt207 => (if bt194.1 = bt196.1 then ((mortiselaw08_num.f bt194.2).bind fun t210 => (if t210 = bt196.2 then (if bt198.1 = bt201.1 then (if (bt198.2.1 == bt201.2.1) = true then ((mortiselaw08_num.f bt198.2.2).bind fun t211 => (if t211 = bt201.2.2 then (if bt204.1 = bt207.1 then (if bt204.2.1 = bt207.2.1 then ((mortiselaw08_num.f bt204.2.2).bind fun t212 => (if t212 = bt207.2.2 then ((mortiselaw08_heads.f k).bind fun t213 => (some t213)) else (none))) else (none)) else (none)) else (none))) else (none)) else (none)) else (none))) else (none)))))))) = some r := h
  clear h
  replace H := Option.bind_eq_some_iff.mp H
  obtain ⟨⟨t194, t195⟩, A60, H⟩ := H
  replace H : ((mortiseref08_Mask.f k a2 a3).bind fun bt196 => ((field_Get.f a0 a1 a2 a3 ((Go.bits .and .u32 a4 1) == 1)).bind fun bt198 => ((mortiseref08_Get.f k a0 a1 a2 a3 ((Go.bits .and .u32 a4 1) == 1)).bind fun bt201 => ((field_Put.f a0 a1 a2 a3 a4).bind fun bt204 => ((mortiseref08_Put.f k a0 a1 a2 a3 a4).bind fun bt207 => (if t194 = bt196.1 then ((mortiselaw08_num.f t195).bind fun t210 => (if t210 = bt196.2 then (if bt198.1 = bt201.1 then (if (bt198.2.1 == bt201.2.1) = true then ((mortiselaw08_num.f bt198.2.2).bind fun t211 => (if t211 = bt201.2.2 then (if bt204.1 = bt207.1 then (if bt204.2.1 = bt207.2.1 then ((mortiselaw08_num.f bt204.2.2).bind fun t212 => (if t212 = bt207.2.2 then ((mortiselaw08_heads.f k).bind fun t213 => (some t213)) else (none))) else (none)) else (none)) else (none))) else (none)) else (none)) else (none))) else (none))))))) = some r := H
  have A6 := Aside0.mk A60
  clear A60
  replace H := Option.bind_eq_some_iff.mp H
  obtain ⟨⟨t196, t197⟩, A70, H⟩ := H
  replace H : ((field_Get.f a0 a1 a2 a3 ((Go.bits .and .u32 a4 1) == 1)).bind fun bt198 => ((mortiseref08_Get.f k a0 a1 a2 a3 ((Go.bits .and .u32 a4 1) == 1)).bind fun bt201 => ((field_Put.f a0 a1 a2 a3 a4).bind fun bt204 => ((mortiseref08_Put.f k a0 a1 a2 a3 a4).bind fun bt207 => (if t194 = t196 then ((mortiselaw08_num.f t195).bind fun t210 => (if t210 = t197 then (if bt198.1 = bt201.1 then (if (bt198.2.1 == bt201.2.1) = true then ((mortiselaw08_num.f bt198.2.2).bind fun t211 => (if t211 = bt201.2.2 then (if bt204.1 = bt207.1 then (if bt204.2.1 = bt207.2.1 then ((mortiselaw08_num.f bt204.2.2).bind fun t212 => (if t212 = bt207.2.2 then ((mortiselaw08_heads.f k).bind fun t213 => (some t213)) else (none))) else (none)) else (none)) else (none))) else (none)) else (none)) else (none))) else (none)))))) = some r := H
  have A7 := Aside0.mk A70
  clear A70
  replace H := Option.bind_eq_some_iff.mp H
  obtain ⟨⟨t198, t199, t200⟩, A80, H⟩ := H
  replace H : ((mortiseref08_Get.f k a0 a1 a2 a3 ((Go.bits .and .u32 a4 1) == 1)).bind fun bt201 => ((field_Put.f a0 a1 a2 a3 a4).bind fun bt204 => ((mortiseref08_Put.f k a0 a1 a2 a3 a4).bind fun bt207 => (if t194 = t196 then ((mortiselaw08_num.f t195).bind fun t210 => (if t210 = t197 then (if t198 = bt201.1 then (if (t199 == bt201.2.1) = true then ((mortiselaw08_num.f t200).bind fun t211 => (if t211 = bt201.2.2 then (if bt204.1 = bt207.1 then (if bt204.2.1 = bt207.2.1 then ((mortiselaw08_num.f bt204.2.2).bind fun t212 => (if t212 = bt207.2.2 then ((mortiselaw08_heads.f k).bind fun t213 => (some t213)) else (none))) else (none)) else (none)) else (none))) else (none)) else (none)) else (none))) else (none))))) = some r := H
  have A8 := Aside0.mk A80
  clear A80
  replace H := Option.bind_eq_some_iff.mp H
  obtain ⟨⟨t201, t202, t203⟩, A90, H⟩ := H
  replace H : ((field_Put.f a0 a1 a2 a3 a4).bind fun bt204 => ((mortiseref08_Put.f k a0 a1 a2 a3 a4).bind fun bt207 => (if t194 = t196 then ((mortiselaw08_num.f t195).bind fun t210 => (if t210 = t197 then (if t198 = t201 then (if (t199 == t202) = true then ((mortiselaw08_num.f t200).bind fun t211 => (if t211 = t203 then (if bt204.1 = bt207.1 then (if bt204.2.1 = bt207.2.1 then ((mortiselaw08_num.f bt204.2.2).bind fun t212 => (if t212 = bt207.2.2 then ((mortiselaw08_heads.f k).bind fun t213 => (some t213)) else (none))) else (none)) else (none)) else (none))) else (none)) else (none)) else (none))) else (none)))) = some r := H
  have A9 := Aside0.mk A90
  clear A90
  replace H := Option.bind_eq_some_iff.mp H
  obtain ⟨⟨t204, t205, t206⟩, A100, H⟩ := H
  replace H : ((mortiseref08_Put.f k a0 a1 a2 a3 a4).bind fun bt207 => (if t194 = t196 then ((mortiselaw08_num.f t195).bind fun t210 => (if t210 = t197 then (if t198 = t201 then (if (t199 == t202) = true then ((mortiselaw08_num.f t200).bind fun t211 => (if t211 = t203 then (if t204 = bt207.1 then (if t205 = bt207.2.1 then ((mortiselaw08_num.f t206).bind fun t212 => (if t212 = bt207.2.2 then ((mortiselaw08_heads.f k).bind fun t213 => (some t213)) else (none))) else (none)) else (none)) else (none))) else (none)) else (none)) else (none))) else (none))) = some r := H
  have A10 := Aside0.mk A100
  clear A100
  replace H := Option.bind_eq_some_iff.mp H
  obtain ⟨⟨t207, t208, t209⟩, A110, H⟩ := H
  replace H : (if t194 = t196 then ((mortiselaw08_num.f t195).bind fun t210 => (if t210 = t197 then (if t198 = t201 then (if (t199 == t202) = true then ((mortiselaw08_num.f t200).bind fun t211 => (if t211 = t203 then (if t204 = t207 then (if t205 = t208 then ((mortiselaw08_num.f t206).bind fun t212 => (if t212 = t209 then ((mortiselaw08_heads.f k).bind fun t213 => (some t213)) else (none))) else (none)) else (none)) else (none))) else (none)) else (none)) else (none))) else (none)) = some r := H
  have A11 := Aside0.mk A110
  clear A110
  by_cases c12 : t194 = t196
  · rw [if_pos c12] at H
    have c12b0 : (t194 == t196) = true := beq_iff_eq.mpr c12
    have c12b1 : (t194 != t196) = false := bne_eq_false_iff_eq.mpr c12
    clear c12
    replace H := Option.bind_eq_some_iff.mp H
    obtain ⟨t210, A130, H⟩ := H
    replace H : (if t210 = t197 then (if t198 = t201 then (if (t199 == t202) = true then ((mortiselaw08_num.f t200).bind fun t211 => (if t211 = t203 then (if t204 = t207 then (if t205 = t208 then ((mortiselaw08_num.f t206).bind fun t212 => (if t212 = t209 then ((mortiselaw08_heads.f k).bind fun t213 => (some t213)) else (none))) else (none)) else (none)) else (none))) else (none)) else (none)) else (none)) = some r := H
    have A13 := Aside0.mk A130
    clear A130
    by_cases c14 : t210 = t197
    · rw [if_pos c14] at H
      have c14b0 : (t210 == t197) = true := beq_iff_eq.mpr c14
      have c14b1 : (t210 != t197) = false := bne_eq_false_iff_eq.mpr c14
      clear c14
      by_cases c15 : t198 = t201
      · rw [if_pos c15] at H
        have c15b0 : (t198 == t201) = true := beq_iff_eq.mpr c15
        have c15b1 : (t198 != t201) = false := bne_eq_false_iff_eq.mpr c15
        clear c15
        by_cases c16 : (t199 == t202) = true
        · rw [if_pos c16] at H
          have c16b0 : (t199 == t202) = true := c16
          (try (have c16b1 : decide (t199 = t202) = true := by simpa using c16))
          (try (have c16b2 : (t199 == t202) = true := by simpa using c16))
          clear c16
          replace H := Option.bind_eq_some_iff.mp H
          obtain ⟨t211, A170, H⟩ := H
          replace H : (if t211 = t203 then (if t204 = t207 then (if t205 = t208 then ((mortiselaw08_num.f t206).bind fun t212 => (if t212 = t209 then ((mortiselaw08_heads.f k).bind fun t213 => (some t213)) else (none))) else (none)) else (none)) else (none)) = some r := H
          have A17 := Aside0.mk A170
          clear A170
          by_cases c18 : t211 = t203
          · rw [if_pos c18] at H
            have c18b0 : (t211 == t203) = true := beq_iff_eq.mpr c18
            have c18b1 : (t211 != t203) = false := bne_eq_false_iff_eq.mpr c18
            clear c18
            by_cases c19 : t204 = t207
            · rw [if_pos c19] at H
              have c19b0 : (t204 == t207) = true := beq_iff_eq.mpr c19
              have c19b1 : (t204 != t207) = false := bne_eq_false_iff_eq.mpr c19
              clear c19
              by_cases c20 : t205 = t208
              · rw [if_pos c20] at H
                have c20b0 : (t205 == t208) = true := beq_iff_eq.mpr c20
                have c20b1 : (t205 != t208) = false := bne_eq_false_iff_eq.mpr c20
                clear c20
                replace H := Option.bind_eq_some_iff.mp H
                obtain ⟨t212, A210, H⟩ := H
                replace H : (if t212 = t209 then ((mortiselaw08_heads.f k).bind fun t213 => (some t213)) else (none)) = some r := H
                have A21 := Aside0.mk A210
                clear A210
                by_cases c22 : t212 = t209
                · rw [if_pos c22] at H
                  have c22b0 : (t212 == t209) = true := beq_iff_eq.mpr c22
                  have c22b1 : (t212 != t209) = false := bne_eq_false_iff_eq.mpr c22
                  clear c22
                  replace H := Option.bind_eq_some_iff.mp H
                  obtain ⟨t213, A230, H⟩ := H
                  replace H : (some t213) = some r := H
                  have A23 := Aside0.mk A230
                  clear A230
                  obtain rfl := Option.some.inj H
                  go_enter Try.func8, Try.ntmps8
                  go_wp2_with (first | ((with_reducible refine gate_callee (f := 24) rfl ?_); refine goesL_ (some 30) rfl rfl Try.func24 (by kernel_rfl) rfl #[.int .i64 a2, .int .i64 a3] rfl (by (try simp only [List.map_toArray, List.map_cons, List.map_nil]); first | done | rfl | (simp only [List.length_drop, List.length_take]; rfl)) ?_; (with_reducible refine (field_Mask.calls a2 a3 t194 t195 _ A6.out).mono ?_); rintro e w' ⟨rfl, ⟨nd, rfl⟩⟩; refine ⟨_, rfl, ?_⟩) | ((with_reducible refine gate_callee (f := 25) rfl ?_); refine goesL_ (some 36) rfl rfl Try.func25 (by kernel_rfl) rfl #[.int .i64 a2, .int .i64 a3] rfl (by (try simp only [List.map_toArray, List.map_cons, List.map_nil]); first | done | rfl | (simp only [List.length_drop, List.length_take]; rfl)) ?_; (with_reducible refine (mortiseref08_Mask.calls k a2 a3 t196 t197 _ A7.out).mono ?_); rintro e w' ⟨rfl, ⟨nd, rfl⟩⟩; refine ⟨_, rfl, ?_⟩) | ((with_reducible refine gate_callee (f := 26) rfl ?_); refine goesL_ (some 47) rfl rfl Try.func26 (by kernel_rfl) rfl #[.int .u32 a0, .int .u32 a1, .int .i64 a2, .int .i64 a3, .bool ((Go.bits .and .u32 a4 1) == 1)] rfl (by (try simp only [List.map_toArray, List.map_cons, List.map_nil]); first | done | rfl | (simp only [List.length_drop, List.length_take]; rfl)) ?_; (with_reducible refine (field_Get.calls a0 a1 a2 a3 ((Go.bits .and .u32 a4 1) == 1) t198 t199 t200 _ A8.out).mono ?_); rintro e w' ⟨rfl, ⟨nd, rfl⟩⟩; refine ⟨_, rfl, ?_⟩) | ((with_reducible refine gate_callee (f := 27) rfl ?_); refine goesL_ (some 59) rfl rfl Try.func27 (by kernel_rfl) rfl #[.int .u32 a0, .int .u32 a1, .int .i64 a2, .int .i64 a3, .bool ((Go.bits .and .u32 a4 1) == 1)] rfl (by (try simp only [List.map_toArray, List.map_cons, List.map_nil]); first | done | rfl | (simp only [List.length_drop, List.length_take]; rfl)) ?_; (with_reducible refine (mortiseref08_Get.calls k a0 a1 a2 a3 ((Go.bits .and .u32 a4 1) == 1) t201 t202 t203 _ A9.out).mono ?_); rintro e w' ⟨rfl, ⟨nd, rfl⟩⟩; refine ⟨_, rfl, ?_⟩) | ((with_reducible refine gate_callee (f := 28) rfl ?_); refine goesL_ (some 69) rfl rfl Try.func28 (by kernel_rfl) rfl #[.int .u32 a0, .int .u32 a1, .int .i64 a2, .int .i64 a3, .int .u32 a4] rfl (by (try simp only [List.map_toArray, List.map_cons, List.map_nil]); first | done | rfl | (simp only [List.length_drop, List.length_take]; rfl)) ?_; (with_reducible refine (field_Put.calls a0 a1 a2 a3 a4 t204 t205 t206 _ A10.out).mono ?_); rintro e w' ⟨rfl, ⟨nd, rfl⟩⟩; refine ⟨_, rfl, ?_⟩) | ((with_reducible refine gate_callee (f := 29) rfl ?_); refine goesL_ (some 79) rfl rfl Try.func29 (by kernel_rfl) rfl #[.int .u32 a0, .int .u32 a1, .int .i64 a2, .int .i64 a3, .int .u32 a4] rfl (by (try simp only [List.map_toArray, List.map_cons, List.map_nil]); first | done | rfl | (simp only [List.length_drop, List.length_take]; rfl)) ?_; (with_reducible refine (mortiseref08_Put.calls k a0 a1 a2 a3 a4 t207 t208 t209 _ A11.out).mono ?_); rintro e w' ⟨rfl, ⟨nd, rfl⟩⟩; refine ⟨_, rfl, ?_⟩) | (go_at_call 30; (with_reducible refine (mortiselaw08_num.calls t195 t210 _ A13.out).mono ?_); rintro e w' ⟨rfl, ⟨nd, rfl⟩⟩) | (go_at_call 30; (with_reducible refine (mortiselaw08_num.calls t200 t211 _ A17.out).mono ?_); rintro e w' ⟨rfl, ⟨nd, rfl⟩⟩) | (go_at_call 30; (with_reducible refine (mortiselaw08_num.calls t206 t212 _ A21.out).mono ?_); rintro e w' ⟨rfl, ⟨nd, rfl⟩⟩) | (go_at_call 31; (with_reducible refine (mortiselaw08_heads.calls k  t213 _ A23.out).mono ?_); rintro e w24 ⟨rfl, hb⟩; have n0_ := Aside0.mk (below_step (by repeat (first | (with_reducible first | exact HB.out | apply below_alloc | apply pw_below_drewN | apply below_drew1) | exact HB.out)) hb); clear HB; have HB := n0_; clear n0_; (try clear hb); (try clear hb2); (try clear hk); (try clear hi)))
                  go_ret
                  exact ⟨by first | rfl | (simp [errW_none, errW_some] <;> rfl) | (simp [*, errW_none, errW_some] <;> rfl), by repeat (first | (with_reducible first | exact HB.out | apply below_alloc | apply pw_below_drewN | apply below_drew1) | exact HB.out)⟩
                · rw [if_neg c22] at H
                  exact absurd H (by simp)
              · rw [if_neg c20] at H
                exact absurd H (by simp)
            · rw [if_neg c19] at H
              exact absurd H (by simp)
          · rw [if_neg c18] at H
            exact absurd H (by simp)
        · rw [if_neg c16] at H
          exact absurd H (by simp)
      · rw [if_neg c15] at H
        exact absurd H (by simp)
    · rw [if_neg c14] at H
      exact absurd H (by simp)
  · rw [if_neg c12] at H
    exact absurd H (by simp)

/-- THE ONE PURE STATEMENT of mortiselaw08_FieldUnits: yours. -/
def mortiselaw08_FieldUnits.Pure : Prop := ∀ (a0 : Int) (a1 : Int) (a2 : Int) (a3 : Int) (a4 : Int), (Lit.int .u32 a0).wf = true → (Lit.int .u32 a1).wf = true → (Lit.int .i64 a2).wf = true → (Lit.int .i64 a3).wf = true → (Lit.int .u32 a4).wf = true → ∃ k, mortiselaw08_FieldUnits.f k a0 a1 a2 a3 a4 = some true
theorem mortiselaw08_FieldUnits.walk (P : mortiselaw08_FieldUnits.Pure) (a0 : Int) (a1 : Int) (a2 : Int) (a3 : Int) (a4 : Int) (w : World) (w0 : (Lit.int .u32 a0).wf = true) (w1 : (Lit.int .u32 a1).wf = true) (w2 : (Lit.int .i64 a2).wf = true) (w3 : (Lit.int .i64 a3).wf = true) (w4 : (Lit.int .u32 a4).wf = true) :
    Calls Try.prog 8 #[.int .u32 a0, .int .u32 a1, .int .i64 a2, .int .i64 a3, .int .u32 a4] w fun e w' => e = .returned (.bool true) ∧ Below w.heap.size w w' := by
  obtain ⟨k, h⟩ := P a0 a1 a2 a3 a4 w0 w1 w2 w3 w4
  refine (mortiselaw08_FieldUnits.calls k a0 a1 a2 a3 a4 true w h).mono ?_
  rintro e w' ⟨rfl, hd⟩
  exact ⟨rfl, hd⟩

/-! ### mortiselaw08_FieldApart: function 9 -/
mutual
def mortiselaw08_FieldApart.j0 : Nat → Int → Int → Int → Int → Int → Int → Int → Int → Bool → Option (Bool)
  | 0, _, _, _, _, _, _, _, _, _ => none
  | k + 1, x0, x1, x2, x3, x4, x5, x6, x7, x68 => if x68 = true then ((mortiselaw08_heads.f k).bind fun t220 => (some t220)) else ((field_Put.f x0 x1 x2 x3 x4).bind fun bt221 => ((field_Put.f bt221.1 bt221.2.1 x5 x6 x7).bind fun bt224 => ((field_Put.f x0 x1 x5 x6 x7).bind fun bt227 => ((field_Put.f bt227.1 bt227.2.1 x2 x3 x4).bind fun bt230 => ((mortiselaw08_num.f bt221.2.2).bind fun t233 => (if t233 = 0 then ((mortiselaw08_num.f bt224.2.2).bind fun t234 => (if t234 = 0 then ((mortiselaw08_num.f bt227.2.2).bind fun t235 => (if t235 = 0 then ((mortiselaw08_num.f bt230.2.2).bind fun t236 => (if t236 = 0 then (if bt224.1 = bt230.1 then (mortiselaw08_FieldApart.j1 k x2 x3 x4 bt224.1 bt224.2.1 (bt224.2.1 != bt230.2.1)) else (mortiselaw08_FieldApart.j1 k x2 x3 x4 bt224.1 bt224.2.1 true)) else (mortiselaw08_FieldApart.j1 k x2 x3 x4 bt224.1 bt224.2.1 true))) else (mortiselaw08_FieldApart.j1 k x2 x3 x4 bt224.1 bt224.2.1 true))) else (mortiselaw08_FieldApart.j1 k x2 x3 x4 bt224.1 bt224.2.1 true))) else (mortiselaw08_FieldApart.j1 k x2 x3 x4 bt224.1 bt224.2.1 true)))))))
def mortiselaw08_FieldApart.j1 : Nat → Int → Int → Int → Int → Int → Bool → Option (Bool)
  | 0, _, _, _, _, _, _ => none
  | k + 1, x2, x3, x4, x24, x25, x137 => if x137 = true then (none) else ((field_Get.f x24 x25 x2 x3 false).bind fun bt237 => ((field_Value.f k 9 x3 x4).bind fun bt240 => ((field_Value.f k 8 x3 x4).bind fun bt242 => ((field_Get.f x24 x25 x2 x3 true).bind fun bt244 => (if bt237.2.1 = true then (if bt244.2.1 = true then ((mortiselaw08_num.f bt237.2.2).bind fun t247 => (if t247 = 0 then ((mortiselaw08_num.f bt240.2).bind fun t248 => (if t248 = 0 then ((mortiselaw08_num.f bt242.2).bind fun t249 => (if t249 = 0 then ((mortiselaw08_num.f bt244.2.2).bind fun t250 => (if t250 = 0 then (if bt237.1 = bt240.1 then (if bt244.1 = bt242.1 then ((mortiselaw08_heads.f k).bind fun t251 => (some t251)) else (none)) else (none)) else (none))) else (none))) else (none))) else (none))) else (none)) else (none))))))
end
def mortiselaw08_FieldApart.f (k : Nat) (a0 : Int) (a1 : Int) (a2 : Int) (a3 : Int) (a4 : Int) (a5 : Int) (a6 : Int) (a7 : Int) : Option (Bool) := (field_Mask.f a2 a3).bind fun bt214 => ((field_Mask.f a5 a6).bind fun bt216 => ((mortiselaw08_num.f bt214.2).bind fun t218 => (if t218 = 0 then ((mortiselaw08_num.f bt216.2).bind fun t219 => (if t219 = 0 then (mortiselaw08_FieldApart.j0 k a0 a1 a2 a3 a4 a5 a6 a7 ((Go.bits .and .u32 bt214.1 bt216.1) != 0)) else (mortiselaw08_FieldApart.j0 k a0 a1 a2 a3 a4 a5 a6 a7 true))) else (mortiselaw08_FieldApart.j0 k a0 a1 a2 a3 a4 a5 a6 a7 true))))
theorem mortiselaw08_FieldApart.mono_l : ∀ k, (∀ y0 y1 y2 y3 y4 y5 y6 y7 y8, LeO (mortiselaw08_FieldApart.j0 k y0 y1 y2 y3 y4 y5 y6 y7 y8) (mortiselaw08_FieldApart.j0 (k + 1) y0 y1 y2 y3 y4 y5 y6 y7 y8)) ∧ (∀ y0 y1 y2 y3 y4 y5, LeO (mortiselaw08_FieldApart.j1 k y0 y1 y2 y3 y4 y5) (mortiselaw08_FieldApart.j1 (k + 1) y0 y1 y2 y3 y4 y5))
  | 0 => ⟨fun _ _ _ _ _ _ _ _ _ r h => by simp [mortiselaw08_FieldApart.j0] at h, fun _ _ _ _ _ _ r h => by simp [mortiselaw08_FieldApart.j1] at h⟩
  | k + 1 => by
    obtain ⟨ih0, ih1⟩ := mortiselaw08_FieldApart.mono_l k
    refine ⟨?_, ?_⟩
    · intro y0 y1 y2 y3 y4 y5 y6 y7 y8
      unfold mortiselaw08_FieldApart.j0
      repeat' first
      | (with_reducible exact ih0 _ _ _ _ _ _ _ _ _)
      | (with_reducible exact ih1 _ _ _ _ _ _)
      | (with_reducible exact field_Value.mono _ _ _ _)
      | (with_reducible exact mortiselaw08_heads.mono _)
      | (with_reducible exact LeO.refl _)
      | (with_reducible exact LeO.none _)
      | (with_reducible refine LeO.ite ?_ ?_)
      | (with_reducible refine LeO.bind ?_ (fun _ => ?_))
      | exact ih0 _ _ _ _ _ _ _ _ _
      | exact ih1 _ _ _ _ _ _
      | exact field_Value.mono _ _ _ _
      | exact mortiselaw08_heads.mono _
      | exact LeO.none _
      | refine LeO.ite ?_ ?_
      | refine LeO.bind ?_ (fun _ => ?_)
    · intro y0 y1 y2 y3 y4 y5
      unfold mortiselaw08_FieldApart.j1
      repeat' first
      | (with_reducible exact ih0 _ _ _ _ _ _ _ _ _)
      | (with_reducible exact ih1 _ _ _ _ _ _)
      | (with_reducible exact field_Value.mono _ _ _ _)
      | (with_reducible exact mortiselaw08_heads.mono _)
      | (with_reducible exact LeO.refl _)
      | (with_reducible exact LeO.none _)
      | (with_reducible refine LeO.ite ?_ ?_)
      | (with_reducible refine LeO.bind ?_ (fun _ => ?_))
      | exact ih0 _ _ _ _ _ _ _ _ _
      | exact ih1 _ _ _ _ _ _
      | exact field_Value.mono _ _ _ _
      | exact mortiselaw08_heads.mono _
      | exact LeO.none _
      | refine LeO.ite ?_ ?_
      | refine LeO.bind ?_ (fun _ => ?_)
theorem mortiselaw08_FieldApart.mono : ∀ a0 a1 a2 a3 a4 a5 a6 a7 k, LeO (mortiselaw08_FieldApart.f k a0 a1 a2 a3 a4 a5 a6 a7) (mortiselaw08_FieldApart.f (k + 1) a0 a1 a2 a3 a4 a5 a6 a7) := by
  intro a0 a1 a2 a3 a4 a5 a6 a7 k
  obtain ⟨ih0, ih1⟩ := mortiselaw08_FieldApart.mono_l k
  unfold mortiselaw08_FieldApart.f
  repeat' first
      | (with_reducible exact ih0 _ _ _ _ _ _ _ _ _)
      | (with_reducible exact ih1 _ _ _ _ _ _)
      | (with_reducible exact field_Value.mono _ _ _ _)
      | (with_reducible exact mortiselaw08_heads.mono _)
      | (with_reducible exact LeO.refl _)
      | (with_reducible exact LeO.none _)
      | (with_reducible refine LeO.ite ?_ ?_)
      | (with_reducible refine LeO.bind ?_ (fun _ => ?_))
      | exact ih0 _ _ _ _ _ _ _ _ _
      | exact ih1 _ _ _ _ _ _
      | exact field_Value.mono _ _ _ _
      | exact mortiselaw08_heads.mono _
      | exact LeO.none _
      | refine LeO.ite ?_ ?_
      | refine LeO.bind ?_ (fun _ => ?_)
set_option maxHeartbeats 8000000 in
set_option maxRecDepth 100000 in
theorem mortiselaw08_FieldApart.calls (k : Nat) (a0 : Int) (a1 : Int) (a2 : Int) (a3 : Int) (a4 : Int) (a5 : Int) (a6 : Int) (a7 : Int) (r : Bool) (w : World) (h : mortiselaw08_FieldApart.f k a0 a1 a2 a3 a4 a5 a6 a7 = some r) :
    Calls Try.prog 9 #[.int .u32 a0, .int .u32 a1, .int .i64 a2, .int .i64 a3, .int .u32 a4, .int .i64 a5, .int .i64 a6, .int .u32 a7] w fun e w' => e = .returned (.bool r) ∧ Below w.heap.size w w' := by
  have HB := Aside0.mk (Below.refl w.heap.size w)
  have H : ((field_Mask.f a2 a3).bind fun bt214 => ((field_Mask.f a5 a6).bind fun bt216 => ((mortiselaw08_num.f bt214.2).bind fun t218 => (if t218 = 0 then ((mortiselaw08_num.f bt216.2).bind fun t219 => (if t219 = 0 then (mortiselaw08_FieldApart.j0 k a0 a1 a2 a3 a4 a5 a6 a7 ((Go.bits .and .u32 bt214.1 bt216.1) != 0)) else (mortiselaw08_FieldApart.j0 k a0 a1 a2 a3 a4 a5 a6 a7 true))) else (mortiselaw08_FieldApart.j0 k a0 a1 a2 a3 a4 a5 a6 a7 true))))) = some r := h
  clear h
  replace H := Option.bind_eq_some_iff.mp H
  obtain ⟨⟨t214, t215⟩, A90, H⟩ := H
  replace H : ((field_Mask.f a5 a6).bind fun bt216 => ((mortiselaw08_num.f t215).bind fun t218 => (if t218 = 0 then ((mortiselaw08_num.f bt216.2).bind fun t219 => (if t219 = 0 then (mortiselaw08_FieldApart.j0 k a0 a1 a2 a3 a4 a5 a6 a7 ((Go.bits .and .u32 t214 bt216.1) != 0)) else (mortiselaw08_FieldApart.j0 k a0 a1 a2 a3 a4 a5 a6 a7 true))) else (mortiselaw08_FieldApart.j0 k a0 a1 a2 a3 a4 a5 a6 a7 true)))) = some r := H
  have A9 := Aside0.mk A90
  clear A90
  replace H := Option.bind_eq_some_iff.mp H
  obtain ⟨⟨t216, t217⟩, A100, H⟩ := H
  replace H : ((mortiselaw08_num.f t215).bind fun t218 => (if t218 = 0 then ((mortiselaw08_num.f t217).bind fun t219 => (if t219 = 0 then (mortiselaw08_FieldApart.j0 k a0 a1 a2 a3 a4 a5 a6 a7 ((Go.bits .and .u32 t214 t216) != 0)) else (mortiselaw08_FieldApart.j0 k a0 a1 a2 a3 a4 a5 a6 a7 true))) else (mortiselaw08_FieldApart.j0 k a0 a1 a2 a3 a4 a5 a6 a7 true))) = some r := H
  have A10 := Aside0.mk A100
  clear A100
  have HC11 := Aside0.mk H
  clear H
  go_enter Try.func9, Try.ntmps9
  go_upto_region 3 with (first | ((with_reducible refine gate_callee (f := 24) rfl ?_); refine goesL_ (some 46) rfl rfl Try.func24 (by kernel_rfl) rfl #[.int .i64 a2, .int .i64 a3] rfl (by (try simp only [List.map_toArray, List.map_cons, List.map_nil]); first | done | rfl | (simp only [List.length_drop, List.length_take]; rfl)) ?_; (with_reducible refine (field_Mask.calls a2 a3 t214 t215 _ A9.out).mono ?_); rintro e w' ⟨rfl, ⟨nd, rfl⟩⟩; refine ⟨_, rfl, ?_⟩) | ((with_reducible refine gate_callee (f := 24) rfl ?_); refine goesL_ (some 52) rfl rfl Try.func24 (by kernel_rfl) rfl #[.int .i64 a5, .int .i64 a6] rfl (by (try simp only [List.map_toArray, List.map_cons, List.map_nil]); first | done | rfl | (simp only [List.length_drop, List.length_take]; rfl)) ?_; (with_reducible refine (field_Mask.calls a5 a6 t216 t217 _ A10.out).mono ?_); rintro e w' ⟨rfl, ⟨nd, rfl⟩⟩; refine ⟨_, rfl, ?_⟩))
  (try simp only [Act.put, List.setIfInBounds_toArray, List.set_cons_zero, List.set_cons_succ])
  go_cut [68] (fun v68 wc => ∃ (kq : Nat) (x68_710 : Bool), v68 = .bool x68_710 ∧ Aside0 (mortiselaw08_FieldApart.j0 kq a0 a1 a2 a3 a4 a5 a6 a7 x68_710 = some r) ∧ Aside0 (kq ≤ k) ∧ Aside0 (Below w.heap.size w wc))
  case first =>
    have H := HC11.out
    clear HC11
    replace H := Option.bind_eq_some_iff.mp H
    obtain ⟨t218, A120, H⟩ := H
    replace H : (if t218 = 0 then ((mortiselaw08_num.f t217).bind fun t219 => (if t219 = 0 then (mortiselaw08_FieldApart.j0 k a0 a1 a2 a3 a4 a5 a6 a7 ((Go.bits .and .u32 t214 t216) != 0)) else (mortiselaw08_FieldApart.j0 k a0 a1 a2 a3 a4 a5 a6 a7 true))) else (mortiselaw08_FieldApart.j0 k a0 a1 a2 a3 a4 a5 a6 a7 true)) = some r := H
    have A12 := Aside0.mk A120
    clear A120
    by_cases c13 : t218 = 0
    · rw [if_pos c13] at H
      have c13b0 : (t218 == 0) = true := beq_iff_eq.mpr c13
      have c13b1 : (t218 != 0) = false := bne_eq_false_iff_eq.mpr c13
      clear c13
      (first | rw [c13b0] | (simp only [i64_w, i32_w]; rw [c13b0]) | skip)
      replace H := Option.bind_eq_some_iff.mp H
      obtain ⟨t219, A140, H⟩ := H
      replace H : (if t219 = 0 then (mortiselaw08_FieldApart.j0 k a0 a1 a2 a3 a4 a5 a6 a7 ((Go.bits .and .u32 t214 t216) != 0)) else (mortiselaw08_FieldApart.j0 k a0 a1 a2 a3 a4 a5 a6 a7 true)) = some r := H
      have A14 := Aside0.mk A140
      clear A140
      by_cases c15 : t219 = 0
      · rw [if_pos c15] at H
        have c15b0 : (t219 == 0) = true := beq_iff_eq.mpr c15
        have c15b1 : (t219 != 0) = false := bne_eq_false_iff_eq.mpr c15
        clear c15
        have H' := Aside0.mk H
        clear H
        go_wp2_with (first | ((with_reducible refine gate_callee (f := 30) rfl ?_); refine goesL_ (some 56) rfl rfl Try.func30 (by kernel_rfl) rfl #[.int .i64 t215] rfl (by (try simp only [List.map_toArray, List.map_cons, List.map_nil]); first | done | rfl | (simp only [List.length_drop, List.length_take]; rfl)) ?_; (with_reducible refine (mortiselaw08_num.calls t215 t218 _ A12.out).mono ?_); rintro e w' ⟨rfl, ⟨nd, rfl⟩⟩; refine ⟨_, rfl, ?_⟩) | (go_at_call 30; (with_reducible refine (mortiselaw08_num.calls t217 t219 _ A14.out).mono ?_); rintro e w' ⟨rfl, ⟨nd, rfl⟩⟩))
        go_meet
        case rel => exact ⟨_, (((Go.bits .and .u32 t214 t216) != 0)), (by first | rfl | (simp; done) | (simp [*]; done)), H', ⟨by first | omega | exact Nat.le_refl _⟩, ⟨by repeat (first | (with_reducible first | exact HB.out | apply below_alloc | apply pw_below_drewN | apply below_drew1) | exact HB.out)⟩⟩
      · rw [if_neg c15] at H
        have c15b0 : (t219 == 0) = false := beq_eq_false_iff_ne.mpr c15
        have c15b1 : (t219 != 0) = true := bne_iff_ne.mpr c15
        have H' := Aside0.mk H
        clear H
        go_wp2_with (first | ((with_reducible refine gate_callee (f := 30) rfl ?_); refine goesL_ (some 56) rfl rfl Try.func30 (by kernel_rfl) rfl #[.int .i64 t215] rfl (by (try simp only [List.map_toArray, List.map_cons, List.map_nil]); first | done | rfl | (simp only [List.length_drop, List.length_take]; rfl)) ?_; (with_reducible refine (mortiselaw08_num.calls t215 t218 _ A12.out).mono ?_); rintro e w' ⟨rfl, ⟨nd, rfl⟩⟩; refine ⟨_, rfl, ?_⟩) | (go_at_call 30; (with_reducible refine (mortiselaw08_num.calls t217 t219 _ A14.out).mono ?_); rintro e w' ⟨rfl, ⟨nd, rfl⟩⟩))
        go_meet
        case rel => exact ⟨_, (true), (by first | rfl | (simp; done) | (simp [*]; done)), H', ⟨by first | omega | exact Nat.le_refl _⟩, ⟨by repeat (first | (with_reducible first | exact HB.out | apply below_alloc | apply pw_below_drewN | apply below_drew1) | exact HB.out)⟩⟩
    · rw [if_neg c13] at H
      have c13b0 : (t218 == 0) = false := beq_eq_false_iff_ne.mpr c13
      have c13b1 : (t218 != 0) = true := bne_iff_ne.mpr c13
      (first | rw [c13b0] | (simp only [i64_w, i32_w]; rw [c13b0]) | skip)
      have H' := Aside0.mk H
      clear H
      go_wp2_with (first | ((with_reducible refine gate_callee (f := 30) rfl ?_); refine goesL_ (some 56) rfl rfl Try.func30 (by kernel_rfl) rfl #[.int .i64 t215] rfl (by (try simp only [List.map_toArray, List.map_cons, List.map_nil]); first | done | rfl | (simp only [List.length_drop, List.length_take]; rfl)) ?_; (with_reducible refine (mortiselaw08_num.calls t215 t218 _ A12.out).mono ?_); rintro e w' ⟨rfl, ⟨nd, rfl⟩⟩; refine ⟨_, rfl, ?_⟩))
      go_meet
      case rel => exact ⟨_, (true), (by first | rfl | (simp; done) | (simp [*]; done)), H', ⟨by first | omega | exact Nat.le_refl _⟩, ⟨by repeat (first | (with_reducible first | exact HB.out | apply below_alloc | apply pw_below_drewN | apply below_drew1) | exact HB.out)⟩⟩
  case rest =>
    clear HC11
    try clear c1
    try clear c2
    try clear p2
    try clear c3
    try clear c9
    try clear c13
    try clear c13b0
    try clear c13b1
    try clear c15
    try clear c15b0
    try clear c15b1
    obtain ⟨kq, x68_710, rfl, HA, HJ710, HB⟩ := hcut
    cases kq with
    | zero => exact absurd HA.out (by simp [mortiselaw08_FieldApart.j0])
    | succ kj710 =>
      have H := HA.out
      clear HA
      simp only [mortiselaw08_FieldApart.j0] at H
      by_cases c16 : x68_710 = true
      · subst c16
        have H1 : ((mortiselaw08_heads.f kj710).bind fun t220 => (some t220)) = some r := by rw [if_pos rfl] at H; exact H
        clear H
        have H := H1
        clear H1
        replace H := Option.bind_eq_some_iff.mp H
        obtain ⟨t220, A170, H⟩ := H
        replace H : (some t220) = some r := H
        have A17 := Aside0.mk A170
        clear A170
        obtain rfl := Option.some.inj H
        go_wp2_with (first | ((with_reducible refine gate_callee (f := 31) rfl ?_); refine goesL_ (some 69) rfl rfl Try.func31 (by kernel_rfl) rfl #[] rfl (by (try simp only [List.map_toArray, List.map_cons, List.map_nil]); first | done | rfl | (simp only [List.length_drop, List.length_take]; rfl)) ?_; (with_reducible refine (mortiselaw08_heads.calls kj710  t220 _ A17.out).mono ?_); rintro e w18 ⟨rfl, hb⟩; refine ⟨_, rfl, ?_⟩; have n0_ := Aside0.mk (below_step (by repeat (first | (with_reducible first | exact HB.out | apply below_alloc | apply pw_below_drewN | apply below_drew1) | exact HB.out)) hb); clear HB; have HB := n0_; clear n0_; (try clear hb); (try clear hb2); (try clear hk); (try clear hi)))
        go_ret
        exact ⟨by first | rfl | (simp [errW_none, errW_some] <;> rfl) | (simp [*, errW_none, errW_some] <;> rfl), by repeat (first | (with_reducible first | exact HB.out | apply below_alloc | apply pw_below_drewN | apply below_drew1) | exact HB.out)⟩
      · replace c16 := Bool.eq_false_iff.mpr c16
        subst c16
        have H1 : ((field_Put.f a0 a1 a2 a3 a4).bind fun bt221 => ((field_Put.f bt221.1 bt221.2.1 a5 a6 a7).bind fun bt224 => ((field_Put.f a0 a1 a5 a6 a7).bind fun bt227 => ((field_Put.f bt227.1 bt227.2.1 a2 a3 a4).bind fun bt230 => ((mortiselaw08_num.f bt221.2.2).bind fun t233 => (if t233 = 0 then ((mortiselaw08_num.f bt224.2.2).bind fun t234 => (if t234 = 0 then ((mortiselaw08_num.f bt227.2.2).bind fun t235 => (if t235 = 0 then ((mortiselaw08_num.f bt230.2.2).bind fun t236 => (if t236 = 0 then (if bt224.1 = bt230.1 then (mortiselaw08_FieldApart.j1 kj710 a2 a3 a4 bt224.1 bt224.2.1 (bt224.2.1 != bt230.2.1)) else (mortiselaw08_FieldApart.j1 kj710 a2 a3 a4 bt224.1 bt224.2.1 true)) else (mortiselaw08_FieldApart.j1 kj710 a2 a3 a4 bt224.1 bt224.2.1 true))) else (mortiselaw08_FieldApart.j1 kj710 a2 a3 a4 bt224.1 bt224.2.1 true))) else (mortiselaw08_FieldApart.j1 kj710 a2 a3 a4 bt224.1 bt224.2.1 true))) else (mortiselaw08_FieldApart.j1 kj710 a2 a3 a4 bt224.1 bt224.2.1 true))))))) = some r := by rw [if_neg (show ¬ (false = true) by decide)] at H; exact H
        clear H
        have H := H1
        clear H1
        replace H := Option.bind_eq_some_iff.mp H
        obtain ⟨⟨t221, t222, t223⟩, A190, H⟩ := H
        replace H : ((field_Put.f t221 t222 a5 a6 a7).bind fun bt224 => ((field_Put.f a0 a1 a5 a6 a7).bind fun bt227 => ((field_Put.f bt227.1 bt227.2.1 a2 a3 a4).bind fun bt230 => ((mortiselaw08_num.f t223).bind fun t233 => (if t233 = 0 then ((mortiselaw08_num.f bt224.2.2).bind fun t234 => (if t234 = 0 then ((mortiselaw08_num.f bt227.2.2).bind fun t235 => (if t235 = 0 then ((mortiselaw08_num.f bt230.2.2).bind fun t236 => (if t236 = 0 then (if bt224.1 = bt230.1 then (mortiselaw08_FieldApart.j1 kj710 a2 a3 a4 bt224.1 bt224.2.1 (bt224.2.1 != bt230.2.1)) else (mortiselaw08_FieldApart.j1 kj710 a2 a3 a4 bt224.1 bt224.2.1 true)) else (mortiselaw08_FieldApart.j1 kj710 a2 a3 a4 bt224.1 bt224.2.1 true))) else (mortiselaw08_FieldApart.j1 kj710 a2 a3 a4 bt224.1 bt224.2.1 true))) else (mortiselaw08_FieldApart.j1 kj710 a2 a3 a4 bt224.1 bt224.2.1 true))) else (mortiselaw08_FieldApart.j1 kj710 a2 a3 a4 bt224.1 bt224.2.1 true)))))) = some r := H
        have A19 := Aside0.mk A190
        clear A190
        replace H := Option.bind_eq_some_iff.mp H
        obtain ⟨⟨t224, t225, t226⟩, A200, H⟩ := H
        replace H : ((field_Put.f a0 a1 a5 a6 a7).bind fun bt227 => ((field_Put.f bt227.1 bt227.2.1 a2 a3 a4).bind fun bt230 => ((mortiselaw08_num.f t223).bind fun t233 => (if t233 = 0 then ((mortiselaw08_num.f t226).bind fun t234 => (if t234 = 0 then ((mortiselaw08_num.f bt227.2.2).bind fun t235 => (if t235 = 0 then ((mortiselaw08_num.f bt230.2.2).bind fun t236 => (if t236 = 0 then (if t224 = bt230.1 then (mortiselaw08_FieldApart.j1 kj710 a2 a3 a4 t224 t225 (t225 != bt230.2.1)) else (mortiselaw08_FieldApart.j1 kj710 a2 a3 a4 t224 t225 true)) else (mortiselaw08_FieldApart.j1 kj710 a2 a3 a4 t224 t225 true))) else (mortiselaw08_FieldApart.j1 kj710 a2 a3 a4 t224 t225 true))) else (mortiselaw08_FieldApart.j1 kj710 a2 a3 a4 t224 t225 true))) else (mortiselaw08_FieldApart.j1 kj710 a2 a3 a4 t224 t225 true))))) = some r := H
        have A20 := Aside0.mk A200
        clear A200
        replace H := Option.bind_eq_some_iff.mp H
        obtain ⟨⟨t227, t228, t229⟩, A210, H⟩ := H
        replace H : ((field_Put.f t227 t228 a2 a3 a4).bind fun bt230 => ((mortiselaw08_num.f t223).bind fun t233 => (if t233 = 0 then ((mortiselaw08_num.f t226).bind fun t234 => (if t234 = 0 then ((mortiselaw08_num.f t229).bind fun t235 => (if t235 = 0 then ((mortiselaw08_num.f bt230.2.2).bind fun t236 => (if t236 = 0 then (if t224 = bt230.1 then (mortiselaw08_FieldApart.j1 kj710 a2 a3 a4 t224 t225 (t225 != bt230.2.1)) else (mortiselaw08_FieldApart.j1 kj710 a2 a3 a4 t224 t225 true)) else (mortiselaw08_FieldApart.j1 kj710 a2 a3 a4 t224 t225 true))) else (mortiselaw08_FieldApart.j1 kj710 a2 a3 a4 t224 t225 true))) else (mortiselaw08_FieldApart.j1 kj710 a2 a3 a4 t224 t225 true))) else (mortiselaw08_FieldApart.j1 kj710 a2 a3 a4 t224 t225 true)))) = some r := H
        have A21 := Aside0.mk A210
        clear A210
        replace H := Option.bind_eq_some_iff.mp H
        obtain ⟨⟨t230, t231, t232⟩, A220, H⟩ := H
        replace H : ((mortiselaw08_num.f t223).bind fun t233 => (if t233 = 0 then ((mortiselaw08_num.f t226).bind fun t234 => (if t234 = 0 then ((mortiselaw08_num.f t229).bind fun t235 => (if t235 = 0 then ((mortiselaw08_num.f t232).bind fun t236 => (if t236 = 0 then (if t224 = t230 then (mortiselaw08_FieldApart.j1 kj710 a2 a3 a4 t224 t225 (t225 != t231)) else (mortiselaw08_FieldApart.j1 kj710 a2 a3 a4 t224 t225 true)) else (mortiselaw08_FieldApart.j1 kj710 a2 a3 a4 t224 t225 true))) else (mortiselaw08_FieldApart.j1 kj710 a2 a3 a4 t224 t225 true))) else (mortiselaw08_FieldApart.j1 kj710 a2 a3 a4 t224 t225 true))) else (mortiselaw08_FieldApart.j1 kj710 a2 a3 a4 t224 t225 true))) = some r := H
        have A22 := Aside0.mk A220
        clear A220
        have HC23 := Aside0.mk H
        clear H
        go_upto_region 9 with (first | ((with_reducible refine gate_callee (f := 28) rfl ?_); refine goesL_ (some 76) rfl rfl Try.func28 (by kernel_rfl) rfl #[.int .u32 a0, .int .u32 a1, .int .i64 a2, .int .i64 a3, .int .u32 a4] rfl (by (try simp only [List.map_toArray, List.map_cons, List.map_nil]); first | done | rfl | (simp only [List.length_drop, List.length_take]; rfl)) ?_; (with_reducible refine (field_Put.calls a0 a1 a2 a3 a4 t221 t222 t223 _ A19.out).mono ?_); rintro e w' ⟨rfl, ⟨nd, rfl⟩⟩; refine ⟨_, rfl, ?_⟩) | ((with_reducible refine gate_callee (f := 28) rfl ?_); refine goesL_ (some 86) rfl rfl Try.func28 (by kernel_rfl) rfl #[.int .u32 t221, .int .u32 t222, .int .i64 a5, .int .i64 a6, .int .u32 a7] rfl (by (try simp only [List.map_toArray, List.map_cons, List.map_nil]); first | done | rfl | (simp only [List.length_drop, List.length_take]; rfl)) ?_; (with_reducible refine (field_Put.calls t221 t222 a5 a6 a7 t224 t225 t226 _ A20.out).mono ?_); rintro e w' ⟨rfl, ⟨nd, rfl⟩⟩; refine ⟨_, rfl, ?_⟩) | ((with_reducible refine gate_callee (f := 28) rfl ?_); refine goesL_ (some 96) rfl rfl Try.func28 (by kernel_rfl) rfl #[.int .u32 a0, .int .u32 a1, .int .i64 a5, .int .i64 a6, .int .u32 a7] rfl (by (try simp only [List.map_toArray, List.map_cons, List.map_nil]); first | done | rfl | (simp only [List.length_drop, List.length_take]; rfl)) ?_; (with_reducible refine (field_Put.calls a0 a1 a5 a6 a7 t227 t228 t229 _ A21.out).mono ?_); rintro e w' ⟨rfl, ⟨nd, rfl⟩⟩; refine ⟨_, rfl, ?_⟩) | ((with_reducible refine gate_callee (f := 28) rfl ?_); refine goesL_ (some 106) rfl rfl Try.func28 (by kernel_rfl) rfl #[.int .u32 t227, .int .u32 t228, .int .i64 a2, .int .i64 a3, .int .u32 a4] rfl (by (try simp only [List.map_toArray, List.map_cons, List.map_nil]); first | done | rfl | (simp only [List.length_drop, List.length_take]; rfl)) ?_; (with_reducible refine (field_Put.calls t227 t228 a2 a3 a4 t230 t231 t232 _ A22.out).mono ?_); rintro e w' ⟨rfl, ⟨nd, rfl⟩⟩; refine ⟨_, rfl, ?_⟩))
        (try simp only [Act.put, List.setIfInBounds_toArray, List.set_cons_zero, List.set_cons_succ])
        go_cut [137] (fun v137 wc => ∃ (kq : Nat) (x137_722 : Bool), v137 = .bool x137_722 ∧ Aside0 (mortiselaw08_FieldApart.j1 kq a2 a3 a4 t224 t225 x137_722 = some r) ∧ Aside0 (kq ≤ kj710) ∧ Aside0 (Below w.heap.size w wc))
        case first =>
          have H := HC23.out
          clear HC23
          replace H := Option.bind_eq_some_iff.mp H
          obtain ⟨t233, A240, H⟩ := H
          replace H : (if t233 = 0 then ((mortiselaw08_num.f t226).bind fun t234 => (if t234 = 0 then ((mortiselaw08_num.f t229).bind fun t235 => (if t235 = 0 then ((mortiselaw08_num.f t232).bind fun t236 => (if t236 = 0 then (if t224 = t230 then (mortiselaw08_FieldApart.j1 kj710 a2 a3 a4 t224 t225 (t225 != t231)) else (mortiselaw08_FieldApart.j1 kj710 a2 a3 a4 t224 t225 true)) else (mortiselaw08_FieldApart.j1 kj710 a2 a3 a4 t224 t225 true))) else (mortiselaw08_FieldApart.j1 kj710 a2 a3 a4 t224 t225 true))) else (mortiselaw08_FieldApart.j1 kj710 a2 a3 a4 t224 t225 true))) else (mortiselaw08_FieldApart.j1 kj710 a2 a3 a4 t224 t225 true)) = some r := H
          have A24 := Aside0.mk A240
          clear A240
          by_cases c25 : t233 = 0
          · rw [if_pos c25] at H
            have c25b0 : (t233 == 0) = true := beq_iff_eq.mpr c25
            have c25b1 : (t233 != 0) = false := bne_eq_false_iff_eq.mpr c25
            clear c25
            (first | rw [c25b0] | (simp only [i64_w, i32_w]; rw [c25b0]) | skip)
            replace H := Option.bind_eq_some_iff.mp H
            obtain ⟨t234, A260, H⟩ := H
            replace H : (if t234 = 0 then ((mortiselaw08_num.f t229).bind fun t235 => (if t235 = 0 then ((mortiselaw08_num.f t232).bind fun t236 => (if t236 = 0 then (if t224 = t230 then (mortiselaw08_FieldApart.j1 kj710 a2 a3 a4 t224 t225 (t225 != t231)) else (mortiselaw08_FieldApart.j1 kj710 a2 a3 a4 t224 t225 true)) else (mortiselaw08_FieldApart.j1 kj710 a2 a3 a4 t224 t225 true))) else (mortiselaw08_FieldApart.j1 kj710 a2 a3 a4 t224 t225 true))) else (mortiselaw08_FieldApart.j1 kj710 a2 a3 a4 t224 t225 true)) = some r := H
            have A26 := Aside0.mk A260
            clear A260
            by_cases c27 : t234 = 0
            · rw [if_pos c27] at H
              have c27b0 : (t234 == 0) = true := beq_iff_eq.mpr c27
              have c27b1 : (t234 != 0) = false := bne_eq_false_iff_eq.mpr c27
              clear c27
              replace H := Option.bind_eq_some_iff.mp H
              obtain ⟨t235, A280, H⟩ := H
              replace H : (if t235 = 0 then ((mortiselaw08_num.f t232).bind fun t236 => (if t236 = 0 then (if t224 = t230 then (mortiselaw08_FieldApart.j1 kj710 a2 a3 a4 t224 t225 (t225 != t231)) else (mortiselaw08_FieldApart.j1 kj710 a2 a3 a4 t224 t225 true)) else (mortiselaw08_FieldApart.j1 kj710 a2 a3 a4 t224 t225 true))) else (mortiselaw08_FieldApart.j1 kj710 a2 a3 a4 t224 t225 true)) = some r := H
              have A28 := Aside0.mk A280
              clear A280
              by_cases c29 : t235 = 0
              · rw [if_pos c29] at H
                have c29b0 : (t235 == 0) = true := beq_iff_eq.mpr c29
                have c29b1 : (t235 != 0) = false := bne_eq_false_iff_eq.mpr c29
                clear c29
                replace H := Option.bind_eq_some_iff.mp H
                obtain ⟨t236, A300, H⟩ := H
                replace H : (if t236 = 0 then (if t224 = t230 then (mortiselaw08_FieldApart.j1 kj710 a2 a3 a4 t224 t225 (t225 != t231)) else (mortiselaw08_FieldApart.j1 kj710 a2 a3 a4 t224 t225 true)) else (mortiselaw08_FieldApart.j1 kj710 a2 a3 a4 t224 t225 true)) = some r := H
                have A30 := Aside0.mk A300
                clear A300
                by_cases c31 : t236 = 0
                · rw [if_pos c31] at H
                  have c31b0 : (t236 == 0) = true := beq_iff_eq.mpr c31
                  have c31b1 : (t236 != 0) = false := bne_eq_false_iff_eq.mpr c31
                  clear c31
                  by_cases c32 : t224 = t230
                  · rw [if_pos c32] at H
                    have c32b0 : (t224 == t230) = true := beq_iff_eq.mpr c32
                    have c32b1 : (t224 != t230) = false := bne_eq_false_iff_eq.mpr c32
                    clear c32
                    have H' := Aside0.mk H
                    clear H
                    go_wp2_with (first | ((with_reducible refine gate_callee (f := 30) rfl ?_); refine goesL_ (some 111) rfl rfl Try.func30 (by kernel_rfl) rfl #[.int .i64 t223] rfl (by (try simp only [List.map_toArray, List.map_cons, List.map_nil]); first | done | rfl | (simp only [List.length_drop, List.length_take]; rfl)) ?_; (with_reducible refine (mortiselaw08_num.calls t223 t233 _ A24.out).mono ?_); rintro e w' ⟨rfl, ⟨nd, rfl⟩⟩; refine ⟨_, rfl, ?_⟩) | (go_at_call 30; (with_reducible refine (mortiselaw08_num.calls t226 t234 _ A26.out).mono ?_); rintro e w' ⟨rfl, ⟨nd, rfl⟩⟩) | (go_at_call 30; (with_reducible refine (mortiselaw08_num.calls t229 t235 _ A28.out).mono ?_); rintro e w' ⟨rfl, ⟨nd, rfl⟩⟩) | (go_at_call 30; (with_reducible refine (mortiselaw08_num.calls t232 t236 _ A30.out).mono ?_); rintro e w' ⟨rfl, ⟨nd, rfl⟩⟩))
                    go_meet
                    case rel => exact ⟨_, ((t225 != t231)), (by first | rfl | (simp; done) | (simp [*]; done)), H', ⟨by have := HJ710.out; first | omega | exact Nat.le_refl _⟩, ⟨by repeat (first | (with_reducible first | exact HB.out | apply below_alloc | apply pw_below_drewN | apply below_drew1) | exact HB.out)⟩⟩
                  · rw [if_neg c32] at H
                    have c32b0 : (t224 == t230) = false := beq_eq_false_iff_ne.mpr c32
                    have c32b1 : (t224 != t230) = true := bne_iff_ne.mpr c32
                    have H' := Aside0.mk H
                    clear H
                    go_wp2_with (first | ((with_reducible refine gate_callee (f := 30) rfl ?_); refine goesL_ (some 111) rfl rfl Try.func30 (by kernel_rfl) rfl #[.int .i64 t223] rfl (by (try simp only [List.map_toArray, List.map_cons, List.map_nil]); first | done | rfl | (simp only [List.length_drop, List.length_take]; rfl)) ?_; (with_reducible refine (mortiselaw08_num.calls t223 t233 _ A24.out).mono ?_); rintro e w' ⟨rfl, ⟨nd, rfl⟩⟩; refine ⟨_, rfl, ?_⟩) | (go_at_call 30; (with_reducible refine (mortiselaw08_num.calls t226 t234 _ A26.out).mono ?_); rintro e w' ⟨rfl, ⟨nd, rfl⟩⟩) | (go_at_call 30; (with_reducible refine (mortiselaw08_num.calls t229 t235 _ A28.out).mono ?_); rintro e w' ⟨rfl, ⟨nd, rfl⟩⟩) | (go_at_call 30; (with_reducible refine (mortiselaw08_num.calls t232 t236 _ A30.out).mono ?_); rintro e w' ⟨rfl, ⟨nd, rfl⟩⟩))
                    go_meet
                    case rel => exact ⟨_, (true), (by first | rfl | (simp; done) | (simp [*]; done)), H', ⟨by have := HJ710.out; first | omega | exact Nat.le_refl _⟩, ⟨by repeat (first | (with_reducible first | exact HB.out | apply below_alloc | apply pw_below_drewN | apply below_drew1) | exact HB.out)⟩⟩
                · rw [if_neg c31] at H
                  have c31b0 : (t236 == 0) = false := beq_eq_false_iff_ne.mpr c31
                  have c31b1 : (t236 != 0) = true := bne_iff_ne.mpr c31
                  have H' := Aside0.mk H
                  clear H
                  go_wp2_with (first | ((with_reducible refine gate_callee (f := 30) rfl ?_); refine goesL_ (some 111) rfl rfl Try.func30 (by kernel_rfl) rfl #[.int .i64 t223] rfl (by (try simp only [List.map_toArray, List.map_cons, List.map_nil]); first | done | rfl | (simp only [List.length_drop, List.length_take]; rfl)) ?_; (with_reducible refine (mortiselaw08_num.calls t223 t233 _ A24.out).mono ?_); rintro e w' ⟨rfl, ⟨nd, rfl⟩⟩; refine ⟨_, rfl, ?_⟩) | (go_at_call 30; (with_reducible refine (mortiselaw08_num.calls t226 t234 _ A26.out).mono ?_); rintro e w' ⟨rfl, ⟨nd, rfl⟩⟩) | (go_at_call 30; (with_reducible refine (mortiselaw08_num.calls t229 t235 _ A28.out).mono ?_); rintro e w' ⟨rfl, ⟨nd, rfl⟩⟩) | (go_at_call 30; (with_reducible refine (mortiselaw08_num.calls t232 t236 _ A30.out).mono ?_); rintro e w' ⟨rfl, ⟨nd, rfl⟩⟩))
                  go_meet
                  case rel => exact ⟨_, (true), (by first | rfl | (simp; done) | (simp [*]; done)), H', ⟨by have := HJ710.out; first | omega | exact Nat.le_refl _⟩, ⟨by repeat (first | (with_reducible first | exact HB.out | apply below_alloc | apply pw_below_drewN | apply below_drew1) | exact HB.out)⟩⟩
              · rw [if_neg c29] at H
                have c29b0 : (t235 == 0) = false := beq_eq_false_iff_ne.mpr c29
                have c29b1 : (t235 != 0) = true := bne_iff_ne.mpr c29
                have H' := Aside0.mk H
                clear H
                go_wp2_with (first | ((with_reducible refine gate_callee (f := 30) rfl ?_); refine goesL_ (some 111) rfl rfl Try.func30 (by kernel_rfl) rfl #[.int .i64 t223] rfl (by (try simp only [List.map_toArray, List.map_cons, List.map_nil]); first | done | rfl | (simp only [List.length_drop, List.length_take]; rfl)) ?_; (with_reducible refine (mortiselaw08_num.calls t223 t233 _ A24.out).mono ?_); rintro e w' ⟨rfl, ⟨nd, rfl⟩⟩; refine ⟨_, rfl, ?_⟩) | (go_at_call 30; (with_reducible refine (mortiselaw08_num.calls t226 t234 _ A26.out).mono ?_); rintro e w' ⟨rfl, ⟨nd, rfl⟩⟩) | (go_at_call 30; (with_reducible refine (mortiselaw08_num.calls t229 t235 _ A28.out).mono ?_); rintro e w' ⟨rfl, ⟨nd, rfl⟩⟩))
                go_meet
                case rel => exact ⟨_, (true), (by first | rfl | (simp; done) | (simp [*]; done)), H', ⟨by have := HJ710.out; first | omega | exact Nat.le_refl _⟩, ⟨by repeat (first | (with_reducible first | exact HB.out | apply below_alloc | apply pw_below_drewN | apply below_drew1) | exact HB.out)⟩⟩
            · rw [if_neg c27] at H
              have c27b0 : (t234 == 0) = false := beq_eq_false_iff_ne.mpr c27
              have c27b1 : (t234 != 0) = true := bne_iff_ne.mpr c27
              have H' := Aside0.mk H
              clear H
              go_wp2_with (first | ((with_reducible refine gate_callee (f := 30) rfl ?_); refine goesL_ (some 111) rfl rfl Try.func30 (by kernel_rfl) rfl #[.int .i64 t223] rfl (by (try simp only [List.map_toArray, List.map_cons, List.map_nil]); first | done | rfl | (simp only [List.length_drop, List.length_take]; rfl)) ?_; (with_reducible refine (mortiselaw08_num.calls t223 t233 _ A24.out).mono ?_); rintro e w' ⟨rfl, ⟨nd, rfl⟩⟩; refine ⟨_, rfl, ?_⟩) | (go_at_call 30; (with_reducible refine (mortiselaw08_num.calls t226 t234 _ A26.out).mono ?_); rintro e w' ⟨rfl, ⟨nd, rfl⟩⟩))
              go_meet
              case rel => exact ⟨_, (true), (by first | rfl | (simp; done) | (simp [*]; done)), H', ⟨by have := HJ710.out; first | omega | exact Nat.le_refl _⟩, ⟨by repeat (first | (with_reducible first | exact HB.out | apply below_alloc | apply pw_below_drewN | apply below_drew1) | exact HB.out)⟩⟩
          · rw [if_neg c25] at H
            have c25b0 : (t233 == 0) = false := beq_eq_false_iff_ne.mpr c25
            have c25b1 : (t233 != 0) = true := bne_iff_ne.mpr c25
            (first | rw [c25b0] | (simp only [i64_w, i32_w]; rw [c25b0]) | skip)
            have H' := Aside0.mk H
            clear H
            go_wp2_with (first | ((with_reducible refine gate_callee (f := 30) rfl ?_); refine goesL_ (some 111) rfl rfl Try.func30 (by kernel_rfl) rfl #[.int .i64 t223] rfl (by (try simp only [List.map_toArray, List.map_cons, List.map_nil]); first | done | rfl | (simp only [List.length_drop, List.length_take]; rfl)) ?_; (with_reducible refine (mortiselaw08_num.calls t223 t233 _ A24.out).mono ?_); rintro e w' ⟨rfl, ⟨nd, rfl⟩⟩; refine ⟨_, rfl, ?_⟩))
            go_meet
            case rel => exact ⟨_, (true), (by first | rfl | (simp; done) | (simp [*]; done)), H', ⟨by have := HJ710.out; first | omega | exact Nat.le_refl _⟩, ⟨by repeat (first | (with_reducible first | exact HB.out | apply below_alloc | apply pw_below_drewN | apply below_drew1) | exact HB.out)⟩⟩
        case rest =>
          clear HC23
          try clear c1
          try clear c2
          try clear p2
          try clear c3
          try clear c9
          try clear c13
          try clear c13b0
          try clear c13b1
          try clear c15
          try clear c15b0
          try clear c15b1
          try clear c16
          try clear c24
          try clear c25
          try clear c25b0
          try clear c25b1
          try clear c27
          try clear c27b0
          try clear c27b1
          try clear c28
          try clear c29
          try clear c29b0
          try clear c29b1
          try clear c30
          try clear c31
          try clear c31b0
          try clear c31b1
          try clear c32
          try clear c32b0
          try clear c32b1
          try clear p2
          obtain ⟨kq, x137_722, rfl, HA, HJ722, HB⟩ := hcut
          cases kq with
          | zero => exact absurd HA.out (by simp [mortiselaw08_FieldApart.j1])
          | succ kj722 =>
            have H := HA.out
            clear HA
            simp only [mortiselaw08_FieldApart.j1] at H
            by_cases c33 : x137_722 = true
            · subst c33
              have H1 : (none) = some r := by rw [if_pos rfl] at H; exact H
              clear H
              have H := H1
              clear H1
              exact absurd H (by simp)
            · replace c33 := Bool.eq_false_iff.mpr c33
              subst c33
              have H1 : ((field_Get.f t224 t225 a2 a3 false).bind fun bt237 => ((field_Value.f kj722 9 a3 a4).bind fun bt240 => ((field_Value.f kj722 8 a3 a4).bind fun bt242 => ((field_Get.f t224 t225 a2 a3 true).bind fun bt244 => (if bt237.2.1 = true then (if bt244.2.1 = true then ((mortiselaw08_num.f bt237.2.2).bind fun t247 => (if t247 = 0 then ((mortiselaw08_num.f bt240.2).bind fun t248 => (if t248 = 0 then ((mortiselaw08_num.f bt242.2).bind fun t249 => (if t249 = 0 then ((mortiselaw08_num.f bt244.2.2).bind fun t250 => (if t250 = 0 then (if bt237.1 = bt240.1 then (if bt244.1 = bt242.1 then ((mortiselaw08_heads.f kj722).bind fun t251 => (some t251)) else (none)) else (none)) else (none))) else (none))) else (none))) else (none))) else (none)) else (none)))))) = some r := by rw [if_neg (show ¬ (false = true) by decide)] at H; exact H
              clear H
              have H := H1
              clear H1
              replace H := Option.bind_eq_some_iff.mp H
              obtain ⟨⟨t237, t238, t239⟩, A340, H⟩ := H
              replace H : ((field_Value.f kj722 9 a3 a4).bind fun bt240 => ((field_Value.f kj722 8 a3 a4).bind fun bt242 => ((field_Get.f t224 t225 a2 a3 true).bind fun bt244 => (if t238 = true then (if bt244.2.1 = true then ((mortiselaw08_num.f t239).bind fun t247 => (if t247 = 0 then ((mortiselaw08_num.f bt240.2).bind fun t248 => (if t248 = 0 then ((mortiselaw08_num.f bt242.2).bind fun t249 => (if t249 = 0 then ((mortiselaw08_num.f bt244.2.2).bind fun t250 => (if t250 = 0 then (if t237 = bt240.1 then (if bt244.1 = bt242.1 then ((mortiselaw08_heads.f kj722).bind fun t251 => (some t251)) else (none)) else (none)) else (none))) else (none))) else (none))) else (none))) else (none)) else (none))))) = some r := H
              have A34 := Aside0.mk A340
              clear A340
              replace H := Option.bind_eq_some_iff.mp H
              obtain ⟨⟨t240, t241⟩, A350, H⟩ := H
              replace H : ((field_Value.f kj722 8 a3 a4).bind fun bt242 => ((field_Get.f t224 t225 a2 a3 true).bind fun bt244 => (if t238 = true then (if bt244.2.1 = true then ((mortiselaw08_num.f t239).bind fun t247 => (if t247 = 0 then ((mortiselaw08_num.f t241).bind fun t248 => (if t248 = 0 then ((mortiselaw08_num.f bt242.2).bind fun t249 => (if t249 = 0 then ((mortiselaw08_num.f bt244.2.2).bind fun t250 => (if t250 = 0 then (if t237 = t240 then (if bt244.1 = bt242.1 then ((mortiselaw08_heads.f kj722).bind fun t251 => (some t251)) else (none)) else (none)) else (none))) else (none))) else (none))) else (none))) else (none)) else (none)))) = some r := H
              have A35 := Aside0.mk A350
              clear A350
              replace H := Option.bind_eq_some_iff.mp H
              obtain ⟨⟨t242, t243⟩, A360, H⟩ := H
              replace H : ((field_Get.f t224 t225 a2 a3 true).bind fun bt244 => (if t238 = true then (if bt244.2.1 = true then ((mortiselaw08_num.f t239).bind fun t247 => (if t247 = 0 then ((mortiselaw08_num.f t241).bind fun t248 => (if t248 = 0 then ((mortiselaw08_num.f t243).bind fun t249 => (if t249 = 0 then ((mortiselaw08_num.f bt244.2.2).bind fun t250 => (if t250 = 0 then (if t237 = t240 then (if bt244.1 = t242 then ((mortiselaw08_heads.f kj722).bind fun t251 => (some t251)) else (none)) else (none)) else (none))) else (none))) else (none))) else (none))) else (none)) else (none))) = some r := H
              have A36 := Aside0.mk A360
              clear A360
              replace H := Option.bind_eq_some_iff.mp H
              obtain ⟨⟨t244, t245, t246⟩, A370, H⟩ := H
              replace H : (if t238 = true then (if t245 = true then ((mortiselaw08_num.f t239).bind fun t247 => (if t247 = 0 then ((mortiselaw08_num.f t241).bind fun t248 => (if t248 = 0 then ((mortiselaw08_num.f t243).bind fun t249 => (if t249 = 0 then ((mortiselaw08_num.f t246).bind fun t250 => (if t250 = 0 then (if t237 = t240 then (if t244 = t242 then ((mortiselaw08_heads.f kj722).bind fun t251 => (some t251)) else (none)) else (none)) else (none))) else (none))) else (none))) else (none))) else (none)) else (none)) = some r := H
              have A37 := Aside0.mk A370
              clear A370
              by_cases c38 : t238 = true
              · subst c38
                have H1 : (if t245 = true then ((mortiselaw08_num.f t239).bind fun t247 => (if t247 = 0 then ((mortiselaw08_num.f t241).bind fun t248 => (if t248 = 0 then ((mortiselaw08_num.f t243).bind fun t249 => (if t249 = 0 then ((mortiselaw08_num.f t246).bind fun t250 => (if t250 = 0 then (if t237 = t240 then (if t244 = t242 then ((mortiselaw08_heads.f kj722).bind fun t251 => (some t251)) else (none)) else (none)) else (none))) else (none))) else (none))) else (none))) else (none)) = some r := by rw [if_pos rfl] at H; exact H
                clear H
                have H := H1
                clear H1
                by_cases c39 : t245 = true
                · subst c39
                  have H1 : ((mortiselaw08_num.f t239).bind fun t247 => (if t247 = 0 then ((mortiselaw08_num.f t241).bind fun t248 => (if t248 = 0 then ((mortiselaw08_num.f t243).bind fun t249 => (if t249 = 0 then ((mortiselaw08_num.f t246).bind fun t250 => (if t250 = 0 then (if t237 = t240 then (if t244 = t242 then ((mortiselaw08_heads.f kj722).bind fun t251 => (some t251)) else (none)) else (none)) else (none))) else (none))) else (none))) else (none))) = some r := by rw [if_pos rfl] at H; exact H
                  clear H
                  have H := H1
                  clear H1
                  replace H := Option.bind_eq_some_iff.mp H
                  obtain ⟨t247, A400, H⟩ := H
                  replace H : (if t247 = 0 then ((mortiselaw08_num.f t241).bind fun t248 => (if t248 = 0 then ((mortiselaw08_num.f t243).bind fun t249 => (if t249 = 0 then ((mortiselaw08_num.f t246).bind fun t250 => (if t250 = 0 then (if t237 = t240 then (if t244 = t242 then ((mortiselaw08_heads.f kj722).bind fun t251 => (some t251)) else (none)) else (none)) else (none))) else (none))) else (none))) else (none)) = some r := H
                  have A40 := Aside0.mk A400
                  clear A400
                  by_cases c41 : t247 = 0
                  · rw [if_pos c41] at H
                    have c41b0 : (t247 == 0) = true := beq_iff_eq.mpr c41
                    have c41b1 : (t247 != 0) = false := bne_eq_false_iff_eq.mpr c41
                    clear c41
                    replace H := Option.bind_eq_some_iff.mp H
                    obtain ⟨t248, A420, H⟩ := H
                    replace H : (if t248 = 0 then ((mortiselaw08_num.f t243).bind fun t249 => (if t249 = 0 then ((mortiselaw08_num.f t246).bind fun t250 => (if t250 = 0 then (if t237 = t240 then (if t244 = t242 then ((mortiselaw08_heads.f kj722).bind fun t251 => (some t251)) else (none)) else (none)) else (none))) else (none))) else (none)) = some r := H
                    have A42 := Aside0.mk A420
                    clear A420
                    by_cases c43 : t248 = 0
                    · rw [if_pos c43] at H
                      have c43b0 : (t248 == 0) = true := beq_iff_eq.mpr c43
                      have c43b1 : (t248 != 0) = false := bne_eq_false_iff_eq.mpr c43
                      clear c43
                      replace H := Option.bind_eq_some_iff.mp H
                      obtain ⟨t249, A440, H⟩ := H
                      replace H : (if t249 = 0 then ((mortiselaw08_num.f t246).bind fun t250 => (if t250 = 0 then (if t237 = t240 then (if t244 = t242 then ((mortiselaw08_heads.f kj722).bind fun t251 => (some t251)) else (none)) else (none)) else (none))) else (none)) = some r := H
                      have A44 := Aside0.mk A440
                      clear A440
                      by_cases c45 : t249 = 0
                      · rw [if_pos c45] at H
                        have c45b0 : (t249 == 0) = true := beq_iff_eq.mpr c45
                        have c45b1 : (t249 != 0) = false := bne_eq_false_iff_eq.mpr c45
                        clear c45
                        replace H := Option.bind_eq_some_iff.mp H
                        obtain ⟨t250, A460, H⟩ := H
                        replace H : (if t250 = 0 then (if t237 = t240 then (if t244 = t242 then ((mortiselaw08_heads.f kj722).bind fun t251 => (some t251)) else (none)) else (none)) else (none)) = some r := H
                        have A46 := Aside0.mk A460
                        clear A460
                        by_cases c47 : t250 = 0
                        · rw [if_pos c47] at H
                          have c47b0 : (t250 == 0) = true := beq_iff_eq.mpr c47
                          have c47b1 : (t250 != 0) = false := bne_eq_false_iff_eq.mpr c47
                          clear c47
                          by_cases c48 : t237 = t240
                          · rw [if_pos c48] at H
                            have c48b0 : (t237 == t240) = true := beq_iff_eq.mpr c48
                            have c48b1 : (t237 != t240) = false := bne_eq_false_iff_eq.mpr c48
                            clear c48
                            by_cases c49 : t244 = t242
                            · rw [if_pos c49] at H
                              have c49b0 : (t244 == t242) = true := beq_iff_eq.mpr c49
                              have c49b1 : (t244 != t242) = false := bne_eq_false_iff_eq.mpr c49
                              clear c49
                              replace H := Option.bind_eq_some_iff.mp H
                              obtain ⟨t251, A500, H⟩ := H
                              replace H : (some t251) = some r := H
                              have A50 := Aside0.mk A500
                              clear A500
                              obtain rfl := Option.some.inj H
                              go_wp2_with (first | ((with_reducible refine gate_callee (f := 26) rfl ?_); refine goesL_ (some 143) rfl rfl Try.func26 (by kernel_rfl) rfl #[.int .u32 t224, .int .u32 t225, .int .i64 a2, .int .i64 a3, .bool false] rfl (by (try simp only [List.map_toArray, List.map_cons, List.map_nil]); first | done | rfl | (simp only [List.length_drop, List.length_take]; rfl)) ?_; (with_reducible refine (field_Get.calls t224 t225 a2 a3 false t237 true t239 _ A34.out).mono ?_); rintro e w' ⟨rfl, ⟨nd, rfl⟩⟩; refine ⟨_, rfl, ?_⟩) | ((with_reducible refine gate_callee (f := 32) rfl ?_); refine goesL_ (some 150) rfl rfl Try.func32 (by kernel_rfl) rfl #[.int .i64 9, .int .i64 a3, .int .u32 a4] rfl (by (try simp only [List.map_toArray, List.map_cons, List.map_nil]); first | done | rfl | (simp only [List.length_drop, List.length_take]; rfl)) ?_; (with_reducible refine (field_Value.calls kj722 9 a3 a4 t240 t241 _ A35.out).mono ?_); rintro e w' ⟨rfl, ⟨nd, rfl⟩⟩; refine ⟨_, rfl, ?_⟩) | ((with_reducible refine gate_callee (f := 32) rfl ?_); refine goesL_ (some 156) rfl rfl Try.func32 (by kernel_rfl) rfl #[.int .i64 8, .int .i64 a3, .int .u32 a4] rfl (by (try simp only [List.map_toArray, List.map_cons, List.map_nil]); first | done | rfl | (simp only [List.length_drop, List.length_take]; rfl)) ?_; (with_reducible refine (field_Value.calls kj722 8 a3 a4 t242 t243 _ A36.out).mono ?_); rintro e w' ⟨rfl, ⟨nd, rfl⟩⟩; refine ⟨_, rfl, ?_⟩) | ((with_reducible refine gate_callee (f := 26) rfl ?_); refine goesL_ (some 164) rfl rfl Try.func26 (by kernel_rfl) rfl #[.int .u32 t224, .int .u32 t225, .int .i64 a2, .int .i64 a3, .bool true] rfl (by (try simp only [List.map_toArray, List.map_cons, List.map_nil]); first | done | rfl | (simp only [List.length_drop, List.length_take]; rfl)) ?_; (with_reducible refine (field_Get.calls t224 t225 a2 a3 true t244 true t246 _ A37.out).mono ?_); rintro e w' ⟨rfl, ⟨nd, rfl⟩⟩; refine ⟨_, rfl, ?_⟩) | (go_at_call 30; (with_reducible refine (mortiselaw08_num.calls t239 t247 _ A40.out).mono ?_); rintro e w' ⟨rfl, ⟨nd, rfl⟩⟩) | (go_at_call 30; (with_reducible refine (mortiselaw08_num.calls t241 t248 _ A42.out).mono ?_); rintro e w' ⟨rfl, ⟨nd, rfl⟩⟩) | (go_at_call 30; (with_reducible refine (mortiselaw08_num.calls t243 t249 _ A44.out).mono ?_); rintro e w' ⟨rfl, ⟨nd, rfl⟩⟩) | (go_at_call 30; (with_reducible refine (mortiselaw08_num.calls t246 t250 _ A46.out).mono ?_); rintro e w' ⟨rfl, ⟨nd, rfl⟩⟩) | (go_at_call 31; (with_reducible refine (mortiselaw08_heads.calls kj722  t251 _ A50.out).mono ?_); rintro e w51 ⟨rfl, hb⟩; have n0_ := Aside0.mk (below_step (by repeat (first | (with_reducible first | exact HB.out | apply below_alloc | apply pw_below_drewN | apply below_drew1) | exact HB.out)) hb); clear HB; have HB := n0_; clear n0_; (try clear hb); (try clear hb2); (try clear hk); (try clear hi)))
                              go_ret
                              exact ⟨by first | rfl | (simp [errW_none, errW_some] <;> rfl) | (simp [*, errW_none, errW_some] <;> rfl), by repeat (first | (with_reducible first | exact HB.out | apply below_alloc | apply pw_below_drewN | apply below_drew1) | exact HB.out)⟩
                            · rw [if_neg c49] at H
                              exact absurd H (by simp)
                          · rw [if_neg c48] at H
                            exact absurd H (by simp)
                        · rw [if_neg c47] at H
                          exact absurd H (by simp)
                      · rw [if_neg c45] at H
                        exact absurd H (by simp)
                    · rw [if_neg c43] at H
                      exact absurd H (by simp)
                  · rw [if_neg c41] at H
                    exact absurd H (by simp)
                · replace c39 := Bool.eq_false_iff.mpr c39
                  subst c39
                  have H1 : (none) = some r := by rw [if_neg (show ¬ (false = true) by decide)] at H; exact H
                  clear H
                  have H := H1
                  clear H1
                  exact absurd H (by simp)
              · replace c38 := Bool.eq_false_iff.mpr c38
                subst c38
                have H1 : (none) = some r := by rw [if_neg (show ¬ (false = true) by decide)] at H; exact H
                clear H
                have H := H1
                clear H1
                exact absurd H (by simp)

/-- THE ONE PURE STATEMENT of mortiselaw08_FieldApart: yours. -/
def mortiselaw08_FieldApart.Pure : Prop := ∀ (a0 : Int) (a1 : Int) (a2 : Int) (a3 : Int) (a4 : Int) (a5 : Int) (a6 : Int) (a7 : Int), (Lit.int .u32 a0).wf = true → (Lit.int .u32 a1).wf = true → (Lit.int .i64 a2).wf = true → (Lit.int .i64 a3).wf = true → (Lit.int .u32 a4).wf = true → (Lit.int .i64 a5).wf = true → (Lit.int .i64 a6).wf = true → (Lit.int .u32 a7).wf = true → ∃ k, mortiselaw08_FieldApart.f k a0 a1 a2 a3 a4 a5 a6 a7 = some true
theorem mortiselaw08_FieldApart.walk (P : mortiselaw08_FieldApart.Pure) (a0 : Int) (a1 : Int) (a2 : Int) (a3 : Int) (a4 : Int) (a5 : Int) (a6 : Int) (a7 : Int) (w : World) (w0 : (Lit.int .u32 a0).wf = true) (w1 : (Lit.int .u32 a1).wf = true) (w2 : (Lit.int .i64 a2).wf = true) (w3 : (Lit.int .i64 a3).wf = true) (w4 : (Lit.int .u32 a4).wf = true) (w5 : (Lit.int .i64 a5).wf = true) (w6 : (Lit.int .i64 a6).wf = true) (w7 : (Lit.int .u32 a7).wf = true) :
    Calls Try.prog 9 #[.int .u32 a0, .int .u32 a1, .int .i64 a2, .int .i64 a3, .int .u32 a4, .int .i64 a5, .int .i64 a6, .int .u32 a7] w fun e w' => e = .returned (.bool true) ∧ Below w.heap.size w w' := by
  obtain ⟨k, h⟩ := P a0 a1 a2 a3 a4 a5 a6 a7 w0 w1 w2 w3 w4 w5 w6 w7
  refine (mortiselaw08_FieldApart.calls k a0 a1 a2 a3 a4 a5 a6 a7 true w h).mono ?_
  rintro e w' ⟨rfl, hd⟩
  exact ⟨rfl, hd⟩

/-! ### field_Read: function 45 (by hand) -/
theorem heap_at_last (W : World) (o : Obj) (n : Nat) (h : n = W.heap.size) : (W.alloc o).heap[n]? = some o := by subst h; exact heap_alloc_last W o
set_option maxHeartbeats 8000000 in
set_option maxRecDepth 100000 in
theorem field_Read.done (p3 p4 v a2 y : Int) (s b : Bool) (gp gk gx : Nat) (W : World) (hp3 : W.cell? ⟨gp, 3, none⟩ = some (.int .i64 p3)) (hp4 : W.cell? ⟨gp, 4, none⟩ = some (.int .i64 p4)) (hk : W.cell? ⟨gk, 0, none⟩ = some (.int .i64 a2)) (x0 : Value) (hx : W.cell? ⟨gx, 0, none⟩ = some x0) (hxf : W.frozen? ⟨gx, 0, none⟩ = false)
    (hs : word_Signed.f a2 = some s) (h : field_Get.f v 4294967295 p3 p4 s = some (y, b, 0)) :
    Calls Try.prog 62 #[.int .u32 v, .pointer (some ⟨gp, 0, none⟩), .pointer (some ⟨gk, 0, none⟩), .pointer (some ⟨gx, 0, none⟩)] W fun E W' => E = .returned (.tuple #[.int .u32 v, .int .i64 0]) ∧ ∃ n, W' = (W.drewN n).setCell ⟨gx, 0, none⟩ (.int .u32 y) := by
  have HG := Aside0.mk h
  have HS := Aside0.mk hs
  clear h hs
  have hu64 := Try.underlying64
  go_enter Try.func62, Try.ntmps62
  go_wp2_with (fail)
  go_quiet ((first | (go_at_call 35; exact Calls.quiet_of ((word_Signed.calls a2 s _ HS.out).mono fun e w' h => ⟨h.1, h.2.out⟩)) | (go_at_call 26; exact Calls.quiet_of ((field_Get.calls v 4294967295 p3 p4 s y b 0 _ HG.out).mono fun e w' h => ⟨h.1, h.2.out⟩))))
  go_wp2_with (fail)
  go_ret2
  exact ⟨rfl, _, rfl⟩
def field_Read.g (k : Nat) (l0 : List Int) (a1_0 : Int) (a1_1 : Int) (a1_2 : Int) (a1_3 : Int) (a1_4 : Int) (a2 : Int) : Option (Int × Int) :=
  (word_Width.f k a2).bind fun t1 => (field_right.f k a1_0 a1_1 a1_2 a1_3 a1_4 a2).bind fun t2 =>
    if (t1 = 0 ∨ t1 = 1 ∨ t1 = 2 ∨ t1 = 4) ∧ l0.length < 140737488355328 then
    if t2 = true ∧ t1 ≤ (l0.length : Int) ∧ a1_2 ≤ (l0.length : Int) - t1 then
      if 0 ≤ a1_2 ∧ t1 ≠ 0 then
      (word_Signed.f a2).bind fun s => (field_Get.f (field_unit.num l0 a1_2 t1.toNat) 4294967295 a1_3 a1_4 s).bind fun bt3 =>
        if bt3.2.2 = 0 then (word_Bytes.f k (field_unit.num l0 a1_2 t1.toNat) t1).bind fun t4 => if (t4.length : Int) = t1 then some (bt3.1, 0) else none else none
      else none
    else some (0, 80)
    else none
set_option maxHeartbeats 8000000 in
set_option maxRecDepth 100000 in
theorem field_Read.unit (k : Nat) (A0 : Option Addr) (c0 : Nat) (l0 : List Int) (p0 p1 p2 p3 p4 a2 : Int) (r1 r2 : Int) (w0 w : World) (gp gk gx : Nat) (hr0 : Kd.C (Kd.int .u8) w0 A0 l0.length l0) (hc0 : l0.length ≤ c0)
    (HB : Below w0.heap.size w0 w) (hgx0 : w0.heap.size ≤ gx) (hgx : gx < w.heap.size)
    (hp3 : w.cell? ⟨gp, 3, none⟩ = some (.int .i64 p3)) (hp4 : w.cell? ⟨gp, 4, none⟩ = some (.int .i64 p4)) (hk : w.cell? ⟨gk, 0, none⟩ = some (.int .i64 a2)) (hx : w.heap[gx]? = some (.cells #[.int .u32 0] 22 (0, 0)))
    (h : field_Read.g k l0 p0 p1 p2 p3 p4 a2 = some (r1, r2)) :
    Calls Try.prog 60 #[.slice A0 l0.length c0, .agg #[.int .i64 p0, .int .i64 p1, .int .i64 p2, .int .i64 p3, .int .i64 p4], .int .i64 a2, .func (.func 62) #[] #[.pointer (some ⟨gp, 0, none⟩), .pointer (some ⟨gk, 0, none⟩), .pointer (some ⟨gx, 0, none⟩)]] w
      fun e w' => ∃ v0_ : Value, e = .returned (.tuple #[v0_, .int .i64 r2]) ∧ w'.cell? ⟨gx, 0, none⟩ = some (.int .u32 r1) ∧ Below w0.heap.size w0 w' := by
  unfold field_Read.g at h
  obtain ⟨t1, hw, h⟩ := Option.bind_eq_some_iff.mp h
  obtain ⟨t2, hr, h⟩ := Option.bind_eq_some_iff.mp h
  have hlen : l0.length ≤ 9223372036854775807 := hr0.2.1
  by_cases c1 : (t1 = 0 ∨ t1 = 1 ∨ t1 = 2 ∨ t1 = 4) ∧ l0.length < 140737488355328
  · rw [if_pos c1] at h
    obtain ⟨wd, rfl⟩ := Int.eq_ofNat_of_zero_le (show 0 ≤ t1 by omega)
    by_cases c2 : t2 = true ∧ (wd : Int) ≤ (l0.length : Int) ∧ p2 ≤ (l0.length : Int) - wd
    · rw [if_pos c2] at h
      obtain ⟨rfl, c3, c4⟩ := c2
      by_cases c5 : 0 ≤ p2 ∧ (wd : Int) ≠ 0
      · rw [if_pos c5] at h
        obtain ⟨s, hs, h⟩ := Option.bind_eq_some_iff.mp h
        obtain ⟨⟨y, b, e1⟩, hG, h⟩ := Option.bind_eq_some_iff.mp h
        simp only at h
        by_cases c6 : e1 = 0
        · rw [if_pos c6] at h
          subst c6
          obtain ⟨bs, hb, h⟩ := Option.bind_eq_some_iff.mp h
          by_cases c7 : (bs.length : Int) = (wd : Int)
          · rw [if_pos c7] at h
            simp only [Option.some.injEq, Prod.mk.injEq] at h
            obtain ⟨rfl, rfl⟩ := h
            refine (field_unit.yes k (w0 := w0) A0 c0 l0 p0 p1 p2 p3 p4 a2 62 #[.pointer (some ⟨gp, 0, none⟩), .pointer (some ⟨gk, 0, none⟩), .pointer (some ⟨gx, 0, none⟩)] (field_unit.num l0 p2 wd) wd bs
              (fun W => W.cell? ⟨gp, 3, none⟩ = some (.int .i64 p3) ∧ W.cell? ⟨gp, 4, none⟩ = some (.int .i64 p4) ∧ W.cell? ⟨gk, 0, none⟩ = some (.int .i64 a2) ∧ W.heap[gx]? = some (.cells #[.int .u32 0] 22 (0, 0))) (fun W => W.cell? ⟨gx, 0, none⟩ = some (.int .u32 y)) w
              hr0 hc0 (fun W W' hb ⟨h1, h2, h3, h4⟩ => ⟨pw_cell_below hb h1, pw_cell_below hb h2, pw_cell_below hb h3, (hb.block gx (Array.getElem?_eq_some_iff.1 h4).1).trans h4⟩) (fun W W' hb h1 => pw_cell_below hb h1) hw hr (by omega) c5.1 c1.2 c3 c4 ?_ Try.func62 (by kernel_rfl) rfl hb (by omega) HB ⟨hp3, hp4, hk, hx⟩).mono ?_
            · intro W hB ⟨h1, h2, h3, h4⟩
              refine (field_Read.done p3 p4 _ a2 y s b gp gk gx W h1 h2 h3 (.int .u32 0) (by rw [cell_of_row _ _ _ _ _ _ h4]; rfl) (by simp [World.frozen?, h4]) hs hG).mono ?_
              rintro e W' ⟨rfl, ⟨nd, rfl⟩⟩
              have h4' : (W.drewN nd).heap[gx]? = some (.cells #[.int .u32 0] 22 (0, 0)) := h4
              refine ⟨rfl, ?_, ?_, (pw_below_drewN hB nd).setCell hgx0 _⟩
              · exact World.cell?_setCell_same' (W.drewN nd) _ _ (by rw [cell_of_row _ _ _ _ _ _ h4']; rfl)
              · intro q hq hq'
                rw [Below.heap_setCell _ _ _ _ (by simp; omega)]
                rfl
            · rintro e W' ⟨v0_, rfl, _, h1, h2⟩
              exact ⟨v0_, rfl, h1, h2⟩
          · rw [if_neg c7] at h
            exact absurd h (by simp)
        · rw [if_neg c6] at h
          exact absurd h (by simp)
      · rw [if_neg c5] at h
        exact absurd h (by simp)
    · rw [if_neg c2] at h
      simp only [Option.some.injEq, Prod.mk.injEq] at h
      obtain ⟨rfl, rfl⟩ := h
      refine (field_unit.no k A0 c0 l0 p0 p1 p2 p3 p4 a2 _ wd t2 w hlen hw hr (by omega) (by cases t2 <;> simp at c2 ⊢; omega)).mono ?_
      rintro e W' ⟨rfl, h2⟩
      exact ⟨_, rfl, pw_cell_below h2 (by rw [cell_of_row _ _ _ _ _ _ hx]; rfl), below_then HB HB.size h2⟩
  · rw [if_neg c1] at h
    exact absurd h (by simp)
set_option maxHeartbeats 8000000 in
set_option maxRecDepth 100000 in
theorem field_Read.gcalls (k : Nat) (A0 : Option Addr) (c0 : Nat) (l0 : List Int) (p0 p1 p2 p3 p4 a2 : Int) (r1 : Int) (r2 : Int) (w : World) (hr0 : Kd.C (Kd.int .u8) w A0 l0.length l0) (hc0 : l0.length ≤ c0) (h : field_Read.g k l0 p0 p1 p2 p3 p4 a2 = some (r1, r2)) :
    Calls Try.prog 45 #[.slice A0 l0.length c0, .agg #[.int .i64 p0, .int .i64 p1, .int .i64 p2, .int .i64 p3, .int .i64 p4], .int .i64 a2] w fun e w' => e = .returned (.tuple #[.int .u32 r1, .int .i64 r2]) ∧ Below w.heap.size w w' := by
  have HU := Aside0.mk h
  have HR0 := Aside0.mk hr0
  clear h hr0
  have hu64 := Try.underlying64
  go_enter Try.func45, Try.ntmps45
  go_wp2_with (fail)
  refine (field_Read.unit k A0 c0 l0 p0 p1 p2 p3 p4 a2 r1 r2 w _ w.heap.size (w.heap.size + 1) (w.heap.size + 1 + 1) HR0.out hc0 ?_ ?_ ?_ ?_ ?_ ?_ ?_ HU.out).mono ?_
  rotate_right
  · rintro e w3 ⟨v3, rfl, h1, h2⟩
    have H2 := Aside0.mk h2
    clear h2
    go_wp2_with (fail)
    go_ret2
    exact ⟨rfl, H2.out⟩
  · repeat (first | (with_reducible first | exact Below.refl _ _ | apply below_alloc | apply pw_below_drewN | apply below_drew1) | exact Below.refl _ _ | (refine Below.setCell ?_ (by simp) _))
  all_goals first | (simp; done) | omega | exact heap_at_last _ _ _ (by simp) | (simp; omega) | (go_simp; done)
def field_Read.f (k : Nat) (l0 : List Int) (a1_0 : Int) (a1_1 : Int) (a1_2 : Int) (a1_3 : Int) (a1_4 : Int) (a2 : Int) : Option (Int × Int) := field_Read.g k l0 a1_0 a1_1 a1_2 a1_3 a1_4 a2
theorem field_Read.mono : ∀ a0 a1 a2 a3 a4 a5 a6 k, LeO (field_Read.f k a0 a1 a2 a3 a4 a5 a6) (field_Read.f (k + 1) a0 a1 a2 a3 a4 a5 a6) := by
  intro a0 a1 a2 a3 a4 a5 a6 k
  unfold field_Read.f field_Read.g
  repeat' first
      | (with_reducible exact word_Width.mono _ _)
      | (with_reducible exact field_right.mono _ _ _ _ _ _ _)
      | (with_reducible exact word_Bytes.mono _ _ _)
      | (with_reducible exact LeO.refl _)
      | (with_reducible exact LeO.none _)
      | (with_reducible refine LeO.ite ?_ ?_)
      | (with_reducible refine LeO.bind ?_ (fun _ => ?_))
theorem field_Read.calls (k : Nat) (A0 : Option Addr) (c0 : Nat) (l0 : List Int) (a1_0 : Int) (a1_1 : Int) (a1_2 : Int) (a1_3 : Int) (a1_4 : Int) (a2 : Int) (r1 : Int) (r2 : Int) (w : World) (hr0 : Kd.C (Kd.int .u8) w A0 l0.length l0) (hc0 : l0.length ≤ c0) (h : field_Read.f k l0 a1_0 a1_1 a1_2 a1_3 a1_4 a2 = some (r1, r2)) :
    Calls Try.prog 45 #[.slice A0 l0.length c0, .agg #[.int .i64 a1_0, .int .i64 a1_1, .int .i64 a1_2, .int .i64 a1_3, .int .i64 a1_4], .int .i64 a2] w fun e w' => e = .returned (.tuple #[.int .u32 r1, .int .i64 r2]) ∧ Below w.heap.size w w' :=
  field_Read.gcalls k A0 c0 l0 a1_0 a1_1 a1_2 a1_3 a1_4 a2 r1 r2 w hr0 hc0 h

end Go.Proofs.Ytmkhfedemoccoaa.PFd
