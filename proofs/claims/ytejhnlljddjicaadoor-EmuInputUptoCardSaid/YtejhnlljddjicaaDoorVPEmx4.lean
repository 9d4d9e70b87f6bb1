/- What Go functions answer, proved by walking their code (written by a program of this session, a changed copy of the print). Conditions: none beyond the ones each theorem names. -/
import Derived.Test.YtejhnlljddjicaaDoorVPEmx0
namespace Go.Proofs.YtejhnlljddjicaaDoor.PEm
open Go.RowKit Go.Proofs.YtejhnlljddjicaaDoorW.PrintWords Go.Proofs.YtejhnlljddjicaaDoorW.PrintLast Go.Proofs.YtejhnlljddjicaaDoorW.PrintMore
attribute [local go_sem] max2_int min2_int max_two min_two max_three min_three max_four min_four   -- for this text's walks alone
set_option linter.unusedVariables false
set_option linter.unusedSimpArgs false

-- NOT PRINTED: function 47 (errors_as)

-- NOT PRINTED: function 30 (errors_As)

-- NOT PRINTED: function 16 (emu_Machine_Step)

-- NOT PRINTED: function 20 (emu_Machine_Outcome)

-- NOT PRINTED: function 8 (emu_Run)

-- NOT PRINTED: function 21 (mortiseref21_New)

-- NOT PRINTED: function 69 (mortiseref21_M_end)

-- NOT PRINTED: function 48 (mortiseref21_M_trap)

-- NOT PRINTED: function 49 (mortiseref21_M_byteAt)

/-! ### mortiseref01_Of: function 51 -/
def mortiseref01_Of.f (a0 : Int) : Option (Int) := some ((Go.bits .and .u64 (IntKind.u64.wrap (a0)) 4294967295) % 4294967296)
set_option maxHeartbeats 8000000 in
set_option maxRecDepth 100000 in
theorem mortiseref01_Of.calls (a0 : Int) (r : Int) (w : World) (h : mortiseref01_Of.f a0 = some r) :
  Calls Tryd.prog 51 #[.int .i64 a0] w fun e w' => e = .returned (.int .u32 r) ∧ Drawn0 w w' := by
 have H : (some ((Go.bits .and .u64 (IntKind.u64.wrap (a0)) 4294967295) % 4294967296)) = some r := h
 clear h
 obtain rfl := Option.some.inj H
 go_enter Tryd.func51, Tryd.ntmps51
 go_wp2
 go_ret
 exact ⟨by first | rfl | (simp; done) | (simp [*]; done), by repeat (first | exact Drawn0.refl _ | apply Drawn0.step)⟩

/-! ### mortiseref01_Names: function 92 -/
def mortiseref01_Names.f  : Option (List ByteArray) := some (([(⟨#[97, 100, 100]⟩ : ByteArray), (⟨#[115, 117, 98]⟩ : ByteArray), (⟨#[109, 117, 108]⟩ : ByteArray), (⟨#[100, 105, 118, 115]⟩ : ByteArray), (⟨#[100, 105, 118, 117]⟩ : ByteArray), (⟨#[114, 101, 109, 115]⟩ : ByteArray), (⟨#[114, 101, 109, 117]⟩ : ByteArray), (⟨#[97, 110, 100]⟩ : ByteArray), (⟨#[111, 114]⟩ : ByteArray), (⟨#[120, 111, 114]⟩ : ByteArray), (⟨#[115, 104, 108]⟩ : ByteArray), (⟨#[115, 104, 114, 115]⟩ : ByteArray), (⟨#[115, 104, 114, 117]⟩ : ByteArray), (⟨#[101, 113]⟩ : ByteArray), (⟨#[110, 101]⟩ : ByteArray), (⟨#[108, 116, 115]⟩ : ByteArray), (⟨#[108, 116, 117]⟩ : ByteArray), (⟨#[108, 101, 115]⟩ : ByteArray), (⟨#[108, 101, 117]⟩ : ByteArray)] : List ByteArray))
set_option maxHeartbeats 8000000 in
set_option maxRecDepth 100000 in
theorem mortiseref01_Names.calls  (r : List ByteArray) (w : World) (h : mortiseref01_Names.f  = some r) :
  Calls Tryd.prog 92 #[] w fun e w' => ∃ v0_ : Value, e = .returned (v0_) ∧ Kd.R Kd.string 9 w' w.heap.size (fun _ => True) v0_ r ∧ Below w.heap.size w w' := by
 have HB := Aside0.mk (Below.refl w.heap.size w)
 have H : (some (([(⟨#[97, 100, 100]⟩ : ByteArray), (⟨#[115, 117, 98]⟩ : ByteArray), (⟨#[109, 117, 108]⟩ : ByteArray), (⟨#[100, 105, 118, 115]⟩ : ByteArray), (⟨#[100, 105, 118, 117]⟩ : ByteArray), (⟨#[114, 101, 109, 115]⟩ : ByteArray), (⟨#[114, 101, 109, 117]⟩ : ByteArray), (⟨#[97, 110, 100]⟩ : ByteArray), (⟨#[111, 114]⟩ : ByteArray), (⟨#[120, 111, 114]⟩ : ByteArray), (⟨#[115, 104, 108]⟩ : ByteArray), (⟨#[115, 104, 114, 115]⟩ : ByteArray), (⟨#[115, 104, 114, 117]⟩ : ByteArray), (⟨#[101, 113]⟩ : ByteArray), (⟨#[110, 101]⟩ : ByteArray), (⟨#[108, 116, 115]⟩ : ByteArray), (⟨#[108, 116, 117]⟩ : ByteArray), (⟨#[108, 101, 115]⟩ : ByteArray), (⟨#[108, 101, 117]⟩ : ByteArray)] : List ByteArray))) = some r := h
 clear h
 obtain ⟨y126, hy126⟩ : ∃ y_ : List ByteArray, y_ = (([(⟨#[97, 100, 100]⟩ : ByteArray), (⟨#[115, 117, 98]⟩ : ByteArray), (⟨#[109, 117, 108]⟩ : ByteArray), (⟨#[100, 105, 118, 115]⟩ : ByteArray), (⟨#[100, 105, 118, 117]⟩ : ByteArray), (⟨#[114, 101, 109, 115]⟩ : ByteArray), (⟨#[114, 101, 109, 117]⟩ : ByteArray), (⟨#[97, 110, 100]⟩ : ByteArray), (⟨#[111, 114]⟩ : ByteArray), (⟨#[120, 111, 114]⟩ : ByteArray), (⟨#[115, 104, 108]⟩ : ByteArray), (⟨#[115, 104, 114, 115]⟩ : ByteArray), (⟨#[115, 104, 114, 117]⟩ : ByteArray), (⟨#[101, 113]⟩ : ByteArray), (⟨#[110, 101]⟩ : ByteArray), (⟨#[108, 116, 115]⟩ : ByteArray), (⟨#[108, 116, 117]⟩ : ByteArray), (⟨#[108, 101, 115]⟩ : ByteArray), (⟨#[108, 101, 117]⟩ : ByteArray)] : List ByteArray)) := ⟨_, rfl⟩
 replace H : (some y126) = some r := by first | (rw [hy126]; with_reducible exact H) | (have H2_ := (Option.bind_some _ _).symm.trans H; rw [hy126]; with_reducible exact H2_) | (have H2_ := (Option.bind_some _ _).symm.trans H; with_reducible exact H2_) | with_reducible exact H | (rw [hy126]; exact H) | exact H
 have Ny126 := Aside0.mk hy126
 clear hy126
 obtain rfl := Option.some.inj H
 go_enter Tryd.func92, Tryd.ntmps92
 go_wp2_with (first | ((with_reducible refine gate_dst (N := 1) rfl ?_); refine Kd.R_lit Kd.string _ 9 ?hg (N := 1) ?hd (xs := ([(⟨#[97, 100, 100]⟩ : ByteArray), (⟨#[115, 117, 98]⟩ : ByteArray), (⟨#[109, 117, 108]⟩ : ByteArray), (⟨#[100, 105, 118, 115]⟩ : ByteArray), (⟨#[100, 105, 118, 117]⟩ : ByteArray), (⟨#[114, 101, 109, 115]⟩ : ByteArray), (⟨#[114, 101, 109, 117]⟩ : ByteArray), (⟨#[97, 110, 100]⟩ : ByteArray), (⟨#[111, 114]⟩ : ByteArray), (⟨#[120, 111, 114]⟩ : ByteArray), (⟨#[115, 104, 108]⟩ : ByteArray), (⟨#[115, 104, 114, 115]⟩ : ByteArray), (⟨#[115, 104, 114, 117]⟩ : ByteArray), (⟨#[101, 113]⟩ : ByteArray), (⟨#[110, 101]⟩ : ByteArray), (⟨#[108, 116, 115]⟩ : ByteArray), (⟨#[108, 116, 117]⟩ : ByteArray), (⟨#[108, 101, 115]⟩ : ByteArray), (⟨#[108, 101, 117]⟩ : ByteArray)] : List ByteArray)) (inner := [.string (⟨#[97, 100, 100]⟩ : ByteArray), .string (⟨#[115, 117, 98]⟩ : ByteArray), .string (⟨#[109, 117, 108]⟩ : ByteArray), .string (⟨#[100, 105, 118, 115]⟩ : ByteArray), .string (⟨#[100, 105, 118, 117]⟩ : ByteArray), .string (⟨#[114, 101, 109, 115]⟩ : ByteArray), .string (⟨#[114, 101, 109, 117]⟩ : ByteArray), .string (⟨#[97, 110, 100]⟩ : ByteArray), .string (⟨#[111, 114]⟩ : ByteArray), .string (⟨#[120, 111, 114]⟩ : ByteArray), .string (⟨#[115, 104, 108]⟩ : ByteArray), .string (⟨#[115, 104, 114, 115]⟩ : ByteArray), .string (⟨#[115, 104, 114, 117]⟩ : ByteArray), .string (⟨#[101, 113]⟩ : ByteArray), .string (⟨#[110, 101]⟩ : ByteArray), .string (⟨#[108, 116, 115]⟩ : ByteArray), .string (⟨#[108, 116, 117]⟩ : ByteArray), .string (⟨#[108, 101, 115]⟩ : ByteArray), .string (⟨#[108, 101, 117]⟩ : ByteArray)]) (ok := fun _ => True) (okp := fun _ => True) ?hr ?hp (fun _ hk => hk) trivial (Below.refl _ _) (Nat.le_refl _) (by simp) ?_; (case hd => rfl); (case hg => rfl); (case hr => first | (go_simp; done) | (go_simp; rfl)); (case hp => exact (Reps.one (show Kd.M Kd.string _ _ _ (⟨#[97, 100, 100]⟩ : ByteArray) [.string (⟨#[97, 100, 100]⟩ : ByteArray)] from rfl) (Reps.one (show Kd.M Kd.string _ _ _ (⟨#[115, 117, 98]⟩ : ByteArray) [.string (⟨#[115, 117, 98]⟩ : ByteArray)] from rfl) (Reps.one (show Kd.M Kd.string _ _ _ (⟨#[109, 117, 108]⟩ : ByteArray) [.string (⟨#[109, 117, 108]⟩ : ByteArray)] from rfl) (Reps.one (show Kd.M Kd.string _ _ _ (⟨#[100, 105, 118, 115]⟩ : ByteArray) [.string (⟨#[100, 105, 118, 115]⟩ : ByteArray)] from rfl) (Reps.one (show Kd.M Kd.string _ _ _ (⟨#[100, 105, 118, 117]⟩ : ByteArray) [.string (⟨#[100, 105, 118, 117]⟩ : ByteArray)] from rfl) (Reps.one (show Kd.M Kd.string _ _ _ (⟨#[114, 101, 109, 115]⟩ : ByteArray) [.string (⟨#[114, 101, 109, 115]⟩ : ByteArray)] from rfl) (Reps.one (show Kd.M Kd.string _ _ _ (⟨#[114, 101, 109, 117]⟩ : ByteArray) [.string (⟨#[114, 101, 109, 117]⟩ : ByteArray)] from rfl) (Reps.one (show Kd.M Kd.string _ _ _ (⟨#[97, 110, 100]⟩ : ByteArray) [.string (⟨#[97, 110, 100]⟩ : ByteArray)] from rfl) (Reps.one (show Kd.M Kd.string _ _ _ (⟨#[111, 114]⟩ : ByteArray) [.string (⟨#[111, 114]⟩ : ByteArray)] from rfl) (Reps.one (show Kd.M Kd.string _ _ _ (⟨#[120, 111, 114]⟩ : ByteArray) [.string (⟨#[120, 111, 114]⟩ : ByteArray)] from rfl) (Reps.one (show Kd.M Kd.string _ _ _ (⟨#[115, 104, 108]⟩ : ByteArray) [.string (⟨#[115, 104, 108]⟩ : ByteArray)] from rfl) (Reps.one (show Kd.M Kd.string _ _ _ (⟨#[115, 104, 114, 115]⟩ : ByteArray) [.string (⟨#[115, 104, 114, 115]⟩ : ByteArray)] from rfl) (Reps.one (show Kd.M Kd.string _ _ _ (⟨#[115, 104, 114, 117]⟩ : ByteArray) [.string (⟨#[115, 104, 114, 117]⟩ : ByteArray)] from rfl) (Reps.one (show Kd.M Kd.string _ _ _ (⟨#[101, 113]⟩ : ByteArray) [.string (⟨#[101, 113]⟩ : ByteArray)] from rfl) (Reps.one (show Kd.M Kd.string _ _ _ (⟨#[110, 101]⟩ : ByteArray) [.string (⟨#[110, 101]⟩ : ByteArray)] from rfl) (Reps.one (show Kd.M Kd.string _ _ _ (⟨#[108, 116, 115]⟩ : ByteArray) [.string (⟨#[108, 116, 115]⟩ : ByteArray)] from rfl) (Reps.one (show Kd.M Kd.string _ _ _ (⟨#[108, 116, 117]⟩ : ByteArray) [.string (⟨#[108, 116, 117]⟩ : ByteArray)] from rfl) (Reps.one (show Kd.M Kd.string _ _ _ (⟨#[108, 101, 115]⟩ : ByteArray) [.string (⟨#[108, 101, 115]⟩ : ByteArray)] from rfl) (Reps.one (show Kd.M Kd.string _ _ _ (⟨#[108, 101, 117]⟩ : ByteArray) [.string (⟨#[108, 101, 117]⟩ : ByteArray)] from rfl) (Reps.none _ _))))))))))))))))))))); intro v127 w1 ho2 hb hg_ hnew_; clear hg_ hnew_; (first | rw [← Ny126.out] at ho2 | (simp only [Int.reduceToNat] at ho2; rw [← Ny126.out] at ho2)); have n0_ := Aside0.mk (Kd.R_lower ho2 (below_size (by repeat (first | (with_reducible first | exact HB.out | apply below_alloc | apply pw_below_drewN | apply below_drew1) | exact HB.out)))); have n1_ := Aside0.mk (below_step (by repeat (first | (with_reducible first | exact HB.out | apply below_alloc | apply pw_below_drewN | apply below_drew1) | exact HB.out)) hb); clear HB; have HO128 := n0_; have HB := n1_; clear n0_ n1_; clear hb ho2))
 go_ret
 exact ⟨_, by first | rfl | (simp [errW_none, errW_some] <;> rfl) | (simp [*, errW_none, errW_some] <;> rfl), by (with_reducible repeat (first | apply Kd.R_alloc | apply Kd.R_drewN | apply Kd.R_drew)); exact HO128.out, by repeat (first | (with_reducible first | exact HB.out | apply below_alloc | apply pw_below_drewN | apply below_drew1) | exact HB.out)⟩

/-! ### mortiseref01_Name: function 91 -/
def mortiseref01_Name.f (a0 : Int) : Option (ByteArray) := if a0 < 1 then (some (⟨#[]⟩ : ByteArray)) else (if a0 > 19 then (some (⟨#[]⟩ : ByteArray)) else ((mortiseref01_Names.f).bind fun t129 => (if 0 ≤ (wrap64 (a0 - 1)) then (if (wrap64 (a0 - 1)) < (t129.length : Int) then (some (rdOf ByteArray.empty t129 (wrap64 (a0 - 1)))) else (none)) else (none))))
set_option maxHeartbeats 8000000 in
set_option maxRecDepth 100000 in
theorem mortiseref01_Name.calls (a0 : Int) (r : ByteArray) (w : World) (h : mortiseref01_Name.f a0 = some r) :
  Calls Tryd.prog 91 #[.int .i64 a0] w fun e w' => e = .returned (.string r) ∧ Below w.heap.size w w' := by
 have HB := Aside0.mk (Below.refl w.heap.size w)
 have H : (if a0 < 1 then (some (⟨#[]⟩ : ByteArray)) else (if a0 > 19 then (some (⟨#[]⟩ : ByteArray)) else ((mortiseref01_Names.f).bind fun t129 => (if 0 ≤ (wrap64 (a0 - 1)) then (if (wrap64 (a0 - 1)) < (t129.length : Int) then (some (rdOf ByteArray.empty t129 (wrap64 (a0 - 1)))) else (none)) else (none))))) = some r := h
 clear h
 by_cases c2 : a0 < 1
 ·rw [if_pos c2] at H
  have c2b0 : decide (a0 < 1) = true := decide_eq_true c2
  clear c2
  obtain rfl := Option.some.inj H
  go_enter Tryd.func91, Tryd.ntmps91
  go_wp2
  go_ret
  exact ⟨by first | rfl | (simp [errW_none, errW_some] <;> rfl) | (simp [*, errW_none, errW_some] <;> rfl), by repeat (first | (with_reducible first | exact HB.out | apply below_alloc | apply pw_below_drewN | apply below_drew1) | exact HB.out)⟩
 ·rw [if_neg c2] at H
  have c2b0 : decide (a0 < 1) = false := decide_eq_false c2
  clear c2
  by_cases c3 : a0 > 19
  ·rw [if_pos c3] at H
   have c3b0 : decide (19 < a0) = true := decide_eq_true c3
   clear c3
   obtain rfl := Option.some.inj H
   go_enter Tryd.func91, Tryd.ntmps91
   go_wp2
   go_ret
   exact ⟨by first | rfl | (simp [errW_none, errW_some] <;> rfl) | (simp [*, errW_none, errW_some] <;> rfl), by repeat (first | (with_reducible first | exact HB.out | apply below_alloc | apply pw_below_drewN | apply below_drew1) | exact HB.out)⟩
  ·rw [if_neg c3] at H
   have c3b0 : decide (19 < a0) = false := decide_eq_false c3
   clear c3
   replace H := Option.bind_eq_some_iff.mp H
   obtain ⟨t129, A40, H⟩ := H
   replace H : (if 0 ≤ (wrap64 (a0 - 1)) then (if (wrap64 (a0 - 1)) < (t129.length : Int) then (some (rdOf ByteArray.empty t129 (wrap64 (a0 - 1)))) else (none)) else (none)) = some r := H
   have A4 := Aside0.mk A40
   clear A40
   obtain ⟨ji5, hji5⟩ : ∃ j_ : Int, (wrap64 (a0 - 1)) = j_ := ⟨_, rfl⟩
   replace H : (if 0 ≤ (ji5) then (if (ji5) < (t129.length : Int) then (some (rdOf ByteArray.empty t129 (ji5))) else (none)) else (none)) = some r := by first | (rw [hji5] at H; exact H) | (simp only [hji5] at H ⊢; exact H)
   (try rw [hji5] at A4)
   have hji5w : (IntKind.i64.wrap (a0 - 1)) = ji5 := (i64_w _).trans hji5
   by_cases c6 : 0 ≤ (ji5)
   ·rw [if_pos c6] at H
    have c6b0 : decide (0 ≤ (ji5)) = true := decide_eq_true c6
    clear c6
    by_cases c7 : (ji5) < (t129.length : Int)
    ·rw [if_pos c7] at H
     have c7b0 : decide ((ji5) < (t129.length : Int)) = true := decide_eq_true c7
     clear c7
     obtain rfl := Option.some.inj H
     go_enter Tryd.func91, Tryd.ntmps91
     go_wp2_with (first | ((with_reducible refine gate_callee (f := 92) rfl ?_); refine goesL_ (some 9) rfl rfl Tryd.func92 (by kernel_rfl) rfl #[] rfl (by (try simp only [List.map_toArray, List.map_cons, List.map_nil]); first | done | rfl | (simp only [List.length_drop, List.length_take]; rfl)) ?_; (with_reducible refine (mortiseref01_Names.calls  t129 _ A4.out).mono ?_); rintro e w8 ⟨v130, rfl, ho0, hb⟩; refine ⟨_, rfl, ?_⟩; have n0_ := Aside0.mk (Kd.R_lower ho0 (below_size (by repeat (first | (with_reducible first | exact HB.out | apply below_alloc | apply pw_below_drewN | apply below_drew1) | exact HB.out)))); have n1_ := Aside0.mk (below_step (by repeat (first | (with_reducible first | exact HB.out | apply below_alloc | apply pw_below_drewN | apply below_drew1) | exact HB.out)) hb); clear HB; have HO131 := n0_; have HB := n1_; clear n0_ n1_; (try clear hb); (try clear hb2); (try clear hk); (try clear hi); (try clear ho0); obtain ⟨Ao9, co9, eo9⟩ := Kd.R_slice HO131.out; subst eo9; have p132 : 0 ≤ ((ji5) : Int) := of_decide_eq_true (by first | (with_reducible assumption) | assumption); have q132 : (ji5) < (t129.length : Int) := of_decide_eq_true (by first | (with_reducible assumption) | assumption); obtain ⟨ad132, e132, hx132_0⟩ := Kd.at_string (Kd.R_reads' HO131.out).2.2 (ji5) p132 q132; cases e132; replace p132 := eq_true p132; replace q132 := eq_true q132))
     go_ret
     exact ⟨by first | rfl | (simp [errW_none, errW_some] <;> rfl) | (simp only [← hji5]; first | rfl | (simp [errW_none, errW_some] <;> rfl)) | (simp [*, errW_none, errW_some] <;> rfl), by repeat (first | (with_reducible first | exact HB.out | apply below_alloc | apply pw_below_drewN | apply below_drew1) | exact HB.out)⟩
    ·rw [if_neg c7] at H
     exact absurd H (by simp)
   ·rw [if_neg c6] at H
    exact absurd H (by simp)

/-! ### mortiseref20_Name: function 84 -/
mutual
def mortiseref20_Name.j1 : Nat → Int → Option (ByteArray)
 | 0, _ => none
 | k + 1, x0 => if x0 = 64 then (some (⟨#[108, 105]⟩ : ByteArray)) else (if x0 = 65 then (some (⟨#[108, 104]⟩ : ByteArray)) else (if x0 = 80 then (some (⟨#[108, 100, 98]⟩ : ByteArray)) else (if x0 = 81 then (some (⟨#[108, 100, 98, 117]⟩ : ByteArray)) else (if x0 = 82 then (some (⟨#[108, 100, 104]⟩ : ByteArray)) else (if x0 = 83 then (some (⟨#[108, 100, 104, 117]⟩ : ByteArray)) else (if x0 = 84 then (some (⟨#[108, 100, 119]⟩ : ByteArray)) else (if x0 = 88 then (some (⟨#[115, 116, 98]⟩ : ByteArray)) else (if x0 = 89 then (some (⟨#[115, 116, 104]⟩ : ByteArray)) else (if x0 = 90 then (some (⟨#[115, 116, 119]⟩ : ByteArray)) else (if x0 = 96 then (some (⟨#[106, 109, 112]⟩ : ByteArray)) else (if x0 = 97 then (some (⟨#[98, 122]⟩ : ByteArray)) else (if x0 = 98 then (some (⟨#[98, 110, 122]⟩ : ByteArray)) else (if x0 = 99 then (some (⟨#[99, 97, 108, 108]⟩ : ByteArray)) else (if x0 = 100 then (some (⟨#[106, 114]⟩ : ByteArray)) else (if x0 = 104 then (some (⟨#[101, 110, 116, 101, 114]⟩ : ByteArray)) else (if x0 = 105 then (some (⟨#[108, 101, 97, 118, 101]⟩ : ByteArray)) else (if x0 = 112 then (some (⟨#[112, 117, 116]⟩ : ByteArray)) else (if x0 = 113 then (some (⟨#[103, 101, 116]⟩ : ByteArray)) else (if x0 = 114 then (some (⟨#[101, 120, 105, 116]⟩ : ByteArray)) else (some (⟨#[]⟩ : ByteArray)))))))))))))))))))))
def mortiseref20_Name.j0 : Nat → Int → Bool → Option (ByteArray)
 | 0, _, _ => none
 | k + 1, x0, x3 => if x3 = true then ((mortiseref01_Name.f x0).bind fun t133 => (some t133)) else (if x0 ≥ 33 then (if x0 ≤ 51 then ((mortiseref01_Name.f (wrap64 (x0 - 32))).bind fun t134 => (if t134.size + 1 ≤ 9223372036854775807 then (some (t134 ++ (⟨#[105]⟩ : ByteArray))) else (none))) else (mortiseref20_Name.j1 k x0)) else (mortiseref20_Name.j1 k x0))
end
def mortiseref20_Name.f (k : Nat) (a0 : Int) : Option (ByteArray) := if a0 ≥ 1 then (mortiseref20_Name.j0 k a0 (decide (a0 ≤ 19))) else (mortiseref20_Name.j0 k a0 false)
set_option maxHeartbeats 8000000 in
set_option maxRecDepth 100000 in
theorem mortiseref20_Name.calls (k : Nat) (a0 : Int) (r : ByteArray) (w : World) (h : mortiseref20_Name.f k a0 = some r) :
  Calls Tryd.prog 84 #[.int .i64 a0] w fun e w' => e = .returned (.string r) ∧ Below w.heap.size w w' := by
 have HB := Aside0.mk (Below.refl w.heap.size w)
 have H : (if a0 ≥ 1 then (mortiseref20_Name.j0 k a0 (decide (a0 ≤ 19))) else (mortiseref20_Name.j0 k a0 false)) = some r := h
 clear h
 have HC2 := Aside0.mk H
 clear H
 go_enter Tryd.func84, Tryd.ntmps84
 go_upto_block 0 with (fail)
 go_cut [] (fun wc => ∃ (kq : Nat), Aside0 (mortiseref20_Name.j1 kq a0 = some r) ∧ Aside0 (kq ≤ k) ∧ Aside0 (Below w.heap.size w wc))
 case first =>
  have H := HC2.out
  clear HC2
  have HC3 := Aside0.mk H
  clear H
  go_upto_region 1 with (fail)
  go_cut [3] (fun v3 wc => ∃ (kq : Nat) (x3_72 : Bool), v3 = .bool x3_72 ∧ Aside0 (mortiseref20_Name.j0 kq a0 x3_72 = some r) ∧ Aside0 (kq ≤ k) ∧ Aside0 (Below w.heap.size w wc))
  case first =>
   have H := HC3.out
   clear HC3
   by_cases c4 : a0 ≥ 1
   ·rw [if_pos c4] at H
    have c4b0 : decide (1 ≤ a0) = true := decide_eq_true c4
    clear c4
    (first | rw [c4b0] | (simp only [i64_w, i32_w]; rw [c4b0]) | skip)
    have H' := Aside0.mk H
    clear H
    go_wp2
    go_meet
    case rel => exact ⟨_, (decide (a0 ≤ 19)), (by first | rfl | (simp; done) | (simp [*]; done)), H', ⟨by first | omega | exact Nat.le_refl _⟩, ⟨by repeat (first | (with_reducible first | exact HB.out | apply below_alloc | apply pw_below_drewN | apply below_drew1) | exact HB.out)⟩⟩
   ·rw [if_neg c4] at H
    have c4b0 : decide (1 ≤ a0) = false := decide_eq_false c4
    clear c4
    (first | rw [c4b0] | (simp only [i64_w, i32_w]; rw [c4b0]) | skip)
    have H' := Aside0.mk H
    clear H
    go_wp2
    go_meet
    case rel => exact ⟨_, (false), (by first | rfl | (simp; done) | (simp [*]; done)), H', ⟨by first | omega | exact Nat.le_refl _⟩, ⟨by repeat (first | (with_reducible first | exact HB.out | apply below_alloc | apply pw_below_drewN | apply below_drew1) | exact HB.out)⟩⟩
  case rest =>
   clear HC3
   try clear p2
   try clear c4
   try clear c4b0
   obtain ⟨kq, x3_72, rfl, HA, HJ72, HB⟩ := hcut
   cases kq with
   | zero => exact absurd HA.out (by simp [mortiseref20_Name.j0])
   | succ kj72 =>
    have H := HA.out
    clear HA
    simp only [mortiseref20_Name.j0] at H
    by_cases c5 : x3_72 = true
    ·subst c5
     have H1 : ((mortiseref01_Name.f a0).bind fun t133 => (some t133)) = some r := by rw [if_pos rfl] at H; exact H
     clear H
     have H := H1
     clear H1
     replace H := Option.bind_eq_some_iff.mp H
     obtain ⟨t133, A60, H⟩ := H
     replace H : (some t133) = some r := H
     have A6 := Aside0.mk A60
     clear A60
     obtain rfl := Option.some.inj H
     go_wp2_with (first | ((with_reducible refine gate_callee (f := 91) rfl ?_); refine goesL_ (some 11) rfl rfl Tryd.func91 (by kernel_rfl) rfl #[.int .i64 a0] rfl (by (try simp only [List.map_toArray, List.map_cons, List.map_nil]); first | done | rfl | (simp only [List.length_drop, List.length_take]; rfl)) ?_; (with_reducible refine (mortiseref01_Name.calls a0 t133 _ A6.out).mono ?_); rintro e w7 ⟨rfl, hb⟩; refine ⟨_, rfl, ?_⟩; have n0_ := Aside0.mk (below_step (by repeat (first | (with_reducible first | exact HB.out | apply below_alloc | apply pw_below_drewN | apply below_drew1) | exact HB.out)) hb); clear HB; have HB := n0_; clear n0_; (try clear hb); (try clear hb2); (try clear hk); (try clear hi)))
     go_ret
     exact ⟨by first | rfl | (simp [errW_none, errW_some] <;> rfl) | (simp [*, errW_none, errW_some] <;> rfl), by repeat (first | (with_reducible first | exact HB.out | apply below_alloc | apply pw_below_drewN | apply below_drew1) | exact HB.out)⟩
    ·replace c5 := Bool.eq_false_iff.mpr c5
     subst c5
     have H1 : (if a0 ≥ 33 then (if a0 ≤ 51 then ((mortiseref01_Name.f (wrap64 (a0 - 32))).bind fun t134 => (if t134.size + 1 ≤ 9223372036854775807 then (some (t134 ++ (⟨#[105]⟩ : ByteArray))) else (none))) else (mortiseref20_Name.j1 kj72 a0)) else (mortiseref20_Name.j1 kj72 a0)) = some r := by rw [if_neg (show ¬ (false = true) by decide)] at H; exact H
     clear H
     have H := H1
     clear H1
     by_cases c8 : a0 ≥ 33
     ·rw [if_pos c8] at H
      have c8b0 : decide (33 ≤ a0) = true := decide_eq_true c8
      clear c8
      by_cases c9 : a0 ≤ 51
      ·rw [if_pos c9] at H
       have c9b0 : decide (a0 ≤ 51) = true := decide_eq_true c9
       clear c9
       replace H := Option.bind_eq_some_iff.mp H
       obtain ⟨t134, A100, H⟩ := H
       replace H : (if t134.size + 1 ≤ 9223372036854775807 then (some (t134 ++ (⟨#[105]⟩ : ByteArray))) else (none)) = some r := H
       have A10 := Aside0.mk A100
       clear A100
       by_cases c11 : t134.size + 1 ≤ 9223372036854775807
       ·rw [if_pos c11] at H
        have c11b0 := eq_true c11
        have c11b1 : decide (t134.size + 1 ≤ 9223372036854775807) = true := decide_eq_true c11
        try have c11b2 : (9223372036854775807 < t134.size + 1) = False := eq_false (Nat.not_lt.2 c11)
        obtain rfl := Option.some.inj H
        go_wp2_with (first | ((with_reducible refine gate_callee (f := 91) rfl ?_); refine goesL_ (some 21) rfl rfl Tryd.func91 (by kernel_rfl) rfl #[.int .i64 (wrap64 (a0 - 32))] rfl (by (try simp only [List.map_toArray, List.map_cons, List.map_nil]); first | done | rfl | (simp only [List.length_drop, List.length_take]; rfl)) ?_; (with_reducible refine (mortiseref01_Name.calls (wrap64 (a0 - 32)) t134 _ A10.out).mono ?_); rintro e w12 ⟨rfl, hb⟩; refine ⟨_, rfl, ?_⟩; have n0_ := Aside0.mk (below_step (by repeat (first | (with_reducible first | exact HB.out | apply below_alloc | apply pw_below_drewN | apply below_drew1) | exact HB.out)) hb); clear HB; have HB := n0_; clear n0_; (try clear hb); (try clear hb2); (try clear hk); (try clear hi)))
        go_ret
        exact ⟨by first | rfl | (simp [errW_none, errW_some] <;> rfl) | (simp [*, errW_none, errW_some] <;> rfl), by repeat (first | (with_reducible first | exact HB.out | apply below_alloc | apply pw_below_drewN | apply below_drew1) | exact HB.out)⟩
       ·rw [if_neg c11] at H
        exact absurd H (by simp)
      ·rw [if_neg c9] at H
       have c9b0 : decide (a0 ≤ 51) = false := decide_eq_false c9
       clear c9
       have H' := Aside0.mk H
       clear H
       go_wp2
       go_meet
       case rel => exact ⟨_, H', ⟨by have := HJ72.out; first | omega | exact Nat.le_refl _⟩, ⟨by repeat (first | (with_reducible first | exact HB.out | apply below_alloc | apply pw_below_drewN | apply below_drew1) | exact HB.out)⟩⟩
     ·rw [if_neg c8] at H
      have c8b0 : decide (33 ≤ a0) = false := decide_eq_false c8
      clear c8
      have H' := Aside0.mk H
      clear H
      go_wp2
      go_meet
      case rel => exact ⟨_, H', ⟨by have := HJ72.out; first | omega | exact Nat.le_refl _⟩, ⟨by repeat (first | (with_reducible first | exact HB.out | apply below_alloc | apply pw_below_drewN | apply below_drew1) | exact HB.out)⟩⟩
 case rest =>
  clear HC2
  try clear c1
  try clear p2
  try clear c4
  try clear c4b0
  try clear c5
  try clear p6
  try clear c8
  try clear c8b0
  try clear c9
  try clear c9b0
  try clear c11
  try clear c11b0
  try clear c11b1
  try clear c11b2
  try clear p2
  obtain ⟨kq, HA, HJ71, HB⟩ := hcut
  cases kq with
  | zero => exact absurd HA.out (by simp [mortiseref20_Name.j1])
  | succ kj71 =>
   have H := HA.out
   clear HA
   simp only [mortiseref20_Name.j1] at H
   by_cases c13 : a0 = 64
   ·rw [if_pos c13] at H
    have c13b0 : (a0 == 64) = true := beq_iff_eq.mpr c13
    have c13b1 : (a0 != 64) = false := bne_eq_false_iff_eq.mpr c13
    clear c13
    obtain rfl := Option.some.inj H
    go_wp2
    go_ret
    exact ⟨by first | rfl | (simp [errW_none, errW_some] <;> rfl) | (simp [*, errW_none, errW_some] <;> rfl), by repeat (first | (with_reducible first | exact HB.out | apply below_alloc | apply pw_below_drewN | apply below_drew1) | exact HB.out)⟩
   ·rw [if_neg c13] at H
    have c13b0 : (a0 == 64) = false := beq_eq_false_iff_ne.mpr c13
    have c13b1 : (a0 != 64) = true := bne_iff_ne.mpr c13
    by_cases c14 : a0 = 65
    ·rw [if_pos c14] at H
     have c14b0 : (a0 == 65) = true := beq_iff_eq.mpr c14
     have c14b1 : (a0 != 65) = false := bne_eq_false_iff_eq.mpr c14
     clear c14
     obtain rfl := Option.some.inj H
     go_wp2
     go_ret
     exact ⟨by first | rfl | (simp [errW_none, errW_some] <;> rfl) | (simp [*, errW_none, errW_some] <;> rfl), by repeat (first | (with_reducible first | exact HB.out | apply below_alloc | apply pw_below_drewN | apply below_drew1) | exact HB.out)⟩
    ·rw [if_neg c14] at H
     have c14b0 : (a0 == 65) = false := beq_eq_false_iff_ne.mpr c14
     have c14b1 : (a0 != 65) = true := bne_iff_ne.mpr c14
     by_cases c15 : a0 = 80
     ·rw [if_pos c15] at H
      have c15b0 : (a0 == 80) = true := beq_iff_eq.mpr c15
      have c15b1 : (a0 != 80) = false := bne_eq_false_iff_eq.mpr c15
      clear c15
      obtain rfl := Option.some.inj H
      go_wp2
      go_ret
      exact ⟨by first | rfl | (simp [errW_none, errW_some] <;> rfl) | (simp [*, errW_none, errW_some] <;> rfl), by repeat (first | (with_reducible first | exact HB.out | apply below_alloc | apply pw_below_drewN | apply below_drew1) | exact HB.out)⟩
     ·rw [if_neg c15] at H
      have c15b0 : (a0 == 80) = false := beq_eq_false_iff_ne.mpr c15
      have c15b1 : (a0 != 80) = true := bne_iff_ne.mpr c15
      by_cases c16 : a0 = 81
      ·rw [if_pos c16] at H
       have c16b0 : (a0 == 81) = true := beq_iff_eq.mpr c16
       have c16b1 : (a0 != 81) = false := bne_eq_false_iff_eq.mpr c16
       clear c16
       obtain rfl := Option.some.inj H
       go_wp2
       go_ret
       exact ⟨by first | rfl | (simp [errW_none, errW_some] <;> rfl) | (simp [*, errW_none, errW_some] <;> rfl), by repeat (first | (with_reducible first | exact HB.out | apply below_alloc | apply pw_below_drewN | apply below_drew1) | exact HB.out)⟩
      ·rw [if_neg c16] at H
       have c16b0 : (a0 == 81) = false := beq_eq_false_iff_ne.mpr c16
       have c16b1 : (a0 != 81) = true := bne_iff_ne.mpr c16
       by_cases c17 : a0 = 82
       ·rw [if_pos c17] at H
        have c17b0 : (a0 == 82) = true := beq_iff_eq.mpr c17
        have c17b1 : (a0 != 82) = false := bne_eq_false_iff_eq.mpr c17
        clear c17
        obtain rfl := Option.some.inj H
        go_wp2
        go_ret
        exact ⟨by first | rfl | (simp [errW_none, errW_some] <;> rfl) | (simp [*, errW_none, errW_some] <;> rfl), by repeat (first | (with_reducible first | exact HB.out | apply below_alloc | apply pw_below_drewN | apply below_drew1) | exact HB.out)⟩
       ·rw [if_neg c17] at H
        have c17b0 : (a0 == 82) = false := beq_eq_false_iff_ne.mpr c17
        have c17b1 : (a0 != 82) = true := bne_iff_ne.mpr c17
        by_cases c18 : a0 = 83
        ·rw [if_pos c18] at H
         have c18b0 : (a0 == 83) = true := beq_iff_eq.mpr c18
         have c18b1 : (a0 != 83) = false := bne_eq_false_iff_eq.mpr c18
         clear c18
         obtain rfl := Option.some.inj H
         go_wp2
         go_ret
         exact ⟨by first | rfl | (simp [errW_none, errW_some] <;> rfl) | (simp [*, errW_none, errW_some] <;> rfl), by repeat (first | (with_reducible first | exact HB.out | apply below_alloc | apply pw_below_drewN | apply below_drew1) | exact HB.out)⟩
        ·rw [if_neg c18] at H
         have c18b0 : (a0 == 83) = false := beq_eq_false_iff_ne.mpr c18
         have c18b1 : (a0 != 83) = true := bne_iff_ne.mpr c18
         by_cases c19 : a0 = 84
         ·rw [if_pos c19] at H
          have c19b0 : (a0 == 84) = true := beq_iff_eq.mpr c19
          have c19b1 : (a0 != 84) = false := bne_eq_false_iff_eq.mpr c19
          clear c19
          obtain rfl := Option.some.inj H
          go_wp2
          go_ret
          exact ⟨by first | rfl | (simp [errW_none, errW_some] <;> rfl) | (simp [*, errW_none, errW_some] <;> rfl), by repeat (first | (with_reducible first | exact HB.out | apply below_alloc | apply pw_below_drewN | apply below_drew1) | exact HB.out)⟩
         ·rw [if_neg c19] at H
          have c19b0 : (a0 == 84) = false := beq_eq_false_iff_ne.mpr c19
          have c19b1 : (a0 != 84) = true := bne_iff_ne.mpr c19
          by_cases c20 : a0 = 88
          ·rw [if_pos c20] at H
           have c20b0 : (a0 == 88) = true := beq_iff_eq.mpr c20
           have c20b1 : (a0 != 88) = false := bne_eq_false_iff_eq.mpr c20
           clear c20
           obtain rfl := Option.some.inj H
           go_wp2
           go_ret
           exact ⟨by first | rfl | (simp [errW_none, errW_some] <;> rfl) | (simp [*, errW_none, errW_some] <;> rfl), by repeat (first | (with_reducible first | exact HB.out | apply below_alloc | apply pw_below_drewN | apply below_drew1) | exact HB.out)⟩
          ·rw [if_neg c20] at H
           have c20b0 : (a0 == 88) = false := beq_eq_false_iff_ne.mpr c20
           have c20b1 : (a0 != 88) = true := bne_iff_ne.mpr c20
           by_cases c21 : a0 = 89
           ·rw [if_pos c21] at H
            have c21b0 : (a0 == 89) = true := beq_iff_eq.mpr c21
            have c21b1 : (a0 != 89) = false := bne_eq_false_iff_eq.mpr c21
            clear c21
            obtain rfl := Option.some.inj H
            go_wp2
            go_ret
            exact ⟨by first | rfl | (simp [errW_none, errW_some] <;> rfl) | (simp [*, errW_none, errW_some] <;> rfl), by repeat (first | (with_reducible first | exact HB.out | apply below_alloc | apply pw_below_drewN | apply below_drew1) | exact HB.out)⟩
           ·rw [if_neg c21] at H
            have c21b0 : (a0 == 89) = false := beq_eq_false_iff_ne.mpr c21
            have c21b1 : (a0 != 89) = true := bne_iff_ne.mpr c21
            by_cases c22 : a0 = 90
            ·rw [if_pos c22] at H
             have c22b0 : (a0 == 90) = true := beq_iff_eq.mpr c22
             have c22b1 : (a0 != 90) = false := bne_eq_false_iff_eq.mpr c22
             clear c22
             obtain rfl := Option.some.inj H
             go_wp2
             go_ret
             exact ⟨by first | rfl | (simp [errW_none, errW_some] <;> rfl) | (simp [*, errW_none, errW_some] <;> rfl), by repeat (first | (with_reducible first | exact HB.out | apply below_alloc | apply pw_below_drewN | apply below_drew1) | exact HB.out)⟩
            ·rw [if_neg c22] at H
             have c22b0 : (a0 == 90) = false := beq_eq_false_iff_ne.mpr c22
             have c22b1 : (a0 != 90) = true := bne_iff_ne.mpr c22
             by_cases c23 : a0 = 96
             ·rw [if_pos c23] at H
              have c23b0 : (a0 == 96) = true := beq_iff_eq.mpr c23
              have c23b1 : (a0 != 96) = false := bne_eq_false_iff_eq.mpr c23
              clear c23
              obtain rfl := Option.some.inj H
              go_wp2
              go_ret
              exact ⟨by first | rfl | (simp [errW_none, errW_some] <;> rfl) | (simp [*, errW_none, errW_some] <;> rfl), by repeat (first | (with_reducible first | exact HB.out | apply below_alloc | apply pw_below_drewN | apply below_drew1) | exact HB.out)⟩
             ·rw [if_neg c23] at H
              have c23b0 : (a0 == 96) = false := beq_eq_false_iff_ne.mpr c23
              have c23b1 : (a0 != 96) = true := bne_iff_ne.mpr c23
              by_cases c24 : a0 = 97
              ·rw [if_pos c24] at H
               have c24b0 : (a0 == 97) = true := beq_iff_eq.mpr c24
               have c24b1 : (a0 != 97) = false := bne_eq_false_iff_eq.mpr c24
               clear c24
               obtain rfl := Option.some.inj H
               go_wp2
               go_ret
               exact ⟨by first | rfl | (simp [errW_none, errW_some] <;> rfl) | (simp [*, errW_none, errW_some] <;> rfl), by repeat (first | (with_reducible first | exact HB.out | apply below_alloc | apply pw_below_drewN | apply below_drew1) | exact HB.out)⟩
              ·rw [if_neg c24] at H
               have c24b0 : (a0 == 97) = false := beq_eq_false_iff_ne.mpr c24
               have c24b1 : (a0 != 97) = true := bne_iff_ne.mpr c24
               by_cases c25 : a0 = 98
               ·rw [if_pos c25] at H
                have c25b0 : (a0 == 98) = true := beq_iff_eq.mpr c25
                have c25b1 : (a0 != 98) = false := bne_eq_false_iff_eq.mpr c25
                clear c25
                obtain rfl := Option.some.inj H
                go_wp2
                go_ret
                exact ⟨by first | rfl | (simp [errW_none, errW_some] <;> rfl) | (simp [*, errW_none, errW_some] <;> rfl), by repeat (first | (with_reducible first | exact HB.out | apply below_alloc | apply pw_below_drewN | apply below_drew1) | exact HB.out)⟩
               ·rw [if_neg c25] at H
                have c25b0 : (a0 == 98) = false := beq_eq_false_iff_ne.mpr c25
                have c25b1 : (a0 != 98) = true := bne_iff_ne.mpr c25
                by_cases c26 : a0 = 99
                ·rw [if_pos c26] at H
                 have c26b0 : (a0 == 99) = true := beq_iff_eq.mpr c26
                 have c26b1 : (a0 != 99) = false := bne_eq_false_iff_eq.mpr c26
                 clear c26
                 obtain rfl := Option.some.inj H
                 go_wp2
                 go_ret
                 exact ⟨by first | rfl | (simp [errW_none, errW_some] <;> rfl) | (simp [*, errW_none, errW_some] <;> rfl), by repeat (first | (with_reducible first | exact HB.out | apply below_alloc | apply pw_below_drewN | apply below_drew1) | exact HB.out)⟩
                ·rw [if_neg c26] at H
                 have c26b0 : (a0 == 99) = false := beq_eq_false_iff_ne.mpr c26
                 have c26b1 : (a0 != 99) = true := bne_iff_ne.mpr c26
                 by_cases c27 : a0 = 100
                 ·rw [if_pos c27] at H
                  have c27b0 : (a0 == 100) = true := beq_iff_eq.mpr c27
                  have c27b1 : (a0 != 100) = false := bne_eq_false_iff_eq.mpr c27
                  clear c27
                  obtain rfl := Option.some.inj H
                  go_wp2
                  go_ret
                  exact ⟨by first | rfl | (simp [errW_none, errW_some] <;> rfl) | (simp [*, errW_none, errW_some] <;> rfl), by repeat (first | (with_reducible first | exact HB.out | apply below_alloc | apply pw_below_drewN | apply below_drew1) | exact HB.out)⟩
                 ·rw [if_neg c27] at H
                  have c27b0 : (a0 == 100) = false := beq_eq_false_iff_ne.mpr c27
                  have c27b1 : (a0 != 100) = true := bne_iff_ne.mpr c27
                  by_cases c28 : a0 = 104
                  ·rw [if_pos c28] at H
                   have c28b0 : (a0 == 104) = true := beq_iff_eq.mpr c28
                   have c28b1 : (a0 != 104) = false := bne_eq_false_iff_eq.mpr c28
                   clear c28
                   obtain rfl := Option.some.inj H
                   go_wp2
                   go_ret
                   exact ⟨by first | rfl | (simp [errW_none, errW_some] <;> rfl) | (simp [*, errW_none, errW_some] <;> rfl), by repeat (first | (with_reducible first | exact HB.out | apply below_alloc | apply pw_below_drewN | apply below_drew1) | exact HB.out)⟩
                  ·rw [if_neg c28] at H
                   have c28b0 : (a0 == 104) = false := beq_eq_false_iff_ne.mpr c28
                   have c28b1 : (a0 != 104) = true := bne_iff_ne.mpr c28
                   by_cases c29 : a0 = 105
                   ·rw [if_pos c29] at H
                    have c29b0 : (a0 == 105) = true := beq_iff_eq.mpr c29
                    have c29b1 : (a0 != 105) = false := bne_eq_false_iff_eq.mpr c29
                    clear c29
                    obtain rfl := Option.some.inj H
                    go_wp2
                    go_ret
                    exact ⟨by first | rfl | (simp [errW_none, errW_some] <;> rfl) | (simp [*, errW_none, errW_some] <;> rfl), by repeat (first | (with_reducible first | exact HB.out | apply below_alloc | apply pw_below_drewN | apply below_drew1) | exact HB.out)⟩
                   ·rw [if_neg c29] at H
                    have c29b0 : (a0 == 105) = false := beq_eq_false_iff_ne.mpr c29
                    have c29b1 : (a0 != 105) = true := bne_iff_ne.mpr c29
                    by_cases c30 : a0 = 112
                    ·rw [if_pos c30] at H
                     have c30b0 : (a0 == 112) = true := beq_iff_eq.mpr c30
                     have c30b1 : (a0 != 112) = false := bne_eq_false_iff_eq.mpr c30
                     clear c30
                     obtain rfl := Option.some.inj H
                     go_wp2
                     go_ret
                     exact ⟨by first | rfl | (simp [errW_none, errW_some] <;> rfl) | (simp [*, errW_none, errW_some] <;> rfl), by repeat (first | (with_reducible first | exact HB.out | apply below_alloc | apply pw_below_drewN | apply below_drew1) | exact HB.out)⟩
                    ·rw [if_neg c30] at H
                     have c30b0 : (a0 == 112) = false := beq_eq_false_iff_ne.mpr c30
                     have c30b1 : (a0 != 112) = true := bne_iff_ne.mpr c30
                     by_cases c31 : a0 = 113
                     ·rw [if_pos c31] at H
                      have c31b0 : (a0 == 113) = true := beq_iff_eq.mpr c31
                      have c31b1 : (a0 != 113) = false := bne_eq_false_iff_eq.mpr c31
                      clear c31
                      obtain rfl := Option.some.inj H
                      go_wp2
                      go_ret
                      exact ⟨by first | rfl | (simp [errW_none, errW_some] <;> rfl) | (simp [*, errW_none, errW_some] <;> rfl), by repeat (first | (with_reducible first | exact HB.out | apply below_alloc | apply pw_below_drewN | apply below_drew1) | exact HB.out)⟩
                     ·rw [if_neg c31] at H
                      have c31b0 : (a0 == 113) = false := beq_eq_false_iff_ne.mpr c31
                      have c31b1 : (a0 != 113) = true := bne_iff_ne.mpr c31
                      by_cases c32 : a0 = 114
                      ·rw [if_pos c32] at H
                       have c32b0 : (a0 == 114) = true := beq_iff_eq.mpr c32
                       have c32b1 : (a0 != 114) = false := bne_eq_false_iff_eq.mpr c32
                       clear c32
                       obtain rfl := Option.some.inj H
                       go_wp2
                       go_ret
                       exact ⟨by first | rfl | (simp [errW_none, errW_some] <;> rfl) | (simp [*, errW_none, errW_some] <;> rfl), by repeat (first | (with_reducible first | exact HB.out | apply below_alloc | apply pw_below_drewN | apply below_drew1) | exact HB.out)⟩
                      ·rw [if_neg c32] at H
                       have c32b0 : (a0 == 114) = false := beq_eq_false_iff_ne.mpr c32
                       have c32b1 : (a0 != 114) = true := bne_iff_ne.mpr c32
                       obtain rfl := Option.some.inj H
                       go_wp2
                       go_ret
                       exact ⟨by first | rfl | (simp [errW_none, errW_some] <;> rfl) | (simp [*, errW_none, errW_some] <;> rfl), by repeat (first | (with_reducible first | exact HB.out | apply below_alloc | apply pw_below_drewN | apply below_drew1) | exact HB.out)⟩

end Go.Proofs.YtejhnlljddjicaaDoor.PEm
