/- enc: right. No condition beyond those each theorem names. And more of the kind: 2 texts in one. -/
import Derived.Test.YtejhnlljddjicaaJGa
import Derived.Handy
namespace Go.Proofs.Ytejhnlljddjicaa.Ma
open Go.RowKit Go.Proofs.Ytejhnlljddjicaa.PLk Go.Proofs.YtejhnlljddjicaaW.PrintWords Go.Proofs.YtejhnlljddjicaaW.PrintLast Go.Proofs.YtejhnlljddjicaaW.PrintMore Go.Proofs.Ytejhnlljddjicaa.La
set_option linter.unusedVariables false
set_option linter.unusedSimpArgs false
variable {w w' : World} {c pg : Nat} {ps ps' : Pages} {S S' : Cpu} {inp out inp' out' : List Int}
theorem ix168_0 (x y z : Value) (W : World) : (Instr.index 127 (.agg #[x, y, z]) (.int .i64 0)).run Try.prog W = .ok x W := by kernel_rfl
theorem ix168_1 (x y z : Value) (W : World) : (Instr.index 127 (.agg #[x, y, z]) (.int .i64 1)).run Try.prog W = .ok y W := by kernel_rfl
theorem ix168_2 (x y z : Value) (W : World) : (Instr.index 127 (.agg #[x, y, z]) (.int .i64 2)).run Try.prog W = .ok z W := by kernel_rfl
theorem ix130_0 (x y z : Value) (W : World) : (Instr.index 113 (.agg #[x, y, z]) (.int .i64 0)).run Try.prog W = .ok x W := by kernel_rfl
theorem ix130_1 (x y z : Value) (W : World) : (Instr.index 113 (.agg #[x, y, z]) (.int .i64 1)).run Try.prog W = .ok y W := by kernel_rfl
theorem ix130_2 (x y z : Value) (W : World) : (Instr.index 113 (.agg #[x, y, z]) (.int .i64 2)).run Try.prog W = .ok z W := by kernel_rfl
theorem within_still (a lo hi : Int) (w : World) : Calls Try.prog 48 #[.int .i64 a, .int .i64 lo, .int .i64 hi] w fun e w' => e = .returned (.bool (decide (lo ≤ a ∧ a ≤ hi))) ∧ w' = w := by
 by_cases h1 : lo ≤ a
 ·have h1' : a ≥ lo := h1
  by_cases h2 : a ≤ hi
  ·go_enter Try.func48, Try.ntmps48
   go_wp2_with (fail)
   all_goals go_ret
   all_goals exact ⟨by simp [h1, h2], rfl⟩
  ·go_enter Try.func48, Try.ntmps48
   go_wp2_with (fail)
   all_goals go_ret
   all_goals exact ⟨by simp [h1, h2], rfl⟩
 ·have h1' : ¬ a ≥ lo := h1
  go_enter Try.func48, Try.ntmps48
  go_wp2_with (fail)
  all_goals go_ret
  all_goals exact ⟨by simp; omega, rfl⟩
set_option maxHeartbeats 4000000 in
set_option maxRecDepth 100000 in
theorem right_1 (w : World) (op a b d imm : Int) (hf : enc_Form.f 20 op = some 1) (ha : 0 ≤ a ∧ a ≤ 15) (hb : 0 ≤ b ∧ b ≤ 15) (hd : 0 ≤ d ∧ d ≤ 15) (hi : 0 ≤ imm ∧ imm ≤ 0) :
  Calls Try.prog 38 #[.agg #[.int .i64 op, .int .i64 a, .int .i64 b, .int .i64 d, .int .i64 imm]] w fun e w' => e = .returned (.bool true) ∧ Below w.heap.size w w' := by
 have HF := Aside0.mk hf
 have HA := Aside0.mk (show decide (0 ≤ a ∧ a ≤ 15) = true by simp; omega)
 have HBB := Aside0.mk (show decide (0 ≤ b ∧ b ≤ 15) = true by simp; omega)
 have HDD := Aside0.mk (show decide (0 ≤ d ∧ d ≤ 15) = true by simp; omega)
 have HI := Aside0.mk hi
 have B0 := Aside0.mk (show Below w.heap.size w (w.alloc (.cells #[.int .i64 op, .int .i64 a, .int .i64 b, .int .i64 d, .int .i64 imm] 36)) from below_alloc (Below.refl _ _) _)
 have R5 := Aside0.mk (show (w.alloc (.cells #[.int .i64 op, .int .i64 a, .int .i64 b, .int .i64 d, .int .i64 imm] 36)).heap[w.heap.size]? = some (.cells #[.int .i64 op, .int .i64 a, .int .i64 b, .int .i64 d, .int .i64 imm] 36 (0, 0)) from heap_at _ _ _ rfl)
 clear hf ha hb hd hi
 go_enter Try.func38, Try.ntmps38
 go_upto_region 1 with (fail)
 generalize (w.alloc (.cells #[.int .i64 op, .int .i64 a, .int .i64 b, .int .i64 d, .int .i64 imm] 36)) = W0 at R5 B0 ⊢
 generalize hg5 : w.heap.size = g5 at R5 ⊢
 have c0 := (blk_cell R5.out 0).trans rfl
 go_wp2_with (first | (go_at_call 35; refine (enc_Form.calls 20 _ _ _ HF.out).mono ?_; rintro e w' ⟨rfl, ⟨nd, rfl⟩⟩) | (go_at_call 36; refine (enc_uses.calls _ _ _ _ _ (show enc_uses.f 1 = some (3, 0, 0) from rfl)).mono ?_; rintro e w' ⟨rfl, ⟨ne, rfl⟩⟩; have D0 := Aside0.mk (pm_chain (below_dN W0 nd) (below_dN (W0.drewN nd) ne)); have R6 := Aside0.mk (blk_below R5.out D0.out); have BB := Aside0.mk (pm_chain B0.out D0.out); clear c0 R5 B0 D0; generalize (W0.drewN nd).drewN ne = W1 at R6 BB ⊢; have c1 := (blk_cell R6.out 1).trans rfl; have c2 := (blk_cell R6.out 2).trans rfl; have c3 := (blk_cell R6.out 3).trans rfl; have c4 := (blk_cell R6.out 4).trans rfl))
 have i0 := ix168_0 (.int .i64 a) (.int .i64 b) (.int .i64 d)
 have i1 := ix168_1 (.int .i64 a) (.int .i64 b) (.int .i64 d)
 have i2 := ix168_2 (.int .i64 a) (.int .i64 b) (.int .i64 d)
 refine wp_loop_rounds 4 ?_
 rw [rounds_succ]
 go_wp2_with (first | (go_at_call 48; refine (within_still _ _ _ _).mono ?_; rintro e w' ⟨rfl, rfl⟩; rw [HA.out]))
 rw [rounds_succ]
 go_wp2_with (first | (go_at_call 48; refine (within_still _ _ _ _).mono ?_; rintro e w' ⟨rfl, rfl⟩; rw [HBB.out]))
 rw [rounds_succ]
 go_wp2_with (first | (go_at_call 48; refine (within_still _ _ _ _).mono ?_; rintro e w' ⟨rfl, rfl⟩; rw [HDD.out]))
 rw [rounds_succ]
 have HX := Aside0.mk (show decide ((0 : Int) ≤ imm ∧ imm ≤ 0) = true by have := HI.out; simp; omega)
 go_wp2_with (first | (go_at_call 48; refine (within_still _ _ _ _).mono ?_; rintro e w' ⟨rfl, rfl⟩; rw [HX.out]))
 all_goals go_ret
 all_goals exact ⟨by first | rfl | simp [hm], BB.out⟩
set_option maxHeartbeats 4000000 in
set_option maxRecDepth 100000 in
theorem right_2 (w : World) (op a b d imm : Int) (hf : enc_Form.f 20 op = some 2) (ha : 0 ≤ a ∧ a ≤ 15) (hb : 0 ≤ b ∧ b ≤ 15) (hd : 0 ≤ d ∧ d ≤ 0) (hi : -32768 ≤ imm ∧ imm ≤ 32767) :
  Calls Try.prog 38 #[.agg #[.int .i64 op, .int .i64 a, .int .i64 b, .int .i64 d, .int .i64 imm]] w fun e w' => e = .returned (.bool true) ∧ Below w.heap.size w w' := by
 have HF := Aside0.mk hf
 have HA := Aside0.mk (show decide (0 ≤ a ∧ a ≤ 15) = true by simp; omega)
 have HBB := Aside0.mk (show decide (0 ≤ b ∧ b ≤ 15) = true by simp; omega)
 have HDD := Aside0.mk (show decide (0 ≤ d ∧ d ≤ 0) = true by simp; omega)
 have HI := Aside0.mk hi
 have B0 := Aside0.mk (show Below w.heap.size w (w.alloc (.cells #[.int .i64 op, .int .i64 a, .int .i64 b, .int .i64 d, .int .i64 imm] 36)) from below_alloc (Below.refl _ _) _)
 have R5 := Aside0.mk (show (w.alloc (.cells #[.int .i64 op, .int .i64 a, .int .i64 b, .int .i64 d, .int .i64 imm] 36)).heap[w.heap.size]? = some (.cells #[.int .i64 op, .int .i64 a, .int .i64 b, .int .i64 d, .int .i64 imm] 36 (0, 0)) from heap_at _ _ _ rfl)
 clear hf ha hb hd hi
 go_enter Try.func38, Try.ntmps38
 go_upto_region 1 with (fail)
 generalize (w.alloc (.cells #[.int .i64 op, .int .i64 a, .int .i64 b, .int .i64 d, .int .i64 imm] 36)) = W0 at R5 B0 ⊢
 generalize hg5 : w.heap.size = g5 at R5 ⊢
 have c0 := (blk_cell R5.out 0).trans rfl
 go_wp2_with (first | (go_at_call 35; refine (enc_Form.calls 20 _ _ _ HF.out).mono ?_; rintro e w' ⟨rfl, ⟨nd, rfl⟩⟩) | (go_at_call 36; refine (enc_uses.calls _ _ _ _ _ (show enc_uses.f 2 = some (2, -32768, 32767) from rfl)).mono ?_; rintro e w' ⟨rfl, ⟨ne, rfl⟩⟩; have D0 := Aside0.mk (pm_chain (below_dN W0 nd) (below_dN (W0.drewN nd) ne)); have R6 := Aside0.mk (blk_below R5.out D0.out); have BB := Aside0.mk (pm_chain B0.out D0.out); clear c0 R5 B0 D0; generalize (W0.drewN nd).drewN ne = W1 at R6 BB ⊢; have c1 := (blk_cell R6.out 1).trans rfl; have c2 := (blk_cell R6.out 2).trans rfl; have c3 := (blk_cell R6.out 3).trans rfl; have c4 := (blk_cell R6.out 4).trans rfl))
 have i0 := ix168_0 (.int .i64 a) (.int .i64 b) (.int .i64 d)
 have i1 := ix168_1 (.int .i64 a) (.int .i64 b) (.int .i64 d)
 have i2 := ix168_2 (.int .i64 a) (.int .i64 b) (.int .i64 d)
 refine wp_loop_rounds 4 ?_
 rw [rounds_succ]
 go_wp2_with (first | (go_at_call 48; refine (within_still _ _ _ _).mono ?_; rintro e w' ⟨rfl, rfl⟩; rw [HA.out]))
 rw [rounds_succ]
 go_wp2_with (first | (go_at_call 48; refine (within_still _ _ _ _).mono ?_; rintro e w' ⟨rfl, rfl⟩; rw [HBB.out]))
 rw [rounds_succ]
 go_wp2_with (first | (go_at_call 48; refine (within_still _ _ _ _).mono ?_; rintro e w' ⟨rfl, rfl⟩; rw [HDD.out]))
 rw [rounds_succ]
 have HX := Aside0.mk (show decide ((-32768 : Int) ≤ imm ∧ imm ≤ 32767) = true by have := HI.out; simp; omega)
 go_wp2_with (first | (go_at_call 48; refine (within_still _ _ _ _).mono ?_; rintro e w' ⟨rfl, rfl⟩; rw [HX.out]))
 all_goals go_ret
 all_goals exact ⟨by first | rfl | simp [hm], BB.out⟩
set_option maxHeartbeats 4000000 in
set_option maxRecDepth 100000 in
theorem right_3 (w : World) (op a b d imm : Int) (hf : enc_Form.f 20 op = some 3) (ha : 0 ≤ a ∧ a ≤ 15) (hb : 0 ≤ b ∧ b ≤ 0) (hd : 0 ≤ d ∧ d ≤ 0) (hi : -32768 ≤ imm ∧ imm ≤ 32767) :
  Calls Try.prog 38 #[.agg #[.int .i64 op, .int .i64 a, .int .i64 b, .int .i64 d, .int .i64 imm]] w fun e w' => e = .returned (.bool true) ∧ Below w.heap.size w w' := by
 have HF := Aside0.mk hf
 have HA := Aside0.mk (show decide (0 ≤ a ∧ a ≤ 15) = true by simp; omega)
 have HBB := Aside0.mk (show decide (0 ≤ b ∧ b ≤ 0) = true by simp; omega)
 have HDD := Aside0.mk (show decide (0 ≤ d ∧ d ≤ 0) = true by simp; omega)
 have HI := Aside0.mk hi
 have B0 := Aside0.mk (show Below w.heap.size w (w.alloc (.cells #[.int .i64 op, .int .i64 a, .int .i64 b, .int .i64 d, .int .i64 imm] 36)) from below_alloc (Below.refl _ _) _)
 have R5 := Aside0.mk (show (w.alloc (.cells #[.int .i64 op, .int .i64 a, .int .i64 b, .int .i64 d, .int .i64 imm] 36)).heap[w.heap.size]? = some (.cells #[.int .i64 op, .int .i64 a, .int .i64 b, .int .i64 d, .int .i64 imm] 36 (0, 0)) from heap_at _ _ _ rfl)
 clear hf ha hb hd hi
 go_enter Try.func38, Try.ntmps38
 go_upto_region 1 with (fail)
 generalize (w.alloc (.cells #[.int .i64 op, .int .i64 a, .int .i64 b, .int .i64 d, .int .i64 imm] 36)) = W0 at R5 B0 ⊢
 generalize hg5 : w.heap.size = g5 at R5 ⊢
 have c0 := (blk_cell R5.out 0).trans rfl
 go_wp2_with (first | (go_at_call 35; refine (enc_Form.calls 20 _ _ _ HF.out).mono ?_; rintro e w' ⟨rfl, ⟨nd, rfl⟩⟩) | (go_at_call 36; refine (enc_uses.calls _ _ _ _ _ (show enc_uses.f 3 = some (1, -32768, 32767) from rfl)).mono ?_; rintro e w' ⟨rfl, ⟨ne, rfl⟩⟩; have D0 := Aside0.mk (pm_chain (below_dN W0 nd) (below_dN (W0.drewN nd) ne)); have R6 := Aside0.mk (blk_below R5.out D0.out); have BB := Aside0.mk (pm_chain B0.out D0.out); clear c0 R5 B0 D0; generalize (W0.drewN nd).drewN ne = W1 at R6 BB ⊢; have c1 := (blk_cell R6.out 1).trans rfl; have c2 := (blk_cell R6.out 2).trans rfl; have c3 := (blk_cell R6.out 3).trans rfl; have c4 := (blk_cell R6.out 4).trans rfl))
 have i0 := ix168_0 (.int .i64 a) (.int .i64 b) (.int .i64 d)
 have i1 := ix168_1 (.int .i64 a) (.int .i64 b) (.int .i64 d)
 have i2 := ix168_2 (.int .i64 a) (.int .i64 b) (.int .i64 d)
 refine wp_loop_rounds 4 ?_
 rw [rounds_succ]
 go_wp2_with (first | (go_at_call 48; refine (within_still _ _ _ _).mono ?_; rintro e w' ⟨rfl, rfl⟩; rw [HA.out]))
 rw [rounds_succ]
 go_wp2_with (first | (go_at_call 48; refine (within_still _ _ _ _).mono ?_; rintro e w' ⟨rfl, rfl⟩; rw [HBB.out]))
 rw [rounds_succ]
 go_wp2_with (first | (go_at_call 48; refine (within_still _ _ _ _).mono ?_; rintro e w' ⟨rfl, rfl⟩; rw [HDD.out]))
 rw [rounds_succ]
 have HX := Aside0.mk (show decide ((-32768 : Int) ≤ imm ∧ imm ≤ 32767) = true by have := HI.out; simp; omega)
 go_wp2_with (first | (go_at_call 48; refine (within_still _ _ _ _).mono ?_; rintro e w' ⟨rfl, rfl⟩; rw [HX.out]))
 all_goals go_ret
 all_goals exact ⟨by first | rfl | simp [hm], BB.out⟩
set_option maxHeartbeats 4000000 in
set_option maxRecDepth 100000 in
theorem right_4 (w : World) (op a b d imm : Int) (hf : enc_Form.f 20 op = some 4) (ha : 0 ≤ a ∧ a ≤ 15) (hb : 0 ≤ b ∧ b ≤ 0) (hd : 0 ≤ d ∧ d ≤ 0) (hi : 0 ≤ imm ∧ imm ≤ 65535) :
  Calls Try.prog 38 #[.agg #[.int .i64 op, .int .i64 a, .int .i64 b, .int .i64 d, .int .i64 imm]] w fun e w' => e = .returned (.bool true) ∧ Below w.heap.size w w' := by
 have HF := Aside0.mk hf
 have HA := Aside0.mk (show decide (0 ≤ a ∧ a ≤ 15) = true by simp; omega)
 have HBB := Aside0.mk (show decide (0 ≤ b ∧ b ≤ 0) = true by simp; omega)
 have HDD := Aside0.mk (show decide (0 ≤ d ∧ d ≤ 0) = true by simp; omega)
 have HI := Aside0.mk hi
 have B0 := Aside0.mk (show Below w.heap.size w (w.alloc (.cells #[.int .i64 op, .int .i64 a, .int .i64 b, .int .i64 d, .int .i64 imm] 36)) from below_alloc (Below.refl _ _) _)
 have R5 := Aside0.mk (show (w.alloc (.cells #[.int .i64 op, .int .i64 a, .int .i64 b, .int .i64 d, .int .i64 imm] 36)).heap[w.heap.size]? = some (.cells #[.int .i64 op, .int .i64 a, .int .i64 b, .int .i64 d, .int .i64 imm] 36 (0, 0)) from heap_at _ _ _ rfl)
 clear hf ha hb hd hi
 go_enter Try.func38, Try.ntmps38
 go_upto_region 1 with (fail)
 generalize (w.alloc (.cells #[.int .i64 op, .int .i64 a, .int .i64 b, .int .i64 d, .int .i64 imm] 36)) = W0 at R5 B0 ⊢
 generalize hg5 : w.heap.size = g5 at R5 ⊢
 have c0 := (blk_cell R5.out 0).trans rfl
 go_wp2_with (first | (go_at_call 35; refine (enc_Form.calls 20 _ _ _ HF.out).mono ?_; rintro e w' ⟨rfl, ⟨nd, rfl⟩⟩) | (go_at_call 36; refine (enc_uses.calls _ _ _ _ _ (show enc_uses.f 4 = some (1, 0, 65535) from rfl)).mono ?_; rintro e w' ⟨rfl, ⟨ne, rfl⟩⟩; have D0 := Aside0.mk (pm_chain (below_dN W0 nd) (below_dN (W0.drewN nd) ne)); have R6 := Aside0.mk (blk_below R5.out D0.out); have BB := Aside0.mk (pm_chain B0.out D0.out); clear c0 R5 B0 D0; generalize (W0.drewN nd).drewN ne = W1 at R6 BB ⊢; have c1 := (blk_cell R6.out 1).trans rfl; have c2 := (blk_cell R6.out 2).trans rfl; have c3 := (blk_cell R6.out 3).trans rfl; have c4 := (blk_cell R6.out 4).trans rfl))
 have i0 := ix168_0 (.int .i64 a) (.int .i64 b) (.int .i64 d)
 have i1 := ix168_1 (.int .i64 a) (.int .i64 b) (.int .i64 d)
 have i2 := ix168_2 (.int .i64 a) (.int .i64 b) (.int .i64 d)
 refine wp_loop_rounds 4 ?_
 rw [rounds_succ]
 go_wp2_with (first | (go_at_call 48; refine (within_still _ _ _ _).mono ?_; rintro e w' ⟨rfl, rfl⟩; rw [HA.out]))
 rw [rounds_succ]
 go_wp2_with (first | (go_at_call 48; refine (within_still _ _ _ _).mono ?_; rintro e w' ⟨rfl, rfl⟩; rw [HBB.out]))
 rw [rounds_succ]
 go_wp2_with (first | (go_at_call 48; refine (within_still _ _ _ _).mono ?_; rintro e w' ⟨rfl, rfl⟩; rw [HDD.out]))
 rw [rounds_succ]
 have HX := Aside0.mk (show decide ((0 : Int) ≤ imm ∧ imm ≤ 65535) = true by have := HI.out; simp; omega)
 go_wp2_with (first | (go_at_call 48; refine (within_still _ _ _ _).mono ?_; rintro e w' ⟨rfl, rfl⟩; rw [HX.out]))
 all_goals go_ret
 all_goals exact ⟨by first | rfl | simp [hm], BB.out⟩
set_option maxHeartbeats 4000000 in
set_option maxRecDepth 100000 in
theorem right_5 (w : World) (op a b d imm : Int) (hf : enc_Form.f 20 op = some 5) (ha : 0 ≤ a ∧ a ≤ 0) (hb : 0 ≤ b ∧ b ≤ 0) (hd : 0 ≤ d ∧ d ≤ 0) (hi : -8388608 ≤ imm ∧ imm ≤ 8388607) :
  Calls Try.prog 38 #[.agg #[.int .i64 op, .int .i64 a, .int .i64 b, .int .i64 d, .int .i64 imm]] w fun e w' => e = .returned (.bool true) ∧ Below w.heap.size w w' := by
 have HF := Aside0.mk hf
 have HA := Aside0.mk (show decide (0 ≤ a ∧ a ≤ 0) = true by simp; omega)
 have HBB := Aside0.mk (show decide (0 ≤ b ∧ b ≤ 0) = true by simp; omega)
 have HDD := Aside0.mk (show decide (0 ≤ d ∧ d ≤ 0) = true by simp; omega)
 have HI := Aside0.mk hi
 have B0 := Aside0.mk (show Below w.heap.size w (w.alloc (.cells #[.int .i64 op, .int .i64 a, .int .i64 b, .int .i64 d, .int .i64 imm] 36)) from below_alloc (Below.refl _ _) _)
 have R5 := Aside0.mk (show (w.alloc (.cells #[.int .i64 op, .int .i64 a, .int .i64 b, .int .i64 d, .int .i64 imm] 36)).heap[w.heap.size]? = some (.cells #[.int .i64 op, .int .i64 a, .int .i64 b, .int .i64 d, .int .i64 imm] 36 (0, 0)) from heap_at _ _ _ rfl)
 clear hf ha hb hd hi
 go_enter Try.func38, Try.ntmps38
 go_upto_region 1 with (fail)
 generalize (w.alloc (.cells #[.int .i64 op, .int .i64 a, .int .i64 b, .int .i64 d, .int .i64 imm] 36)) = W0 at R5 B0 ⊢
 generalize hg5 : w.heap.size = g5 at R5 ⊢
 have c0 := (blk_cell R5.out 0).trans rfl
 go_wp2_with (first | (go_at_call 35; refine (enc_Form.calls 20 _ _ _ HF.out).mono ?_; rintro e w' ⟨rfl, ⟨nd, rfl⟩⟩) | (go_at_call 36; refine (enc_uses.calls _ _ _ _ _ (show enc_uses.f 5 = some (0, -8388608, 8388607) from rfl)).mono ?_; rintro e w' ⟨rfl, ⟨ne, rfl⟩⟩; have D0 := Aside0.mk (pm_chain (below_dN W0 nd) (below_dN (W0.drewN nd) ne)); have R6 := Aside0.mk (blk_below R5.out D0.out); have BB := Aside0.mk (pm_chain B0.out D0.out); clear c0 R5 B0 D0; generalize (W0.drewN nd).drewN ne = W1 at R6 BB ⊢; have c1 := (blk_cell R6.out 1).trans rfl; have c2 := (blk_cell R6.out 2).trans rfl; have c3 := (blk_cell R6.out 3).trans rfl; have c4 := (blk_cell R6.out 4).trans rfl))
 have i0 := ix168_0 (.int .i64 a) (.int .i64 b) (.int .i64 d)
 have i1 := ix168_1 (.int .i64 a) (.int .i64 b) (.int .i64 d)
 have i2 := ix168_2 (.int .i64 a) (.int .i64 b) (.int .i64 d)
 refine wp_loop_rounds 4 ?_
 rw [rounds_succ]
 go_wp2_with (first | (go_at_call 48; refine (within_still _ _ _ _).mono ?_; rintro e w' ⟨rfl, rfl⟩; rw [HA.out]))
 rw [rounds_succ]
 go_wp2_with (first | (go_at_call 48; refine (within_still _ _ _ _).mono ?_; rintro e w' ⟨rfl, rfl⟩; rw [HBB.out]))
 rw [rounds_succ]
 go_wp2_with (first | (go_at_call 48; refine (within_still _ _ _ _).mono ?_; rintro e w' ⟨rfl, rfl⟩; rw [HDD.out]))
 rw [rounds_succ]
 have HX := Aside0.mk (show decide ((-8388608 : Int) ≤ imm ∧ imm ≤ 8388607) = true by have := HI.out; simp; omega)
 go_wp2_with (first | (go_at_call 48; refine (within_still _ _ _ _).mono ?_; rintro e w' ⟨rfl, rfl⟩; rw [HX.out]))
 all_goals go_ret
 all_goals exact ⟨by first | rfl | simp [hm], BB.out⟩
set_option maxHeartbeats 4000000 in
set_option maxRecDepth 100000 in
theorem right_7 (w : World) (op a b d imm : Int) (hf : enc_Form.f 20 op = some 7) (ha : 0 ≤ a ∧ a ≤ 15) (hb : 0 ≤ b ∧ b ≤ 0) (hd : 0 ≤ d ∧ d ≤ 0) (hi : 0 ≤ imm ∧ imm ≤ 0) :
  Calls Try.prog 38 #[.agg #[.int .i64 op, .int .i64 a, .int .i64 b, .int .i64 d, .int .i64 imm]] w fun e w' => e = .returned (.bool true) ∧ Below w.heap.size w w' := by
 have HF := Aside0.mk hf
 have HA := Aside0.mk (show decide (0 ≤ a ∧ a ≤ 15) = true by simp; omega)
 have HBB := Aside0.mk (show decide (0 ≤ b ∧ b ≤ 0) = true by simp; omega)
 have HDD := Aside0.mk (show decide (0 ≤ d ∧ d ≤ 0) = true by simp; omega)
 have HI := Aside0.mk hi
 have B0 := Aside0.mk (show Below w.heap.size w (w.alloc (.cells #[.int .i64 op, .int .i64 a, .int .i64 b, .int .i64 d, .int .i64 imm] 36)) from below_alloc (Below.refl _ _) _)
 have R5 := Aside0.mk (show (w.alloc (.cells #[.int .i64 op, .int .i64 a, .int .i64 b, .int .i64 d, .int .i64 imm] 36)).heap[w.heap.size]? = some (.cells #[.int .i64 op, .int .i64 a, .int .i64 b, .int .i64 d, .int .i64 imm] 36 (0, 0)) from heap_at _ _ _ rfl)
 clear hf ha hb hd hi
 go_enter Try.func38, Try.ntmps38
 go_upto_region 1 with (fail)
 generalize (w.alloc (.cells #[.int .i64 op, .int .i64 a, .int .i64 b, .int .i64 d, .int .i64 imm] 36)) = W0 at R5 B0 ⊢
 generalize hg5 : w.heap.size = g5 at R5 ⊢
 have c0 := (blk_cell R5.out 0).trans rfl
 go_wp2_with (first | (go_at_call 35; refine (enc_Form.calls 20 _ _ _ HF.out).mono ?_; rintro e w' ⟨rfl, ⟨nd, rfl⟩⟩) | (go_at_call 36; refine (enc_uses.calls _ _ _ _ _ (show enc_uses.f 7 = some (1, 0, 0) from rfl)).mono ?_; rintro e w' ⟨rfl, ⟨ne, rfl⟩⟩; have D0 := Aside0.mk (pm_chain (below_dN W0 nd) (below_dN (W0.drewN nd) ne)); have R6 := Aside0.mk (blk_below R5.out D0.out); have BB := Aside0.mk (pm_chain B0.out D0.out); clear c0 R5 B0 D0; generalize (W0.drewN nd).drewN ne = W1 at R6 BB ⊢; have c1 := (blk_cell R6.out 1).trans rfl; have c2 := (blk_cell R6.out 2).trans rfl; have c3 := (blk_cell R6.out 3).trans rfl; have c4 := (blk_cell R6.out 4).trans rfl))
 have i0 := ix168_0 (.int .i64 a) (.int .i64 b) (.int .i64 d)
 have i1 := ix168_1 (.int .i64 a) (.int .i64 b) (.int .i64 d)
 have i2 := ix168_2 (.int .i64 a) (.int .i64 b) (.int .i64 d)
 refine wp_loop_rounds 4 ?_
 rw [rounds_succ]
 go_wp2_with (first | (go_at_call 48; refine (within_still _ _ _ _).mono ?_; rintro e w' ⟨rfl, rfl⟩; rw [HA.out]))
 rw [rounds_succ]
 go_wp2_with (first | (go_at_call 48; refine (within_still _ _ _ _).mono ?_; rintro e w' ⟨rfl, rfl⟩; rw [HBB.out]))
 rw [rounds_succ]
 go_wp2_with (first | (go_at_call 48; refine (within_still _ _ _ _).mono ?_; rintro e w' ⟨rfl, rfl⟩; rw [HDD.out]))
 rw [rounds_succ]
 have HX := Aside0.mk (show decide ((0 : Int) ≤ imm ∧ imm ≤ 0) = true by have := HI.out; simp; omega)
 go_wp2_with (first | (go_at_call 48; refine (within_still _ _ _ _).mono ?_; rintro e w' ⟨rfl, rfl⟩; rw [HX.out]))
 all_goals go_ret
 all_goals exact ⟨by first | rfl | simp [hm], BB.out⟩
set_option maxHeartbeats 4000000 in
set_option maxRecDepth 100000 in
theorem right_6y (w : World) (op a b d imm : Int) (hf : enc_Form.f 20 op = some 6) (ha : 0 ≤ a ∧ a ≤ 0) (hb : 0 ≤ b ∧ b ≤ 0) (hd : 0 ≤ d ∧ d ≤ 0) (hi : 0 ≤ imm ∧ imm ≤ 16777215 ∧ imm % 4 = 0) :
  Calls Try.prog 38 #[.agg #[.int .i64 op, .int .i64 a, .int .i64 b, .int .i64 d, .int .i64 imm]] w fun e w' => e = .returned (.bool true) ∧ Below w.heap.size w w' := by
 have HF := Aside0.mk hf
 have HA := Aside0.mk (show decide (0 ≤ a ∧ a ≤ 0) = true by simp; omega)
 have HBB := Aside0.mk (show decide (0 ≤ b ∧ b ≤ 0) = true by simp; omega)
 have HDD := Aside0.mk (show decide (0 ≤ d ∧ d ≤ 0) = true by simp; omega)
 have HI := Aside0.mk hi
 have B0 := Aside0.mk (show Below w.heap.size w (w.alloc (.cells #[.int .i64 op, .int .i64 a, .int .i64 b, .int .i64 d, .int .i64 imm] 36)) from below_alloc (Below.refl _ _) _)
 have R5 := Aside0.mk (show (w.alloc (.cells #[.int .i64 op, .int .i64 a, .int .i64 b, .int .i64 d, .int .i64 imm] 36)).heap[w.heap.size]? = some (.cells #[.int .i64 op, .int .i64 a, .int .i64 b, .int .i64 d, .int .i64 imm] 36 (0, 0)) from heap_at _ _ _ rfl)
 clear hf ha hb hd hi
 go_enter Try.func38, Try.ntmps38
 go_upto_region 1 with (fail)
 generalize (w.alloc (.cells #[.int .i64 op, .int .i64 a, .int .i64 b, .int .i64 d, .int .i64 imm] 36)) = W0 at R5 B0 ⊢
 generalize hg5 : w.heap.size = g5 at R5 ⊢
 have c0 := (blk_cell R5.out 0).trans rfl
 go_wp2_with (first | (go_at_call 35; refine (enc_Form.calls 20 _ _ _ HF.out).mono ?_; rintro e w' ⟨rfl, ⟨nd, rfl⟩⟩) | (go_at_call 36; refine (enc_uses.calls _ _ _ _ _ (show enc_uses.f 6 = some (0, 0, 16777212) from rfl)).mono ?_; rintro e w' ⟨rfl, ⟨ne, rfl⟩⟩; have D0 := Aside0.mk (pm_chain (below_dN W0 nd) (below_dN (W0.drewN nd) ne)); have R6 := Aside0.mk (blk_below R5.out D0.out); have BB := Aside0.mk (pm_chain B0.out D0.out); clear c0 R5 B0 D0; generalize (W0.drewN nd).drewN ne = W1 at R6 BB ⊢; have c1 := (blk_cell R6.out 1).trans rfl; have c2 := (blk_cell R6.out 2).trans rfl; have c3 := (blk_cell R6.out 3).trans rfl; have c4 := (blk_cell R6.out 4).trans rfl))
 have i0 := ix168_0 (.int .i64 a) (.int .i64 b) (.int .i64 d)
 have i1 := ix168_1 (.int .i64 a) (.int .i64 b) (.int .i64 d)
 have i2 := ix168_2 (.int .i64 a) (.int .i64 b) (.int .i64 d)
 refine wp_loop_rounds 4 ?_
 rw [rounds_succ]
 go_wp2_with (first | (go_at_call 48; refine (within_still _ _ _ _).mono ?_; rintro e w' ⟨rfl, rfl⟩; rw [HA.out]))
 rw [rounds_succ]
 go_wp2_with (first | (go_at_call 48; refine (within_still _ _ _ _).mono ?_; rintro e w' ⟨rfl, rfl⟩; rw [HBB.out]))
 rw [rounds_succ]
 go_wp2_with (first | (go_at_call 48; refine (within_still _ _ _ _).mono ?_; rintro e w' ⟨rfl, rfl⟩; rw [HDD.out]))
 rw [rounds_succ]
 have HX := Aside0.mk (show decide ((0 : Int) ≤ imm ∧ imm ≤ 16777212) = true by have := HI.out; simp; omega)
 have hm : Int.tmod imm 4 = 0 := by have := HI.out; rw [Int.tmod_eq_emod_of_nonneg this.1]; exact this.2.2
 go_wp2_with (first | (go_at_call 48; refine (within_still _ _ _ _).mono ?_; rintro e w' ⟨rfl, rfl⟩; rw [HX.out]))
 all_goals go_ret
 all_goals exact ⟨by first | rfl | simp [hm], BB.out⟩
set_option maxHeartbeats 4000000 in
set_option maxRecDepth 100000 in
theorem right_6n (w : World) (op a b d imm : Int) (hf : enc_Form.f 20 op = some 6) (ha : 0 ≤ a ∧ a ≤ 0) (hb : 0 ≤ b ∧ b ≤ 0) (hd : 0 ≤ d ∧ d ≤ 0) (hi : 0 ≤ imm ∧ imm ≤ 16777215 ∧ ¬ imm % 4 = 0) :
  Calls Try.prog 38 #[.agg #[.int .i64 op, .int .i64 a, .int .i64 b, .int .i64 d, .int .i64 imm]] w fun e w' => e = .returned (.bool false) ∧ Below w.heap.size w w' := by
 have HF := Aside0.mk hf
 have HA := Aside0.mk (show decide (0 ≤ a ∧ a ≤ 0) = true by simp; omega)
 have HBB := Aside0.mk (show decide (0 ≤ b ∧ b ≤ 0) = true by simp; omega)
 have HDD := Aside0.mk (show decide (0 ≤ d ∧ d ≤ 0) = true by simp; omega)
 have HI := Aside0.mk hi
 have B0 := Aside0.mk (show Below w.heap.size w (w.alloc (.cells #[.int .i64 op, .int .i64 a, .int .i64 b, .int .i64 d, .int .i64 imm] 36)) from below_alloc (Below.refl _ _) _)
 have R5 := Aside0.mk (show (w.alloc (.cells #[.int .i64 op, .int .i64 a, .int .i64 b, .int .i64 d, .int .i64 imm] 36)).heap[w.heap.size]? = some (.cells #[.int .i64 op, .int .i64 a, .int .i64 b, .int .i64 d, .int .i64 imm] 36 (0, 0)) from heap_at _ _ _ rfl)
 clear hf ha hb hd hi
 go_enter Try.func38, Try.ntmps38
 go_upto_region 1 with (fail)
 generalize (w.alloc (.cells #[.int .i64 op, .int .i64 a, .int .i64 b, .int .i64 d, .int .i64 imm] 36)) = W0 at R5 B0 ⊢
 generalize hg5 : w.heap.size = g5 at R5 ⊢
 have c0 := (blk_cell R5.out 0).trans rfl
 go_wp2_with (first | (go_at_call 35; refine (enc_Form.calls 20 _ _ _ HF.out).mono ?_; rintro e w' ⟨rfl, ⟨nd, rfl⟩⟩) | (go_at_call 36; refine (enc_uses.calls _ _ _ _ _ (show enc_uses.f 6 = some (0, 0, 16777212) from rfl)).mono ?_; rintro e w' ⟨rfl, ⟨ne, rfl⟩⟩; have D0 := Aside0.mk (pm_chain (below_dN W0 nd) (below_dN (W0.drewN nd) ne)); have R6 := Aside0.mk (blk_below R5.out D0.out); have BB := Aside0.mk (pm_chain B0.out D0.out); clear c0 R5 B0 D0; generalize (W0.drewN nd).drewN ne = W1 at R6 BB ⊢; have c1 := (blk_cell R6.out 1).trans rfl; have c2 := (blk_cell R6.out 2).trans rfl; have c3 := (blk_cell R6.out 3).trans rfl; have c4 := (blk_cell R6.out 4).trans rfl))
 have i0 := ix168_0 (.int .i64 a) (.int .i64 b) (.int .i64 d)
 have i1 := ix168_1 (.int .i64 a) (.int .i64 b) (.int .i64 d)
 have i2 := ix168_2 (.int .i64 a) (.int .i64 b) (.int .i64 d)
 refine wp_loop_rounds 4 ?_
 rw [rounds_succ]
 go_wp2_with (first | (go_at_call 48; refine (within_still _ _ _ _).mono ?_; rintro e w' ⟨rfl, rfl⟩; rw [HA.out]))
 rw [rounds_succ]
 go_wp2_with (first | (go_at_call 48; refine (within_still _ _ _ _).mono ?_; rintro e w' ⟨rfl, rfl⟩; rw [HBB.out]))
 rw [rounds_succ]
 go_wp2_with (first | (go_at_call 48; refine (within_still _ _ _ _).mono ?_; rintro e w' ⟨rfl, rfl⟩; rw [HDD.out]))
 rw [rounds_succ]
 by_cases hc : imm ≤ 16777212
 ·have HX := Aside0.mk (show decide ((0 : Int) ≤ imm ∧ imm ≤ 16777212) = true by have := HI.out; simp; omega)
  have hm : ¬ Int.tmod imm 4 = 0 := by have := HI.out; rw [Int.tmod_eq_emod_of_nonneg this.1]; exact this.2.2
  clear hc
  go_wp2_with (first | (go_at_call 48; refine (within_still _ _ _ _).mono ?_; rintro e w' ⟨rfl, rfl⟩; rw [HX.out]))
  all_goals go_ret
  all_goals exact ⟨by first | rfl | simp [hm], BB.out⟩
 ·have HX := Aside0.mk (show decide ((0 : Int) ≤ imm ∧ imm ≤ 16777212) = false by simp; omega)
  clear hc
  go_wp2_with (first | (go_at_call 48; refine (within_still _ _ _ _).mono ?_; rintro e w' ⟨rfl, rfl⟩; rw [HX.out]))
  all_goals go_ret
  all_goals exact ⟨by first | rfl | simp [hm], BB.out⟩
end Go.Proofs.Ytejhnlljddjicaa.Ma
namespace Go.Proofs.Ytejhnlljddjicaa.Ma
open Go.RowKit Go.Proofs.Ytejhnlljddjicaa.PLk Go.Proofs.YtejhnlljddjicaaW.PrintWords Go.Proofs.YtejhnlljddjicaaW.PrintLast Go.Proofs.YtejhnlljddjicaaW.PrintMore Go.Proofs.Ytejhnlljddjicaa.La
set_option linter.unusedVariables false
set_option linter.unusedSimpArgs false
variable {w w' : World} {c pg : Nat} {ps ps' : Pages} {S S' : Cpu} {inp out inp' out' : List Int}
set_option maxHeartbeats 4000000 in
theorem at_calls {g : Nat} {v : Int} (h : w.heap[g]? = some (.cells #[.int .u32 v] 31 (0, 0))) (n bit : Int) (hb : 0 ≤ bit) : Calls Try.prog 39 #[.int .i64 n, .int .i64 bit, .pointer (some ⟨g, 0, none⟩)] w fun e w' => e = .returned (.tuple #[]) ∧ w'.heap[g]? = some (.cells #[.int .u32 (bits .or .u32 v (shl .u32 (n % 4294967296) bit))] 31 (0, 0)) ∧ Ext (fun i => i = g) w w' := by
 have e4 := (blk_cell h 0).trans rfl
 have z4 := blk_frozen h 0
 have hw : IntKind.u32.wrap n = n % 4294967296 := IntKind.wrap_u32 _
 have hh := Aside0.mk h
 have hb' : ¬ bit < 0 := by omega
 go_enter Try.func39, Try.ntmps39
 refine wp_region_still_tail 6 (by kernel_rfl) (by kernel_rfl) ?_
 simp only [List.take_succ_cons, List.take_zero, List.drop_succ_cons, List.drop_zero]
 repeat (with_reducible refine wpStill_step (fun K hK => ?_); go_simp; with_reducible refine hK _ ?_; clear hK K)
 with_reducible refine wpStill_nil ?_
 change wpList _ _ _ _ _ w.drew
 all_goals go_wp2_with (fail)
 all_goals go_end0
 all_goals refine ⟨rfl, ?_, (Ext.setCell (F := fun i => i = g) (p := ⟨g, 0, none⟩) (Ext.refl _ w) (.inl rfl) _).then_below (Below.refl _ _).drew⟩
 all_goals (have e : shl .u32 (n % 4294967296) bit = n % 4294967296 * 2 ^ min bit.toNat 32 % 4294967296 := (IntKind.wrap_u32 _))
 all_goals (rw [e]; exact blk_set hh.out 0 _)
def encW (far : Bool) (op a b d imm : Int) : Int := bits .or .u32 (bits .or .u32 (bits .or .u32 (bits .or .u32 op (shl .u32 (a % 4294967296) 8)) (shl .u32 (b % 4294967296) 12)) (shl .u32 (d % 4294967296) 16)) (shl .u32 (imm % 4294967296) (if far = true then 8 else 16))
set_option maxHeartbeats 4000000 in
set_option maxRecDepth 100000 in
theorem encode_1 (w : World) (op a b d imm : Int) (hop : 0 ≤ op ∧ op < 256) (hf : enc_Form.f 20 op = some 1) (ha : 0 ≤ a ∧ a ≤ 15) (hb : 0 ≤ b ∧ b ≤ 15) (hd : 0 ≤ d ∧ d ≤ 15) (hi : 0 ≤ imm ∧ imm ≤ 0) :
  Calls Try.prog 26 #[.agg #[.int .i64 op, .int .i64 a, .int .i64 b, .int .i64 d, .int .i64 imm]] w fun e w' => e = .returned (.tuple #[.int .u32 (encW false op a b d imm), .int .i64 0]) ∧ Below w.heap.size w w' := by
 have hw : IntKind.u32.wrap op = op := by rw [IntKind.wrap_u32]; omega
 have HF := Aside0.mk hf
 have HA := Aside0.mk ha
 have HBB := Aside0.mk hb
 have HDD := Aside0.mk hd
 have HI := Aside0.mk hi
 have B0 := Aside0.mk (show Below w.heap.size w (w.alloc (.cells #[.int .i64 op, .int .i64 a, .int .i64 b, .int .i64 d, .int .i64 imm] 36)) from below_alloc (Below.refl _ _) _)
 have R5 := Aside0.mk (show (w.alloc (.cells #[.int .i64 op, .int .i64 a, .int .i64 b, .int .i64 d, .int .i64 imm] 36)).heap[w.heap.size]? = some (.cells #[.int .i64 op, .int .i64 a, .int .i64 b, .int .i64 d, .int .i64 imm] 36 (0, 0)) from heap_at _ _ _ rfl)
 clear hf ha hb hd hi hop
 go_enter Try.func26, Try.ntmps26
 go_upto_region 1 with (fail)
 generalize (w.alloc (.cells #[.int .i64 op, .int .i64 a, .int .i64 b, .int .i64 d, .int .i64 imm] 36)) = W0 at R5 B0 ⊢
 generalize hg5 : w.heap.size = g5 at R5 ⊢
 have c0 := (blk_cell R5.out 0).trans rfl
 have c1 := (blk_cell R5.out 1).trans rfl
 have c2 := (blk_cell R5.out 2).trans rfl
 have c3 := (blk_cell R5.out 3).trans rfl
 have c4 := (blk_cell R5.out 4).trans rfl
 go_upto_region 5 with (first | (go_at_call 38; refine (right_1 _ _ _ _ _ _ HF.out HA.out HBB.out HDD.out HI.out).mono ?_; rintro e W1 ⟨rfl, hb⟩; have BB := Aside0.mk (pm_chain B0.out hb); have R6 := Aside0.mk (blk_below R5.out hb); have c0 := (blk_cell R6.out 0).trans rfl; have c1 := (blk_cell R6.out 1).trans rfl; have c2 := (blk_cell R6.out 2).trans rfl; have c3 := (blk_cell R6.out 3).trans rfl; have c4 := (blk_cell R6.out 4).trans rfl; clear hb R5 B0))
 have B4 := Aside0.mk (show Below w.heap.size w (W1.alloc (.cells #[.int .u32 op] 31)) from below_alloc BB.out _)
 have R4 := Aside0.mk (show (W1.alloc (.cells #[.int .u32 op] 31)).heap[W1.heap.size]? = some (.cells #[.int .u32 op] 31 (0, 0)) from heap_at _ _ _ rfl)
 have R7 := Aside0.mk (blk_below R6.out (below_alloc (Below.refl _ _) (.cells #[.int .u32 op] 31)))
 have NE := Aside0.mk (show g5 ≠ W1.heap.size from fun e => by have := lt_of_at R6.out; omega)
 have GE := Aside0.mk (show w.heap.size ≤ W1.heap.size from BB.out.size)
 clear BB R6 hw
 generalize W1.alloc (.cells #[.int .u32 op] 31) = W2 at B4 R4 R7 ⊢
 generalize W1.heap.size = g4 at R4 NE GE ⊢
 have c1 := (blk_cell R7.out 1).trans rfl
 go_upto_region 6 with (first | (go_at_call 39; refine (at_calls R4.out _ _ (by decide)).mono ?_; rintro e W' ⟨rfl, r4, x4⟩; have N4 := Aside0.mk r4; have N7 := Aside0.mk (x4.at R7.out NE.out); have NB := Aside0.mk (B4.out.trans (x4.below_of B4.out.size (fun i hi => by rw [hi]; exact GE.out))); clear r4 x4 R4 R7 B4; have R4 := N4; have R7 := N7; have B4 := NB; clear N4 N7 NB; clear c1; have c2 := (blk_cell R7.out 2).trans rfl))
 go_upto_region 7 with (first | (go_at_call 39; refine (at_calls R4.out _ _ (by decide)).mono ?_; rintro e W' ⟨rfl, r4, x4⟩; have N4 := Aside0.mk r4; have N7 := Aside0.mk (x4.at R7.out NE.out); have NB := Aside0.mk (B4.out.trans (x4.below_of B4.out.size (fun i hi => by rw [hi]; exact GE.out))); clear r4 x4 R4 R7 B4; have R4 := N4; have R7 := N7; have B4 := NB; clear N4 N7 NB; clear c2; have c3 := (blk_cell R7.out 3).trans rfl))
 go_upto_region 8 with (first | (go_at_call 39; refine (at_calls R4.out _ _ (by decide)).mono ?_; rintro e W' ⟨rfl, r4, x4⟩; have N4 := Aside0.mk r4; have N7 := Aside0.mk (x4.at R7.out NE.out); have NB := Aside0.mk (B4.out.trans (x4.below_of B4.out.size (fun i hi => by rw [hi]; exact GE.out))); clear r4 x4 R4 R7 B4; have R4 := N4; have R7 := N7; have B4 := NB; clear N4 N7 NB; clear c3; have c0 := (blk_cell R7.out 0).trans rfl; have c4 := (blk_cell R7.out 4).trans rfl))
 go_wp2_with (first | (go_at_call 35; refine (enc_Form.calls 20 _ _ _ HF.out).mono ?_; rintro e w' ⟨rfl, ⟨nd, rfl⟩⟩) | (go_at_call 37; refine (enc_far.calls _ _ _ (show enc_far.f 1 = some false from rfl)).mono ?_; rintro e w' ⟨rfl, ⟨ne, rfl⟩⟩; have DD := Aside0.mk (pm_chain (below_dN W' nd) (below_dN (W'.drewN nd) ne)); have N4 := Aside0.mk (blk_below R4.out DD.out); have N7 := Aside0.mk (blk_below R7.out DD.out); have NB := Aside0.mk (B4.out.trans (DD.out.mono B4.out.size)); clear R4 R7 B4 c0 c4; have R4 := N4; have R7 := N7; have B4 := NB; clear N4 N7 NB DD; generalize (W'.drewN nd).drewN ne = W5 at R4 R7 B4 ⊢; have c4 := (blk_cell R7.out 4).trans rfl) | (go_at_call 39; refine (at_calls R4.out _ _ (by decide)).mono ?_; rintro e W' ⟨rfl, r4, x4⟩; have N4 := Aside0.mk r4; have N7 := Aside0.mk (x4.at R7.out NE.out); have NB := Aside0.mk (B4.out.trans (x4.below_of B4.out.size (fun i hi => by rw [hi]; exact GE.out))); clear r4 x4 R4 R7 B4; have R4 := N4; have R7 := N7; have B4 := NB; clear N4 N7 NB; clear c4; have e4 := (blk_cell R4.out 0).trans rfl))
 go_ret2
 exact ⟨rfl, B4.out⟩
set_option maxHeartbeats 4000000 in
set_option maxRecDepth 100000 in
theorem encode_2 (w : World) (op a b d imm : Int) (hop : 0 ≤ op ∧ op < 256) (hf : enc_Form.f 20 op = some 2) (ha : 0 ≤ a ∧ a ≤ 15) (hb : 0 ≤ b ∧ b ≤ 15) (hd : 0 ≤ d ∧ d ≤ 0) (hi : -32768 ≤ imm ∧ imm ≤ 32767) :
  Calls Try.prog 26 #[.agg #[.int .i64 op, .int .i64 a, .int .i64 b, .int .i64 d, .int .i64 imm]] w fun e w' => e = .returned (.tuple #[.int .u32 (encW false op a b d imm), .int .i64 0]) ∧ Below w.heap.size w w' := by
 have hw : IntKind.u32.wrap op = op := by rw [IntKind.wrap_u32]; omega
 have HF := Aside0.mk hf
 have HA := Aside0.mk ha
 have HBB := Aside0.mk hb
 have HDD := Aside0.mk hd
 have HI := Aside0.mk hi
 have B0 := Aside0.mk (show Below w.heap.size w (w.alloc (.cells #[.int .i64 op, .int .i64 a, .int .i64 b, .int .i64 d, .int .i64 imm] 36)) from below_alloc (Below.refl _ _) _)
 have R5 := Aside0.mk (show (w.alloc (.cells #[.int .i64 op, .int .i64 a, .int .i64 b, .int .i64 d, .int .i64 imm] 36)).heap[w.heap.size]? = some (.cells #[.int .i64 op, .int .i64 a, .int .i64 b, .int .i64 d, .int .i64 imm] 36 (0, 0)) from heap_at _ _ _ rfl)
 clear hf ha hb hd hi hop
 go_enter Try.func26, Try.ntmps26
 go_upto_region 1 with (fail)
 generalize (w.alloc (.cells #[.int .i64 op, .int .i64 a, .int .i64 b, .int .i64 d, .int .i64 imm] 36)) = W0 at R5 B0 ⊢
 generalize hg5 : w.heap.size = g5 at R5 ⊢
 have c0 := (blk_cell R5.out 0).trans rfl
 have c1 := (blk_cell R5.out 1).trans rfl
 have c2 := (blk_cell R5.out 2).trans rfl
 have c3 := (blk_cell R5.out 3).trans rfl
 have c4 := (blk_cell R5.out 4).trans rfl
 go_upto_region 5 with (first | (go_at_call 38; refine (right_2 _ _ _ _ _ _ HF.out HA.out HBB.out HDD.out HI.out).mono ?_; rintro e W1 ⟨rfl, hb⟩; have BB := Aside0.mk (pm_chain B0.out hb); have R6 := Aside0.mk (blk_below R5.out hb); have c0 := (blk_cell R6.out 0).trans rfl; have c1 := (blk_cell R6.out 1).trans rfl; have c2 := (blk_cell R6.out 2).trans rfl; have c3 := (blk_cell R6.out 3).trans rfl; have c4 := (blk_cell R6.out 4).trans rfl; clear hb R5 B0))
 have B4 := Aside0.mk (show Below w.heap.size w (W1.alloc (.cells #[.int .u32 op] 31)) from below_alloc BB.out _)
 have R4 := Aside0.mk (show (W1.alloc (.cells #[.int .u32 op] 31)).heap[W1.heap.size]? = some (.cells #[.int .u32 op] 31 (0, 0)) from heap_at _ _ _ rfl)
 have R7 := Aside0.mk (blk_below R6.out (below_alloc (Below.refl _ _) (.cells #[.int .u32 op] 31)))
 have NE := Aside0.mk (show g5 ≠ W1.heap.size from fun e => by have := lt_of_at R6.out; omega)
 have GE := Aside0.mk (show w.heap.size ≤ W1.heap.size from BB.out.size)
 clear BB R6 hw
 generalize W1.alloc (.cells #[.int .u32 op] 31) = W2 at B4 R4 R7 ⊢
 generalize W1.heap.size = g4 at R4 NE GE ⊢
 have c1 := (blk_cell R7.out 1).trans rfl
 go_upto_region 6 with (first | (go_at_call 39; refine (at_calls R4.out _ _ (by decide)).mono ?_; rintro e W' ⟨rfl, r4, x4⟩; have N4 := Aside0.mk r4; have N7 := Aside0.mk (x4.at R7.out NE.out); have NB := Aside0.mk (B4.out.trans (x4.below_of B4.out.size (fun i hi => by rw [hi]; exact GE.out))); clear r4 x4 R4 R7 B4; have R4 := N4; have R7 := N7; have B4 := NB; clear N4 N7 NB; clear c1; have c2 := (blk_cell R7.out 2).trans rfl))
 go_upto_region 7 with (first | (go_at_call 39; refine (at_calls R4.out _ _ (by decide)).mono ?_; rintro e W' ⟨rfl, r4, x4⟩; have N4 := Aside0.mk r4; have N7 := Aside0.mk (x4.at R7.out NE.out); have NB := Aside0.mk (B4.out.trans (x4.below_of B4.out.size (fun i hi => by rw [hi]; exact GE.out))); clear r4 x4 R4 R7 B4; have R4 := N4; have R7 := N7; have B4 := NB; clear N4 N7 NB; clear c2; have c3 := (blk_cell R7.out 3).trans rfl))
 go_upto_region 8 with (first | (go_at_call 39; refine (at_calls R4.out _ _ (by decide)).mono ?_; rintro e W' ⟨rfl, r4, x4⟩; have N4 := Aside0.mk r4; have N7 := Aside0.mk (x4.at R7.out NE.out); have NB := Aside0.mk (B4.out.trans (x4.below_of B4.out.size (fun i hi => by rw [hi]; exact GE.out))); clear r4 x4 R4 R7 B4; have R4 := N4; have R7 := N7; have B4 := NB; clear N4 N7 NB; clear c3; have c0 := (blk_cell R7.out 0).trans rfl; have c4 := (blk_cell R7.out 4).trans rfl))
 go_wp2_with (first | (go_at_call 35; refine (enc_Form.calls 20 _ _ _ HF.out).mono ?_; rintro e w' ⟨rfl, ⟨nd, rfl⟩⟩) | (go_at_call 37; refine (enc_far.calls _ _ _ (show enc_far.f 2 = some false from rfl)).mono ?_; rintro e w' ⟨rfl, ⟨ne, rfl⟩⟩; have DD := Aside0.mk (pm_chain (below_dN W' nd) (below_dN (W'.drewN nd) ne)); have N4 := Aside0.mk (blk_below R4.out DD.out); have N7 := Aside0.mk (blk_below R7.out DD.out); have NB := Aside0.mk (B4.out.trans (DD.out.mono B4.out.size)); clear R4 R7 B4 c0 c4; have R4 := N4; have R7 := N7; have B4 := NB; clear N4 N7 NB DD; generalize (W'.drewN nd).drewN ne = W5 at R4 R7 B4 ⊢; have c4 := (blk_cell R7.out 4).trans rfl) | (go_at_call 39; refine (at_calls R4.out _ _ (by decide)).mono ?_; rintro e W' ⟨rfl, r4, x4⟩; have N4 := Aside0.mk r4; have N7 := Aside0.mk (x4.at R7.out NE.out); have NB := Aside0.mk (B4.out.trans (x4.below_of B4.out.size (fun i hi => by rw [hi]; exact GE.out))); clear r4 x4 R4 R7 B4; have R4 := N4; have R7 := N7; have B4 := NB; clear N4 N7 NB; clear c4; have e4 := (blk_cell R4.out 0).trans rfl))
 go_ret2
 exact ⟨rfl, B4.out⟩
set_option maxHeartbeats 4000000 in
set_option maxRecDepth 100000 in
theorem encode_3 (w : World) (op a b d imm : Int) (hop : 0 ≤ op ∧ op < 256) (hf : enc_Form.f 20 op = some 3) (ha : 0 ≤ a ∧ a ≤ 15) (hb : 0 ≤ b ∧ b ≤ 0) (hd : 0 ≤ d ∧ d ≤ 0) (hi : -32768 ≤ imm ∧ imm ≤ 32767) :
  Calls Try.prog 26 #[.agg #[.int .i64 op, .int .i64 a, .int .i64 b, .int .i64 d, .int .i64 imm]] w fun e w' => e = .returned (.tuple #[.int .u32 (encW false op a b d imm), .int .i64 0]) ∧ Below w.heap.size w w' := by
 have hw : IntKind.u32.wrap op = op := by rw [IntKind.wrap_u32]; omega
 have HF := Aside0.mk hf
 have HA := Aside0.mk ha
 have HBB := Aside0.mk hb
 have HDD := Aside0.mk hd
 have HI := Aside0.mk hi
 have B0 := Aside0.mk (show Below w.heap.size w (w.alloc (.cells #[.int .i64 op, .int .i64 a, .int .i64 b, .int .i64 d, .int .i64 imm] 36)) from below_alloc (Below.refl _ _) _)
 have R5 := Aside0.mk (show (w.alloc (.cells #[.int .i64 op, .int .i64 a, .int .i64 b, .int .i64 d, .int .i64 imm] 36)).heap[w.heap.size]? = some (.cells #[.int .i64 op, .int .i64 a, .int .i64 b, .int .i64 d, .int .i64 imm] 36 (0, 0)) from heap_at _ _ _ rfl)
 clear hf ha hb hd hi hop
 go_enter Try.func26, Try.ntmps26
 go_upto_region 1 with (fail)
 generalize (w.alloc (.cells #[.int .i64 op, .int .i64 a, .int .i64 b, .int .i64 d, .int .i64 imm] 36)) = W0 at R5 B0 ⊢
 generalize hg5 : w.heap.size = g5 at R5 ⊢
 have c0 := (blk_cell R5.out 0).trans rfl
 have c1 := (blk_cell R5.out 1).trans rfl
 have c2 := (blk_cell R5.out 2).trans rfl
 have c3 := (blk_cell R5.out 3).trans rfl
 have c4 := (blk_cell R5.out 4).trans rfl
 go_upto_region 5 with (first | (go_at_call 38; refine (right_3 _ _ _ _ _ _ HF.out HA.out HBB.out HDD.out HI.out).mono ?_; rintro e W1 ⟨rfl, hb⟩; have BB := Aside0.mk (pm_chain B0.out hb); have R6 := Aside0.mk (blk_below R5.out hb); have c0 := (blk_cell R6.out 0).trans rfl; have c1 := (blk_cell R6.out 1).trans rfl; have c2 := (blk_cell R6.out 2).trans rfl; have c3 := (blk_cell R6.out 3).trans rfl; have c4 := (blk_cell R6.out 4).trans rfl; clear hb R5 B0))
 have B4 := Aside0.mk (show Below w.heap.size w (W1.alloc (.cells #[.int .u32 op] 31)) from below_alloc BB.out _)
 have R4 := Aside0.mk (show (W1.alloc (.cells #[.int .u32 op] 31)).heap[W1.heap.size]? = some (.cells #[.int .u32 op] 31 (0, 0)) from heap_at _ _ _ rfl)
 have R7 := Aside0.mk (blk_below R6.out (below_alloc (Below.refl _ _) (.cells #[.int .u32 op] 31)))
 have NE := Aside0.mk (show g5 ≠ W1.heap.size from fun e => by have := lt_of_at R6.out; omega)
 have GE := Aside0.mk (show w.heap.size ≤ W1.heap.size from BB.out.size)
 clear BB R6 hw
 generalize W1.alloc (.cells #[.int .u32 op] 31) = W2 at B4 R4 R7 ⊢
 generalize W1.heap.size = g4 at R4 NE GE ⊢
 have c1 := (blk_cell R7.out 1).trans rfl
 go_upto_region 6 with (first | (go_at_call 39; refine (at_calls R4.out _ _ (by decide)).mono ?_; rintro e W' ⟨rfl, r4, x4⟩; have N4 := Aside0.mk r4; have N7 := Aside0.mk (x4.at R7.out NE.out); have NB := Aside0.mk (B4.out.trans (x4.below_of B4.out.size (fun i hi => by rw [hi]; exact GE.out))); clear r4 x4 R4 R7 B4; have R4 := N4; have R7 := N7; have B4 := NB; clear N4 N7 NB; clear c1; have c2 := (blk_cell R7.out 2).trans rfl))
 go_upto_region 7 with (first | (go_at_call 39; refine (at_calls R4.out _ _ (by decide)).mono ?_; rintro e W' ⟨rfl, r4, x4⟩; have N4 := Aside0.mk r4; have N7 := Aside0.mk (x4.at R7.out NE.out); have NB := Aside0.mk (B4.out.trans (x4.below_of B4.out.size (fun i hi => by rw [hi]; exact GE.out))); clear r4 x4 R4 R7 B4; have R4 := N4; have R7 := N7; have B4 := NB; clear N4 N7 NB; clear c2; have c3 := (blk_cell R7.out 3).trans rfl))
 go_upto_region 8 with (first | (go_at_call 39; refine (at_calls R4.out _ _ (by decide)).mono ?_; rintro e W' ⟨rfl, r4, x4⟩; have N4 := Aside0.mk r4; have N7 := Aside0.mk (x4.at R7.out NE.out); have NB := Aside0.mk (B4.out.trans (x4.below_of B4.out.size (fun i hi => by rw [hi]; exact GE.out))); clear r4 x4 R4 R7 B4; have R4 := N4; have R7 := N7; have B4 := NB; clear N4 N7 NB; clear c3; have c0 := (blk_cell R7.out 0).trans rfl; have c4 := (blk_cell R7.out 4).trans rfl))
 go_wp2_with (first | (go_at_call 35; refine (enc_Form.calls 20 _ _ _ HF.out).mono ?_; rintro e w' ⟨rfl, ⟨nd, rfl⟩⟩) | (go_at_call 37; refine (enc_far.calls _ _ _ (show enc_far.f 3 = some false from rfl)).mono ?_; rintro e w' ⟨rfl, ⟨ne, rfl⟩⟩; have DD := Aside0.mk (pm_chain (below_dN W' nd) (below_dN (W'.drewN nd) ne)); have N4 := Aside0.mk (blk_below R4.out DD.out); have N7 := Aside0.mk (blk_below R7.out DD.out); have NB := Aside0.mk (B4.out.trans (DD.out.mono B4.out.size)); clear R4 R7 B4 c0 c4; have R4 := N4; have R7 := N7; have B4 := NB; clear N4 N7 NB DD; generalize (W'.drewN nd).drewN ne = W5 at R4 R7 B4 ⊢; have c4 := (blk_cell R7.out 4).trans rfl) | (go_at_call 39; refine (at_calls R4.out _ _ (by decide)).mono ?_; rintro e W' ⟨rfl, r4, x4⟩; have N4 := Aside0.mk r4; have N7 := Aside0.mk (x4.at R7.out NE.out); have NB := Aside0.mk (B4.out.trans (x4.below_of B4.out.size (fun i hi => by rw [hi]; exact GE.out))); clear r4 x4 R4 R7 B4; have R4 := N4; have R7 := N7; have B4 := NB; clear N4 N7 NB; clear c4; have e4 := (blk_cell R4.out 0).trans rfl))
 go_ret2
 exact ⟨rfl, B4.out⟩
set_option maxHeartbeats 4000000 in
set_option maxRecDepth 100000 in
theorem encode_4 (w : World) (op a b d imm : Int) (hop : 0 ≤ op ∧ op < 256) (hf : enc_Form.f 20 op = some 4) (ha : 0 ≤ a ∧ a ≤ 15) (hb : 0 ≤ b ∧ b ≤ 0) (hd : 0 ≤ d ∧ d ≤ 0) (hi : 0 ≤ imm ∧ imm ≤ 65535) :
  Calls Try.prog 26 #[.agg #[.int .i64 op, .int .i64 a, .int .i64 b, .int .i64 d, .int .i64 imm]] w fun e w' => e = .returned (.tuple #[.int .u32 (encW false op a b d imm), .int .i64 0]) ∧ Below w.heap.size w w' := by
 have hw : IntKind.u32.wrap op = op := by rw [IntKind.wrap_u32]; omega
 have HF := Aside0.mk hf
 have HA := Aside0.mk ha
 have HBB := Aside0.mk hb
 have HDD := Aside0.mk hd
 have HI := Aside0.mk hi
 have B0 := Aside0.mk (show Below w.heap.size w (w.alloc (.cells #[.int .i64 op, .int .i64 a, .int .i64 b, .int .i64 d, .int .i64 imm] 36)) from below_alloc (Below.refl _ _) _)
 have R5 := Aside0.mk (show (w.alloc (.cells #[.int .i64 op, .int .i64 a, .int .i64 b, .int .i64 d, .int .i64 imm] 36)).heap[w.heap.size]? = some (.cells #[.int .i64 op, .int .i64 a, .int .i64 b, .int .i64 d, .int .i64 imm] 36 (0, 0)) from heap_at _ _ _ rfl)
 clear hf ha hb hd hi hop
 go_enter Try.func26, Try.ntmps26
 go_upto_region 1 with (fail)
 generalize (w.alloc (.cells #[.int .i64 op, .int .i64 a, .int .i64 b, .int .i64 d, .int .i64 imm] 36)) = W0 at R5 B0 ⊢
 generalize hg5 : w.heap.size = g5 at R5 ⊢
 have c0 := (blk_cell R5.out 0).trans rfl
 have c1 := (blk_cell R5.out 1).trans rfl
 have c2 := (blk_cell R5.out 2).trans rfl
 have c3 := (blk_cell R5.out 3).trans rfl
 have c4 := (blk_cell R5.out 4).trans rfl
 go_upto_region 5 with (first | (go_at_call 38; refine (right_4 _ _ _ _ _ _ HF.out HA.out HBB.out HDD.out HI.out).mono ?_; rintro e W1 ⟨rfl, hb⟩; have BB := Aside0.mk (pm_chain B0.out hb); have R6 := Aside0.mk (blk_below R5.out hb); have c0 := (blk_cell R6.out 0).trans rfl; have c1 := (blk_cell R6.out 1).trans rfl; have c2 := (blk_cell R6.out 2).trans rfl; have c3 := (blk_cell R6.out 3).trans rfl; have c4 := (blk_cell R6.out 4).trans rfl; clear hb R5 B0))
 have B4 := Aside0.mk (show Below w.heap.size w (W1.alloc (.cells #[.int .u32 op] 31)) from below_alloc BB.out _)
 have R4 := Aside0.mk (show (W1.alloc (.cells #[.int .u32 op] 31)).heap[W1.heap.size]? = some (.cells #[.int .u32 op] 31 (0, 0)) from heap_at _ _ _ rfl)
 have R7 := Aside0.mk (blk_below R6.out (below_alloc (Below.refl _ _) (.cells #[.int .u32 op] 31)))
 have NE := Aside0.mk (show g5 ≠ W1.heap.size from fun e => by have := lt_of_at R6.out; omega)
 have GE := Aside0.mk (show w.heap.size ≤ W1.heap.size from BB.out.size)
 clear BB R6 hw
 generalize W1.alloc (.cells #[.int .u32 op] 31) = W2 at B4 R4 R7 ⊢
 generalize W1.heap.size = g4 at R4 NE GE ⊢
 have c1 := (blk_cell R7.out 1).trans rfl
 go_upto_region 6 with (first | (go_at_call 39; refine (at_calls R4.out _ _ (by decide)).mono ?_; rintro e W' ⟨rfl, r4, x4⟩; have N4 := Aside0.mk r4; have N7 := Aside0.mk (x4.at R7.out NE.out); have NB := Aside0.mk (B4.out.trans (x4.below_of B4.out.size (fun i hi => by rw [hi]; exact GE.out))); clear r4 x4 R4 R7 B4; have R4 := N4; have R7 := N7; have B4 := NB; clear N4 N7 NB; clear c1; have c2 := (blk_cell R7.out 2).trans rfl))
 go_upto_region 7 with (first | (go_at_call 39; refine (at_calls R4.out _ _ (by decide)).mono ?_; rintro e W' ⟨rfl, r4, x4⟩; have N4 := Aside0.mk r4; have N7 := Aside0.mk (x4.at R7.out NE.out); have NB := Aside0.mk (B4.out.trans (x4.below_of B4.out.size (fun i hi => by rw [hi]; exact GE.out))); clear r4 x4 R4 R7 B4; have R4 := N4; have R7 := N7; have B4 := NB; clear N4 N7 NB; clear c2; have c3 := (blk_cell R7.out 3).trans rfl))
 go_upto_region 8 with (first | (go_at_call 39; refine (at_calls R4.out _ _ (by decide)).mono ?_; rintro e W' ⟨rfl, r4, x4⟩; have N4 := Aside0.mk r4; have N7 := Aside0.mk (x4.at R7.out NE.out); have NB := Aside0.mk (B4.out.trans (x4.below_of B4.out.size (fun i hi => by rw [hi]; exact GE.out))); clear r4 x4 R4 R7 B4; have R4 := N4; have R7 := N7; have B4 := NB; clear N4 N7 NB; clear c3; have c0 := (blk_cell R7.out 0).trans rfl; have c4 := (blk_cell R7.out 4).trans rfl))
 go_wp2_with (first | (go_at_call 35; refine (enc_Form.calls 20 _ _ _ HF.out).mono ?_; rintro e w' ⟨rfl, ⟨nd, rfl⟩⟩) | (go_at_call 37; refine (enc_far.calls _ _ _ (show enc_far.f 4 = some false from rfl)).mono ?_; rintro e w' ⟨rfl, ⟨ne, rfl⟩⟩; have DD := Aside0.mk (pm_chain (below_dN W' nd) (below_dN (W'.drewN nd) ne)); have N4 := Aside0.mk (blk_below R4.out DD.out); have N7 := Aside0.mk (blk_below R7.out DD.out); have NB := Aside0.mk (B4.out.trans (DD.out.mono B4.out.size)); clear R4 R7 B4 c0 c4; have R4 := N4; have R7 := N7; have B4 := NB; clear N4 N7 NB DD; generalize (W'.drewN nd).drewN ne = W5 at R4 R7 B4 ⊢; have c4 := (blk_cell R7.out 4).trans rfl) | (go_at_call 39; refine (at_calls R4.out _ _ (by decide)).mono ?_; rintro e W' ⟨rfl, r4, x4⟩; have N4 := Aside0.mk r4; have N7 := Aside0.mk (x4.at R7.out NE.out); have NB := Aside0.mk (B4.out.trans (x4.below_of B4.out.size (fun i hi => by rw [hi]; exact GE.out))); clear r4 x4 R4 R7 B4; have R4 := N4; have R7 := N7; have B4 := NB; clear N4 N7 NB; clear c4; have e4 := (blk_cell R4.out 0).trans rfl))
 go_ret2
 exact ⟨rfl, B4.out⟩
set_option maxHeartbeats 4000000 in
set_option maxRecDepth 100000 in
theorem encode_5 (w : World) (op a b d imm : Int) (hop : 0 ≤ op ∧ op < 256) (hf : enc_Form.f 20 op = some 5) (ha : 0 ≤ a ∧ a ≤ 0) (hb : 0 ≤ b ∧ b ≤ 0) (hd : 0 ≤ d ∧ d ≤ 0) (hi : -8388608 ≤ imm ∧ imm ≤ 8388607) :
  Calls Try.prog 26 #[.agg #[.int .i64 op, .int .i64 a, .int .i64 b, .int .i64 d, .int .i64 imm]] w fun e w' => e = .returned (.tuple #[.int .u32 (encW true op a b d imm), .int .i64 0]) ∧ Below w.heap.size w w' := by
 have hw : IntKind.u32.wrap op = op := by rw [IntKind.wrap_u32]; omega
 have HF := Aside0.mk hf
 have HA := Aside0.mk ha
 have HBB := Aside0.mk hb
 have HDD := Aside0.mk hd
 have HI := Aside0.mk hi
 have B0 := Aside0.mk (show Below w.heap.size w (w.alloc (.cells #[.int .i64 op, .int .i64 a, .int .i64 b, .int .i64 d, .int .i64 imm] 36)) from below_alloc (Below.refl _ _) _)
 have R5 := Aside0.mk (show (w.alloc (.cells #[.int .i64 op, .int .i64 a, .int .i64 b, .int .i64 d, .int .i64 imm] 36)).heap[w.heap.size]? = some (.cells #[.int .i64 op, .int .i64 a, .int .i64 b, .int .i64 d, .int .i64 imm] 36 (0, 0)) from heap_at _ _ _ rfl)
 clear hf ha hb hd hi hop
 go_enter Try.func26, Try.ntmps26
 go_upto_region 1 with (fail)
 generalize (w.alloc (.cells #[.int .i64 op, .int .i64 a, .int .i64 b, .int .i64 d, .int .i64 imm] 36)) = W0 at R5 B0 ⊢
 generalize hg5 : w.heap.size = g5 at R5 ⊢
 have c0 := (blk_cell R5.out 0).trans rfl
 have c1 := (blk_cell R5.out 1).trans rfl
 have c2 := (blk_cell R5.out 2).trans rfl
 have c3 := (blk_cell R5.out 3).trans rfl
 have c4 := (blk_cell R5.out 4).trans rfl
 go_upto_region 5 with (first | (go_at_call 38; refine (right_5 _ _ _ _ _ _ HF.out HA.out HBB.out HDD.out HI.out).mono ?_; rintro e W1 ⟨rfl, hb⟩; have BB := Aside0.mk (pm_chain B0.out hb); have R6 := Aside0.mk (blk_below R5.out hb); have c0 := (blk_cell R6.out 0).trans rfl; have c1 := (blk_cell R6.out 1).trans rfl; have c2 := (blk_cell R6.out 2).trans rfl; have c3 := (blk_cell R6.out 3).trans rfl; have c4 := (blk_cell R6.out 4).trans rfl; clear hb R5 B0))
 have B4 := Aside0.mk (show Below w.heap.size w (W1.alloc (.cells #[.int .u32 op] 31)) from below_alloc BB.out _)
 have R4 := Aside0.mk (show (W1.alloc (.cells #[.int .u32 op] 31)).heap[W1.heap.size]? = some (.cells #[.int .u32 op] 31 (0, 0)) from heap_at _ _ _ rfl)
 have R7 := Aside0.mk (blk_below R6.out (below_alloc (Below.refl _ _) (.cells #[.int .u32 op] 31)))
 have NE := Aside0.mk (show g5 ≠ W1.heap.size from fun e => by have := lt_of_at R6.out; omega)
 have GE := Aside0.mk (show w.heap.size ≤ W1.heap.size from BB.out.size)
 clear BB R6 hw
 generalize W1.alloc (.cells #[.int .u32 op] 31) = W2 at B4 R4 R7 ⊢
 generalize W1.heap.size = g4 at R4 NE GE ⊢
 have c1 := (blk_cell R7.out 1).trans rfl
 go_upto_region 6 with (first | (go_at_call 39; refine (at_calls R4.out _ _ (by decide)).mono ?_; rintro e W' ⟨rfl, r4, x4⟩; have N4 := Aside0.mk r4; have N7 := Aside0.mk (x4.at R7.out NE.out); have NB := Aside0.mk (B4.out.trans (x4.below_of B4.out.size (fun i hi => by rw [hi]; exact GE.out))); clear r4 x4 R4 R7 B4; have R4 := N4; have R7 := N7; have B4 := NB; clear N4 N7 NB; clear c1; have c2 := (blk_cell R7.out 2).trans rfl))
 go_upto_region 7 with (first | (go_at_call 39; refine (at_calls R4.out _ _ (by decide)).mono ?_; rintro e W' ⟨rfl, r4, x4⟩; have N4 := Aside0.mk r4; have N7 := Aside0.mk (x4.at R7.out NE.out); have NB := Aside0.mk (B4.out.trans (x4.below_of B4.out.size (fun i hi => by rw [hi]; exact GE.out))); clear r4 x4 R4 R7 B4; have R4 := N4; have R7 := N7; have B4 := NB; clear N4 N7 NB; clear c2; have c3 := (blk_cell R7.out 3).trans rfl))
 go_upto_region 8 with (first | (go_at_call 39; refine (at_calls R4.out _ _ (by decide)).mono ?_; rintro e W' ⟨rfl, r4, x4⟩; have N4 := Aside0.mk r4; have N7 := Aside0.mk (x4.at R7.out NE.out); have NB := Aside0.mk (B4.out.trans (x4.below_of B4.out.size (fun i hi => by rw [hi]; exact GE.out))); clear r4 x4 R4 R7 B4; have R4 := N4; have R7 := N7; have B4 := NB; clear N4 N7 NB; clear c3; have c0 := (blk_cell R7.out 0).trans rfl; have c4 := (blk_cell R7.out 4).trans rfl))
 go_wp2_with (first | (go_at_call 35; refine (enc_Form.calls 20 _ _ _ HF.out).mono ?_; rintro e w' ⟨rfl, ⟨nd, rfl⟩⟩) | (go_at_call 37; refine (enc_far.calls _ _ _ (show enc_far.f 5 = some true from rfl)).mono ?_; rintro e w' ⟨rfl, ⟨ne, rfl⟩⟩; have DD := Aside0.mk (pm_chain (below_dN W' nd) (below_dN (W'.drewN nd) ne)); have N4 := Aside0.mk (blk_below R4.out DD.out); have N7 := Aside0.mk (blk_below R7.out DD.out); have NB := Aside0.mk (B4.out.trans (DD.out.mono B4.out.size)); clear R4 R7 B4 c0 c4; have R4 := N4; have R7 := N7; have B4 := NB; clear N4 N7 NB DD; generalize (W'.drewN nd).drewN ne = W5 at R4 R7 B4 ⊢; have c4 := (blk_cell R7.out 4).trans rfl) | (go_at_call 39; refine (at_calls R4.out _ _ (by decide)).mono ?_; rintro e W' ⟨rfl, r4, x4⟩; have N4 := Aside0.mk r4; have N7 := Aside0.mk (x4.at R7.out NE.out); have NB := Aside0.mk (B4.out.trans (x4.below_of B4.out.size (fun i hi => by rw [hi]; exact GE.out))); clear r4 x4 R4 R7 B4; have R4 := N4; have R7 := N7; have B4 := NB; clear N4 N7 NB; clear c4; have e4 := (blk_cell R4.out 0).trans rfl))
 go_ret2
 exact ⟨rfl, B4.out⟩
set_option maxHeartbeats 4000000 in
set_option maxRecDepth 100000 in
theorem encode_7 (w : World) (op a b d imm : Int) (hop : 0 ≤ op ∧ op < 256) (hf : enc_Form.f 20 op = some 7) (ha : 0 ≤ a ∧ a ≤ 15) (hb : 0 ≤ b ∧ b ≤ 0) (hd : 0 ≤ d ∧ d ≤ 0) (hi : 0 ≤ imm ∧ imm ≤ 0) :
  Calls Try.prog 26 #[.agg #[.int .i64 op, .int .i64 a, .int .i64 b, .int .i64 d, .int .i64 imm]] w fun e w' => e = .returned (.tuple #[.int .u32 (encW false op a b d imm), .int .i64 0]) ∧ Below w.heap.size w w' := by
 have hw : IntKind.u32.wrap op = op := by rw [IntKind.wrap_u32]; omega
 have HF := Aside0.mk hf
 have HA := Aside0.mk ha
 have HBB := Aside0.mk hb
 have HDD := Aside0.mk hd
 have HI := Aside0.mk hi
 have B0 := Aside0.mk (show Below w.heap.size w (w.alloc (.cells #[.int .i64 op, .int .i64 a, .int .i64 b, .int .i64 d, .int .i64 imm] 36)) from below_alloc (Below.refl _ _) _)
 have R5 := Aside0.mk (show (w.alloc (.cells #[.int .i64 op, .int .i64 a, .int .i64 b, .int .i64 d, .int .i64 imm] 36)).heap[w.heap.size]? = some (.cells #[.int .i64 op, .int .i64 a, .int .i64 b, .int .i64 d, .int .i64 imm] 36 (0, 0)) from heap_at _ _ _ rfl)
 clear hf ha hb hd hi hop
 go_enter Try.func26, Try.ntmps26
 go_upto_region 1 with (fail)
 generalize (w.alloc (.cells #[.int .i64 op, .int .i64 a, .int .i64 b, .int .i64 d, .int .i64 imm] 36)) = W0 at R5 B0 ⊢
 generalize hg5 : w.heap.size = g5 at R5 ⊢
 have c0 := (blk_cell R5.out 0).trans rfl
 have c1 := (blk_cell R5.out 1).trans rfl
 have c2 := (blk_cell R5.out 2).trans rfl
 have c3 := (blk_cell R5.out 3).trans rfl
 have c4 := (blk_cell R5.out 4).trans rfl
 go_upto_region 5 with (first | (go_at_call 38; refine (right_7 _ _ _ _ _ _ HF.out HA.out HBB.out HDD.out HI.out).mono ?_; rintro e W1 ⟨rfl, hb⟩; have BB := Aside0.mk (pm_chain B0.out hb); have R6 := Aside0.mk (blk_below R5.out hb); have c0 := (blk_cell R6.out 0).trans rfl; have c1 := (blk_cell R6.out 1).trans rfl; have c2 := (blk_cell R6.out 2).trans rfl; have c3 := (blk_cell R6.out 3).trans rfl; have c4 := (blk_cell R6.out 4).trans rfl; clear hb R5 B0))
 have B4 := Aside0.mk (show Below w.heap.size w (W1.alloc (.cells #[.int .u32 op] 31)) from below_alloc BB.out _)
 have R4 := Aside0.mk (show (W1.alloc (.cells #[.int .u32 op] 31)).heap[W1.heap.size]? = some (.cells #[.int .u32 op] 31 (0, 0)) from heap_at _ _ _ rfl)
 have R7 := Aside0.mk (blk_below R6.out (below_alloc (Below.refl _ _) (.cells #[.int .u32 op] 31)))
 have NE := Aside0.mk (show g5 ≠ W1.heap.size from fun e => by have := lt_of_at R6.out; omega)
 have GE := Aside0.mk (show w.heap.size ≤ W1.heap.size from BB.out.size)
 clear BB R6 hw
 generalize W1.alloc (.cells #[.int .u32 op] 31) = W2 at B4 R4 R7 ⊢
 generalize W1.heap.size = g4 at R4 NE GE ⊢
 have c1 := (blk_cell R7.out 1).trans rfl
 go_upto_region 6 with (first | (go_at_call 39; refine (at_calls R4.out _ _ (by decide)).mono ?_; rintro e W' ⟨rfl, r4, x4⟩; have N4 := Aside0.mk r4; have N7 := Aside0.mk (x4.at R7.out NE.out); have NB := Aside0.mk (B4.out.trans (x4.below_of B4.out.size (fun i hi => by rw [hi]; exact GE.out))); clear r4 x4 R4 R7 B4; have R4 := N4; have R7 := N7; have B4 := NB; clear N4 N7 NB; clear c1; have c2 := (blk_cell R7.out 2).trans rfl))
 go_upto_region 7 with (first | (go_at_call 39; refine (at_calls R4.out _ _ (by decide)).mono ?_; rintro e W' ⟨rfl, r4, x4⟩; have N4 := Aside0.mk r4; have N7 := Aside0.mk (x4.at R7.out NE.out); have NB := Aside0.mk (B4.out.trans (x4.below_of B4.out.size (fun i hi => by rw [hi]; exact GE.out))); clear r4 x4 R4 R7 B4; have R4 := N4; have R7 := N7; have B4 := NB; clear N4 N7 NB; clear c2; have c3 := (blk_cell R7.out 3).trans rfl))
 go_upto_region 8 with (first | (go_at_call 39; refine (at_calls R4.out _ _ (by decide)).mono ?_; rintro e W' ⟨rfl, r4, x4⟩; have N4 := Aside0.mk r4; have N7 := Aside0.mk (x4.at R7.out NE.out); have NB := Aside0.mk (B4.out.trans (x4.below_of B4.out.size (fun i hi => by rw [hi]; exact GE.out))); clear r4 x4 R4 R7 B4; have R4 := N4; have R7 := N7; have B4 := NB; clear N4 N7 NB; clear c3; have c0 := (blk_cell R7.out 0).trans rfl; have c4 := (blk_cell R7.out 4).trans rfl))
 go_wp2_with (first | (go_at_call 35; refine (enc_Form.calls 20 _ _ _ HF.out).mono ?_; rintro e w' ⟨rfl, ⟨nd, rfl⟩⟩) | (go_at_call 37; refine (enc_far.calls _ _ _ (show enc_far.f 7 = some false from rfl)).mono ?_; rintro e w' ⟨rfl, ⟨ne, rfl⟩⟩; have DD := Aside0.mk (pm_chain (below_dN W' nd) (below_dN (W'.drewN nd) ne)); have N4 := Aside0.mk (blk_below R4.out DD.out); have N7 := Aside0.mk (blk_below R7.out DD.out); have NB := Aside0.mk (B4.out.trans (DD.out.mono B4.out.size)); clear R4 R7 B4 c0 c4; have R4 := N4; have R7 := N7; have B4 := NB; clear N4 N7 NB DD; generalize (W'.drewN nd).drewN ne = W5 at R4 R7 B4 ⊢; have c4 := (blk_cell R7.out 4).trans rfl) | (go_at_call 39; refine (at_calls R4.out _ _ (by decide)).mono ?_; rintro e W' ⟨rfl, r4, x4⟩; have N4 := Aside0.mk r4; have N7 := Aside0.mk (x4.at R7.out NE.out); have NB := Aside0.mk (B4.out.trans (x4.below_of B4.out.size (fun i hi => by rw [hi]; exact GE.out))); clear r4 x4 R4 R7 B4; have R4 := N4; have R7 := N7; have B4 := NB; clear N4 N7 NB; clear c4; have e4 := (blk_cell R4.out 0).trans rfl))
 go_ret2
 exact ⟨rfl, B4.out⟩
set_option maxHeartbeats 4000000 in
set_option maxRecDepth 100000 in
theorem encode_6y (w : World) (op a b d imm : Int) (hop : 0 ≤ op ∧ op < 256) (hf : enc_Form.f 20 op = some 6) (ha : 0 ≤ a ∧ a ≤ 0) (hb : 0 ≤ b ∧ b ≤ 0) (hd : 0 ≤ d ∧ d ≤ 0) (hi : 0 ≤ imm ∧ imm ≤ 16777215 ∧ imm % 4 = 0) :
  Calls Try.prog 26 #[.agg #[.int .i64 op, .int .i64 a, .int .i64 b, .int .i64 d, .int .i64 imm]] w fun e w' => e = .returned (.tuple #[.int .u32 (encW true op a b d imm), .int .i64 0]) ∧ Below w.heap.size w w' := by
 have hw : IntKind.u32.wrap op = op := by rw [IntKind.wrap_u32]; omega
 have HF := Aside0.mk hf
 have HA := Aside0.mk ha
 have HBB := Aside0.mk hb
 have HDD := Aside0.mk hd
 have HI := Aside0.mk hi
 have B0 := Aside0.mk (show Below w.heap.size w (w.alloc (.cells #[.int .i64 op, .int .i64 a, .int .i64 b, .int .i64 d, .int .i64 imm] 36)) from below_alloc (Below.refl _ _) _)
 have R5 := Aside0.mk (show (w.alloc (.cells #[.int .i64 op, .int .i64 a, .int .i64 b, .int .i64 d, .int .i64 imm] 36)).heap[w.heap.size]? = some (.cells #[.int .i64 op, .int .i64 a, .int .i64 b, .int .i64 d, .int .i64 imm] 36 (0, 0)) from heap_at _ _ _ rfl)
 clear hf ha hb hd hi hop
 go_enter Try.func26, Try.ntmps26
 go_upto_region 1 with (fail)
 generalize (w.alloc (.cells #[.int .i64 op, .int .i64 a, .int .i64 b, .int .i64 d, .int .i64 imm] 36)) = W0 at R5 B0 ⊢
 generalize hg5 : w.heap.size = g5 at R5 ⊢
 have c0 := (blk_cell R5.out 0).trans rfl
 have c1 := (blk_cell R5.out 1).trans rfl
 have c2 := (blk_cell R5.out 2).trans rfl
 have c3 := (blk_cell R5.out 3).trans rfl
 have c4 := (blk_cell R5.out 4).trans rfl
 go_upto_region 5 with (first | (go_at_call 38; refine (right_6y _ _ _ _ _ _ HF.out HA.out HBB.out HDD.out HI.out).mono ?_; rintro e W1 ⟨rfl, hb⟩; have BB := Aside0.mk (pm_chain B0.out hb); have R6 := Aside0.mk (blk_below R5.out hb); have c0 := (blk_cell R6.out 0).trans rfl; have c1 := (blk_cell R6.out 1).trans rfl; have c2 := (blk_cell R6.out 2).trans rfl; have c3 := (blk_cell R6.out 3).trans rfl; have c4 := (blk_cell R6.out 4).trans rfl; clear hb R5 B0))
 have B4 := Aside0.mk (show Below w.heap.size w (W1.alloc (.cells #[.int .u32 op] 31)) from below_alloc BB.out _)
 have R4 := Aside0.mk (show (W1.alloc (.cells #[.int .u32 op] 31)).heap[W1.heap.size]? = some (.cells #[.int .u32 op] 31 (0, 0)) from heap_at _ _ _ rfl)
 have R7 := Aside0.mk (blk_below R6.out (below_alloc (Below.refl _ _) (.cells #[.int .u32 op] 31)))
 have NE := Aside0.mk (show g5 ≠ W1.heap.size from fun e => by have := lt_of_at R6.out; omega)
 have GE := Aside0.mk (show w.heap.size ≤ W1.heap.size from BB.out.size)
 clear BB R6 hw
 generalize W1.alloc (.cells #[.int .u32 op] 31) = W2 at B4 R4 R7 ⊢
 generalize W1.heap.size = g4 at R4 NE GE ⊢
 have c1 := (blk_cell R7.out 1).trans rfl
 go_upto_region 6 with (first | (go_at_call 39; refine (at_calls R4.out _ _ (by decide)).mono ?_; rintro e W' ⟨rfl, r4, x4⟩; have N4 := Aside0.mk r4; have N7 := Aside0.mk (x4.at R7.out NE.out); have NB := Aside0.mk (B4.out.trans (x4.below_of B4.out.size (fun i hi => by rw [hi]; exact GE.out))); clear r4 x4 R4 R7 B4; have R4 := N4; have R7 := N7; have B4 := NB; clear N4 N7 NB; clear c1; have c2 := (blk_cell R7.out 2).trans rfl))
 go_upto_region 7 with (first | (go_at_call 39; refine (at_calls R4.out _ _ (by decide)).mono ?_; rintro e W' ⟨rfl, r4, x4⟩; have N4 := Aside0.mk r4; have N7 := Aside0.mk (x4.at R7.out NE.out); have NB := Aside0.mk (B4.out.trans (x4.below_of B4.out.size (fun i hi => by rw [hi]; exact GE.out))); clear r4 x4 R4 R7 B4; have R4 := N4; have R7 := N7; have B4 := NB; clear N4 N7 NB; clear c2; have c3 := (blk_cell R7.out 3).trans rfl))
 go_upto_region 8 with (first | (go_at_call 39; refine (at_calls R4.out _ _ (by decide)).mono ?_; rintro e W' ⟨rfl, r4, x4⟩; have N4 := Aside0.mk r4; have N7 := Aside0.mk (x4.at R7.out NE.out); have NB := Aside0.mk (B4.out.trans (x4.below_of B4.out.size (fun i hi => by rw [hi]; exact GE.out))); clear r4 x4 R4 R7 B4; have R4 := N4; have R7 := N7; have B4 := NB; clear N4 N7 NB; clear c3; have c0 := (blk_cell R7.out 0).trans rfl; have c4 := (blk_cell R7.out 4).trans rfl))
 go_wp2_with (first | (go_at_call 35; refine (enc_Form.calls 20 _ _ _ HF.out).mono ?_; rintro e w' ⟨rfl, ⟨nd, rfl⟩⟩) | (go_at_call 37; refine (enc_far.calls _ _ _ (show enc_far.f 6 = some true from rfl)).mono ?_; rintro e w' ⟨rfl, ⟨ne, rfl⟩⟩; have DD := Aside0.mk (pm_chain (below_dN W' nd) (below_dN (W'.drewN nd) ne)); have N4 := Aside0.mk (blk_below R4.out DD.out); have N7 := Aside0.mk (blk_below R7.out DD.out); have NB := Aside0.mk (B4.out.trans (DD.out.mono B4.out.size)); clear R4 R7 B4 c0 c4; have R4 := N4; have R7 := N7; have B4 := NB; clear N4 N7 NB DD; generalize (W'.drewN nd).drewN ne = W5 at R4 R7 B4 ⊢; have c4 := (blk_cell R7.out 4).trans rfl) | (go_at_call 39; refine (at_calls R4.out _ _ (by decide)).mono ?_; rintro e W' ⟨rfl, r4, x4⟩; have N4 := Aside0.mk r4; have N7 := Aside0.mk (x4.at R7.out NE.out); have NB := Aside0.mk (B4.out.trans (x4.below_of B4.out.size (fun i hi => by rw [hi]; exact GE.out))); clear r4 x4 R4 R7 B4; have R4 := N4; have R7 := N7; have B4 := NB; clear N4 N7 NB; clear c4; have e4 := (blk_cell R4.out 0).trans rfl))
 go_ret2
 exact ⟨rfl, B4.out⟩
set_option maxHeartbeats 4000000 in
theorem encode_6n (w : World) (op a b d imm : Int) (hf : enc_Form.f 20 op = some 6) (ha : 0 ≤ a ∧ a ≤ 0) (hb : 0 ≤ b ∧ b ≤ 0) (hd : 0 ≤ d ∧ d ≤ 0) (hi : 0 ≤ imm ∧ imm ≤ 16777215 ∧ ¬ imm % 4 = 0) :
  Calls Try.prog 26 #[.agg #[.int .i64 op, .int .i64 a, .int .i64 b, .int .i64 d, .int .i64 imm]] w fun e w' => e = .returned (.tuple #[.int .u32 0, .int .i64 200]) ∧ Below w.heap.size w w' := by
 have HF := Aside0.mk hf
 have HA := Aside0.mk ha
 have HBB := Aside0.mk hb
 have HDD := Aside0.mk hd
 have HI := Aside0.mk hi
 have B0 := Aside0.mk (show Below w.heap.size w (w.alloc (.cells #[.int .i64 op, .int .i64 a, .int .i64 b, .int .i64 d, .int .i64 imm] 36)) from below_alloc (Below.refl _ _) _)
 have R5 := Aside0.mk (show (w.alloc (.cells #[.int .i64 op, .int .i64 a, .int .i64 b, .int .i64 d, .int .i64 imm] 36)).heap[w.heap.size]? = some (.cells #[.int .i64 op, .int .i64 a, .int .i64 b, .int .i64 d, .int .i64 imm] 36 (0, 0)) from heap_at _ _ _ rfl)
 clear hf ha hb hd hi
 go_enter Try.func26, Try.ntmps26
 go_upto_region 1 with (fail)
 generalize (w.alloc (.cells #[.int .i64 op, .int .i64 a, .int .i64 b, .int .i64 d, .int .i64 imm] 36)) = W0 at R5 B0 ⊢
 generalize hg5 : w.heap.size = g5 at R5 ⊢
 have c0 := (blk_cell R5.out 0).trans rfl
 have c1 := (blk_cell R5.out 1).trans rfl
 have c2 := (blk_cell R5.out 2).trans rfl
 have c3 := (blk_cell R5.out 3).trans rfl
 have c4 := (blk_cell R5.out 4).trans rfl
 go_wp2_with (first | (go_at_call 38; refine (right_6n _ _ _ _ _ _ HF.out HA.out HBB.out HDD.out HI.out).mono ?_; rintro e W1 ⟨rfl, hb⟩; have BB := Aside0.mk (pm_chain B0.out hb)))
 go_ret2
 exact ⟨rfl, hg5 ▸ BB.out⟩
end Go.Proofs.Ytejhnlljddjicaa.Ma
