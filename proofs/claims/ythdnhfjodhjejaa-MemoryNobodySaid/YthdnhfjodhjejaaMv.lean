/- A memory that New did not give. No condition beyond those each theorem names. -/
import Derived.Test.YthdnhfjodhjejaaA3
namespace Go.Proofs.Ythdnhfjodhjejaa.Ma
open Go.RowKit Go.Proofs.Ythdnhfjodhjejaa.PMe Go.Proofs.YthdnhfjodhjejaaW.PrintWords Go.Proofs.YthdnhfjodhjejaaW.PrintLast Go.Proofs.YthdnhfjodhjejaaW.PrintMore
set_option linter.unusedVariables false
set_option linter.unusedSimpArgs false
variable {w w' : World} {m mm : Nat} {last : Int} {L : List Rec} {q : Value}
set_option maxHeartbeats 4000000 in
theorem of_nobody (h : Nobody w q) (x : V3) : Calls Try.prog 40 #[q, x.enc] w fun e w' => e = .returned (.pointer none) ∧ Below w.heap.size w w' := by
  have H := Aside0.mk h
  clear h
  obtain ⟨k, v, b⟩ := x
  unfold V3.enc
  simp only
  go_enter Try.func40, Try.ntmps40
  go_wp2_with (first | (go_at_call 41; refine (alive_no (H.out.below (by (repeat (first | (with_reducible exact Below.refl _ _) | (with_reducible assumption) | with_reducible apply below_alloc | with_reducible apply pw_below_drewN | with_reducible apply below_drew1))))).mono ?_; rintro e w' ⟨rfl, rfl⟩))
  go_ret
  exact ⟨rfl, by (repeat (first | (with_reducible exact Below.refl _ _) | (with_reducible assumption) | with_reducible apply below_alloc | with_reducible apply pw_below_drewN | with_reducible apply below_drew1))⟩
set_option maxHeartbeats 4000000 in
theorem at_nobody (h : Nobody w q) (x : V3) (n wd : Int) : Calls Try.prog 52 #[q, x.enc, .int .i64 n, .int .i64 wd] w fun e w' => e = .returned (.slice none 0 0) ∧ Below w.heap.size w w' := by
  have H := Aside0.mk h
  clear h
  obtain ⟨k, v, b⟩ := x
  unfold V3.enc
  simp only
  go_enter Try.func52, Try.ntmps52
  go_wp2_with (fail)
  go_at_call 40
  refine (of_nobody (H.out.below (by (repeat (first | (with_reducible exact Below.refl _ _) | (with_reducible assumption) | with_reducible apply below_alloc | with_reducible apply pw_below_drewN | with_reducible apply below_drew1)))) ⟨k, v, b⟩).mono ?_
  rintro e w' ⟨rfl, hB0⟩
  have hB := pm_chain (w := w) (by (repeat (first | (with_reducible exact Below.refl _ _) | (with_reducible assumption) | with_reducible apply below_alloc | with_reducible apply pw_below_drewN | with_reducible apply below_drew1))) hB0
  clear hB0
  go_wp2_with (fail)
  go_quiet (fail)
  go_wp2_with (fail)
  go_ret
  exact ⟨rfl, by (repeat (first | (with_reducible exact Below.refl _ _) | (with_reducible assumption) | with_reducible apply below_alloc | with_reducible apply pw_below_drewN | with_reducible apply below_drew1))⟩
set_option maxHeartbeats 4000000 in
theorem Make_nobody (h : Nobody w q) (n a : Int) : Calls Try.prog 48 #[q, .int .i64 n, .int .i64 a] w fun e w' => e = .returned (.tuple #[.int .i64 0, .int .i64 1]) ∧ Below w.heap.size w w' := by
  have H := Aside0.mk h
  clear h
  go_enter Try.func48, Try.ntmps48
  go_wp2_with (first | (go_at_call 41; refine (alive_no (H.out.below (by (repeat (first | (with_reducible exact Below.refl _ _) | (with_reducible assumption) | with_reducible apply below_alloc | with_reducible apply pw_below_drewN | with_reducible apply below_drew1))))).mono ?_; rintro e w' ⟨rfl, rfl⟩))
  go_ret2
  exact ⟨rfl, by (repeat (first | (with_reducible exact Below.refl _ _) | (with_reducible assumption) | with_reducible apply below_alloc | with_reducible apply pw_below_drewN | with_reducible apply below_drew1))⟩
set_option maxHeartbeats 4000000 in
theorem End_nobody (h : Nobody w q) (n : Int) : Calls Try.prog 54 #[q, .int .i64 n] w fun e w' => e = .returned (.int .i64 1) ∧ Below w.heap.size w w' := by
  have H := Aside0.mk h
  clear h
  go_enter Try.func54, Try.ntmps54
  go_wp2_with (first | (go_at_call 41; refine (alive_no (H.out.below (by (repeat (first | (with_reducible exact Below.refl _ _) | (with_reducible assumption) | with_reducible apply below_alloc | with_reducible apply pw_below_drewN | with_reducible apply below_drew1))))).mono ?_; rintro e w' ⟨rfl, rfl⟩))
  go_ret
  exact ⟨rfl, by (repeat (first | (with_reducible exact Below.refl _ _) | (with_reducible assumption) | with_reducible apply below_alloc | with_reducible apply pw_below_drewN | with_reducible apply below_drew1))⟩
set_option maxHeartbeats 4000000 in
theorem Cells_nobody (h : Nobody w q) (n : Int) : Calls Try.prog 19 #[q, .int .i64 n] w fun e w' => e = .returned (.tuple #[.slice none 0 0, .int .i64 1]) ∧ Below w.heap.size w w' := by
  have H := Aside0.mk h
  clear h
  go_enter Try.func19, Try.ntmps19
  go_wp2_with (first | (go_at_call 41; refine (alive_no (H.out.below (by (repeat (first | (with_reducible exact Below.refl _ _) | (with_reducible assumption) | with_reducible apply below_alloc | with_reducible apply pw_below_drewN | with_reducible apply below_drew1))))).mono ?_; rintro e w' ⟨rfl, rfl⟩))
  go_ret2
  exact ⟨rfl, by (repeat (first | (with_reducible exact Below.refl _ _) | (with_reducible assumption) | with_reducible apply below_alloc | with_reducible apply pw_below_drewN | with_reducible apply below_drew1))⟩
set_option maxHeartbeats 4000000 in
theorem Truth_nobody (h : Nobody w q) (x : V3) : Calls Try.prog 26 #[q, x.enc] w fun e w' => e = .returned (.tuple #[.bool false, .int .i64 3]) ∧ Below w.heap.size w w' := by
  have H := Aside0.mk h
  clear h
  obtain ⟨k, v, b⟩ := x
  unfold V3.enc
  simp only
  go_enter Try.func26, Try.ntmps26
  go_wp2_with (first | (go_at_call 41; refine (alive_no (H.out.below (by (repeat (first | (with_reducible exact Below.refl _ _) | (with_reducible assumption) | with_reducible apply below_alloc | with_reducible apply pw_below_drewN | with_reducible apply below_drew1))))).mono ?_; rintro e w' ⟨rfl, rfl⟩))
  go_ret2
  exact ⟨rfl, by (repeat (first | (with_reducible exact Below.refl _ _) | (with_reducible assumption) | with_reducible apply below_alloc | with_reducible apply pw_below_drewN | with_reducible apply below_drew1))⟩
set_option maxHeartbeats 4000000 in
theorem Zero_nobody (h : Nobody w q) (x : V3) (n : Int) : Calls Try.prog 59 #[q, x.enc, .int .i64 n] w fun e w' => e = .returned (.int .i64 3) ∧ Below w.heap.size w w' := by
  have H := Aside0.mk h
  clear h
  have hu51 := Try.underlying51
  have hu60 := run_eqnil
  obtain ⟨k, v, b⟩ := x
  unfold V3.enc
  simp only
  by_cases c : n < 1
  · have c1 : decide (n < 1) = true := by simp; omega
    go_enter Try.func59, Try.ntmps59
    go_wp2_with (fail)
    go_ret
    exact ⟨rfl, by (repeat (first | (with_reducible exact Below.refl _ _) | (with_reducible assumption) | with_reducible apply below_alloc | with_reducible apply pw_below_drewN | with_reducible apply below_drew1))⟩
  · have c1 : decide (n < 1) = false := by simp; omega
    clear c
    go_enter Try.func59, Try.ntmps59
    go_wp2_with (fail)
    go_at_call 52
    refine (at_nobody (H.out.below (by (repeat (first | (with_reducible exact Below.refl _ _) | (with_reducible assumption) | with_reducible apply below_alloc | with_reducible apply pw_below_drewN | with_reducible apply below_drew1)))) ⟨k, v, b⟩ n 1).mono ?_
    rintro e w' ⟨rfl, hB0⟩
    have hB := pm_chain (w := w) (by (repeat (first | (with_reducible exact Below.refl _ _) | (with_reducible assumption) | with_reducible apply below_alloc | with_reducible apply pw_below_drewN | with_reducible apply below_drew1))) hB0
    clear hB0
    go_wp2_with (fail)
    go_ret
    exact ⟨rfl, by (repeat (first | (with_reducible exact Below.refl _ _) | (with_reducible assumption) | with_reducible apply below_alloc | with_reducible apply pw_below_drewN | with_reducible apply below_drew1))⟩
set_option maxHeartbeats 4000000 in
theorem Store_nobody (h : Nobody w q) (x y : V3) : Calls Try.prog 24 #[q, x.enc, .int .i64 4, y.enc] w fun e w' => e = .returned (.int .i64 3) ∧ Below w.heap.size w w' := by
  have H := Aside0.mk h
  clear h
  have hu51 := Try.underlying51
  have hu60 := run_eqnil
  obtain ⟨k, v, b⟩ := x
  obtain ⟨yk, yv, yb⟩ := y
  unfold V3.enc
  simp only
  have HN : Aside0 (pow2 4 = true) := ⟨rfl⟩
  go_enter Try.func24, Try.ntmps24
  go_wp2_with (first | (go_at_call 51; refine (power_calls _ 4).mono ?_; rintro e w' ⟨rfl, nk, rfl⟩; rw [HN.out]))
  go_at_call 52
  refine (at_nobody (H.out.below (by (repeat (first | (with_reducible exact Below.refl _ _) | (with_reducible assumption) | with_reducible apply below_alloc | with_reducible apply pw_below_drewN | with_reducible apply below_drew1)))) ⟨k, v, b⟩ 4 4).mono ?_
  rintro e w' ⟨rfl, hB0⟩
  have hB := pm_chain (w := w) (by (repeat (first | (with_reducible exact Below.refl _ _) | (with_reducible assumption) | with_reducible apply below_alloc | with_reducible apply pw_below_drewN | with_reducible apply below_drew1))) hB0
  clear hB0
  go_wp2_with (fail)
  go_ret
  exact ⟨rfl, by (repeat (first | (with_reducible exact Below.refl _ _) | (with_reducible assumption) | with_reducible apply below_alloc | with_reducible apply pw_below_drewN | with_reducible apply below_drew1))⟩
set_option maxHeartbeats 4000000 in
set_option maxRecDepth 100000 in
theorem Load_nobody (h : Nobody w q) (x : V3) (sg : Bool) : Calls Try.prog 25 #[q, x.enc, .int .i64 4, .bool sg] w fun e w' => e = .returned (.tuple #[V3.z.enc, .int .i64 3]) ∧ Below w.heap.size w w' := by
  have H := Aside0.mk h
  clear h
  have hu51 := Try.underlying51
  have hu60 := run_eqnil
  obtain ⟨k, v, b⟩ := x
  unfold V3.enc V3.z
  simp only
  have HN : Aside0 (pow2 4 = true) := ⟨rfl⟩
  go_enter Try.func25, Try.ntmps25
  go_wp2_with (first | (go_at_call 51; refine (power_calls _ 4).mono ?_; rintro e w' ⟨rfl, nk, rfl⟩; rw [HN.out]))
  go_at_call 52
  refine (at_nobody (H.out.below (by (repeat (first | (with_reducible exact Below.refl _ _) | (with_reducible assumption) | with_reducible apply below_alloc | with_reducible apply pw_below_drewN | with_reducible apply below_drew1)))) ⟨k, v, b⟩ 4 4).mono ?_
  rintro e w' ⟨rfl, hB0⟩
  have B8 := blk_below (blk_drewN (heap_at (w.alloc (.cells #[.int .i64 k, .int .u32 v, .int .i64 b] 51)) (.cells #[.int .i64 0, .int .u32 0, .int .i64 0] 51) (w.heap.size + 1) (by simp)) nk) hB0
  have hB := pm_chain (w := w) (by (repeat (first | (with_reducible exact Below.refl _ _) | (with_reducible assumption) | with_reducible apply below_alloc | with_reducible apply pw_below_drewN | with_reducible apply below_drew1))) hB0
  have BB := Aside0.mk B8
  obtain ⟨⟨hz0, hz1, hz2⟩, hf0, hf1, hf2⟩ := know3 B8
  clear hB0 B8
  go_wp2_with (fail)
  refine bodyPost_ret (results_ct rfl _ _ (w.heap.size + 1) 51 _ (0, 0) _ rfl (put3 BB.out _ _ _) Try.underlying51 rfl (by kernel_rfl)) rfl ?_
  exact ⟨rfl, by (repeat (first | (with_reducible exact Below.refl _ _) | (with_reducible assumption) | with_reducible apply below_alloc | with_reducible apply pw_below_drewN | with_reducible apply below_drew1 | (refine below_set ?_ (by omega))))⟩
set_option maxHeartbeats 4000000 in
set_option maxRecDepth 100000 in
theorem Copy_nobody (h : Nobody w q) (x y : V3) (n : Int) : Calls Try.prog 20 #[q, x.enc, y.enc, .int .i64 n, .int .i64 4] w fun e w' => e = .returned (.int .i64 3) ∧ Below w.heap.size w w' := by
  have H := Aside0.mk h
  clear h
  have hu51 := Try.underlying51
  have hu60 := run_eqnil
  obtain ⟨k, v, b⟩ := x
  obtain ⟨yk, yv, yb⟩ := y
  unfold V3.enc
  simp only
  have C2 : Aside0 (pow2 4 = true) := ⟨rfl⟩
  by_cases c : n < 1
  · have c1 : decide (n < 1) = true := by simp; omega
    go_enter Try.func20, Try.ntmps20
    go_wp2_with (fail)
    go_ret
    exact ⟨rfl, by (repeat (first | (with_reducible exact Below.refl _ _) | (with_reducible assumption) | with_reducible apply below_alloc | with_reducible apply pw_below_drewN | with_reducible apply below_drew1))⟩
  have c1 : decide (n < 1) = false := by simp; omega
  clear c
  go_enter Try.func20, Try.ntmps20
  go_upto_region 3 with (first | (go_at_call 51; refine (power_calls _ 4).mono ?_; rintro e w' ⟨rfl, nk, rfl⟩; rw [C2.out]))
  have RA : Row3 (((w.alloc (.cells #[.int .i64 k, .int .u32 v, .int .i64 b] 51)).alloc (.cells #[.int .i64 yk, .int .u32 yv, .int .i64 yb] 51)).drewN nk) w.heap.size ⟨k, v, b⟩ := blk_drewN (blk_alloc (heap_at _ _ _ rfl) _) nk
  have RB : Row3 (((w.alloc (.cells #[.int .i64 k, .int .u32 v, .int .i64 b] 51)).alloc (.cells #[.int .i64 yk, .int .u32 yv, .int .i64 yb] 51)).drewN nk) (w.heap.size + 1) ⟨yk, yv, yb⟩ := blk_drewN (heap_at _ _ _ (by simp)) nk
  have hB : Below w.heap.size w (((w.alloc (.cells #[.int .i64 k, .int .u32 v, .int .i64 b] 51)).alloc (.cells #[.int .i64 yk, .int .u32 yv, .int .i64 yb] 51)).drewN nk) := by (repeat (first | (with_reducible exact Below.refl _ _) | (with_reducible assumption) | with_reducible apply below_alloc | with_reducible apply pw_below_drewN | with_reducible apply below_drew1))
  generalize (((w.alloc (.cells #[.int .i64 k, .int .u32 v, .int .i64 b] 51)).alloc (.cells #[.int .i64 yk, .int .u32 yv, .int .i64 yb] 51)).drewN nk) = W0 at RA RB hB ⊢
  obtain ⟨gb, hgb⟩ : ∃ g, g = w.heap.size + 1 := ⟨_, rfl⟩
  obtain ⟨ga, hga⟩ : ∃ g, g = w.heap.size := ⟨_, rfl⟩
  rw [← hgb, ← hga]
  rw [← hga] at RA
  rw [← hgb] at RB
  clear hga hgb
  simp only [Row3] at RA RB
  obtain ⟨⟨ha0, ha1, ha2⟩, _⟩ := know3 RA
  obtain ⟨⟨hb0, hb1, hb2⟩, _⟩ := know3 RB
  have HB := Aside0.mk hB
  clear RA RB hB
  go_cut [11, 12] (fun v11 v12 wc => v11 = .slice none 0 0 ∧ v12 = .slice none 0 0 ∧ Aside0 (Below W0.heap.size W0 wc))
  case first =>
    go_region_held3 (fun w' => (w'.cell? ⟨ga, 0, none⟩ = some (.int .i64 k) ∧ w'.cell? ⟨ga, 1, none⟩ = some (.int .u32 v) ∧ w'.cell? ⟨ga, 2, none⟩ = some (.int .i64 b)) ∧ (w'.cell? ⟨gb, 0, none⟩ = some (.int .i64 yk) ∧ w'.cell? ⟨gb, 1, none⟩ = some (.int .u32 yv) ∧ w'.cell? ⟨gb, 2, none⟩ = some (.int .i64 yb))) (first | exact ⟨⟨pw_cell_below (by (repeat (first | (with_reducible exact Below.refl _ _) | (with_reducible assumption) | with_reducible apply below_alloc | with_reducible apply pw_below_drewN | with_reducible apply below_drew1)); done) ha0, pw_cell_below (by (repeat (first | (with_reducible exact Below.refl _ _) | (with_reducible assumption) | with_reducible apply below_alloc | with_reducible apply pw_below_drewN | with_reducible apply below_drew1)); done) ha1, pw_cell_below (by (repeat (first | (with_reducible exact Below.refl _ _) | (with_reducible assumption) | with_reducible apply below_alloc | with_reducible apply pw_below_drewN | with_reducible apply below_drew1)); done) ha2⟩, pw_cell_below (by (repeat (first | (with_reducible exact Below.refl _ _) | (with_reducible assumption) | with_reducible apply below_alloc | with_reducible apply pw_below_drewN | with_reducible apply below_drew1)); done) hb0, pw_cell_below (by (repeat (first | (with_reducible exact Below.refl _ _) | (with_reducible assumption) | with_reducible apply below_alloc | with_reducible apply pw_below_drewN | with_reducible apply below_drew1)); done) hb1, pw_cell_below (by (repeat (first | (with_reducible exact Below.refl _ _) | (with_reducible assumption) | with_reducible apply below_alloc | with_reducible apply pw_below_drewN | with_reducible apply below_drew1)); done) hb2⟩) (first | (go_at_call_of 52 k; refine (at_nobody (H.out.below (pm_chain (w := w) HB.out (by (repeat (first | (with_reducible exact Below.refl _ _) | (with_reducible assumption) | with_reducible apply below_alloc | with_reducible apply pw_below_drewN | with_reducible apply below_drew1))))) ⟨k, v, b⟩ n 4).mono ?_; rintro e W1 ⟨rfl, hB1⟩; have hB2 := pm_chain (w := W0) (by (repeat (first | (with_reducible exact Below.refl _ _) | (with_reducible assumption) | with_reducible apply below_alloc | with_reducible apply pw_below_drewN | with_reducible apply below_drew1))) hB1; clear hB1) | (go_at_call_of 52 yk; refine (at_nobody (H.out.below (pm_chain (w := w) HB.out (by (repeat (first | (with_reducible exact Below.refl _ _) | (with_reducible assumption) | with_reducible apply below_alloc | with_reducible apply pw_below_drewN | with_reducible apply below_drew1))))) ⟨yk, yv, yb⟩ n 4).mono ?_; rintro e W2 ⟨rfl, hB1⟩; have hB3 := pm_chain (w := W0) (by (repeat (first | (with_reducible exact Below.refl _ _) | (with_reducible assumption) | with_reducible apply below_alloc | with_reducible apply pw_below_drewN | with_reducible apply below_drew1))) hB1; clear hB1))
    all_goals (go_wp2_with (fail); go_meet)
    all_goals exact ⟨rfl, rfl, ⟨by (repeat (first | (with_reducible exact Below.refl _ _) | (with_reducible assumption) | with_reducible apply below_alloc | with_reducible apply pw_below_drewN | with_reducible apply below_drew1))⟩⟩
  case rest =>
    obtain ⟨rfl, rfl, HB1⟩ := hcut
    clear ha0 ha1 ha2 hb0 hb1 hb2
    have hB := pm_chain (w := w) HB.out HB1.out
    go_wp2_with (fail)
    go_ret
    exact ⟨rfl, hB⟩
set_option maxHeartbeats 4000000 in
set_option maxRecDepth 100000 in
theorem Bin_nobody (h : Nobody w q) (op : Int) (a b : V3) : Calls Try.prog 16 #[q, .int .i64 op, a.enc, b.enc] w fun e w' => e = .returned (.tuple #[V3.z.enc, .int .i64 3]) ∧ Below w.heap.size w w' := by
  have H := Aside0.mk h
  clear h
  have hu51 := Try.underlying51
  obtain ⟨ak, av, ab⟩ := a
  obtain ⟨bk, bv, bb⟩ := b
  unfold V3.enc V3.z
  simp only
  go_enter Try.func16, Try.ntmps16
  go_upto_region 1 with (fail)
  have RA : Row3 (((w.alloc (.cells #[.int .i64 ak, .int .u32 av, .int .i64 ab] 51)).alloc (.cells #[.int .i64 bk, .int .u32 bv, .int .i64 bb] 51)).alloc (.cells #[.int .i64 0, .int .u32 0, .int .i64 0] 51)) w.heap.size ⟨ak, av, ab⟩ := blk_alloc (blk_alloc (heap_at _ _ _ rfl) _) _
  have RB : Row3 (((w.alloc (.cells #[.int .i64 ak, .int .u32 av, .int .i64 ab] 51)).alloc (.cells #[.int .i64 bk, .int .u32 bv, .int .i64 bb] 51)).alloc (.cells #[.int .i64 0, .int .u32 0, .int .i64 0] 51)) (w.heap.size + 1) ⟨bk, bv, bb⟩ := blk_alloc (heap_at _ _ _ (by simp)) _
  have R8 : Row3 (((w.alloc (.cells #[.int .i64 ak, .int .u32 av, .int .i64 ab] 51)).alloc (.cells #[.int .i64 bk, .int .u32 bv, .int .i64 bb] 51)).alloc (.cells #[.int .i64 0, .int .u32 0, .int .i64 0] 51)) (w.heap.size + 1 + 1) ⟨0, 0, 0⟩ := heap_at _ _ _ (by simp)
  have hB : Below w.heap.size w (((w.alloc (.cells #[.int .i64 ak, .int .u32 av, .int .i64 ab] 51)).alloc (.cells #[.int .i64 bk, .int .u32 bv, .int .i64 bb] 51)).alloc (.cells #[.int .i64 0, .int .u32 0, .int .i64 0] 51)) := by (repeat (first | (with_reducible exact Below.refl _ _) | (with_reducible assumption) | with_reducible apply below_alloc | with_reducible apply pw_below_drewN | with_reducible apply below_drew1))
  generalize (((w.alloc (.cells #[.int .i64 ak, .int .u32 av, .int .i64 ab] 51)).alloc (.cells #[.int .i64 bk, .int .u32 bv, .int .i64 bb] 51)).alloc (.cells #[.int .i64 0, .int .u32 0, .int .i64 0] 51)) = W0 at RA RB R8 hB ⊢
  obtain ⟨g8, hg8⟩ : ∃ g, g = w.heap.size + 1 + 1 := ⟨_, rfl⟩
  obtain ⟨gb, hgb⟩ : ∃ g, g = w.heap.size + 1 := ⟨_, rfl⟩
  obtain ⟨ga, hga⟩ : ∃ g, g = w.heap.size := ⟨_, rfl⟩
  rw [← hg8, ← hgb, ← hga]
  rw [← hga] at RA
  rw [← hgb] at RB
  rw [← hg8] at R8
  have HG := Aside0.mk (show w.heap.size ≤ ga ∧ w.heap.size ≤ gb ∧ w.heap.size ≤ g8 by omega)
  clear hga hgb hg8
  simp only [Row3] at RA RB R8
  obtain ⟨⟨ha0, ha1, ha2⟩, _⟩ := know3 RA
  obtain ⟨⟨hb0, hb1, hb2⟩, _⟩ := know3 RB
  have HRA := Aside0.mk RA
  have HRB := Aside0.mk RB
  have HR8 := Aside0.mk R8
  have HB := Aside0.mk hB
  clear RA RB R8 hB
  go_cut [10, 11] (fun v10 v11 wc => v10 = .pointer none ∧ v11 = .pointer none ∧ Aside0 (Below W0.heap.size W0 wc))
  case first =>
    go_region_held3 (fun w' => (w'.cell? ⟨ga, 0, none⟩ = some (.int .i64 ak) ∧ w'.cell? ⟨ga, 1, none⟩ = some (.int .u32 av) ∧ w'.cell? ⟨ga, 2, none⟩ = some (.int .i64 ab)) ∧ (w'.cell? ⟨gb, 0, none⟩ = some (.int .i64 bk) ∧ w'.cell? ⟨gb, 1, none⟩ = some (.int .u32 bv) ∧ w'.cell? ⟨gb, 2, none⟩ = some (.int .i64 bb))) (first | exact ⟨⟨pw_cell_below (by (repeat (first | (with_reducible exact Below.refl _ _) | (with_reducible assumption) | with_reducible apply below_alloc | with_reducible apply pw_below_drewN | with_reducible apply below_drew1)); done) ha0, pw_cell_below (by (repeat (first | (with_reducible exact Below.refl _ _) | (with_reducible assumption) | with_reducible apply below_alloc | with_reducible apply pw_below_drewN | with_reducible apply below_drew1)); done) ha1, pw_cell_below (by (repeat (first | (with_reducible exact Below.refl _ _) | (with_reducible assumption) | with_reducible apply below_alloc | with_reducible apply pw_below_drewN | with_reducible apply below_drew1)); done) ha2⟩, pw_cell_below (by (repeat (first | (with_reducible exact Below.refl _ _) | (with_reducible assumption) | with_reducible apply below_alloc | with_reducible apply pw_below_drewN | with_reducible apply below_drew1)); done) hb0, pw_cell_below (by (repeat (first | (with_reducible exact Below.refl _ _) | (with_reducible assumption) | with_reducible apply below_alloc | with_reducible apply pw_below_drewN | with_reducible apply below_drew1)); done) hb1, pw_cell_below (by (repeat (first | (with_reducible exact Below.refl _ _) | (with_reducible assumption) | with_reducible apply below_alloc | with_reducible apply pw_below_drewN | with_reducible apply below_drew1)); done) hb2⟩) (first | (go_at_call_of 40 ak; refine (of_nobody (H.out.below (pm_chain (w := w) HB.out (by (repeat (first | (with_reducible exact Below.refl _ _) | (with_reducible assumption) | with_reducible apply below_alloc | with_reducible apply pw_below_drewN | with_reducible apply below_drew1))))) ⟨ak, av, ab⟩).mono ?_; rintro e W1 ⟨rfl, hB1⟩; have hB2 := pm_chain (w := W0) (by (repeat (first | (with_reducible exact Below.refl _ _) | (with_reducible assumption) | with_reducible apply below_alloc | with_reducible apply pw_below_drewN | with_reducible apply below_drew1))) hB1; clear hB1) | (go_at_call_of 40 bk; refine (of_nobody (H.out.below (pm_chain (w := w) HB.out (by (repeat (first | (with_reducible exact Below.refl _ _) | (with_reducible assumption) | with_reducible apply below_alloc | with_reducible apply pw_below_drewN | with_reducible apply below_drew1))))) ⟨bk, bv, bb⟩).mono ?_; rintro e W2 ⟨rfl, hB1⟩; have hB3 := pm_chain (w := W0) (by (repeat (first | (with_reducible exact Below.refl _ _) | (with_reducible assumption) | with_reducible apply below_alloc | with_reducible apply pw_below_drewN | with_reducible apply below_drew1))) hB1; clear hB1))
    all_goals (go_wp2_with (fail); go_meet)
    all_goals exact ⟨rfl, rfl, ⟨by (repeat (first | (with_reducible exact Below.refl _ _) | (with_reducible assumption) | with_reducible apply below_alloc | with_reducible apply pw_below_drewN | with_reducible apply below_drew1))⟩⟩
  case rest =>
    obtain ⟨rfl, rfl, HB1⟩ := hcut
    clear ha0 ha1 ha2 hb0 hb1 hb2
    have RA := blk_below HRA.out HB1.out
    have RB := blk_below HRB.out HB1.out
    have R8 := blk_below HR8.out HB1.out
    have hB := pm_chain (w := w) HB.out HB1.out
    clear HRA HRB HR8 HB HB1
    obtain ⟨⟨ha0, ha1, ha2⟩, _⟩ := know3 RA
    obtain ⟨⟨hb0, hb1, hb2⟩, _⟩ := know3 RB
    have HR8 := Aside0.mk R8
    have HB := Aside0.mk hB
    clear RA RB R8 hB
    go_wp2_with (fail)
    go_quiet (fail)
    clear ha0 ha1 ha2 hb0 hb1 hb2
    go_wp2_with (first | (go_at_call 41; refine (alive_no (H.out.below (pm_chain (w := w) HB.out (by (repeat (first | (with_reducible exact Below.refl _ _) | (with_reducible assumption) | with_reducible apply below_alloc | with_reducible apply pw_below_drewN | with_reducible apply below_drew1)))))).mono ?_; rintro e w9 ⟨rfl, rfl⟩))
    go_at_call 43
    refine (undef_calls _).mono ?_
    rintro e W2 ⟨rfl, hB2⟩
    have hB3 := pm_chain (w := wc) (by (repeat (first | (with_reducible exact Below.refl _ _) | (with_reducible assumption) | with_reducible apply below_alloc | with_reducible apply pw_below_drewN | with_reducible apply below_drew1))) hB2
    obtain ⟨⟨hz0, hz1, hz2⟩, hf0, hf1, hf2⟩ := know3 (blk_below HR8.out hB3)
    (try simp only at hz0 hz1 hz2)
    simp only [V3.enc, V3.z]
    go_wp2_with (fail)
    refine bodyPost_ret (results_ct rfl _ _ g8 51 _ (0, 0) _ rfl (put3 (blk_below HR8.out hB3) _ _ _) Try.underlying51 rfl (by kernel_rfl)) rfl ?_
    exact ⟨rfl, by have hB := pm_chain (w := w) HB.out hB3; obtain ⟨_, _, hq⟩ := HG.out; (repeat (first | (with_reducible exact Below.refl _ _) | (with_reducible assumption) | with_reducible apply below_alloc | with_reducible apply pw_below_drewN | with_reducible apply below_drew1 | (refine below_set ?_ (by omega))))⟩
end Go.Proofs.Ythdnhfjodhjejaa.Ma
