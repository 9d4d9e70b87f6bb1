/- MemoryNobody: a memory that New did not give: the law's walk. No condition beyond those each theorem names. And more of the kind: 2 texts in one. -/
import Derived.Test.YthdnhfjodhjejaaMw
namespace Go.Proofs.Ythdnhfjodhjejaa.Ma
open Go.RowKit Go.Proofs.Ythdnhfjodhjejaa.PMe Go.Proofs.YthdnhfjodhjejaaW.PrintWords Go.Proofs.YthdnhfjodhjejaaW.PrintLast Go.Proofs.YthdnhfjodhjejaaW.PrintMore
set_option linter.unusedVariables false
set_option linter.unusedSimpArgs false
variable {w w' : World} {m mm : Nat} {last : Int} {L : List Rec} {q : Value}
set_option maxHeartbeats 40000000 in
set_option maxRecDepth 100000 in
theorem nobody_calls (h : Nobody w q) (x y : V3) (n : Int) : Calls Try.prog 28 #[q, x.enc, y.enc, .int .i64 n] w fun e w' => e = .returned (.bool true) ∧ Below w.heap.size w w' := by
  have hu51 := Try.underlying51
  have H := Aside0.mk h
  clear h
  obtain ⟨k, v, b⟩ := x
  obtain ⟨yk, yv, yb⟩ := y
  unfold V3.enc
  simp only
  go_enter Try.func28, Try.ntmps28
  go_wp2_with (fail)
  have R5 := Aside0.mk (show ((w.alloc (.cells #[.int .i64 k, .int .u32 v, .int .i64 b] 51)).alloc (.cells #[.int .i64 yk, .int .u32 yv, .int .i64 yb] 51)).heap[w.heap.size]? = some (.cells #[.int .i64 k, .int .u32 v, .int .i64 b] 51 (0, 0)) from blk_alloc (heap_at _ _ _ rfl) _)
  have R6 := Aside0.mk (show ((w.alloc (.cells #[.int .i64 k, .int .u32 v, .int .i64 b] 51)).alloc (.cells #[.int .i64 yk, .int .u32 yv, .int .i64 yb] 51)).heap[w.heap.size + 1]? = some (.cells #[.int .i64 yk, .int .u32 yv, .int .i64 yb] 51 (0, 0)) from heap_at _ _ _ (by simp))
  have O := Aside0.mk (show Below w.heap.size w ((w.alloc (.cells #[.int .i64 k, .int .u32 v, .int .i64 b] 51)).alloc (.cells #[.int .i64 yk, .int .u32 yv, .int .i64 yb] 51)) by (repeat (first | (with_reducible exact Below.refl _ _) | (with_reducible assumption) | with_reducible apply below_alloc | with_reducible apply pw_below_drewN | with_reducible apply below_drew1)))
  generalize ((w.alloc (.cells #[.int .i64 k, .int .u32 v, .int .i64 b] 51)).alloc (.cells #[.int .i64 yk, .int .u32 yv, .int .i64 yb] 51)) = W0 at R5 R6 O ⊢
  obtain ⟨g6, hg6⟩ : ∃ g, g = w.heap.size + 1 := ⟨_, rfl⟩
  obtain ⟨g5, hg5⟩ : ∃ g, g = w.heap.size := ⟨_, rfl⟩
  rw [← hg5] at R5
  rw [← hg6] at R6
  rw [← hg6, ← hg5]
  clear hg5 hg6
  obtain ⟨⟨k50, k51, k52⟩, _⟩ := know3 R5.out
  obtain ⟨⟨k60, k61, k62⟩, _⟩ := know3 R6.out
  go_at_call 48
  refine (Make_nobody (H.out.below O.out) 4 4).mono ?_
  rintro e W1 ⟨rfl, hB1⟩
  replace O := Aside0.mk (pm_chain (w := w) O.out hB1)
  clear k50 k51 k52 k60 k61 k62
  replace R5 := Aside0.mk (blk_below R5.out hB1)
  replace R6 := Aside0.mk (blk_below R6.out hB1)
  clear hB1
  obtain ⟨⟨k50, k51, k52⟩, _⟩ := know3 R5.out
  obtain ⟨⟨k60, k61, k62⟩, _⟩ := know3 R6.out
  go_wp2_with (fail)
  go_at_call 19
  refine (Cells_nobody (H.out.below O.out) n).mono ?_
  rintro e W2 ⟨rfl, hB1⟩
  replace O := Aside0.mk (pm_chain (w := w) O.out hB1)
  clear k50 k51 k52 k60 k61 k62
  replace R5 := Aside0.mk (blk_below R5.out hB1)
  replace R6 := Aside0.mk (blk_below R6.out hB1)
  clear hB1
  obtain ⟨⟨k50, k51, k52⟩, _⟩ := know3 R5.out
  obtain ⟨⟨k60, k61, k62⟩, _⟩ := know3 R6.out
  go_wp2_with (fail)
  go_at_call 25
  refine (Load_nobody (H.out.below O.out) ⟨k, v, b⟩ false).mono ?_
  rintro e W3 ⟨rfl, hB1⟩
  replace O := Aside0.mk (pm_chain (w := w) O.out hB1)
  clear k50 k51 k52 k60 k61 k62
  replace R5 := Aside0.mk (blk_below R5.out hB1)
  replace R6 := Aside0.mk (blk_below R6.out hB1)
  clear hB1
  simp only [V3.enc, V3.z]
  go_upto_region 4 with (fail)
  have hBn : Below W3.heap.size W3 (W3.alloc (.cells #[.int .i64 0, .int .u32 0, .int .i64 0] 51)) := by (repeat (first | (with_reducible exact Below.refl _ _) | (with_reducible assumption) | with_reducible apply below_alloc | with_reducible apply pw_below_drewN | with_reducible apply below_drew1))
  replace O := Aside0.mk (pm_chain (w := w) O.out hBn)
  replace R5 := Aside0.mk (blk_below R5.out hBn)
  replace R6 := Aside0.mk (blk_below R6.out hBn)
  have R13 := Aside0.mk (show (W3.alloc (.cells #[.int .i64 0, .int .u32 0, .int .i64 0] 51)).heap[W3.heap.size]? = some (.cells #[.int .i64 0, .int .u32 0, .int .i64 0] 51 (0, 0)) from heap_at _ _ _ rfl)
  clear hBn
  generalize (W3.alloc (.cells #[.int .i64 0, .int .u32 0, .int .i64 0] 51)) = W4 at O R5 R6 R13 ⊢
  generalize W3.heap.size = g13 at R13 ⊢
  obtain ⟨⟨k50, k51, k52⟩, _⟩ := know3 R5.out
  obtain ⟨⟨k60, k61, k62⟩, _⟩ := know3 R6.out
  obtain ⟨⟨k130, k131, k132⟩, _⟩ := know3 R13.out
  go_wp2_with (fail)
  go_at_call 16
  refine (Bin_nobody (H.out.below O.out) 1 ⟨yk, yv, yb⟩ ⟨yk, yv, yb⟩).mono ?_
  rintro e W5 ⟨rfl, hB1⟩
  replace O := Aside0.mk (pm_chain (w := w) O.out hB1)
  clear k50 k51 k52 k60 k61 k62 k130 k131 k132
  replace R5 := Aside0.mk (blk_below R5.out hB1)
  replace R6 := Aside0.mk (blk_below R6.out hB1)
  replace R13 := Aside0.mk (blk_below R13.out hB1)
  clear hB1
  simp only [V3.enc, V3.z]
  go_upto_region 5 with (fail)
  have hBn : Below W5.heap.size W5 (W5.alloc (.cells #[.int .i64 0, .int .u32 0, .int .i64 0] 51)) := by (repeat (first | (with_reducible exact Below.refl _ _) | (with_reducible assumption) | with_reducible apply below_alloc | with_reducible apply pw_below_drewN | with_reducible apply below_drew1))
  replace O := Aside0.mk (pm_chain (w := w) O.out hBn)
  replace R5 := Aside0.mk (blk_below R5.out hBn)
  replace R6 := Aside0.mk (blk_below R6.out hBn)
  replace R13 := Aside0.mk (blk_below R13.out hBn)
  have R15 := Aside0.mk (show (W5.alloc (.cells #[.int .i64 0, .int .u32 0, .int .i64 0] 51)).heap[W5.heap.size]? = some (.cells #[.int .i64 0, .int .u32 0, .int .i64 0] 51 (0, 0)) from heap_at _ _ _ rfl)
  clear hBn
  generalize (W5.alloc (.cells #[.int .i64 0, .int .u32 0, .int .i64 0] 51)) = W6 at O R5 R6 R13 R15 ⊢
  generalize W5.heap.size = g15 at R15 ⊢
  obtain ⟨⟨k50, k51, k52⟩, _⟩ := know3 R5.out
  obtain ⟨⟨k60, k61, k62⟩, _⟩ := know3 R6.out
  obtain ⟨⟨k130, k131, k132⟩, _⟩ := know3 R13.out
  obtain ⟨⟨k150, k151, k152⟩, _⟩ := know3 R15.out
  go_wp2_with (fail)
  go_at_call 26
  refine (Truth_nobody (H.out.below O.out) ⟨yk, yv, yb⟩).mono ?_
  rintro e W7 ⟨rfl, hB1⟩
  replace O := Aside0.mk (pm_chain (w := w) O.out hB1)
  clear k50 k51 k52 k60 k61 k62 k130 k131 k132 k150 k151 k152
  replace R5 := Aside0.mk (blk_below R5.out hB1)
  replace R6 := Aside0.mk (blk_below R6.out hB1)
  replace R13 := Aside0.mk (blk_below R13.out hB1)
  replace R15 := Aside0.mk (blk_below R15.out hB1)
  clear hB1
  obtain ⟨⟨k50, k51, k52⟩, _⟩ := know3 R5.out
  obtain ⟨⟨k60, k61, k62⟩, _⟩ := know3 R6.out
  obtain ⟨⟨k130, k131, k132⟩, _⟩ := know3 R13.out
  obtain ⟨⟨k150, k151, k152⟩, _⟩ := know3 R15.out
  go_wp2_with (first | (go_at_call 54; refine (End_nobody (H.out.below (pm_chain (w := w) O.out (by (repeat (first | (with_reducible exact Below.refl _ _) | (with_reducible assumption) | with_reducible apply below_alloc | with_reducible apply pw_below_drewN | with_reducible apply below_drew1))))) n).mono ?_; rintro e WX ⟨rfl, hB1⟩; have hBc := pm_chain (w := W7) (by (repeat (first | (with_reducible exact Below.refl _ _) | (with_reducible assumption) | with_reducible apply below_alloc | with_reducible apply pw_below_drewN | with_reducible apply below_drew1))) hB1; clear hB1; obtain ⟨⟨k50, k51, k52⟩, _⟩ := know3 (blk_below R5.out hBc); obtain ⟨⟨k60, k61, k62⟩, _⟩ := know3 (blk_below R6.out hBc); obtain ⟨⟨k130, k131, k132⟩, _⟩ := know3 (blk_below R13.out hBc); obtain ⟨⟨k150, k151, k152⟩, _⟩ := know3 (blk_below R15.out hBc)) | (go_at_call 24; refine (Store_nobody (H.out.below (pm_chain (w := w) O.out (by (repeat (first | (with_reducible exact Below.refl _ _) | (with_reducible assumption) | with_reducible apply below_alloc | with_reducible apply pw_below_drewN | with_reducible apply below_drew1))))) ⟨k, v, b⟩ ⟨yk, yv, yb⟩).mono ?_; rintro e WX ⟨rfl, hB1⟩; have hBc := pm_chain (w := W7) (by (repeat (first | (with_reducible exact Below.refl _ _) | (with_reducible assumption) | with_reducible apply below_alloc | with_reducible apply pw_below_drewN | with_reducible apply below_drew1))) hB1; clear hB1; obtain ⟨⟨k50, k51, k52⟩, _⟩ := know3 (blk_below R5.out hBc); obtain ⟨⟨k60, k61, k62⟩, _⟩ := know3 (blk_below R6.out hBc); obtain ⟨⟨k130, k131, k132⟩, _⟩ := know3 (blk_below R13.out hBc); obtain ⟨⟨k150, k151, k152⟩, _⟩ := know3 (blk_below R15.out hBc)) | (go_at_call 20; refine (Copy_nobody (H.out.below (pm_chain (w := w) O.out (by (repeat (first | (with_reducible exact Below.refl _ _) | (with_reducible assumption) | with_reducible apply below_alloc | with_reducible apply pw_below_drewN | with_reducible apply below_drew1))))) ⟨k, v, b⟩ ⟨yk, yv, yb⟩ n).mono ?_; rintro e WX ⟨rfl, hB1⟩; have hBc := pm_chain (w := W7) (by (repeat (first | (with_reducible exact Below.refl _ _) | (with_reducible assumption) | with_reducible apply below_alloc | with_reducible apply pw_below_drewN | with_reducible apply below_drew1))) hB1; clear hB1; obtain ⟨⟨k50, k51, k52⟩, _⟩ := know3 (blk_below R5.out hBc); obtain ⟨⟨k60, k61, k62⟩, _⟩ := know3 (blk_below R6.out hBc); obtain ⟨⟨k130, k131, k132⟩, _⟩ := know3 (blk_below R13.out hBc); obtain ⟨⟨k150, k151, k152⟩, _⟩ := know3 (blk_below R15.out hBc)) | (go_at_call 59; refine (Zero_nobody (H.out.below (pm_chain (w := w) O.out (by (repeat (first | (with_reducible exact Below.refl _ _) | (with_reducible assumption) | with_reducible apply below_alloc | with_reducible apply pw_below_drewN | with_reducible apply below_drew1))))) ⟨k, v, b⟩ n).mono ?_; rintro e WX ⟨rfl, hB1⟩; have hBc := pm_chain (w := W7) (by (repeat (first | (with_reducible exact Below.refl _ _) | (with_reducible assumption) | with_reducible apply below_alloc | with_reducible apply pw_below_drewN | with_reducible apply below_drew1))) hB1; clear hB1; obtain ⟨⟨k50, k51, k52⟩, _⟩ := know3 (blk_below R5.out hBc); obtain ⟨⟨k60, k61, k62⟩, _⟩ := know3 (blk_below R6.out hBc); obtain ⟨⟨k130, k131, k132⟩, _⟩ := know3 (blk_below R13.out hBc); obtain ⟨⟨k150, k151, k152⟩, _⟩ := know3 (blk_below R15.out hBc)))
  go_ret
  exact ⟨rfl, pm_chain (w := w) O.out (by (repeat (first | (with_reducible exact Below.refl _ _) | (with_reducible assumption) | with_reducible apply below_alloc | with_reducible apply pw_below_drewN | with_reducible apply below_drew1)))⟩
end Go.Proofs.Ythdnhfjodhjejaa.Ma
namespace Go.Proofs.Ythdnhfjodhjejaa.Ma
open Go.RowKit Go.Proofs.Ythdnhfjodhjejaa.PMe Go.Proofs.YthdnhfjodhjejaaW.PrintWords Go.Proofs.YthdnhfjodhjejaaW.PrintLast Go.Proofs.YthdnhfjodhjejaaW.PrintMore
set_option linter.unusedVariables false
set_option linter.unusedSimpArgs false
variable {w w' : World}
set_option maxHeartbeats 4000000 in
set_option maxRecDepth 100000 in
theorem MemoryNobody_calls (w : World) (x y : V3) (n : Int) : Calls Try.prog 9 #[x.enc, y.enc, .int .i64 n] w fun e w' => e = .returned (.bool true) ∧ Below w.heap.size w w' := by
  have hu51 := Try.underlying51
  have hu88 := Try.underlying88
  obtain ⟨k, v, b⟩ := x
  obtain ⟨yk, yv, yb⟩ := y
  unfold V3.enc
  simp only
  go_enter Try.func9, Try.ntmps9
  go_wp2_with (fail)
  go_at_call 28
  refine (nobody_calls (.inl rfl) ⟨k, v, b⟩ ⟨yk, yv, yb⟩ n).mono ?_
  rintro e W1 ⟨rfl, hB1⟩
  have R3 := blk_below (blk_alloc (heap_at w (.cells #[.int .i64 k, .int .u32 v, .int .i64 b] 51) w.heap.size rfl) (.cells #[.int .i64 yk, .int .u32 yv, .int .i64 yb] 51)) hB1
  have R4 := blk_below (heap_at (w.alloc (.cells #[.int .i64 k, .int .u32 v, .int .i64 b] 51)) (.cells #[.int .i64 yk, .int .u32 yv, .int .i64 yb] 51) (w.heap.size + 1) (by simp)) hB1
  have hB := pm_chain (w := w) (by (repeat (first | (with_reducible exact Below.refl _ _) | (with_reducible assumption) | with_reducible apply below_alloc | with_reducible apply pw_below_drewN | with_reducible apply below_drew1))) hB1
  clear hB1
  obtain ⟨⟨k30, k31, k32⟩, _⟩ := know3 R3
  obtain ⟨⟨k40, k41, k42⟩, _⟩ := know3 R4
  have hA : Below W1.heap.size W1 (W1.alloc (.cells #[.bool false, .map none, .int .i64 0] 88)) := by (repeat (first | (with_reducible exact Below.refl _ _) | (with_reducible assumption) | with_reducible apply below_alloc | with_reducible apply pw_below_drewN | with_reducible apply below_drew1))
  have a30 := pw_cell_below hA k30
  have a31 := pw_cell_below hA k31
  have a32 := pw_cell_below hA k32
  have a40 := pw_cell_below hA k40
  have a41 := pw_cell_below hA k41
  have a42 := pw_cell_below hA k42
  have N := Aside0.mk (show Nobody (W1.alloc (.cells #[.bool false, .map none, .int .i64 0] 88)) (.pointer (some ⟨W1.heap.size, 0, none⟩)) from .inr ⟨W1.heap.size, rfl, alloc_cell _ _ _ _ 0⟩)
  clear R3 R4 k30 k31 k32 k40 k41 k42 hA
  go_wp2_with (fail)
  go_at_call 28
  refine (nobody_calls N.out ⟨k, v, b⟩ ⟨yk, yv, yb⟩ n).mono ?_
  rintro e W2 ⟨rfl, hB1⟩
  have hB2 := pm_chain (w := w) (by (repeat (first | (with_reducible exact Below.refl _ _) | (with_reducible assumption) | with_reducible apply below_alloc | with_reducible apply pw_below_drewN | with_reducible apply below_drew1))) hB1
  clear hB1 a30 a31 a32 a40 a41 a42 hB
  go_wp2_with (fail)
  go_at_call 17
  refine (heads_calls W2).mono ?_
  rintro e W3 ⟨rfl, hB1⟩
  have hB3 := pm_chain (w := w) hB2 hB1
  clear hB1 hB2
  go_wp2_with (fail)
  go_ret
  exact ⟨rfl, hB3⟩
end Go.Proofs.Ythdnhfjodhjejaa.Ma
