/- The document's memory: pointers, Bin. No condition beyond those each theorem names. -/
import Derived.Test.YthdnhfjodhjejaaRc
import Derived.Test.YthdnhfjodhjejaaMn
namespace Go.Proofs.Ythdnhfjodhjejaa.Ma
open Go.RowKit Go.Proofs.Ythdnhfjodhjejaa.PMe Go.Proofs.YthdnhfjodhjejaaW.PrintWords Go.Proofs.YthdnhfjodhjejaaW.PrintLast Go.Proofs.YthdnhfjodhjejaaW.PrintMore
set_option linter.unusedVariables false
set_option linter.unusedSimpArgs false
variable {w w' : World} {r : Nat} {sv : Value} {Bs : List Blk}
/-- What pointers answers of two good ones, by their blocks' lengths. -/
def ptrsN (la lb : Nat) (op : Int) (a b : V3) : V3 × Int :=
  if op = 14 ∨ op = 15 then
    if a.b ≠ b.b ∧ (a.v = la ∨ b.v = lb) then (V3.z, 3)
    else truthV (((a.b == b.b) && (a.v == b.v)) == (op == 14))
  else if a.b ≠ b.b then (V3.z, 3)
  else if op = 2 then (⟨1, (a.v - b.v) % 4294967296, 0⟩, 0)
  else if op = 16 ∨ op = 17 then truthV (decide (a.v < b.v))
  else if op = 18 ∨ op = 19 then truthV (decide (a.v ≤ b.v))
  else (V3.z, 3)
theorem rtruth_calls (w : World) (b : Bool) : Calls Try.prog 92 #[.bool b] w fun e w' => e = .returned (V3.enc ⟨1, if b then 1 else 0, 0⟩) ∧ Below w.heap.size w w' :=
  mortiseref11_truth.calls b 1 (if b then 1 else 0) 0 w (by cases b <;> rfl)
set_option maxHeartbeats 4000000 in
set_option maxRecDepth 100000 in
theorem pointers_calls (h : RM w r sv Bs) (op : Int) (a b : V3) {ya yb : Blk} (A : Value) (hA : Aside0 (ans (ptrsN ya.cs.length yb.cs.length op a b) = A)) (hx : Aside0 ((0 ≤ a.v ∧ a.v < 4294967296) ∧ (0 ≤ b.v ∧ b.v < 4294967296))) (hL : Aside0 (livR Bs a.b = some ya ∧ livR Bs b.b = some yb)) : Calls Try.prog 90 #[.pointer (some ⟨r, 0, none⟩), .int .i64 op, a.enc, b.enc] w fun e w' => e = .returned A ∧ Below w.heap.size w w' := by
  have hu51 := Try.underlying51
  have H := Aside0.mk h
  clear h
  obtain ⟨ak, av, ab⟩ := a
  obtain ⟨bk, bv, bb⟩ := b
  unfold V3.enc
  simp only at hx hL ⊢
  go_enter Try.func90, Try.ntmps90
  go_upto_region 1 with (fail)
  have RA : Row3 (((w.alloc (.cells #[.int .i64 ak, .int .u32 av, .int .i64 ab] 51)).alloc (.cells #[.int .i64 bk, .int .u32 bv, .int .i64 bb] 51)).alloc (.cells #[.int .i64 0, .int .u32 0, .int .i64 0] 51)) w.heap.size ⟨ak, av, ab⟩ := blk_alloc (blk_alloc (heap_at _ _ _ rfl) _) _
  have RB : Row3 (((w.alloc (.cells #[.int .i64 ak, .int .u32 av, .int .i64 ab] 51)).alloc (.cells #[.int .i64 bk, .int .u32 bv, .int .i64 bb] 51)).alloc (.cells #[.int .i64 0, .int .u32 0, .int .i64 0] 51)) (w.heap.size + 1) ⟨bk, bv, bb⟩ := blk_alloc (heap_at _ _ _ (by simp)) _
  have R8 : Row3 (((w.alloc (.cells #[.int .i64 ak, .int .u32 av, .int .i64 ab] 51)).alloc (.cells #[.int .i64 bk, .int .u32 bv, .int .i64 bb] 51)).alloc (.cells #[.int .i64 0, .int .u32 0, .int .i64 0] 51)) (w.heap.size + 1 + 1) ⟨0, 0, 0⟩ := heap_at _ _ _ (by simp)
  have hB : Below w.heap.size w (((w.alloc (.cells #[.int .i64 ak, .int .u32 av, .int .i64 ab] 51)).alloc (.cells #[.int .i64 bk, .int .u32 bv, .int .i64 bb] 51)).alloc (.cells #[.int .i64 0, .int .u32 0, .int .i64 0] 51)) := by (repeat (first | (with_reducible exact Below.refl _ _) | (with_reducible assumption) | with_reducible apply below_alloc | with_reducible apply pw_below_drewN | with_reducible apply below_drew1))
  generalize (((w.alloc (.cells #[.int .i64 ak, .int .u32 av, .int .i64 ab] 51)).alloc (.cells #[.int .i64 bk, .int .u32 bv, .int .i64 bb] 51)).alloc (.cells #[.int .i64 0, .int .u32 0, .int .i64 0] 51)) = W0 at RA RB R8 hB ⊢
  obtain ⟨g8, hg8⟩ : ∃ g, g = w.heap.size + 1 + 1 := ⟨_, rfl⟩
  obtain ⟨gb, hgb⟩ : ∃ g, g = w.heap.size + 1 := ⟨_, rfl⟩
  obtain ⟨ga, hga⟩ : ∃ g, g = w.heap.size := ⟨_, rfl⟩
  rw [← hg8, ← hgb, ← hga]
  rw [← hga] at RA
  rw [← hgb] at RB
  rw [← hg8] at R8
  have HG := Aside0.mk (show w.heap.size ≤ ga ∧ w.heap.size ≤ gb ∧ w.heap.size ≤ g8 by omega)
  clear hga hgb hg8
  simp only [Row3] at RA RB R8
  obtain ⟨⟨ha0, ha1, ha2⟩, _⟩ := know3 RA
  obtain ⟨⟨hb0, hb1, hb2⟩, _⟩ := know3 RB
  obtain ⟨⟨hz0, hz1, hz2⟩, hf0, hf1, hf2⟩ := know3 R8
  have HRA := Aside0.mk RA
  have HRB := Aside0.mk RB
  have HR8 := Aside0.mk R8
  have HB := Aside0.mk hB
  clear RA RB R8 hB
  unfold ptrsN at hA
  simp only at hA
  by_cases o14 : op = 14
  · subst o14
    rw [if_pos (by omega)] at hA
    by_cases cb2 : ab = bb
    · rw [if_neg (fun h => h.1 cb2)] at hA
      have f2 : (ab == bb) = true := beq_iff_eq.mpr cb2
      have CB2 := Aside0.mk cb2
      clear cb2
      by_cases cv : av = bv
      · have fv : (av == bv) = true := beq_iff_eq.mpr cv
        have CV := Aside0.mk cv
        clear cv
        go_wp2_with (fail)
        go_at_call 92
        refine (rtruth_calls _ true).mono ?_
        rintro e WF ⟨rfl, hBF⟩
        have hBG := pm_chain (w := W0) (by (repeat (first | (with_reducible exact Below.refl _ _) | (with_reducible assumption) | with_reducible apply below_alloc | with_reducible apply pw_below_drewN | with_reducible apply below_drew1))) hBF
        obtain ⟨⟨hz0, hz1, hz2⟩, hf0, hf1, hf2⟩ := know3 (blk_below HR8.out hBG)
        (try simp only at hz0 hz1 hz2)
        simp only [ans, truthV, V3.enc, V3.z]
        go_wp2_with (fail)
        refine bodyPost_ret (results_ct rfl _ _ g8 51 _ (0, 0) _ rfl (put3 (blk_below HR8.out hBG) _ _ _) Try.underlying51 rfl (by kernel_rfl)) rfl ?_
        exact ⟨by rw [← hA.out]; simp [CV.out, CB2.out] <;> rfl, by have hB := pm_chain (w := w) HB.out hBG; obtain ⟨_, _, hq⟩ := HG.out; (repeat (first | (with_reducible exact Below.refl _ _) | (with_reducible assumption) | with_reducible apply below_alloc | with_reducible apply pw_below_drewN | with_reducible apply below_drew1 | (refine below_set ?_ (by omega))))⟩
      · have fv : (av == bv) = false := beq_eq_false_iff_ne.mpr cv
        have CV := Aside0.mk cv
        clear cv
        go_wp2_with (fail)
        go_at_call 92
        refine (rtruth_calls _ false).mono ?_
        rintro e WF ⟨rfl, hBF⟩
        have hBG := pm_chain (w := W0) (by (repeat (first | (with_reducible exact Below.refl _ _) | (with_reducible assumption) | with_reducible apply below_alloc | with_reducible apply pw_below_drewN | with_reducible apply below_drew1))) hBF
        obtain ⟨⟨hz0, hz1, hz2⟩, hf0, hf1, hf2⟩ := know3 (blk_below HR8.out hBG)
        (try simp only at hz0 hz1 hz2)
        simp only [ans, truthV, V3.enc, V3.z]
        go_wp2_with (fail)
        refine bodyPost_ret (results_ct rfl _ _ g8 51 _ (0, 0) _ rfl (put3 (blk_below HR8.out hBG) _ _ _) Try.underlying51 rfl (by kernel_rfl)) rfl ?_
        exact ⟨by rw [← hA.out]; simp [beq_eq_false_iff_ne.mpr CV.out, CB2.out] <;> rfl, by have hB := pm_chain (w := w) HB.out hBG; obtain ⟨_, _, hq⟩ := HG.out; (repeat (first | (with_reducible exact Below.refl _ _) | (with_reducible assumption) | with_reducible apply below_alloc | with_reducible apply pw_below_drewN | with_reducible apply below_drew1 | (refine below_set ?_ (by omega))))⟩
    · have f2 : (ab == bb) = false := beq_eq_false_iff_ne.mpr cb2
      have CB2 := Aside0.mk cb2
      clear cb2
      by_cases ca : av = ya.cs.length
      · rw [if_pos ⟨CB2.out, .inl ca⟩] at hA
        have F3 := Aside0.mk (show (av == (ya.cs.length : Int)) = true from beq_iff_eq.mpr ca)
        clear ca
        go_wp2_with (fail)
        go_at_call 108
        refine (ends_calls (H.out.below (pm_chain (w := w) HB.out (by (repeat (first | (with_reducible exact Below.refl _ _) | (with_reducible assumption) | with_reducible apply below_alloc | with_reducible apply pw_below_drewN | with_reducible apply below_drew1))))) ⟨ak, av, ab⟩ hx.out.1.1 hx.out.1.2 hL.out.1).mono ?_
        rintro e W1 ⟨rfl, hB1⟩
        clear ha0 ha1 ha2 hb0 hb1 hb2 hz0 hz1 hz2 hf0 hf1 hf2
        have hBc := pm_chain (w := W0) (by (repeat (first | (with_reducible exact Below.refl _ _) | (with_reducible assumption) | with_reducible apply below_alloc | with_reducible apply pw_below_drewN | with_reducible apply below_drew1))) hB1
        clear hB1
        have HRA1 := Aside0.mk (blk_below HRA.out hBc)
        have HRB1 := Aside0.mk (blk_below HRB.out hBc)
        have HR81 := Aside0.mk (blk_below HR8.out hBc)
        have HB1 := Aside0.mk (pm_chain (w := w) HB.out hBc)
        clear HRA HRB HR8 HB hBc
        obtain ⟨⟨ha0, ha1, ha2⟩, _⟩ := know3 HRA1.out
        obtain ⟨⟨hb0, hb1, hb2⟩, _⟩ := know3 HRB1.out
        obtain ⟨⟨hz0, hz1, hz2⟩, hf0, hf1, hf2⟩ := know3 HR81.out
        have HRA := HRA1
        have HRB := HRB1
        have HR8 := HR81
        have HB := HB1
        clear HRA1 HRB1 HR81 HB1
        rw [F3.out]
        go_wp2_with (fail)
        refine bodyPost_ret (results_ct rfl _ _ g8 51 _ (0, 0) _ rfl (put3 (HR8.out) _ _ _) Try.underlying51 rfl (by kernel_rfl)) rfl ?_
        exact ⟨by rw [← hA.out]; rfl, by have hB := HB.out; obtain ⟨_, _, hq⟩ := HG.out; (repeat (first | (with_reducible exact Below.refl _ _) | (with_reducible assumption) | with_reducible apply below_alloc | with_reducible apply pw_below_drewN | with_reducible apply below_drew1 | (refine below_set ?_ (by omega))))⟩
      · have F3 := Aside0.mk (show (av == (ya.cs.length : Int)) = false from beq_eq_false_iff_ne.mpr ca)
        by_cases cc : bv = yb.cs.length
        · rw [if_pos ⟨CB2.out, .inr cc⟩] at hA
          have F4 := Aside0.mk (show (bv == (yb.cs.length : Int)) = true from beq_iff_eq.mpr cc)
          clear ca cc
          go_wp2_with (fail)
          go_at_call 108
          refine (ends_calls (H.out.below (pm_chain (w := w) HB.out (by (repeat (first | (with_reducible exact Below.refl _ _) | (with_reducible assumption) | with_reducible apply below_alloc | with_reducible apply pw_below_drewN | with_reducible apply below_drew1))))) ⟨ak, av, ab⟩ hx.out.1.1 hx.out.1.2 hL.out.1).mono ?_
          rintro e W1 ⟨rfl, hB1⟩
          clear ha0 ha1 ha2 hb0 hb1 hb2 hz0 hz1 hz2 hf0 hf1 hf2
          have hBc := pm_chain (w := W0) (by (repeat (first | (with_reducible exact Below.refl _ _) | (with_reducible assumption) | with_reducible apply below_alloc | with_reducible apply pw_below_drewN | with_reducible apply below_drew1))) hB1
          clear hB1
          have HRA1 := Aside0.mk (blk_below HRA.out hBc)
          have HRB1 := Aside0.mk (blk_below HRB.out hBc)
          have HR81 := Aside0.mk (blk_below HR8.out hBc)
          have HB1 := Aside0.mk (pm_chain (w := w) HB.out hBc)
          clear HRA HRB HR8 HB hBc
          obtain ⟨⟨ha0, ha1, ha2⟩, _⟩ := know3 HRA1.out
          obtain ⟨⟨hb0, hb1, hb2⟩, _⟩ := know3 HRB1.out
          obtain ⟨⟨hz0, hz1, hz2⟩, hf0, hf1, hf2⟩ := know3 HR81.out
          have HRA := HRA1
          have HRB := HRB1
          have HR8 := HR81
          have HB := HB1
          clear HRA1 HRB1 HR81 HB1
          rw [F3.out]
          go_wp2_with (fail)
          go_at_call 108
          refine (ends_calls (H.out.below (pm_chain (w := w) HB.out (by (repeat (first | (with_reducible exact Below.refl _ _) | (with_reducible assumption) | with_reducible apply below_alloc | with_reducible apply pw_below_drewN | with_reducible apply below_drew1))))) ⟨bk, bv, bb⟩ hx.out.2.1 hx.out.2.2 hL.out.2).mono ?_
          rintro e W2 ⟨rfl, hB1⟩
          clear ha0 ha1 ha2 hb0 hb1 hb2 hz0 hz1 hz2 hf0 hf1 hf2
          have hBc := pm_chain (w := W1) (by (repeat (first | (with_reducible exact Below.refl _ _) | (with_reducible assumption) | with_reducible apply below_alloc | with_reducible apply pw_below_drewN | with_reducible apply below_drew1))) hB1
          clear hB1
          have HRA1 := Aside0.mk (blk_below HRA.out hBc)
          have HRB1 := Aside0.mk (blk_below HRB.out hBc)
          have HR81 := Aside0.mk (blk_below HR8.out hBc)
          have HB1 := Aside0.mk (pm_chain (w := w) HB.out hBc)
          clear HRA HRB HR8 HB hBc
          obtain ⟨⟨ha0, ha1, ha2⟩, _⟩ := know3 HRA1.out
          obtain ⟨⟨hb0, hb1, hb2⟩, _⟩ := know3 HRB1.out
          obtain ⟨⟨hz0, hz1, hz2⟩, hf0, hf1, hf2⟩ := know3 HR81.out
          have HRA := HRA1
          have HRB := HRB1
          have HR8 := HR81
          have HB := HB1
          clear HRA1 HRB1 HR81 HB1
          rw [F4.out]
          go_wp2_with (fail)
          refine bodyPost_ret (results_ct rfl _ _ g8 51 _ (0, 0) _ rfl (put3 (HR8.out) _ _ _) Try.underlying51 rfl (by kernel_rfl)) rfl ?_
          exact ⟨by rw [← hA.out]; rfl, by have hB := HB.out; obtain ⟨_, _, hq⟩ := HG.out; (repeat (first | (with_reducible exact Below.refl _ _) | (with_reducible assumption) | with_reducible apply below_alloc | with_reducible apply pw_below_drewN | with_reducible apply below_drew1 | (refine below_set ?_ (by omega))))⟩
        · rw [if_neg (fun h => h.2.elim ca cc)] at hA
          have F4 := Aside0.mk (show (bv == (yb.cs.length : Int)) = false from beq_eq_false_iff_ne.mpr cc)
          clear ca cc
          go_wp2_with (fail)
          go_at_call 108
          refine (ends_calls (H.out.below (pm_chain (w := w) HB.out (by (repeat (first | (with_reducible exact Below.refl _ _) | (with_reducible assumption) | with_reducible apply below_alloc | with_reducible apply pw_below_drewN | with_reducible apply below_drew1))))) ⟨ak, av, ab⟩ hx.out.1.1 hx.out.1.2 hL.out.1).mono ?_
          rintro e W1 ⟨rfl, hB1⟩
          clear ha0 ha1 ha2 hb0 hb1 hb2 hz0 hz1 hz2 hf0 hf1 hf2
          have hBc := pm_chain (w := W0) (by (repeat (first | (with_reducible exact Below.refl _ _) | (with_reducible assumption) | with_reducible apply below_alloc | with_reducible apply pw_below_drewN | with_reducible apply below_drew1))) hB1
          clear hB1
          have HRA1 := Aside0.mk (blk_below HRA.out hBc)
          have HRB1 := Aside0.mk (blk_below HRB.out hBc)
          have HR81 := Aside0.mk (blk_below HR8.out hBc)
          have HB1 := Aside0.mk (pm_chain (w := w) HB.out hBc)
          clear HRA HRB HR8 HB hBc
          obtain ⟨⟨ha0, ha1, ha2⟩, _⟩ := know3 HRA1.out
          obtain ⟨⟨hb0, hb1, hb2⟩, _⟩ := know3 HRB1.out
          obtain ⟨⟨hz0, hz1, hz2⟩, hf0, hf1, hf2⟩ := know3 HR81.out
          have HRA := HRA1
          have HRB := HRB1
          have HR8 := HR81
          have HB := HB1
          clear HRA1 HRB1 HR81 HB1
          rw [F3.out]
          go_wp2_with (fail)
          go_at_call 108
          refine (ends_calls (H.out.below (pm_chain (w := w) HB.out (by (repeat (first | (with_reducible exact Below.refl _ _) | (with_reducible assumption) | with_reducible apply below_alloc | with_reducible apply pw_below_drewN | with_reducible apply below_drew1))))) ⟨bk, bv, bb⟩ hx.out.2.1 hx.out.2.2 hL.out.2).mono ?_
          rintro e W2 ⟨rfl, hB1⟩
          clear ha0 ha1 ha2 hb0 hb1 hb2 hz0 hz1 hz2 hf0 hf1 hf2
          have hBc := pm_chain (w := W1) (by (repeat (first | (with_reducible exact Below.refl _ _) | (with_reducible assumption) | with_reducible apply below_alloc | with_reducible apply pw_below_drewN | with_reducible apply below_drew1))) hB1
          clear hB1
          have HRA1 := Aside0.mk (blk_below HRA.out hBc)
          have HRB1 := Aside0.mk (blk_below HRB.out hBc)
          have HR81 := Aside0.mk (blk_below HR8.out hBc)
          have HB1 := Aside0.mk (pm_chain (w := w) HB.out hBc)
          clear HRA HRB HR8 HB hBc
          obtain ⟨⟨ha0, ha1, ha2⟩, _⟩ := know3 HRA1.out
          obtain ⟨⟨hb0, hb1, hb2⟩, _⟩ := know3 HRB1.out
          obtain ⟨⟨hz0, hz1, hz2⟩, hf0, hf1, hf2⟩ := know3 HR81.out
          have HRA := HRA1
          have HRB := HRB1
          have HR8 := HR81
          have HB := HB1
          clear HRA1 HRB1 HR81 HB1
          rw [F4.out]
          go_wp2_with (fail)
          go_at_call 92
          refine (rtruth_calls _ false).mono ?_
          rintro e WF ⟨rfl, hBF⟩
          have hBG := pm_chain (w := W2) (by (repeat (first | (with_reducible exact Below.refl _ _) | (with_reducible assumption) | with_reducible apply below_alloc | with_reducible apply pw_below_drewN | with_reducible apply below_drew1))) hBF
          obtain ⟨⟨hz0, hz1, hz2⟩, hf0, hf1, hf2⟩ := know3 (blk_below HR8.out hBG)
          (try simp only at hz0 hz1 hz2)
          simp only [ans, truthV, V3.enc, V3.z]
          go_wp2_with (fail)
          refine bodyPost_ret (results_ct rfl _ _ g8 51 _ (0, 0) _ rfl (put3 (blk_below HR8.out hBG) _ _ _) Try.underlying51 rfl (by kernel_rfl)) rfl ?_
          exact ⟨by rw [← hA.out]; simp [beq_eq_false_iff_ne.mpr CB2.out] <;> rfl, by have hB := pm_chain (w := w) HB.out hBG; obtain ⟨_, _, hq⟩ := HG.out; (repeat (first | (with_reducible exact Below.refl _ _) | (with_reducible assumption) | with_reducible apply below_alloc | with_reducible apply pw_below_drewN | with_reducible apply below_drew1 | (refine below_set ?_ (by omega))))⟩
  by_cases o15 : op = 15
  · subst o15
    rw [if_pos (by omega)] at hA
    by_cases cb2 : ab = bb
    · rw [if_neg (fun h => h.1 cb2)] at hA
      have f2 : (ab == bb) = true := beq_iff_eq.mpr cb2
      have CB2 := Aside0.mk cb2
      clear cb2
      by_cases cv : av = bv
      · have fv : (av == bv) = true := beq_iff_eq.mpr cv
        have CV := Aside0.mk cv
        clear cv
        go_wp2_with (fail)
        go_at_call 92
        refine (rtruth_calls _ false).mono ?_
        rintro e WF ⟨rfl, hBF⟩
        have hBG := pm_chain (w := W0) (by (repeat (first | (with_reducible exact Below.refl _ _) | (with_reducible assumption) | with_reducible apply below_alloc | with_reducible apply pw_below_drewN | with_reducible apply below_drew1))) hBF
        obtain ⟨⟨hz0, hz1, hz2⟩, hf0, hf1, hf2⟩ := know3 (blk_below HR8.out hBG)
        (try simp only at hz0 hz1 hz2)
        simp only [ans, truthV, V3.enc, V3.z]
        go_wp2_with (fail)
        refine bodyPost_ret (results_ct rfl _ _ g8 51 _ (0, 0) _ rfl (put3 (blk_below HR8.out hBG) _ _ _) Try.underlying51 rfl (by kernel_rfl)) rfl ?_
        exact ⟨by rw [← hA.out]; simp [CV.out, CB2.out] <;> rfl, by have hB := pm_chain (w := w) HB.out hBG; obtain ⟨_, _, hq⟩ := HG.out; (repeat (first | (with_reducible exact Below.refl _ _) | (with_reducible assumption) | with_reducible apply below_alloc | with_reducible apply pw_below_drewN | with_reducible apply below_drew1 | (refine below_set ?_ (by omega))))⟩
      · have fv : (av == bv) = false := beq_eq_false_iff_ne.mpr cv
        have CV := Aside0.mk cv
        clear cv
        go_wp2_with (fail)
        go_at_call 92
        refine (rtruth_calls _ true).mono ?_
        rintro e WF ⟨rfl, hBF⟩
        have hBG := pm_chain (w := W0) (by (repeat (first | (with_reducible exact Below.refl _ _) | (with_reducible assumption) | with_reducible apply below_alloc | with_reducible apply pw_below_drewN | with_reducible apply below_drew1))) hBF
        obtain ⟨⟨hz0, hz1, hz2⟩, hf0, hf1, hf2⟩ := know3 (blk_below HR8.out hBG)
        (try simp only at hz0 hz1 hz2)
        simp only [ans, truthV, V3.enc, V3.z]
        go_wp2_with (fail)
        refine bodyPost_ret (results_ct rfl _ _ g8 51 _ (0, 0) _ rfl (put3 (blk_below HR8.out hBG) _ _ _) Try.underlying51 rfl (by kernel_rfl)) rfl ?_
        exact ⟨by rw [← hA.out]; simp [beq_eq_false_iff_ne.mpr CV.out, CB2.out] <;> rfl, by have hB := pm_chain (w := w) HB.out hBG; obtain ⟨_, _, hq⟩ := HG.out; (repeat (first | (with_reducible exact Below.refl _ _) | (with_reducible assumption) | with_reducible apply below_alloc | with_reducible apply pw_below_drewN | with_reducible apply below_drew1 | (refine below_set ?_ (by omega))))⟩
    · have f2 : (ab == bb) = false := beq_eq_false_iff_ne.mpr cb2
      have CB2 := Aside0.mk cb2
      clear cb2
      by_cases ca : av = ya.cs.length
      · rw [if_pos ⟨CB2.out, .inl ca⟩] at hA
        have F3 := Aside0.mk (show (av == (ya.cs.length : Int)) = true from beq_iff_eq.mpr ca)
        clear ca
        go_wp2_with (fail)
        go_at_call 108
        refine (ends_calls (H.out.below (pm_chain (w := w) HB.out (by (repeat (first | (with_reducible exact Below.refl _ _) | (with_reducible assumption) | with_reducible apply below_alloc | with_reducible apply pw_below_drewN | with_reducible apply below_drew1))))) ⟨ak, av, ab⟩ hx.out.1.1 hx.out.1.2 hL.out.1).mono ?_
        rintro e W1 ⟨rfl, hB1⟩
        clear ha0 ha1 ha2 hb0 hb1 hb2 hz0 hz1 hz2 hf0 hf1 hf2
        have hBc := pm_chain (w := W0) (by (repeat (first | (with_reducible exact Below.refl _ _) | (with_reducible assumption) | with_reducible apply below_alloc | with_reducible apply pw_below_drewN | with_reducible apply below_drew1))) hB1
        clear hB1
        have HRA1 := Aside0.mk (blk_below HRA.out hBc)
        have HRB1 := Aside0.mk (blk_below HRB.out hBc)
        have HR81 := Aside0.mk (blk_below HR8.out hBc)
        have HB1 := Aside0.mk (pm_chain (w := w) HB.out hBc)
        clear HRA HRB HR8 HB hBc
        obtain ⟨⟨ha0, ha1, ha2⟩, _⟩ := know3 HRA1.out
        obtain ⟨⟨hb0, hb1, hb2⟩, _⟩ := know3 HRB1.out
        obtain ⟨⟨hz0, hz1, hz2⟩, hf0, hf1, hf2⟩ := know3 HR81.out
        have HRA := HRA1
        have HRB := HRB1
        have HR8 := HR81
        have HB := HB1
        clear HRA1 HRB1 HR81 HB1
        rw [F3.out]
        go_wp2_with (fail)
        refine bodyPost_ret (results_ct rfl _ _ g8 51 _ (0, 0) _ rfl (put3 (HR8.out) _ _ _) Try.underlying51 rfl (by kernel_rfl)) rfl ?_
        exact ⟨by rw [← hA.out]; rfl, by have hB := HB.out; obtain ⟨_, _, hq⟩ := HG.out; (repeat (first | (with_reducible exact Below.refl _ _) | (with_reducible assumption) | with_reducible apply below_alloc | with_reducible apply pw_below_drewN | with_reducible apply below_drew1 | (refine below_set ?_ (by omega))))⟩
      · have F3 := Aside0.mk (show (av == (ya.cs.length : Int)) = false from beq_eq_false_iff_ne.mpr ca)
        by_cases cc : bv = yb.cs.length
        · rw [if_pos ⟨CB2.out, .inr cc⟩] at hA
          have F4 := Aside0.mk (show (bv == (yb.cs.length : Int)) = true from beq_iff_eq.mpr cc)
          clear ca cc
          go_wp2_with (fail)
          go_at_call 108
          refine (ends_calls (H.out.below (pm_chain (w := w) HB.out (by (repeat (first | (with_reducible exact Below.refl _ _) | (with_reducible assumption) | with_reducible apply below_alloc | with_reducible apply pw_below_drewN | with_reducible apply below_drew1))))) ⟨ak, av, ab⟩ hx.out.1.1 hx.out.1.2 hL.out.1).mono ?_
          rintro e W1 ⟨rfl, hB1⟩
          clear ha0 ha1 ha2 hb0 hb1 hb2 hz0 hz1 hz2 hf0 hf1 hf2
          have hBc := pm_chain (w := W0) (by (repeat (first | (with_reducible exact Below.refl _ _) | (with_reducible assumption) | with_reducible apply below_alloc | with_reducible apply pw_below_drewN | with_reducible apply below_drew1))) hB1
          clear hB1
          have HRA1 := Aside0.mk (blk_below HRA.out hBc)
          have HRB1 := Aside0.mk (blk_below HRB.out hBc)
          have HR81 := Aside0.mk (blk_below HR8.out hBc)
          have HB1 := Aside0.mk (pm_chain (w := w) HB.out hBc)
          clear HRA HRB HR8 HB hBc
          obtain ⟨⟨ha0, ha1, ha2⟩, _⟩ := know3 HRA1.out
          obtain ⟨⟨hb0, hb1, hb2⟩, _⟩ := know3 HRB1.out
          obtain ⟨⟨hz0, hz1, hz2⟩, hf0, hf1, hf2⟩ := know3 HR81.out
          have HRA := HRA1
          have HRB := HRB1
          have HR8 := HR81
          have HB := HB1
          clear HRA1 HRB1 HR81 HB1
          rw [F3.out]
          go_wp2_with (fail)
          go_at_call 108
          refine (ends_calls (H.out.below (pm_chain (w := w) HB.out (by (repeat (first | (with_reducible exact Below.refl _ _) | (with_reducible assumption) | with_reducible apply below_alloc | with_reducible apply pw_below_drewN | with_reducible apply below_drew1))))) ⟨bk, bv, bb⟩ hx.out.2.1 hx.out.2.2 hL.out.2).mono ?_
          rintro e W2 ⟨rfl, hB1⟩
          clear ha0 ha1 ha2 hb0 hb1 hb2 hz0 hz1 hz2 hf0 hf1 hf2
          have hBc := pm_chain (w := W1) (by (repeat (first | (with_reducible exact Below.refl _ _) | (with_reducible assumption) | with_reducible apply below_alloc | with_reducible apply pw_below_drewN | with_reducible apply below_drew1))) hB1
          clear hB1
          have HRA1 := Aside0.mk (blk_below HRA.out hBc)
          have HRB1 := Aside0.mk (blk_below HRB.out hBc)
          have HR81 := Aside0.mk (blk_below HR8.out hBc)
          have HB1 := Aside0.mk (pm_chain (w := w) HB.out hBc)
          clear HRA HRB HR8 HB hBc
          obtain ⟨⟨ha0, ha1, ha2⟩, _⟩ := know3 HRA1.out
          obtain ⟨⟨hb0, hb1, hb2⟩, _⟩ := know3 HRB1.out
          obtain ⟨⟨hz0, hz1, hz2⟩, hf0, hf1, hf2⟩ := know3 HR81.out
          have HRA := HRA1
          have HRB := HRB1
          have HR8 := HR81
          have HB := HB1
          clear HRA1 HRB1 HR81 HB1
          rw [F4.out]
          go_wp2_with (fail)
          refine bodyPost_ret (results_ct rfl _ _ g8 51 _ (0, 0) _ rfl (put3 (HR8.out) _ _ _) Try.underlying51 rfl (by kernel_rfl)) rfl ?_
          exact ⟨by rw [← hA.out]; rfl, by have hB := HB.out; obtain ⟨_, _, hq⟩ := HG.out; (repeat (first | (with_reducible exact Below.refl _ _) | (with_reducible assumption) | with_reducible apply below_alloc | with_reducible apply pw_below_drewN | with_reducible apply below_drew1 | (refine below_set ?_ (by omega))))⟩
        · rw [if_neg (fun h => h.2.elim ca cc)] at hA
          have F4 := Aside0.mk (show (bv == (yb.cs.length : Int)) = false from beq_eq_false_iff_ne.mpr cc)
          clear ca cc
          go_wp2_with (fail)
          go_at_call 108
          refine (ends_calls (H.out.below (pm_chain (w := w) HB.out (by (repeat (first | (with_reducible exact Below.refl _ _) | (with_reducible assumption) | with_reducible apply below_alloc | with_reducible apply pw_below_drewN | with_reducible apply below_drew1))))) ⟨ak, av, ab⟩ hx.out.1.1 hx.out.1.2 hL.out.1).mono ?_
          rintro e W1 ⟨rfl, hB1⟩
          clear ha0 ha1 ha2 hb0 hb1 hb2 hz0 hz1 hz2 hf0 hf1 hf2
          have hBc := pm_chain (w := W0) (by (repeat (first | (with_reducible exact Below.refl _ _) | (with_reducible assumption) | with_reducible apply below_alloc | with_reducible apply pw_below_drewN | with_reducible apply below_drew1))) hB1
          clear hB1
          have HRA1 := Aside0.mk (blk_below HRA.out hBc)
          have HRB1 := Aside0.mk (blk_below HRB.out hBc)
          have HR81 := Aside0.mk (blk_below HR8.out hBc)
          have HB1 := Aside0.mk (pm_chain (w := w) HB.out hBc)
          clear HRA HRB HR8 HB hBc
          obtain ⟨⟨ha0, ha1, ha2⟩, _⟩ := know3 HRA1.out
          obtain ⟨⟨hb0, hb1, hb2⟩, _⟩ := know3 HRB1.out
          obtain ⟨⟨hz0, hz1, hz2⟩, hf0, hf1, hf2⟩ := know3 HR81.out
          have HRA := HRA1
          have HRB := HRB1
          have HR8 := HR81
          have HB := HB1
          clear HRA1 HRB1 HR81 HB1
          rw [F3.out]
          go_wp2_with (fail)
          go_at_call 108
          refine (ends_calls (H.out.below (pm_chain (w := w) HB.out (by (repeat (first | (with_reducible exact Below.refl _ _) | (with_reducible assumption) | with_reducible apply below_alloc | with_reducible apply pw_below_drewN | with_reducible apply below_drew1))))) ⟨bk, bv, bb⟩ hx.out.2.1 hx.out.2.2 hL.out.2).mono ?_
          rintro e W2 ⟨rfl, hB1⟩
          clear ha0 ha1 ha2 hb0 hb1 hb2 hz0 hz1 hz2 hf0 hf1 hf2
          have hBc := pm_chain (w := W1) (by (repeat (first | (with_reducible exact Below.refl _ _) | (with_reducible assumption) | with_reducible apply below_alloc | with_reducible apply pw_below_drewN | with_reducible apply below_drew1))) hB1
          clear hB1
          have HRA1 := Aside0.mk (blk_below HRA.out hBc)
          have HRB1 := Aside0.mk (blk_below HRB.out hBc)
          have HR81 := Aside0.mk (blk_below HR8.out hBc)
          have HB1 := Aside0.mk (pm_chain (w := w) HB.out hBc)
          clear HRA HRB HR8 HB hBc
          obtain ⟨⟨ha0, ha1, ha2⟩, _⟩ := know3 HRA1.out
          obtain ⟨⟨hb0, hb1, hb2⟩, _⟩ := know3 HRB1.out
          obtain ⟨⟨hz0, hz1, hz2⟩, hf0, hf1, hf2⟩ := know3 HR81.out
          have HRA := HRA1
          have HRB := HRB1
          have HR8 := HR81
          have HB := HB1
          clear HRA1 HRB1 HR81 HB1
          rw [F4.out]
          go_wp2_with (fail)
          go_at_call 92
          refine (rtruth_calls _ true).mono ?_
          rintro e WF ⟨rfl, hBF⟩
          have hBG := pm_chain (w := W2) (by (repeat (first | (with_reducible exact Below.refl _ _) | (with_reducible assumption) | with_reducible apply below_alloc | with_reducible apply pw_below_drewN | with_reducible apply below_drew1))) hBF
          obtain ⟨⟨hz0, hz1, hz2⟩, hf0, hf1, hf2⟩ := know3 (blk_below HR8.out hBG)
          (try simp only at hz0 hz1 hz2)
          simp only [ans, truthV, V3.enc, V3.z]
          go_wp2_with (fail)
          refine bodyPost_ret (results_ct rfl _ _ g8 51 _ (0, 0) _ rfl (put3 (blk_below HR8.out hBG) _ _ _) Try.underlying51 rfl (by kernel_rfl)) rfl ?_
          exact ⟨by rw [← hA.out]; simp [beq_eq_false_iff_ne.mpr CB2.out] <;> rfl, by have hB := pm_chain (w := w) HB.out hBG; obtain ⟨_, _, hq⟩ := HG.out; (repeat (first | (with_reducible exact Below.refl _ _) | (with_reducible assumption) | with_reducible apply below_alloc | with_reducible apply pw_below_drewN | with_reducible apply below_drew1 | (refine below_set ?_ (by omega))))⟩
  rw [if_neg (by omega)] at hA
  have g14 : (op == 14) = false := beq_eq_false_iff_ne.mpr o14
  have g15 : (op == 15) = false := beq_eq_false_iff_ne.mpr o15
  clear o14 o15
  by_cases cb2 : ab = bb
  · rw [if_neg (fun h => h cb2)] at hA
    have f1 : (ab == bb) = true := beq_iff_eq.mpr cb2
    clear cb2
    by_cases o2 : op = 2
    · subst o2
      rw [if_pos rfl] at hA
      go_wp2_with (fail)
      go_at_call 18
      refine (mortiseref11_Num.calls ((av - bv) % 4294967296) 1 ((av - bv) % 4294967296) 0 _ rfl).mono ?_
      rintro e WF ⟨rfl, hBF⟩
      have hBG := pm_chain (w := W0) (by (repeat (first | (with_reducible exact Below.refl _ _) | (with_reducible assumption) | with_reducible apply below_alloc | with_reducible apply pw_below_drewN | with_reducible apply below_drew1))) hBF
      obtain ⟨⟨hz0, hz1, hz2⟩, hf0, hf1, hf2⟩ := know3 (blk_below HR8.out hBG)
      (try simp only at hz0 hz1 hz2)
      skip
      go_wp2_with (fail)
      refine bodyPost_ret (results_ct rfl _ _ g8 51 _ (0, 0) _ rfl (put3 (blk_below HR8.out hBG) _ _ _) Try.underlying51 rfl (by kernel_rfl)) rfl ?_
      exact ⟨by rw [← hA.out]; rfl, by have hB := pm_chain (w := w) HB.out hBG; obtain ⟨_, _, hq⟩ := HG.out; (repeat (first | (with_reducible exact Below.refl _ _) | (with_reducible assumption) | with_reducible apply below_alloc | with_reducible apply pw_below_drewN | with_reducible apply below_drew1 | (refine below_set ?_ (by omega))))⟩
    rw [if_neg o2] at hA
    have g2 : (op == 2) = false := beq_eq_false_iff_ne.mpr o2
    by_cases o16 : op = 16 ∨ op = 17
    · rw [if_pos o16] at hA
      by_cases cv : av < bv
      · have fv : decide (av < bv) = true := by simp; omega
        rw [fv] at hA
        clear cv
        rcases o16 with rfl | rfl
        all_goals
          go_wp2_with (fail)
          go_at_call 92
          refine (rtruth_calls _ true).mono ?_
          rintro e WF ⟨rfl, hBF⟩
          have hBG := pm_chain (w := W0) (by (repeat (first | (with_reducible exact Below.refl _ _) | (with_reducible assumption) | with_reducible apply below_alloc | with_reducible apply pw_below_drewN | with_reducible apply below_drew1))) hBF
          obtain ⟨⟨hz0, hz1, hz2⟩, hf0, hf1, hf2⟩ := know3 (blk_below HR8.out hBG)
          (try simp only at hz0 hz1 hz2)
          simp only [ans, truthV, V3.enc, V3.z]
          go_wp2_with (fail)
          refine bodyPost_ret (results_ct rfl _ _ g8 51 _ (0, 0) _ rfl (put3 (blk_below HR8.out hBG) _ _ _) Try.underlying51 rfl (by kernel_rfl)) rfl ?_
          exact ⟨by rw [← hA.out]; rfl, by have hB := pm_chain (w := w) HB.out hBG; obtain ⟨_, _, hq⟩ := HG.out; (repeat (first | (with_reducible exact Below.refl _ _) | (with_reducible assumption) | with_reducible apply below_alloc | with_reducible apply pw_below_drewN | with_reducible apply below_drew1 | (refine below_set ?_ (by omega))))⟩
      · have fv : decide (av < bv) = false := by simp; omega
        rw [fv] at hA
        clear cv
        rcases o16 with rfl | rfl
        all_goals
          go_wp2_with (fail)
          go_at_call 92
          refine (rtruth_calls _ false).mono ?_
          rintro e WF ⟨rfl, hBF⟩
          have hBG := pm_chain (w := W0) (by (repeat (first | (with_reducible exact Below.refl _ _) | (with_reducible assumption) | with_reducible apply below_alloc | with_reducible apply pw_below_drewN | with_reducible apply below_drew1))) hBF
          obtain ⟨⟨hz0, hz1, hz2⟩, hf0, hf1, hf2⟩ := know3 (blk_below HR8.out hBG)
          (try simp only at hz0 hz1 hz2)
          simp only [ans, truthV, V3.enc, V3.z]
          go_wp2_with (fail)
          refine bodyPost_ret (results_ct rfl _ _ g8 51 _ (0, 0) _ rfl (put3 (blk_below HR8.out hBG) _ _ _) Try.underlying51 rfl (by kernel_rfl)) rfl ?_
          exact ⟨by rw [← hA.out]; rfl, by have hB := pm_chain (w := w) HB.out hBG; obtain ⟨_, _, hq⟩ := HG.out; (repeat (first | (with_reducible exact Below.refl _ _) | (with_reducible assumption) | with_reducible apply below_alloc | with_reducible apply pw_below_drewN | with_reducible apply below_drew1 | (refine below_set ?_ (by omega))))⟩
    rw [if_neg o16] at hA
    have g16 : (op == 16) = false := beq_eq_false_iff_ne.mpr (fun e => o16 (.inl e))
    have g17 : (op == 17) = false := beq_eq_false_iff_ne.mpr (fun e => o16 (.inr e))
    by_cases o18 : op = 18 ∨ op = 19
    · rw [if_pos o18] at hA
      by_cases cv : av ≤ bv
      · have fv : decide (av ≤ bv) = true := by simp; omega
        rw [fv] at hA
        clear cv
        rcases o18 with rfl | rfl
        all_goals
          go_wp2_with (fail)
          go_at_call 92
          refine (rtruth_calls _ true).mono ?_
          rintro e WF ⟨rfl, hBF⟩
          have hBG := pm_chain (w := W0) (by (repeat (first | (with_reducible exact Below.refl _ _) | (with_reducible assumption) | with_reducible apply below_alloc | with_reducible apply pw_below_drewN | with_reducible apply below_drew1))) hBF
          obtain ⟨⟨hz0, hz1, hz2⟩, hf0, hf1, hf2⟩ := know3 (blk_below HR8.out hBG)
          (try simp only at hz0 hz1 hz2)
          simp only [ans, truthV, V3.enc, V3.z]
          go_wp2_with (fail)
          refine bodyPost_ret (results_ct rfl _ _ g8 51 _ (0, 0) _ rfl (put3 (blk_below HR8.out hBG) _ _ _) Try.underlying51 rfl (by kernel_rfl)) rfl ?_
          exact ⟨by rw [← hA.out]; rfl, by have hB := pm_chain (w := w) HB.out hBG; obtain ⟨_, _, hq⟩ := HG.out; (repeat (first | (with_reducible exact Below.refl _ _) | (with_reducible assumption) | with_reducible apply below_alloc | with_reducible apply pw_below_drewN | with_reducible apply below_drew1 | (refine below_set ?_ (by omega))))⟩
      · have fv : decide (av ≤ bv) = false := by simp; omega
        rw [fv] at hA
        clear cv
        rcases o18 with rfl | rfl
        all_goals
          go_wp2_with (fail)
          go_at_call 92
          refine (rtruth_calls _ false).mono ?_
          rintro e WF ⟨rfl, hBF⟩
          have hBG := pm_chain (w := W0) (by (repeat (first | (with_reducible exact Below.refl _ _) | (with_reducible assumption) | with_reducible apply below_alloc | with_reducible apply pw_below_drewN | with_reducible apply below_drew1))) hBF
          obtain ⟨⟨hz0, hz1, hz2⟩, hf0, hf1, hf2⟩ := know3 (blk_below HR8.out hBG)
          (try simp only at hz0 hz1 hz2)
          simp only [ans, truthV, V3.enc, V3.z]
          go_wp2_with (fail)
          refine bodyPost_ret (results_ct rfl _ _ g8 51 _ (0, 0) _ rfl (put3 (blk_below HR8.out hBG) _ _ _) Try.underlying51 rfl (by kernel_rfl)) rfl ?_
          exact ⟨by rw [← hA.out]; rfl, by have hB := pm_chain (w := w) HB.out hBG; obtain ⟨_, _, hq⟩ := HG.out; (repeat (first | (with_reducible exact Below.refl _ _) | (with_reducible assumption) | with_reducible apply below_alloc | with_reducible apply pw_below_drewN | with_reducible apply below_drew1 | (refine below_set ?_ (by omega))))⟩
    rw [if_neg o18] at hA
    have g18 : (op == 18) = false := beq_eq_false_iff_ne.mpr (fun e => o18 (.inl e))
    have g19 : (op == 19) = false := beq_eq_false_iff_ne.mpr (fun e => o18 (.inr e))
    clear o2 o16 o18
    go_wp2_with (fail)
    refine bodyPost_ret (results_ct rfl _ _ g8 51 _ (0, 0) _ rfl (put3 (HR8.out) _ _ _) Try.underlying51 rfl (by kernel_rfl)) rfl ?_
    exact ⟨by rw [← hA.out]; rfl, by have hB := HB.out; obtain ⟨_, _, hq⟩ := HG.out; (repeat (first | (with_reducible exact Below.refl _ _) | (with_reducible assumption) | with_reducible apply below_alloc | with_reducible apply pw_below_drewN | with_reducible apply below_drew1 | (refine below_set ?_ (by omega))))⟩
  · rw [if_pos cb2] at hA
    have f1 : (ab == bb) = false := beq_eq_false_iff_ne.mpr cb2
    clear cb2
    by_cases o2 : op = 2
    · subst o2
      go_wp2_with (fail)
      refine bodyPost_ret (results_ct rfl _ _ g8 51 _ (0, 0) _ rfl (put3 (HR8.out) _ _ _) Try.underlying51 rfl (by kernel_rfl)) rfl ?_
      exact ⟨by rw [← hA.out]; rfl, by have hB := HB.out; obtain ⟨_, _, hq⟩ := HG.out; (repeat (first | (with_reducible exact Below.refl _ _) | (with_reducible assumption) | with_reducible apply below_alloc | with_reducible apply pw_below_drewN | with_reducible apply below_drew1 | (refine below_set ?_ (by omega))))⟩
    have g2 : (op == 2) = false := beq_eq_false_iff_ne.mpr o2
    by_cases o16 : op = 16
    · subst o16
      go_wp2_with (fail)
      refine bodyPost_ret (results_ct rfl _ _ g8 51 _ (0, 0) _ rfl (put3 (HR8.out) _ _ _) Try.underlying51 rfl (by kernel_rfl)) rfl ?_
      exact ⟨by rw [← hA.out]; rfl, by have hB := HB.out; obtain ⟨_, _, hq⟩ := HG.out; (repeat (first | (with_reducible exact Below.refl _ _) | (with_reducible assumption) | with_reducible apply below_alloc | with_reducible apply pw_below_drewN | with_reducible apply below_drew1 | (refine below_set ?_ (by omega))))⟩
    have g16 : (op == 16) = false := beq_eq_false_iff_ne.mpr o16
    by_cases o17 : op = 17
    · subst o17
      go_wp2_with (fail)
      refine bodyPost_ret (results_ct rfl _ _ g8 51 _ (0, 0) _ rfl (put3 (HR8.out) _ _ _) Try.underlying51 rfl (by kernel_rfl)) rfl ?_
      exact ⟨by rw [← hA.out]; rfl, by have hB := HB.out; obtain ⟨_, _, hq⟩ := HG.out; (repeat (first | (with_reducible exact Below.refl _ _) | (with_reducible assumption) | with_reducible apply below_alloc | with_reducible apply pw_below_drewN | with_reducible apply below_drew1 | (refine below_set ?_ (by omega))))⟩
    have g17 : (op == 17) = false := beq_eq_false_iff_ne.mpr o17
    by_cases o18 : op = 18
    · subst o18
      go_wp2_with (fail)
      refine bodyPost_ret (results_ct rfl _ _ g8 51 _ (0, 0) _ rfl (put3 (HR8.out) _ _ _) Try.underlying51 rfl (by kernel_rfl)) rfl ?_
      exact ⟨by rw [← hA.out]; rfl, by have hB := HB.out; obtain ⟨_, _, hq⟩ := HG.out; (repeat (first | (with_reducible exact Below.refl _ _) | (with_reducible assumption) | with_reducible apply below_alloc | with_reducible apply pw_below_drewN | with_reducible apply below_drew1 | (refine below_set ?_ (by omega))))⟩
    have g18 : (op == 18) = false := beq_eq_false_iff_ne.mpr o18
    by_cases o19 : op = 19
    · subst o19
      go_wp2_with (fail)
      refine bodyPost_ret (results_ct rfl _ _ g8 51 _ (0, 0) _ rfl (put3 (HR8.out) _ _ _) Try.underlying51 rfl (by kernel_rfl)) rfl ?_
      exact ⟨by rw [← hA.out]; rfl, by have hB := HB.out; obtain ⟨_, _, hq⟩ := HG.out; (repeat (first | (with_reducible exact Below.refl _ _) | (with_reducible assumption) | with_reducible apply below_alloc | with_reducible apply pw_below_drewN | with_reducible apply below_drew1 | (refine below_set ?_ (by omega))))⟩
    have g19 : (op == 19) = false := beq_eq_false_iff_ne.mpr o19
    clear o2 o16 o17 o18 o19
    go_wp2_with (fail)
    refine bodyPost_ret (results_ct rfl _ _ g8 51 _ (0, 0) _ rfl (put3 (HR8.out) _ _ _) Try.underlying51 rfl (by kernel_rfl)) rfl ?_
    exact ⟨by rw [← hA.out]; rfl, by have hB := HB.out; obtain ⟨_, _, hq⟩ := HG.out; (repeat (first | (with_reducible exact Below.refl _ _) | (with_reducible assumption) | with_reducible apply below_alloc | with_reducible apply pw_below_drewN | with_reducible apply below_drew1 | (refine below_set ?_ (by omega))))⟩
end Go.Proofs.Ythdnhfjodhjejaa.Ma
