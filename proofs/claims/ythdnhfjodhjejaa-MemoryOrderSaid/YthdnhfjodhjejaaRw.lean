/- The law MemoryOrder's walk: pointers into one block are in the order of their bytes. No condition beyond those each theorem names. -/
import Derived.Test.YthdnhfjodhjejaaRt
import Derived.Test.YthdnhfjodhjejaaRv
import Derived.Deep.Cut
import Derived.StillTailTactics
namespace Go.Proofs.Ythdnhfjodhjejaa.Ma
open Go.RowKit Go.Proofs.Ythdnhfjodhjejaa.PMe Go.Proofs.YthdnhfjodhjejaaW.PrintWords Go.Proofs.YthdnhfjodhjejaaW.PrintLast Go.Proofs.YthdnhfjodhjejaaW.PrintMore
set_option linter.unusedVariables false
set_option linter.unusedSimpArgs false
variable {w W W1 : World}
set_option maxHeartbeats 40000000 in
set_option maxRecDepth 100000 in
theorem MemoryOrder_calls (A : Option Addr) (cap : Nat) (xs : List Act1) (hs : Script w A xs) (hl : xs.length < 1759218604441) (p q : V3) (hp : 0 ≤ p.v ∧ p.v < 4294967296) (hq : 0 ≤ q.v ∧ q.v < 4294967296) : Calls Try.prog 4 #[.slice A xs.length cap, p.enc, q.enc] w fun e w' => e = .returned (.bool true) ∧ Below w.heap.size w w' := by
  have hu51 := Try.underlying51
  obtain ⟨pk, pv, pb⟩ := p
  obtain ⟨qk, qv, qb⟩ := q
  simp only at hp hq
  unfold V3.enc
  simp only
  have HS := Aside0.mk hs
  have HL := Aside0.mk hl
  have HP := Aside0.mk hp
  have HQ := Aside0.mk hq
  obtain ⟨n, hn⟩ : ∃ n, n = xs.length := ⟨_, rfl⟩
  rw [← hn]
  have HN := Aside0.mk hn
  clear hs hl hp hq hn
  go_enter Try.func4, Try.ntmps4
  go_wp2_with (fail)
  have hB0 : Below w.heap.size w ((w.alloc (.cells #[.int .i64 pk, .int .u32 pv, .int .i64 pb] 51)).alloc (.cells #[.int .i64 qk, .int .u32 qv, .int .i64 qb] 51)) := by (repeat (first | (with_reducible exact Below.refl _ _) | (with_reducible assumption) | with_reducible apply below_alloc | with_reducible apply pw_below_drewN | with_reducible apply below_drew1))
  have Rg4 := Aside0.mk (show ((w.alloc (.cells #[.int .i64 pk, .int .u32 pv, .int .i64 pb] 51)).alloc (.cells #[.int .i64 qk, .int .u32 qv, .int .i64 qb] 51)).heap[w.heap.size]? = some (.cells #[.int .i64 pk, .int .u32 pv, .int .i64 pb] 51 (0, 0)) from blk_alloc (heap_at _ _ _ rfl) _)
  have Rg5 := Aside0.mk (show ((w.alloc (.cells #[.int .i64 pk, .int .u32 pv, .int .i64 pb] 51)).alloc (.cells #[.int .i64 qk, .int .u32 qv, .int .i64 qb] 51)).heap[w.heap.size + 1]? = some (.cells #[.int .i64 qk, .int .u32 qv, .int .i64 qb] 51 (0, 0)) from heap_at _ _ _ (by simp))
  have B0 := Aside0.mk hB0
  clear hB0
  generalize ((w.alloc (.cells #[.int .i64 pk, .int .u32 pv, .int .i64 pb] 51)).alloc (.cells #[.int .i64 qk, .int .u32 qv, .int .i64 qb] 51)) = W0 at Rg4 Rg5 B0 ⊢
  obtain ⟨g5, hg5⟩ : ∃ g, g = w.heap.size + 1 := ⟨_, rfl⟩
  obtain ⟨g4, hg4⟩ : ∃ g, g = w.heap.size := ⟨_, rfl⟩
  rw [← hg4] at Rg4
  rw [← hg5] at Rg5
  rw [← hg5, ← hg4]
  clear hg4 hg5
  go_at_call 15
  rw [HN.out]
  refine (made_calls A cap xs (HS.out.below B0.out) HL.out).mono ?_
  rintro e W1 ⟨m, r, rfl, mm, last, L, sv, Bs, T, _, _⟩
  have O := Aside0.mk (show Own w W1 m mm last L from ⟨T.own.pm, pm_chain B0.out T.below, fun i hi => Nat.le_trans B0.out.size (T.own.new i hi)⟩)
  replace Rg4 := Aside0.mk (blk_below Rg4.out T.below)
  replace Rg5 := Aside0.mk (blk_below Rg5.out T.below)
  clear T HN HL HS B0
  obtain ⟨⟨⟨l0, l1, l2⟩, l3⟩, hl⟩ : ∃ x, binF L 17 ⟨pk, pv, pb⟩ ⟨qk, qv, qb⟩ = x := ⟨_, rfl⟩
  have Hl := Aside0.mk hl
  clear hl
  obtain ⟨⟨⟨g0, g1, g2⟩, g3⟩, hg⟩ : ∃ x, binF L 17 ⟨qk, qv, qb⟩ ⟨pk, pv, pb⟩ = x := ⟨_, rfl⟩
  have Hg := Aside0.mk hg
  clear hg
  obtain ⟨⟨⟨y0, y1, y2⟩, y3⟩, hy⟩ : ∃ x, binF L 19 ⟨pk, pv, pb⟩ ⟨qk, qv, qb⟩ = x := ⟨_, rfl⟩
  have Hy := Aside0.mk hy
  clear hy
  obtain ⟨⟨⟨z0, z1, z2⟩, z3⟩, hz⟩ : ∃ x, binF L 16 ⟨pk, pv, pb⟩ ⟨qk, qv, qb⟩ = x := ⟨_, rfl⟩
  have Hz := Aside0.mk hz
  clear hz
  obtain ⟨⟨kg40, kg41, kg42⟩, _⟩ := know3 Rg4.out
  obtain ⟨⟨kg50, kg51, kg52⟩, _⟩ := know3 Rg5.out
  go_wp2_with (fail)
  go_at_call 16
  refine (Bin_calls O.out.pm 17 ⟨pk, pv, pb⟩ ⟨qk, qv, qb⟩ (.tuple #[V3.enc ⟨l0, l1, l2⟩, .int .i64 l3]) ⟨by rw [Hl.out]; rfl⟩ ⟨⟨HP.out, HQ.out⟩⟩).mono ?_
  rintro e W2 ⟨rfl, hB1⟩
  simp only [V3.enc]
  have hBn := pm_chain (w := W1) (by (first | assumption | (repeat (first | (with_reducible exact Below.refl _ _) | (with_reducible assumption) | with_reducible apply below_alloc | with_reducible apply pw_below_drewN | with_reducible apply below_drew1)))) hB1
  replace O := Aside0.mk (O.out.grown hBn)
  replace Rg4 := Aside0.mk (blk_below Rg4.out hBn)
  replace Rg5 := Aside0.mk (blk_below Rg5.out hBn)
  clear hB1 hBn
  clear kg40 kg41 kg42 kg50 kg51 kg52
  go_upto_region 3 with (fail)
  have hBn : Below W2.heap.size W2 (W2.alloc (.cells #[.int .i64 l0, .int .u32 l1, .int .i64 l2] 51)) := by (repeat (first | (with_reducible exact Below.refl _ _) | (with_reducible assumption) | with_reducible apply below_alloc | with_reducible apply pw_below_drewN | with_reducible apply below_drew1))
  replace O := Aside0.mk (O.out.grown hBn)
  replace Rg4 := Aside0.mk (blk_below Rg4.out hBn)
  replace Rg5 := Aside0.mk (blk_below Rg5.out hBn)
  have Rg8 := Aside0.mk (show (W2.alloc (.cells #[.int .i64 l0, .int .u32 l1, .int .i64 l2] 51)).heap[W2.heap.size]? = some (.cells #[.int .i64 l0, .int .u32 l1, .int .i64 l2] 51 (0, 0)) from heap_at _ _ _ rfl)
  clear hBn
  generalize (W2.alloc (.cells #[.int .i64 l0, .int .u32 l1, .int .i64 l2] 51)) = W3 at O Rg4 Rg5 Rg8 ⊢
  generalize W2.heap.size = g8 at Rg8 ⊢
  obtain ⟨⟨kg40, kg41, kg42⟩, _⟩ := know3 Rg4.out
  obtain ⟨⟨kg50, kg51, kg52⟩, _⟩ := know3 Rg5.out
  go_wp2_with (fail)
  go_at_call 16
  refine (Bin_calls O.out.pm 17 ⟨qk, qv, qb⟩ ⟨pk, pv, pb⟩ (.tuple #[V3.enc ⟨g0, g1, g2⟩, .int .i64 g3]) ⟨by rw [Hg.out]; rfl⟩ ⟨⟨HQ.out, HP.out⟩⟩).mono ?_
  rintro e W4 ⟨rfl, hB1⟩
  simp only [V3.enc]
  have hBn := pm_chain (w := W3) (by (first | assumption | (repeat (first | (with_reducible exact Below.refl _ _) | (with_reducible assumption) | with_reducible apply below_alloc | with_reducible apply pw_below_drewN | with_reducible apply below_drew1)))) hB1
  replace O := Aside0.mk (O.out.grown hBn)
  replace Rg4 := Aside0.mk (blk_below Rg4.out hBn)
  replace Rg5 := Aside0.mk (blk_below Rg5.out hBn)
  replace Rg8 := Aside0.mk (blk_below Rg8.out hBn)
  clear hB1 hBn
  clear kg40 kg41 kg42 kg50 kg51 kg52
  go_upto_region 4 with (fail)
  have hBn : Below W4.heap.size W4 (W4.alloc (.cells #[.int .i64 g0, .int .u32 g1, .int .i64 g2] 51)) := by (repeat (first | (with_reducible exact Below.refl _ _) | (with_reducible assumption) | with_reducible apply below_alloc | with_reducible apply pw_below_drewN | with_reducible apply below_drew1))
  replace O := Aside0.mk (O.out.grown hBn)
  replace Rg4 := Aside0.mk (blk_below Rg4.out hBn)
  replace Rg5 := Aside0.mk (blk_below Rg5.out hBn)
  replace Rg8 := Aside0.mk (blk_below Rg8.out hBn)
  have Rg10 := Aside0.mk (show (W4.alloc (.cells #[.int .i64 g0, .int .u32 g1, .int .i64 g2] 51)).heap[W4.heap.size]? = some (.cells #[.int .i64 g0, .int .u32 g1, .int .i64 g2] 51 (0, 0)) from heap_at _ _ _ rfl)
  clear hBn
  generalize (W4.alloc (.cells #[.int .i64 g0, .int .u32 g1, .int .i64 g2] 51)) = W5 at O Rg4 Rg5 Rg8 Rg10 ⊢
  generalize W4.heap.size = g10 at Rg10 ⊢
  obtain ⟨⟨kg40, kg41, kg42⟩, _⟩ := know3 Rg4.out
  obtain ⟨⟨kg50, kg51, kg52⟩, _⟩ := know3 Rg5.out
  go_wp2_with (fail)
  go_at_call 16
  refine (Bin_calls O.out.pm 19 ⟨pk, pv, pb⟩ ⟨qk, qv, qb⟩ (.tuple #[V3.enc ⟨y0, y1, y2⟩, .int .i64 y3]) ⟨by rw [Hy.out]; rfl⟩ ⟨⟨HP.out, HQ.out⟩⟩).mono ?_
  rintro e W6 ⟨rfl, hB1⟩
  simp only [V3.enc]
  have hBn := pm_chain (w := W5) (by (first | assumption | (repeat (first | (with_reducible exact Below.refl _ _) | (with_reducible assumption) | with_reducible apply below_alloc | with_reducible apply pw_below_drewN | with_reducible apply below_drew1)))) hB1
  replace O := Aside0.mk (O.out.grown hBn)
  replace Rg4 := Aside0.mk (blk_below Rg4.out hBn)
  replace Rg5 := Aside0.mk (blk_below Rg5.out hBn)
  replace Rg8 := Aside0.mk (blk_below Rg8.out hBn)
  replace Rg10 := Aside0.mk (blk_below Rg10.out hBn)
  clear hB1 hBn
  clear kg40 kg41 kg42 kg50 kg51 kg52
  go_upto_region 5 with (fail)
  have hBn : Below W6.heap.size W6 (W6.alloc (.cells #[.int .i64 y0, .int .u32 y1, .int .i64 y2] 51)) := by (repeat (first | (with_reducible exact Below.refl _ _) | (with_reducible assumption) | with_reducible apply below_alloc | with_reducible apply pw_below_drewN | with_reducible apply below_drew1))
  replace O := Aside0.mk (O.out.grown hBn)
  replace Rg4 := Aside0.mk (blk_below Rg4.out hBn)
  replace Rg5 := Aside0.mk (blk_below Rg5.out hBn)
  replace Rg8 := Aside0.mk (blk_below Rg8.out hBn)
  replace Rg10 := Aside0.mk (blk_below Rg10.out hBn)
  have Rg12 := Aside0.mk (show (W6.alloc (.cells #[.int .i64 y0, .int .u32 y1, .int .i64 y2] 51)).heap[W6.heap.size]? = some (.cells #[.int .i64 y0, .int .u32 y1, .int .i64 y2] 51 (0, 0)) from heap_at _ _ _ rfl)
  clear hBn
  generalize (W6.alloc (.cells #[.int .i64 y0, .int .u32 y1, .int .i64 y2] 51)) = W7 at O Rg4 Rg5 Rg8 Rg10 Rg12 ⊢
  generalize W6.heap.size = g12 at Rg12 ⊢
  obtain ⟨⟨kg40, kg41, kg42⟩, _⟩ := know3 Rg4.out
  obtain ⟨⟨kg50, kg51, kg52⟩, _⟩ := know3 Rg5.out
  go_wp2_with (fail)
  go_at_call 16
  refine (Bin_calls O.out.pm 16 ⟨pk, pv, pb⟩ ⟨qk, qv, qb⟩ (.tuple #[V3.enc ⟨z0, z1, z2⟩, .int .i64 z3]) ⟨by rw [Hz.out]; rfl⟩ ⟨⟨HP.out, HQ.out⟩⟩).mono ?_
  rintro e W8 ⟨rfl, hB1⟩
  simp only [V3.enc]
  have hBn := pm_chain (w := W7) (by (first | assumption | (repeat (first | (with_reducible exact Below.refl _ _) | (with_reducible assumption) | with_reducible apply below_alloc | with_reducible apply pw_below_drewN | with_reducible apply below_drew1)))) hB1
  replace O := Aside0.mk (O.out.grown hBn)
  replace Rg4 := Aside0.mk (blk_below Rg4.out hBn)
  replace Rg5 := Aside0.mk (blk_below Rg5.out hBn)
  replace Rg8 := Aside0.mk (blk_below Rg8.out hBn)
  replace Rg10 := Aside0.mk (blk_below Rg10.out hBn)
  replace Rg12 := Aside0.mk (blk_below Rg12.out hBn)
  clear hB1 hBn
  clear kg40 kg41 kg42 kg50 kg51 kg52
  go_upto_region 6 with (fail)
  have hBn : Below W8.heap.size W8 (W8.alloc (.cells #[.int .i64 z0, .int .u32 z1, .int .i64 z2] 51)) := by (repeat (first | (with_reducible exact Below.refl _ _) | (with_reducible assumption) | with_reducible apply below_alloc | with_reducible apply pw_below_drewN | with_reducible apply below_drew1))
  replace O := Aside0.mk (O.out.grown hBn)
  replace Rg4 := Aside0.mk (blk_below Rg4.out hBn)
  replace Rg5 := Aside0.mk (blk_below Rg5.out hBn)
  replace Rg8 := Aside0.mk (blk_below Rg8.out hBn)
  replace Rg10 := Aside0.mk (blk_below Rg10.out hBn)
  replace Rg12 := Aside0.mk (blk_below Rg12.out hBn)
  have Rg14 := Aside0.mk (show (W8.alloc (.cells #[.int .i64 z0, .int .u32 z1, .int .i64 z2] 51)).heap[W8.heap.size]? = some (.cells #[.int .i64 z0, .int .u32 z1, .int .i64 z2] 51 (0, 0)) from heap_at _ _ _ rfl)
  clear hBn
  generalize (W8.alloc (.cells #[.int .i64 z0, .int .u32 z1, .int .i64 z2] 51)) = W9 at O Rg4 Rg5 Rg8 Rg10 Rg12 Rg14 ⊢
  generalize W8.heap.size = g14 at Rg14 ⊢
  obtain ⟨⟨kg40, kg41, kg42⟩, _⟩ := know3 Rg4.out
  obtain ⟨⟨kg50, kg51, kg52⟩, _⟩ := know3 Rg5.out
  by_cases cp : pk = 2
  · subst cp
    by_cases cq : qk = 2
    · subst cq
      by_cases cb : pb = qb
      · subst cb
        by_cases cs : (ofR L ⟨2, pv, pb⟩).isSome = true ∧ (ofR L ⟨2, qv, pb⟩).isSome = true
        · obtain ⟨c1, c2⟩ := cs
          obtain ⟨r1, c1⟩ := Option.isSome_iff_exists.1 c1
          obtain ⟨r2, c2⟩ := Option.isSome_iff_exists.1 c2
          obtain ⟨e1, e2, e3, e4⟩ := order_some (p := ⟨2, pv, pb⟩) (q := ⟨2, qv, pb⟩) rfl rfl rfl c1 c2
          obtain ⟨e5, _, _, _⟩ := order_some (p := ⟨2, qv, pb⟩) (q := ⟨2, pv, pb⟩) rfl rfl rfl c2 c1
          have q1 := Hl.out.symm.trans e1
          have q2 := Hg.out.symm.trans e5
          have q3 := Hy.out.symm.trans e2
          have q4 := Hz.out.symm.trans e3
          clear e1 e2 e3 e5 c1 c2 Hl Hg Hy Hz
          simp only [truthV, Prod.mk.injEq, V3.mk.injEq] at q1 q2 q3 q4
          obtain ⟨⟨rfl, rfl, rfl⟩, rfl⟩ := q1
          obtain ⟨⟨rfl, rfl, rfl⟩, rfl⟩ := q2
          obtain ⟨⟨rfl, rfl, rfl⟩, rfl⟩ := q3
          obtain ⟨⟨rfl, rfl, rfl⟩, rfl⟩ := q4
          have E4 := Aside0.mk e4
          clear e4
          rcases Int.lt_trichotomy pv qv with cv | cv | cv
          · have d1 : (if decide (pv < qv) = true then (1 : Int) else 0) = 1 := by rw [decide_eq_true (by omega : pv < qv)]; rfl
            have d2 : (if decide (qv < pv) = true then (1 : Int) else 0) = 0 := by rw [decide_eq_false (by omega : ¬ qv < pv)]; rfl
            have d3 : (if decide (pv ≤ qv) = true then (1 : Int) else 0) = 1 := by rw [decide_eq_true (by omega : pv ≤ qv)]; rfl
            have d4 : (binF L 14 ⟨2, pv, pb⟩ ⟨2, qv, pb⟩) = (⟨1, 0, 0⟩, 0) := by rw [E4.out]; unfold truthV; simp only; rw [beq_eq_false_iff_ne.2 (by omega : pv ≠ qv)]; rfl
            have D4 := Aside0.mk d4
            clear d4 E4
            clear cv
            simp only [d1, d2, d3] at Rg8 Rg10 Rg12 Rg14 ⊢
            clear d1 d2 d3
            go_wp2_with (fail)
            go_at_call 16
            refine (Bin_calls O.out.pm 14 ⟨2, pv, pb⟩ ⟨2, qv, pb⟩ (.tuple #[V3.enc ⟨1, 0, 0⟩, .int .i64 0]) ⟨by rw [D4.out]; rfl⟩ ⟨HP.out, HQ.out⟩).mono ?_
            rintro e W10 ⟨rfl, hB1⟩
            simp only [V3.enc]
            have hBn := pm_chain (w := W9) (by (first | assumption | (repeat (first | (with_reducible exact Below.refl _ _) | (with_reducible assumption) | with_reducible apply below_alloc | with_reducible apply pw_below_drewN | with_reducible apply below_drew1)))) hB1
            replace O := Aside0.mk (O.out.grown hBn)
            replace Rg4 := Aside0.mk (blk_below Rg4.out hBn)
            replace Rg5 := Aside0.mk (blk_below Rg5.out hBn)
            replace Rg8 := Aside0.mk (blk_below Rg8.out hBn)
            replace Rg10 := Aside0.mk (blk_below Rg10.out hBn)
            replace Rg12 := Aside0.mk (blk_below Rg12.out hBn)
            replace Rg14 := Aside0.mk (blk_below Rg14.out hBn)
            clear hB1 hBn
            clear kg40 kg41 kg42 kg50 kg51 kg52
            go_upto_region 13 with (fail)
            have hBn : Below W10.heap.size W10 (W10.alloc (.cells #[.int .i64 1, .int .u32 0, .int .i64 0] 51)) := by (repeat (first | (with_reducible exact Below.refl _ _) | (with_reducible assumption) | with_reducible apply below_alloc | with_reducible apply pw_below_drewN | with_reducible apply below_drew1))
            replace O := Aside0.mk (O.out.grown hBn)
            replace Rg4 := Aside0.mk (blk_below Rg4.out hBn)
            replace Rg5 := Aside0.mk (blk_below Rg5.out hBn)
            replace Rg8 := Aside0.mk (blk_below Rg8.out hBn)
            replace Rg10 := Aside0.mk (blk_below Rg10.out hBn)
            replace Rg12 := Aside0.mk (blk_below Rg12.out hBn)
            replace Rg14 := Aside0.mk (blk_below Rg14.out hBn)
            have Rg16 := Aside0.mk (show (W10.alloc (.cells #[.int .i64 1, .int .u32 0, .int .i64 0] 51)).heap[W10.heap.size]? = some (.cells #[.int .i64 1, .int .u32 0, .int .i64 0] 51 (0, 0)) from heap_at _ _ _ rfl)
            clear hBn
            generalize (W10.alloc (.cells #[.int .i64 1, .int .u32 0, .int .i64 0] 51)) = W11 at O Rg4 Rg5 Rg8 Rg10 Rg12 Rg14 Rg16 ⊢
            generalize W10.heap.size = g16 at Rg16 ⊢
            go_wp2_with (fail)
            go_at_call 18
            refine (mortiseref11_Num.calls _ 1 _ 0 _ rfl).mono ?_
            rintro e W12 ⟨rfl, hB1⟩
            have hBn := pm_chain (w := W11) (by (first | assumption | (repeat (first | (with_reducible exact Below.refl _ _) | (with_reducible assumption) | with_reducible apply below_alloc | with_reducible apply pw_below_drewN | with_reducible apply below_drew1)))) hB1
            replace O := Aside0.mk (O.out.grown hBn)
            replace Rg4 := Aside0.mk (blk_below Rg4.out hBn)
            replace Rg5 := Aside0.mk (blk_below Rg5.out hBn)
            replace Rg8 := Aside0.mk (blk_below Rg8.out hBn)
            replace Rg10 := Aside0.mk (blk_below Rg10.out hBn)
            replace Rg12 := Aside0.mk (blk_below Rg12.out hBn)
            replace Rg14 := Aside0.mk (blk_below Rg14.out hBn)
            replace Rg16 := Aside0.mk (blk_below Rg16.out hBn)
            clear hB1 hBn
            go_upto_region 14 with (fail)
            have hBn : Below W12.heap.size W12 (W12.alloc (.cells #[.int .i64 1, .int .u32 1, .int .i64 0] 51)) := by (repeat (first | (with_reducible exact Below.refl _ _) | (with_reducible assumption) | with_reducible apply below_alloc | with_reducible apply pw_below_drewN | with_reducible apply below_drew1))
            replace O := Aside0.mk (O.out.grown hBn)
            replace Rg4 := Aside0.mk (blk_below Rg4.out hBn)
            replace Rg5 := Aside0.mk (blk_below Rg5.out hBn)
            replace Rg8 := Aside0.mk (blk_below Rg8.out hBn)
            replace Rg10 := Aside0.mk (blk_below Rg10.out hBn)
            replace Rg12 := Aside0.mk (blk_below Rg12.out hBn)
            replace Rg14 := Aside0.mk (blk_below Rg14.out hBn)
            replace Rg16 := Aside0.mk (blk_below Rg16.out hBn)
            have Rg18 := Aside0.mk (show (W12.alloc (.cells #[.int .i64 1, .int .u32 1, .int .i64 0] 51)).heap[W12.heap.size]? = some (.cells #[.int .i64 1, .int .u32 1, .int .i64 0] 51 (0, 0)) from heap_at _ _ _ rfl)
            clear hBn
            generalize (W12.alloc (.cells #[.int .i64 1, .int .u32 1, .int .i64 0] 51)) = W13 at O Rg4 Rg5 Rg8 Rg10 Rg12 Rg14 Rg16 Rg18 ⊢
            generalize W12.heap.size = g18 at Rg18 ⊢
            obtain ⟨⟨kg80, kg81, kg82⟩, _⟩ := know3 Rg8.out
            obtain ⟨⟨kg100, kg101, kg102⟩, _⟩ := know3 Rg10.out
            obtain ⟨⟨kg120, kg121, kg122⟩, _⟩ := know3 Rg12.out
            obtain ⟨⟨kg140, kg141, kg142⟩, _⟩ := know3 Rg14.out
            obtain ⟨⟨kg160, kg161, kg162⟩, _⟩ := know3 Rg16.out
            obtain ⟨⟨kg180, kg181, kg182⟩, _⟩ := know3 Rg18.out
            go_upto_region 21 with (fail)
            go_still_tail 38, (by kernel_rfl)
            change wpList _ _ _ _ _ W13.drew
            clear kg80 kg81 kg82 kg100 kg101 kg102 kg120 kg121 kg122 kg140 kg141 kg142 kg160 kg161 kg162 kg180 kg181 kg182
            go_wp2_with (fail)
            go_at_call 17
            refine (heads_calls _).mono ?_
            rintro e WE ⟨rfl, hB⟩
            have HB2 := Aside0.mk (pm_chain (w := w) (O.out.grown (by (first | assumption | (repeat (first | (with_reducible exact Below.refl _ _) | (with_reducible assumption) | with_reducible apply below_alloc | with_reducible apply pw_below_drewN | with_reducible apply below_drew1))))).below hB)
            clear hB
            go_wp2_with (fail)
            go_ret
            exact ⟨rfl, HB2.out⟩
          · subst cv
            have d1 : (if decide (pv < pv) = true then (1 : Int) else 0) = 0 := by rw [decide_eq_false (by omega : ¬ pv < pv)]; rfl
            have d2 : (if decide (pv < pv) = true then (1 : Int) else 0) = 0 := by rw [decide_eq_false (by omega : ¬ pv < pv)]; rfl
            have d3 : (if decide (pv ≤ pv) = true then (1 : Int) else 0) = 1 := by rw [decide_eq_true (by omega : pv ≤ pv)]; rfl
            have d4 : (binF L 14 ⟨2, pv, pb⟩ ⟨2, pv, pb⟩) = (⟨1, 1, 0⟩, 0) := by rw [E4.out]; unfold truthV; simp only; rw [beq_iff_eq.2 (by omega : pv = pv)]; rfl
            have D4 := Aside0.mk d4
            clear d4 E4
            simp only [d1, d2, d3] at Rg8 Rg10 Rg12 Rg14 ⊢
            clear d1 d2 d3
            go_wp2_with (fail)
            go_at_call 16
            refine (Bin_calls O.out.pm 14 ⟨2, pv, pb⟩ ⟨2, pv, pb⟩ (.tuple #[V3.enc ⟨1, 1, 0⟩, .int .i64 0]) ⟨by rw [D4.out]; rfl⟩ ⟨HP.out, HQ.out⟩).mono ?_
            rintro e W10 ⟨rfl, hB1⟩
            simp only [V3.enc]
            have hBn := pm_chain (w := W9) (by (first | assumption | (repeat (first | (with_reducible exact Below.refl _ _) | (with_reducible assumption) | with_reducible apply below_alloc | with_reducible apply pw_below_drewN | with_reducible apply below_drew1)))) hB1
            replace O := Aside0.mk (O.out.grown hBn)
            replace Rg4 := Aside0.mk (blk_below Rg4.out hBn)
            replace Rg5 := Aside0.mk (blk_below Rg5.out hBn)
            replace Rg8 := Aside0.mk (blk_below Rg8.out hBn)
            replace Rg10 := Aside0.mk (blk_below Rg10.out hBn)
            replace Rg12 := Aside0.mk (blk_below Rg12.out hBn)
            replace Rg14 := Aside0.mk (blk_below Rg14.out hBn)
            clear hB1 hBn
            clear kg40 kg41 kg42 kg50 kg51 kg52
            go_upto_region 13 with (fail)
            have hBn : Below W10.heap.size W10 (W10.alloc (.cells #[.int .i64 1, .int .u32 1, .int .i64 0] 51)) := by (repeat (first | (with_reducible exact Below.refl _ _) | (with_reducible assumption) | with_reducible apply below_alloc | with_reducible apply pw_below_drewN | with_reducible apply below_drew1))
            replace O := Aside0.mk (O.out.grown hBn)
            replace Rg4 := Aside0.mk (blk_below Rg4.out hBn)
            replace Rg5 := Aside0.mk (blk_below Rg5.out hBn)
            replace Rg8 := Aside0.mk (blk_below Rg8.out hBn)
            replace Rg10 := Aside0.mk (blk_below Rg10.out hBn)
            replace Rg12 := Aside0.mk (blk_below Rg12.out hBn)
            replace Rg14 := Aside0.mk (blk_below Rg14.out hBn)
            have Rg16 := Aside0.mk (show (W10.alloc (.cells #[.int .i64 1, .int .u32 1, .int .i64 0] 51)).heap[W10.heap.size]? = some (.cells #[.int .i64 1, .int .u32 1, .int .i64 0] 51 (0, 0)) from heap_at _ _ _ rfl)
            clear hBn
            generalize (W10.alloc (.cells #[.int .i64 1, .int .u32 1, .int .i64 0] 51)) = W11 at O Rg4 Rg5 Rg8 Rg10 Rg12 Rg14 Rg16 ⊢
            generalize W10.heap.size = g16 at Rg16 ⊢
            go_wp2_with (fail)
            go_at_call 18
            refine (mortiseref11_Num.calls _ 1 _ 0 _ rfl).mono ?_
            rintro e W12 ⟨rfl, hB1⟩
            have hBn := pm_chain (w := W11) (by (first | assumption | (repeat (first | (with_reducible exact Below.refl _ _) | (with_reducible assumption) | with_reducible apply below_alloc | with_reducible apply pw_below_drewN | with_reducible apply below_drew1)))) hB1
            replace O := Aside0.mk (O.out.grown hBn)
            replace Rg4 := Aside0.mk (blk_below Rg4.out hBn)
            replace Rg5 := Aside0.mk (blk_below Rg5.out hBn)
            replace Rg8 := Aside0.mk (blk_below Rg8.out hBn)
            replace Rg10 := Aside0.mk (blk_below Rg10.out hBn)
            replace Rg12 := Aside0.mk (blk_below Rg12.out hBn)
            replace Rg14 := Aside0.mk (blk_below Rg14.out hBn)
            replace Rg16 := Aside0.mk (blk_below Rg16.out hBn)
            clear hB1 hBn
            go_upto_region 14 with (fail)
            have hBn : Below W12.heap.size W12 (W12.alloc (.cells #[.int .i64 1, .int .u32 1, .int .i64 0] 51)) := by (repeat (first | (with_reducible exact Below.refl _ _) | (with_reducible assumption) | with_reducible apply below_alloc | with_reducible apply pw_below_drewN | with_reducible apply below_drew1))
            replace O := Aside0.mk (O.out.grown hBn)
            replace Rg4 := Aside0.mk (blk_below Rg4.out hBn)
            replace Rg5 := Aside0.mk (blk_below Rg5.out hBn)
            replace Rg8 := Aside0.mk (blk_below Rg8.out hBn)
            replace Rg10 := Aside0.mk (blk_below Rg10.out hBn)
            replace Rg12 := Aside0.mk (blk_below Rg12.out hBn)
            replace Rg14 := Aside0.mk (blk_below Rg14.out hBn)
            replace Rg16 := Aside0.mk (blk_below Rg16.out hBn)
            have Rg18 := Aside0.mk (show (W12.alloc (.cells #[.int .i64 1, .int .u32 1, .int .i64 0] 51)).heap[W12.heap.size]? = some (.cells #[.int .i64 1, .int .u32 1, .int .i64 0] 51 (0, 0)) from heap_at _ _ _ rfl)
            clear hBn
            generalize (W12.alloc (.cells #[.int .i64 1, .int .u32 1, .int .i64 0] 51)) = W13 at O Rg4 Rg5 Rg8 Rg10 Rg12 Rg14 Rg16 Rg18 ⊢
            generalize W12.heap.size = g18 at Rg18 ⊢
            obtain ⟨⟨kg80, kg81, kg82⟩, _⟩ := know3 Rg8.out
            obtain ⟨⟨kg100, kg101, kg102⟩, _⟩ := know3 Rg10.out
            obtain ⟨⟨kg120, kg121, kg122⟩, _⟩ := know3 Rg12.out
            obtain ⟨⟨kg140, kg141, kg142⟩, _⟩ := know3 Rg14.out
            obtain ⟨⟨kg160, kg161, kg162⟩, _⟩ := know3 Rg16.out
            obtain ⟨⟨kg180, kg181, kg182⟩, _⟩ := know3 Rg18.out
            go_upto_region 21 with (fail)
            go_still_tail 38, (by kernel_rfl)
            change wpList _ _ _ _ _ W13.drew
            clear kg80 kg81 kg82 kg100 kg101 kg102 kg120 kg121 kg122 kg140 kg141 kg142 kg160 kg161 kg162 kg180 kg181 kg182
            go_wp2_with (fail)
            go_at_call 17
            refine (heads_calls _).mono ?_
            rintro e WE ⟨rfl, hB⟩
            have HB2 := Aside0.mk (pm_chain (w := w) (O.out.grown (by (first | assumption | (repeat (first | (with_reducible exact Below.refl _ _) | (with_reducible assumption) | with_reducible apply below_alloc | with_reducible apply pw_below_drewN | with_reducible apply below_drew1))))).below hB)
            clear hB
            go_wp2_with (fail)
            go_ret
            exact ⟨rfl, HB2.out⟩
          · have d1 : (if decide (pv < qv) = true then (1 : Int) else 0) = 0 := by rw [decide_eq_false (by omega : ¬ pv < qv)]; rfl
            have d2 : (if decide (qv < pv) = true then (1 : Int) else 0) = 1 := by rw [decide_eq_true (by omega : qv < pv)]; rfl
            have d3 : (if decide (pv ≤ qv) = true then (1 : Int) else 0) = 0 := by rw [decide_eq_false (by omega : ¬ pv ≤ qv)]; rfl
            have d4 : (binF L 14 ⟨2, pv, pb⟩ ⟨2, qv, pb⟩) = (⟨1, 0, 0⟩, 0) := by rw [E4.out]; unfold truthV; simp only; rw [beq_eq_false_iff_ne.2 (by omega : pv ≠ qv)]; rfl
            have D4 := Aside0.mk d4
            clear d4 E4
            clear cv
            simp only [d1, d2, d3] at Rg8 Rg10 Rg12 Rg14 ⊢
            clear d1 d2 d3
            go_wp2_with (fail)
            go_at_call 16
            refine (Bin_calls O.out.pm 14 ⟨2, pv, pb⟩ ⟨2, qv, pb⟩ (.tuple #[V3.enc ⟨1, 0, 0⟩, .int .i64 0]) ⟨by rw [D4.out]; rfl⟩ ⟨HP.out, HQ.out⟩).mono ?_
            rintro e W10 ⟨rfl, hB1⟩
            simp only [V3.enc]
            have hBn := pm_chain (w := W9) (by (first | assumption | (repeat (first | (with_reducible exact Below.refl _ _) | (with_reducible assumption) | with_reducible apply below_alloc | with_reducible apply pw_below_drewN | with_reducible apply below_drew1)))) hB1
            replace O := Aside0.mk (O.out.grown hBn)
            replace Rg4 := Aside0.mk (blk_below Rg4.out hBn)
            replace Rg5 := Aside0.mk (blk_below Rg5.out hBn)
            replace Rg8 := Aside0.mk (blk_below Rg8.out hBn)
            replace Rg10 := Aside0.mk (blk_below Rg10.out hBn)
            replace Rg12 := Aside0.mk (blk_below Rg12.out hBn)
            replace Rg14 := Aside0.mk (blk_below Rg14.out hBn)
            clear hB1 hBn
            clear kg40 kg41 kg42 kg50 kg51 kg52
            go_upto_region 13 with (fail)
            have hBn : Below W10.heap.size W10 (W10.alloc (.cells #[.int .i64 1, .int .u32 0, .int .i64 0] 51)) := by (repeat (first | (with_reducible exact Below.refl _ _) | (with_reducible assumption) | with_reducible apply below_alloc | with_reducible apply pw_below_drewN | with_reducible apply below_drew1))
            replace O := Aside0.mk (O.out.grown hBn)
            replace Rg4 := Aside0.mk (blk_below Rg4.out hBn)
            replace Rg5 := Aside0.mk (blk_below Rg5.out hBn)
            replace Rg8 := Aside0.mk (blk_below Rg8.out hBn)
            replace Rg10 := Aside0.mk (blk_below Rg10.out hBn)
            replace Rg12 := Aside0.mk (blk_below Rg12.out hBn)
            replace Rg14 := Aside0.mk (blk_below Rg14.out hBn)
            have Rg16 := Aside0.mk (show (W10.alloc (.cells #[.int .i64 1, .int .u32 0, .int .i64 0] 51)).heap[W10.heap.size]? = some (.cells #[.int .i64 1, .int .u32 0, .int .i64 0] 51 (0, 0)) from heap_at _ _ _ rfl)
            clear hBn
            generalize (W10.alloc (.cells #[.int .i64 1, .int .u32 0, .int .i64 0] 51)) = W11 at O Rg4 Rg5 Rg8 Rg10 Rg12 Rg14 Rg16 ⊢
            generalize W10.heap.size = g16 at Rg16 ⊢
            go_wp2_with (fail)
            go_at_call 18
            refine (mortiseref11_Num.calls _ 1 _ 0 _ rfl).mono ?_
            rintro e W12 ⟨rfl, hB1⟩
            have hBn := pm_chain (w := W11) (by (first | assumption | (repeat (first | (with_reducible exact Below.refl _ _) | (with_reducible assumption) | with_reducible apply below_alloc | with_reducible apply pw_below_drewN | with_reducible apply below_drew1)))) hB1
            replace O := Aside0.mk (O.out.grown hBn)
            replace Rg4 := Aside0.mk (blk_below Rg4.out hBn)
            replace Rg5 := Aside0.mk (blk_below Rg5.out hBn)
            replace Rg8 := Aside0.mk (blk_below Rg8.out hBn)
            replace Rg10 := Aside0.mk (blk_below Rg10.out hBn)
            replace Rg12 := Aside0.mk (blk_below Rg12.out hBn)
            replace Rg14 := Aside0.mk (blk_below Rg14.out hBn)
            replace Rg16 := Aside0.mk (blk_below Rg16.out hBn)
            clear hB1 hBn
            go_upto_region 14 with (fail)
            have hBn : Below W12.heap.size W12 (W12.alloc (.cells #[.int .i64 1, .int .u32 1, .int .i64 0] 51)) := by (repeat (first | (with_reducible exact Below.refl _ _) | (with_reducible assumption) | with_reducible apply below_alloc | with_reducible apply pw_below_drewN | with_reducible apply below_drew1))
            replace O := Aside0.mk (O.out.grown hBn)
            replace Rg4 := Aside0.mk (blk_below Rg4.out hBn)
            replace Rg5 := Aside0.mk (blk_below Rg5.out hBn)
            replace Rg8 := Aside0.mk (blk_below Rg8.out hBn)
            replace Rg10 := Aside0.mk (blk_below Rg10.out hBn)
            replace Rg12 := Aside0.mk (blk_below Rg12.out hBn)
            replace Rg14 := Aside0.mk (blk_below Rg14.out hBn)
            replace Rg16 := Aside0.mk (blk_below Rg16.out hBn)
            have Rg18 := Aside0.mk (show (W12.alloc (.cells #[.int .i64 1, .int .u32 1, .int .i64 0] 51)).heap[W12.heap.size]? = some (.cells #[.int .i64 1, .int .u32 1, .int .i64 0] 51 (0, 0)) from heap_at _ _ _ rfl)
            clear hBn
            generalize (W12.alloc (.cells #[.int .i64 1, .int .u32 1, .int .i64 0] 51)) = W13 at O Rg4 Rg5 Rg8 Rg10 Rg12 Rg14 Rg16 Rg18 ⊢
            generalize W12.heap.size = g18 at Rg18 ⊢
            obtain ⟨⟨kg80, kg81, kg82⟩, _⟩ := know3 Rg8.out
            obtain ⟨⟨kg100, kg101, kg102⟩, _⟩ := know3 Rg10.out
            obtain ⟨⟨kg120, kg121, kg122⟩, _⟩ := know3 Rg12.out
            obtain ⟨⟨kg140, kg141, kg142⟩, _⟩ := know3 Rg14.out
            obtain ⟨⟨kg160, kg161, kg162⟩, _⟩ := know3 Rg16.out
            obtain ⟨⟨kg180, kg181, kg182⟩, _⟩ := know3 Rg18.out
            go_upto_region 21 with (fail)
            go_still_tail 38, (by kernel_rfl)
            change wpList _ _ _ _ _ W13.drew
            clear kg80 kg81 kg82 kg100 kg101 kg102 kg120 kg121 kg122 kg140 kg141 kg142 kg160 kg161 kg162 kg180 kg181 kg182
            go_wp2_with (fail)
            go_at_call 17
            refine (heads_calls _).mono ?_
            rintro e WE ⟨rfl, hB⟩
            have HB2 := Aside0.mk (pm_chain (w := w) (O.out.grown (by (first | assumption | (repeat (first | (with_reducible exact Below.refl _ _) | (with_reducible assumption) | with_reducible apply below_alloc | with_reducible apply pw_below_drewN | with_reducible apply below_drew1))))).below hB)
            clear hB
            go_wp2_with (fail)
            go_ret
            exact ⟨rfl, HB2.out⟩
        · have hcs : pb ≠ pb ∨ ofR L ⟨2, pv, pb⟩ = none ∨ ofR L ⟨2, qv, pb⟩ = none := by
            rcases Decidable.not_and_iff_or_not.1 cs with h | h
            · exact .inr (.inl (by simpa using h))
            · exact .inr (.inr (by simpa using h))
          have hcs2 : pb ≠ pb ∨ ofR L ⟨2, qv, pb⟩ = none ∨ ofR L ⟨2, pv, pb⟩ = none := hcs.imp id Or.symm
          have ql := Hl.out.symm.trans (order_none (p := ⟨2, pv, pb⟩) (q := ⟨2, qv, pb⟩) rfl rfl (hcs) (by decide) (by decide))
          have qg := Hg.out.symm.trans (order_none (p := ⟨2, qv, pb⟩) (q := ⟨2, pv, pb⟩) rfl rfl (hcs2) (by decide) (by decide))
          have qy := Hy.out.symm.trans (order_none (p := ⟨2, pv, pb⟩) (q := ⟨2, qv, pb⟩) rfl rfl (hcs) (by decide) (by decide))
          have qz := Hz.out.symm.trans (order_none (p := ⟨2, pv, pb⟩) (q := ⟨2, qv, pb⟩) rfl rfl (hcs) (by decide) (by decide))
          simp only [V3.z, Prod.mk.injEq, V3.mk.injEq] at ql qg qy qz
          obtain ⟨⟨rfl, rfl, rfl⟩, rfl⟩ := ql
          obtain ⟨⟨rfl, rfl, rfl⟩, rfl⟩ := qg
          obtain ⟨⟨rfl, rfl, rfl⟩, rfl⟩ := qy
          obtain ⟨⟨rfl, rfl, rfl⟩, rfl⟩ := qz
          clear Hl Hg Hy Hz
          clear hcs hcs2
          clear cs
          go_wp2_with (fail)
          go_at_call 17
          refine (heads_calls _).mono ?_
          rintro e WE ⟨rfl, hB⟩
          have HB2 := Aside0.mk (pm_chain (w := w) (O.out.grown (by (first | assumption | (repeat (first | (with_reducible exact Below.refl _ _) | (with_reducible assumption) | with_reducible apply below_alloc | with_reducible apply pw_below_drewN | with_reducible apply below_drew1))))).below hB)
          clear hB
          clear kg40 kg41 kg42 kg50 kg51 kg52
          go_wp2_with (fail)
          go_ret
          exact ⟨rfl, HB2.out⟩
      · have ql := Hl.out.symm.trans (order_none (p := ⟨2, pv, pb⟩) (q := ⟨2, qv, qb⟩) rfl rfl (.inl cb) (by decide) (by decide))
        have qg := Hg.out.symm.trans (order_none (p := ⟨2, qv, qb⟩) (q := ⟨2, pv, pb⟩) rfl rfl (.inl (Ne.symm cb)) (by decide) (by decide))
        have qy := Hy.out.symm.trans (order_none (p := ⟨2, pv, pb⟩) (q := ⟨2, qv, qb⟩) rfl rfl (.inl cb) (by decide) (by decide))
        have qz := Hz.out.symm.trans (order_none (p := ⟨2, pv, pb⟩) (q := ⟨2, qv, qb⟩) rfl rfl (.inl cb) (by decide) (by decide))
        simp only [V3.z, Prod.mk.injEq, V3.mk.injEq] at ql qg qy qz
        obtain ⟨⟨rfl, rfl, rfl⟩, rfl⟩ := ql
        obtain ⟨⟨rfl, rfl, rfl⟩, rfl⟩ := qg
        obtain ⟨⟨rfl, rfl, rfl⟩, rfl⟩ := qy
        obtain ⟨⟨rfl, rfl, rfl⟩, rfl⟩ := qz
        clear Hl Hg Hy Hz
        go_wp2_with (fail)
        go_at_call 17
        refine (heads_calls _).mono ?_
        rintro e WE ⟨rfl, hB⟩
        have HB2 := Aside0.mk (pm_chain (w := w) (O.out.grown (by (first | assumption | (repeat (first | (with_reducible exact Below.refl _ _) | (with_reducible assumption) | with_reducible apply below_alloc | with_reducible apply pw_below_drewN | with_reducible apply below_drew1))))).below hB)
        clear hB
        clear kg40 kg41 kg42 kg50 kg51 kg52
        go_wp2_with (fail)
        go_ret
        exact ⟨rfl, HB2.out⟩
    · clear Hl Hg Hy Hz
      go_wp2_with (fail)
      go_at_call 17
      refine (heads_calls _).mono ?_
      rintro e WE ⟨rfl, hB⟩
      have HB2 := Aside0.mk (pm_chain (w := w) (O.out.grown (by (first | assumption | (repeat (first | (with_reducible exact Below.refl _ _) | (with_reducible assumption) | with_reducible apply below_alloc | with_reducible apply pw_below_drewN | with_reducible apply below_drew1))))).below hB)
      clear hB
      clear kg40 kg41 kg42 kg50 kg51 kg52
      go_wp2_with (fail)
      go_ret
      exact ⟨rfl, HB2.out⟩
  · clear Hl Hg Hy Hz
    go_wp2_with (fail)
    go_at_call 17
    refine (heads_calls _).mono ?_
    rintro e WE ⟨rfl, hB⟩
    have HB2 := Aside0.mk (pm_chain (w := w) (O.out.grown (by (first | assumption | (repeat (first | (with_reducible exact Below.refl _ _) | (with_reducible assumption) | with_reducible apply below_alloc | with_reducible apply pw_below_drewN | with_reducible apply below_drew1))))).below hB)
    clear hB
    clear kg40 kg41 kg42 kg50 kg51 kg52
    go_wp2_with (fail)
    go_ret
    exact ⟨rfl, HB2.out⟩
end Go.Proofs.Ythdnhfjodhjejaa.Ma
