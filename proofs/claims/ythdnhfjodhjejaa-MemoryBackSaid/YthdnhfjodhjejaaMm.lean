/- mixed of package memory. No condition beyond those each theorem names. -/
import Derived.Test.YthdnhfjodhjejaaA2
namespace Go.Proofs.Ythdnhfjodhjejaa.Ma
open Go.RowKit Go.Proofs.Ythdnhfjodhjejaa.PMe Go.Proofs.YthdnhfjodhjejaaW.PrintWords Go.Proofs.YthdnhfjodhjejaaW.PrintLast Go.Proofs.YthdnhfjodhjejaaW.PrintMore
set_option linter.unusedVariables false
set_option linter.unusedSimpArgs false
variable {w w' : World} {m mm : Nat} {last : Int} {L : List Rec}
theorem far3 {W : World} {g g' : Nat} {cs : Array Value} {t : TypeId} (B : W.heap[g]? = some (.cells cs t (0, 0))) (h : ¬ g = g') (x y z : Value) : (((W.setCell ⟨g', 0, none⟩ x).setCell ⟨g', 1, none⟩ y).setCell ⟨g', 2, none⟩ z).heap[g]? = some (.cells cs t (0, 0)) :=
  blk_far (blk_far (blk_far B h x) h y) h z
def V3.cells (x : V3) : Array Value := #[.int .i64 x.k, .int .u32 x.v, .int .i64 x.b]
/-- A block holds this value. -/
def Row3 (w : World) (g : Nat) (x : V3) : Prop := w.heap[g]? = some (.cells #[.int .i64 x.k, .int .u32 x.v, .int .i64 x.b] 51 (0, 0))
/-- Which one is the pointer, which one the number. -/
def pick (a b : V3) : V3 × V3 := if a.k = 1 then (b, a) else (a, b)
def wint (v : Int) : Int := wrap64 (wrap32 v)
theorem wint_range (v : Int) (h0 : 0 ≤ v) (h1 : v < 4294967296) : -4294967296 ≤ wint v ∧ wint v ≤ 4294967296 := by unfold wint wrap64 wrap32; omega
def truthV (b : Bool) : V3 × Int := (⟨1, if b then 1 else 0, 0⟩, 0)
theorem truth_calls (w : World) (b : Bool) : Calls Try.prog 47 #[.bool b] w fun e w' => e = .returned (.tuple #[(truthV b).1.enc, .int .i64 (truthV b).2]) ∧ Below w.heap.size w w' :=
  memory_truth.calls b 1 (if b then 1 else 0) 0 0 w (by cases b <;> rfl)
/-- What mixed answers of a good pointer and a number. -/
def mixedF (r : Rec) (op : Int) (a b : V3) : V3 × Int :=
  if op = 1 then movedF r (pick a b).1 (wint (pick a b).2.v)
  else if op = 2 ∧ b.k = 1 then movedF r (pick a b).1 (-(wint (pick a b).2.v))
  else if (op = 14 ∨ op = 15) ∧ (pick a b).2.v = 0 then truthV (op == 15)
  else (V3.z, 3)
set_option maxHeartbeats 4000000 in
set_option maxRecDepth 100000 in
theorem mixed_calls (h : PM w m mm last L) (op : Int) (a b : V3) (A : Value) {r : Rec} (hO : Aside0 (ofR L (pick a b).1 = some r)) (hx : Aside0 ((0 ≤ (pick a b).1.v ∧ (pick a b).1.v < 4294967296) ∧ (0 ≤ (pick a b).2.v ∧ (pick a b).2.v < 4294967296))) (hA : Aside0 (ans (mixedF r op a b) = A)) : Calls Try.prog 46 #[.pointer (some ⟨m, 0, none⟩), .int .i64 op, a.enc, b.enc] w fun e w' => e = .returned A ∧ Below w.heap.size w w' := by
  have hu51 := Try.underlying51
  have H := Aside0.mk h
  clear h
  obtain ⟨ak, av, ab⟩ := a
  obtain ⟨bk, bv, bb⟩ := b
  unfold V3.enc
  simp only
  go_enter Try.func46, Try.ntmps46
  go_upto_region 1 with (fail)
  have RA : Row3 (((w.alloc (.cells #[.int .i64 ak, .int .u32 av, .int .i64 ab] 51)).alloc (.cells #[.int .i64 bk, .int .u32 bv, .int .i64 bb] 51)).alloc (.cells #[.int .i64 0, .int .u32 0, .int .i64 0] 51)) w.heap.size ⟨ak, av, ab⟩ := blk_alloc (blk_alloc (heap_at _ _ _ rfl) _) _
  have RB : Row3 (((w.alloc (.cells #[.int .i64 ak, .int .u32 av, .int .i64 ab] 51)).alloc (.cells #[.int .i64 bk, .int .u32 bv, .int .i64 bb] 51)).alloc (.cells #[.int .i64 0, .int .u32 0, .int .i64 0] 51)) (w.heap.size + 1) ⟨bk, bv, bb⟩ := blk_alloc (heap_at _ _ _ (by simp)) _
  have R8 : Row3 (((w.alloc (.cells #[.int .i64 ak, .int .u32 av, .int .i64 ab] 51)).alloc (.cells #[.int .i64 bk, .int .u32 bv, .int .i64 bb] 51)).alloc (.cells #[.int .i64 0, .int .u32 0, .int .i64 0] 51)) (w.heap.size + 1 + 1) ⟨0, 0, 0⟩ := heap_at _ _ _ (by simp)
  have hB : Below w.heap.size w (((w.alloc (.cells #[.int .i64 ak, .int .u32 av, .int .i64 ab] 51)).alloc (.cells #[.int .i64 bk, .int .u32 bv, .int .i64 bb] 51)).alloc (.cells #[.int .i64 0, .int .u32 0, .int .i64 0] 51)) := by (repeat (first | (with_reducible exact Below.refl _ _) | (with_reducible assumption) | with_reducible apply below_alloc | with_reducible apply pw_below_drewN | with_reducible apply below_drew1))
  generalize (((w.alloc (.cells #[.int .i64 ak, .int .u32 av, .int .i64 ab] 51)).alloc (.cells #[.int .i64 bk, .int .u32 bv, .int .i64 bb] 51)).alloc (.cells #[.int .i64 0, .int .u32 0, .int .i64 0] 51)) = W0 at RA RB R8 hB ⊢
  obtain ⟨g8, hg8⟩ : ∃ g, g = w.heap.size + 1 + 1 := ⟨_, rfl⟩
  obtain ⟨gb, hgb⟩ : ∃ g, g = w.heap.size + 1 := ⟨_, rfl⟩
  obtain ⟨ga, hga⟩ : ∃ g, g = w.heap.size := ⟨_, rfl⟩
  rw [← hg8, ← hgb, ← hga]
  rw [← hga] at RA
  rw [← hgb] at RB
  rw [← hg8] at R8
  have hs8 : g8 < W0.heap.size := blk_lt R8
  have hsa : ga < W0.heap.size := blk_lt RA
  have hsb : gb < W0.heap.size := blk_lt RB
  have HG := Aside0.mk (show w.heap.size ≤ ga ∧ w.heap.size ≤ gb ∧ w.heap.size ≤ g8 by omega)
  clear hga hgb hg8
  simp only [Row3] at RA RB R8
  obtain ⟨⟨ha0, ha1, ha2⟩, _⟩ := know3 RA
  obtain ⟨⟨hb0, hb1, hb2⟩, _⟩ := know3 RB
  have n1 : ¬ ga = W0.heap.size := by omega
  have n2 : ¬ gb = W0.heap.size := by omega
  have n3 : ¬ ga = W0.heap.size + 1 := by omega
  have n4 : ¬ gb = W0.heap.size + 1 := by omega
  have HRA := Aside0.mk RA
  have HRB := Aside0.mk RB
  have HR8 := Aside0.mk R8
  have HB := Aside0.mk hB
  clear RA RB R8 hB
  go_cut [10, 11] (fun v10 v11 wc => ∃ g1 g2 : Nat, v10 = .pointer (some ⟨g1, 0, none⟩) ∧ v11 = .pointer (some ⟨g2, 0, none⟩) ∧ Aside0 (W0.heap.size ≤ g1 ∧ W0.heap.size ≤ g2 ∧ g1 ≠ g2) ∧ Aside0 (Row3 wc g1 ⟨ak, av, ab⟩) ∧ Aside0 (Row3 wc g2 ⟨bk, bv, bb⟩) ∧ Aside0 (Below W0.heap.size W0 wc))
  case first =>
    go_region
    · go_wp2_with (fail)
      go_meet
      case rel => exact ⟨W0.heap.size, W0.heap.size + 1, rfl, rfl, ⟨by omega⟩, ⟨blk_drew (blk_alloc (heap_at _ _ _ rfl) _)⟩, ⟨blk_drew (heap_at _ _ _ (by simp))⟩, ⟨by (repeat (first | (with_reducible exact Below.refl _ _) | (with_reducible assumption) | with_reducible apply below_alloc | with_reducible apply pw_below_drewN | with_reducible apply below_drew1))⟩⟩
    · go_wp2_with (fail)
      go_meet
      case rel => exact ⟨W0.heap.size + 1, W0.heap.size, rfl, rfl, ⟨by omega⟩, ⟨blk_drew (heap_at _ _ _ (by simp))⟩, ⟨blk_drew (blk_alloc (heap_at _ _ _ rfl) _)⟩, ⟨by (repeat (first | (with_reducible exact Below.refl _ _) | (with_reducible assumption) | with_reducible apply below_alloc | with_reducible apply pw_below_drewN | with_reducible apply below_drew1))⟩⟩
  case rest =>
    obtain ⟨g1, g2, rfl, rfl, HGG, R1, R2, HB1⟩ := hcut
    clear ha0 ha1 ha2 hb0 hb1 hb2 n1 n2 n3 n4
    have RA := blk_below HRA.out HB1.out
    have RB := blk_below HRB.out HB1.out
    have R8 := blk_below HR8.out HB1.out
    have hB := pm_chain (w := w) HB.out HB1.out
    obtain ⟨h1, h2, h3⟩ := HGG.out
    obtain ⟨⟨ha0, ha1, ha2⟩, _⟩ := know3 RA
    obtain ⟨⟨hb0, hb1, hb2⟩, _⟩ := know3 RB
    obtain ⟨⟨h10, h11, h12⟩, hf10, hf11, hf12⟩ := know3 R1.out
    obtain ⟨⟨h20, h21, h22⟩, hf20, hf21, hf22⟩ := know3 R2.out
    have n1 : ¬ ga = g1 := by omega
    have n2 : ¬ ga = g2 := by omega
    have n3 : ¬ gb = g1 := by omega
    have n4 : ¬ gb = g2 := by omega
    have n5 : ¬ g1 = g2 := h3
    have HRA1 := Aside0.mk RA
    have HRB1 := Aside0.mk RB
    have HR81 := Aside0.mk R8
    have HBB := Aside0.mk hB
    have HGG2 := Aside0.mk (show w.heap.size ≤ g1 ∧ w.heap.size ≤ g2 by have := HB.out.size; omega)
    have HN8 := Aside0.mk (show g8 ≠ g1 ∧ g8 ≠ g2 by omega)
    clear RA RB R8 hB hs8 hsa hsb h1 h2 h3
    go_upto_if 16 with (fail)
    go_cut [10, 11] (fun v10 v11 wd => v10 = .pointer (some ⟨g1, 0, none⟩) ∧ v11 = .pointer (some ⟨g2, 0, none⟩) ∧ Aside0 (Row3 wd g1 (pick ⟨ak, av, ab⟩ ⟨bk, bv, bb⟩).1) ∧ Aside0 (Row3 wd g2 (pick ⟨ak, av, ab⟩ ⟨bk, bv, bb⟩).2) ∧ Aside0 (Row3 wd ga ⟨ak, av, ab⟩) ∧ Aside0 (Row3 wd gb ⟨bk, bv, bb⟩) ∧ Aside0 (Row3 wd g8 ⟨0, 0, 0⟩) ∧ Aside0 (Below w.heap.size w wd))
    case first =>
      by_cases hk : ak = 1
      · have k1 : (ak == 1) = true := beq_iff_eq.mpr hk
        have HK := Aside0.mk hk
        clear hk
        go_wp2_with (fail)
        go_region
        all_goals (go_wp2_with (fail); go_meet)
        case rel => exact ⟨rfl, rfl, ⟨by rw [pick, if_pos HK.out]; exact blk_drew (far3 (put3 R1.out _ _ _) n5 _ _ _)⟩, ⟨by rw [pick, if_pos HK.out]; exact blk_drew (put3 (far3 R2.out (fun e => n5 e.symm) _ _ _) _ _ _)⟩, ⟨blk_drew (far3 (far3 HRA1.out n1 _ _ _) n2 _ _ _)⟩, ⟨blk_drew (far3 (far3 HRB1.out n3 _ _ _) n4 _ _ _)⟩, ⟨blk_drew (far3 (far3 HR81.out HN8.out.1 _ _ _) HN8.out.2 _ _ _)⟩, ⟨by obtain ⟨hq1, hq2⟩ := HGG2.out; have hB := HBB.out; (repeat (first | (with_reducible exact Below.refl _ _) | (with_reducible assumption) | with_reducible apply below_alloc | with_reducible apply pw_below_drewN | with_reducible apply below_drew1 | (refine below_set ?_ (by omega))))⟩⟩
      · have k1 : (ak == 1) = false := beq_eq_false_iff_ne.mpr hk
        have HK := Aside0.mk hk
        clear hk
        go_wp2_with (fail)
        go_meet
        case rel => exact ⟨rfl, rfl, ⟨by rw [pick, if_neg HK.out]; exact R1.out⟩, ⟨by rw [pick, if_neg HK.out]; exact R2.out⟩, HRA1, HRB1, HR81, HBB⟩
    case rest =>
      clear HRA1 HRB1 HR81 HBB R1 R2 HRA HRB HR8 HB HB1 HGG
      clear ha0 ha1 ha2 hb0 hb1 hb2 h10 h11 h12 hf10 hf11 hf12 h20 h21 h22 hf20 hf21 hf22 n1 n2 n3 n4
      obtain ⟨rfl, rfl, R1, R2, HRA, HRB, HR8, HBB⟩ := hcut
      unfold mixedF at hA
      generalize (pick ⟨ak, av, ab⟩ ⟨bk, bv, bb⟩).1 = p at R1 R2 hO hx hA
      generalize (pick ⟨ak, av, ab⟩ ⟨bk, bv, bb⟩).2 = q at R1 R2 hO hx hA
      obtain ⟨pk, pv, pb⟩ := p
      obtain ⟨qk, qv, qb⟩ := q
      obtain ⟨⟨h10, h11, h12⟩, _⟩ := know3 R1.out
      obtain ⟨⟨h20, h21, h22⟩, _⟩ := know3 R2.out
      obtain ⟨⟨hb0, hb1, hb2⟩, _⟩ := know3 HRB.out
      obtain ⟨⟨h80, h81, h82⟩, hf80, hf81, hf82⟩ := know3 HR8.out
      simp only at h10 h11 h12 h20 h21 h22 hb0 hb1 hb2 h80 h81 h82
      by_cases c1 : op = 1
      · subst c1
        obtain ⟨rk, rv, rb, rs, hmf⟩ : ∃ rk rv rb rs, movedF r ⟨pk, pv, pb⟩ (wint qv) = (⟨rk, rv, rb⟩, rs) := ⟨_, _, _, _, rfl⟩
        have HMF := Aside0.mk hmf
        have hn1 : ¬ g1 = g8 := fun e => HN8.out.1 e.symm
        have hn2 : ¬ g2 = g8 := fun e => HN8.out.2 e.symm
        clear hmf
        go_wp2_with (fail)
        go_region_held3 (fun w' => w'.cell? ⟨g1, 0, none⟩ = some (.int .i64 pk) ∧ w'.cell? ⟨g1, 1, none⟩ = some (.int .u32 pv) ∧ w'.cell? ⟨g1, 2, none⟩ = some (.int .i64 pb) ∧ w'.cell? ⟨g2, 1, none⟩ = some (.int .u32 qv)) (first | exact ⟨(know3 (far3 (blk_below R1.out hB3) hn1 _ _ _)).1.1, (know3 (far3 (blk_below R1.out hB3) hn1 _ _ _)).1.2.1, (know3 (far3 (blk_below R1.out hB3) hn1 _ _ _)).1.2.2, (know3 (far3 (blk_below R2.out hB3) hn2 _ _ _)).1.2.1⟩ | exact ⟨pw_cell_below (by (repeat (first | (with_reducible exact Below.refl _ _) | (with_reducible assumption) | with_reducible apply below_alloc | with_reducible apply pw_below_drewN | with_reducible apply below_drew1))) h10, pw_cell_below (by (repeat (first | (with_reducible exact Below.refl _ _) | (with_reducible assumption) | with_reducible apply below_alloc | with_reducible apply pw_below_drewN | with_reducible apply below_drew1))) h11, pw_cell_below (by (repeat (first | (with_reducible exact Below.refl _ _) | (with_reducible assumption) | with_reducible apply below_alloc | with_reducible apply pw_below_drewN | with_reducible apply below_drew1))) h12, pw_cell_below (by (repeat (first | (with_reducible exact Below.refl _ _) | (with_reducible assumption) | with_reducible apply below_alloc | with_reducible apply pw_below_drewN | with_reducible apply below_drew1))) h21⟩) (first | (go_at_call 83; refine (word_Int.calls qv (wint qv) _ rfl).mono ?_; rintro e W1 ⟨rfl, ⟨nd, rfl⟩⟩) | (go_at_call 82; refine (moved_calls (PM.below H.out (pm_chain (w := w) HBB.out (by (repeat (first | (with_reducible exact Below.refl _ _) | (with_reducible assumption) | with_reducible apply below_alloc | with_reducible apply pw_below_drewN | with_reducible apply below_drew1))))) ⟨pk, pv, pb⟩ (wint qv) hx.out.1.1 hx.out.1.2 (wint_range qv hx.out.2.1 hx.out.2.2).1 (wint_range qv hx.out.2.1 hx.out.2.2).2 hO.out).mono ?_; rintro e W2 ⟨rfl, hB2⟩; have hB3 := pm_chain (w := wc) (by (repeat (first | (with_reducible exact Below.refl _ _) | (with_reducible assumption) | with_reducible apply below_alloc | with_reducible apply pw_below_drewN | with_reducible apply below_drew1))) hB2; rw [HMF.out]; simp only [ans, V3.enc]; obtain ⟨⟨hz0, hz1, hz2⟩, hf0, hf1, hf2⟩ := know3 (blk_below HR8.out hB3); simp only at hz0 hz1 hz2))
        go_wp2_with (fail)
        refine bodyPost_ret (results_ct rfl _ _ g8 51 _ (0, 0) _ rfl (put3 (blk_below HR8.out hB3) _ _ _) Try.underlying51 rfl (by kernel_rfl)) rfl ?_
        exact ⟨by rw [← hA.out]; simp only [if_true]; rw [HMF.out]; rfl, by have hB := pm_chain (w := w) HBB.out hB3; obtain ⟨_, _, hq⟩ := HG.out; (repeat (first | (with_reducible exact Below.refl _ _) | (with_reducible assumption) | with_reducible apply below_alloc | with_reducible apply pw_below_drewN | with_reducible apply below_drew1 | (refine below_set ?_ (by omega))))⟩
      · have c1b : (op == 1) = false := beq_eq_false_iff_ne.mpr c1
        rw [if_neg c1] at hA
        by_cases c2 : op = 2 ∧ bk = 1
        · obtain ⟨rfl, rfl⟩ := c2
          rw [if_pos ⟨rfl, rfl⟩] at hA
          clear c1
          obtain ⟨rk, rv, rb, rs, hmf⟩ : ∃ rk rv rb rs, movedF r ⟨pk, pv, pb⟩ (-(wint qv)) = (⟨rk, rv, rb⟩, rs) := ⟨_, _, _, _, rfl⟩
          have HMF := Aside0.mk hmf
          have hn1 : ¬ g1 = g8 := fun e => HN8.out.1 e.symm
          have hn2 : ¬ g2 = g8 := fun e => HN8.out.2 e.symm
          clear hmf
          have hneg : IntKind.i64.wrap (-(wint qv)) = -(wint qv) := IntWalk.i64_in _ (by have := wint_range qv hx.out.2.1 hx.out.2.2; omega)
          go_wp2_with (fail)
          go_region_held3 (fun w' => w'.cell? ⟨g1, 0, none⟩ = some (.int .i64 pk) ∧ w'.cell? ⟨g1, 1, none⟩ = some (.int .u32 pv) ∧ w'.cell? ⟨g1, 2, none⟩ = some (.int .i64 pb) ∧ w'.cell? ⟨g2, 1, none⟩ = some (.int .u32 qv)) (first | exact ⟨(know3 (far3 (blk_below R1.out hB3) hn1 _ _ _)).1.1, (know3 (far3 (blk_below R1.out hB3) hn1 _ _ _)).1.2.1, (know3 (far3 (blk_below R1.out hB3) hn1 _ _ _)).1.2.2, (know3 (far3 (blk_below R2.out hB3) hn2 _ _ _)).1.2.1⟩ | exact ⟨pw_cell_below (by (repeat (first | (with_reducible exact Below.refl _ _) | (with_reducible assumption) | with_reducible apply below_alloc | with_reducible apply pw_below_drewN | with_reducible apply below_drew1))) h10, pw_cell_below (by (repeat (first | (with_reducible exact Below.refl _ _) | (with_reducible assumption) | with_reducible apply below_alloc | with_reducible apply pw_below_drewN | with_reducible apply below_drew1))) h11, pw_cell_below (by (repeat (first | (with_reducible exact Below.refl _ _) | (with_reducible assumption) | with_reducible apply below_alloc | with_reducible apply pw_below_drewN | with_reducible apply below_drew1))) h12, pw_cell_below (by (repeat (first | (with_reducible exact Below.refl _ _) | (with_reducible assumption) | with_reducible apply below_alloc | with_reducible apply pw_below_drewN | with_reducible apply below_drew1))) h21⟩) (first | (go_at_call 83; refine (word_Int.calls qv (wint qv) _ rfl).mono ?_; rintro e W1 ⟨rfl, ⟨nd, rfl⟩⟩) | (go_at_call 82; refine (moved_calls (PM.below H.out (pm_chain (w := w) HBB.out (by (repeat (first | (with_reducible exact Below.refl _ _) | (with_reducible assumption) | with_reducible apply below_alloc | with_reducible apply pw_below_drewN | with_reducible apply below_drew1))))) ⟨pk, pv, pb⟩ (-(wint qv)) hx.out.1.1 hx.out.1.2 (by have := wint_range qv hx.out.2.1 hx.out.2.2; omega) (by have := wint_range qv hx.out.2.1 hx.out.2.2; omega) hO.out).mono ?_; rintro e W2 ⟨rfl, hB2⟩; have hB3 := pm_chain (w := wc) (by (repeat (first | (with_reducible exact Below.refl _ _) | (with_reducible assumption) | with_reducible apply below_alloc | with_reducible apply pw_below_drewN | with_reducible apply below_drew1))) hB2; rw [HMF.out]; simp only [ans, V3.enc]; obtain ⟨⟨hz0, hz1, hz2⟩, hf0, hf1, hf2⟩ := know3 (blk_below HR8.out hB3); simp only at hz0 hz1 hz2))
          go_wp2_with (fail)
          refine bodyPost_ret (results_ct rfl _ _ g8 51 _ (0, 0) _ rfl (put3 (blk_below HR8.out hB3) _ _ _) Try.underlying51 rfl (by kernel_rfl)) rfl ?_
          exact ⟨by rw [← hA.out, HMF.out]; rfl, by have hB := pm_chain (w := w) HBB.out hB3; obtain ⟨_, _, hq⟩ := HG.out; (repeat (first | (with_reducible exact Below.refl _ _) | (with_reducible assumption) | with_reducible apply below_alloc | with_reducible apply pw_below_drewN | with_reducible apply below_drew1 | (refine below_set ?_ (by omega))))⟩
        · rw [if_neg c2] at hA
          have o1 := c1
          clear c1
          by_cases c3 : (op = 14 ∨ op = 15) ∧ qv = 0
          · rw [if_pos c3] at hA
            obtain ⟨c4, rfl⟩ := c3
            clear c2
            rcases c4 with rfl | rfl
            · go_wp2_with (fail)
              go_at_call 47
              refine (truth_calls _ false).mono ?_
              rintro e W2 ⟨rfl, hB2⟩
              have hB3 := pm_chain (w := wc) (by (repeat (first | (with_reducible exact Below.refl _ _) | (with_reducible assumption) | with_reducible apply below_alloc | with_reducible apply pw_below_drewN | with_reducible apply below_drew1))) hB2
              obtain ⟨⟨hz0, hz1, hz2⟩, hf0, hf1, hf2⟩ := know3 (blk_below HR8.out hB3)
              simp only at hz0 hz1 hz2
              simp only [ans, truthV, V3.enc, V3.z]
              go_wp2_with (fail)
              refine bodyPost_ret (results_ct rfl _ _ g8 51 _ (0, 0) _ rfl (put3 (blk_below HR8.out hB3) _ _ _) Try.underlying51 rfl (by kernel_rfl)) rfl ?_
              exact ⟨by rw [← hA.out]; rfl, by have hB := pm_chain (w := w) HBB.out hB3; obtain ⟨_, _, hq⟩ := HG.out; (repeat (first | (with_reducible exact Below.refl _ _) | (with_reducible assumption) | with_reducible apply below_alloc | with_reducible apply pw_below_drewN | with_reducible apply below_drew1 | (refine below_set ?_ (by omega))))⟩
            · go_wp2_with (fail)
              go_at_call 47
              refine (truth_calls _ true).mono ?_
              rintro e W2 ⟨rfl, hB2⟩
              have hB3 := pm_chain (w := wc) (by (repeat (first | (with_reducible exact Below.refl _ _) | (with_reducible assumption) | with_reducible apply below_alloc | with_reducible apply pw_below_drewN | with_reducible apply below_drew1))) hB2
              obtain ⟨⟨hz0, hz1, hz2⟩, hf0, hf1, hf2⟩ := know3 (blk_below HR8.out hB3)
              simp only at hz0 hz1 hz2
              simp only [ans, truthV, V3.enc, V3.z]
              go_wp2_with (fail)
              refine bodyPost_ret (results_ct rfl _ _ g8 51 _ (0, 0) _ rfl (put3 (blk_below HR8.out hB3) _ _ _) Try.underlying51 rfl (by kernel_rfl)) rfl ?_
              exact ⟨by rw [← hA.out]; rfl, by have hB := pm_chain (w := w) HBB.out hB3; obtain ⟨_, _, hq⟩ := HG.out; (repeat (first | (with_reducible exact Below.refl _ _) | (with_reducible assumption) | with_reducible apply below_alloc | with_reducible apply pw_below_drewN | with_reducible apply below_drew1 | (refine below_set ?_ (by omega))))⟩
          · rw [if_neg c3] at hA
            by_cases o2 : op = 2
            · subst o2
              have kb : (bk == 1) = false := beq_eq_false_iff_ne.mpr (fun e => c2 ⟨rfl, e⟩)
              clear c2 c3
              go_wp2_with (fail)
              go_at_call 43
              refine (undef_calls _).mono ?_
              rintro e W2 ⟨rfl, hB2⟩
              have hB3 := pm_chain (w := wc) (by (repeat (first | (with_reducible exact Below.refl _ _) | (with_reducible assumption) | with_reducible apply below_alloc | with_reducible apply pw_below_drewN | with_reducible apply below_drew1))) hB2
              obtain ⟨⟨hz0, hz1, hz2⟩, hf0, hf1, hf2⟩ := know3 (blk_below HR8.out hB3)
              simp only at hz0 hz1 hz2
              simp only [ans, truthV, V3.enc, V3.z]
              go_wp2_with (fail)
              refine bodyPost_ret (results_ct rfl _ _ g8 51 _ (0, 0) _ rfl (put3 (blk_below HR8.out hB3) _ _ _) Try.underlying51 rfl (by kernel_rfl)) rfl ?_
              exact ⟨by rw [← hA.out]; rfl, by have hB := pm_chain (w := w) HBB.out hB3; obtain ⟨_, _, hq⟩ := HG.out; (repeat (first | (with_reducible exact Below.refl _ _) | (with_reducible assumption) | with_reducible apply below_alloc | with_reducible apply pw_below_drewN | with_reducible apply below_drew1 | (refine below_set ?_ (by omega))))⟩
            by_cases o14 : op = 14
            · subst o14
              have kq : (qv == 0) = false := beq_eq_false_iff_ne.mpr (fun e => c3 ⟨by simp, e⟩)
              clear c2 c3
              go_wp2_with (fail)
              go_at_call 43
              refine (undef_calls _).mono ?_
              rintro e W2 ⟨rfl, hB2⟩
              have hB3 := pm_chain (w := wc) (by (repeat (first | (with_reducible exact Below.refl _ _) | (with_reducible assumption) | with_reducible apply below_alloc | with_reducible apply pw_below_drewN | with_reducible apply below_drew1))) hB2
              obtain ⟨⟨hz0, hz1, hz2⟩, hf0, hf1, hf2⟩ := know3 (blk_below HR8.out hB3)
              simp only at hz0 hz1 hz2
              simp only [ans, truthV, V3.enc, V3.z]
              go_wp2_with (fail)
              refine bodyPost_ret (results_ct rfl _ _ g8 51 _ (0, 0) _ rfl (put3 (blk_below HR8.out hB3) _ _ _) Try.underlying51 rfl (by kernel_rfl)) rfl ?_
              exact ⟨by rw [← hA.out]; rfl, by have hB := pm_chain (w := w) HBB.out hB3; obtain ⟨_, _, hq⟩ := HG.out; (repeat (first | (with_reducible exact Below.refl _ _) | (with_reducible assumption) | with_reducible apply below_alloc | with_reducible apply pw_below_drewN | with_reducible apply below_drew1 | (refine below_set ?_ (by omega))))⟩
            by_cases o15 : op = 15
            · subst o15
              have kq : (qv == 0) = false := beq_eq_false_iff_ne.mpr (fun e => c3 ⟨by simp, e⟩)
              clear c2 c3
              go_wp2_with (fail)
              go_at_call 43
              refine (undef_calls _).mono ?_
              rintro e W2 ⟨rfl, hB2⟩
              have hB3 := pm_chain (w := wc) (by (repeat (first | (with_reducible exact Below.refl _ _) | (with_reducible assumption) | with_reducible apply below_alloc | with_reducible apply pw_below_drewN | with_reducible apply below_drew1))) hB2
              obtain ⟨⟨hz0, hz1, hz2⟩, hf0, hf1, hf2⟩ := know3 (blk_below HR8.out hB3)
              simp only at hz0 hz1 hz2
              simp only [ans, truthV, V3.enc, V3.z]
              go_wp2_with (fail)
              refine bodyPost_ret (results_ct rfl _ _ g8 51 _ (0, 0) _ rfl (put3 (blk_below HR8.out hB3) _ _ _) Try.underlying51 rfl (by kernel_rfl)) rfl ?_
              exact ⟨by rw [← hA.out]; rfl, by have hB := pm_chain (w := w) HBB.out hB3; obtain ⟨_, _, hq⟩ := HG.out; (repeat (first | (with_reducible exact Below.refl _ _) | (with_reducible assumption) | with_reducible apply below_alloc | with_reducible apply pw_below_drewN | with_reducible apply below_drew1 | (refine below_set ?_ (by omega))))⟩
            have k2 : (op == 2) = false := beq_eq_false_iff_ne.mpr o2
            have k14 : (op == 14) = false := beq_eq_false_iff_ne.mpr o14
            have k15 : (op == 15) = false := beq_eq_false_iff_ne.mpr o15
            have k1 : (op == 1) = false := beq_eq_false_iff_ne.mpr o1
            clear c2 c3 o2 o14 o15 o1
            go_wp2_with (fail)
            go_at_call 43
            refine (undef_calls _).mono ?_
            rintro e W2 ⟨rfl, hB2⟩
            have hB3 := pm_chain (w := wc) (by (repeat (first | (with_reducible exact Below.refl _ _) | (with_reducible assumption) | with_reducible apply below_alloc | with_reducible apply pw_below_drewN | with_reducible apply below_drew1))) hB2
            obtain ⟨⟨hz0, hz1, hz2⟩, hf0, hf1, hf2⟩ := know3 (blk_below HR8.out hB3)
            simp only at hz0 hz1 hz2
            simp only [ans, truthV, V3.enc, V3.z]
            go_wp2_with (fail)
            refine bodyPost_ret (results_ct rfl _ _ g8 51 _ (0, 0) _ rfl (put3 (blk_below HR8.out hB3) _ _ _) Try.underlying51 rfl (by kernel_rfl)) rfl ?_
            exact ⟨by rw [← hA.out]; rfl, by have hB := pm_chain (w := w) HBB.out hB3; obtain ⟨_, _, hq⟩ := HG.out; (repeat (first | (with_reducible exact Below.refl _ _) | (with_reducible assumption) | with_reducible apply below_alloc | with_reducible apply pw_below_drewN | with_reducible apply below_drew1 | (refine below_set ?_ (by omega))))⟩
end Go.Proofs.Ythdnhfjodhjejaa.Ma
