/- The law MemoryMoves's walk: a pointer goes there and back. No condition beyond those each theorem names. -/
import Derived.Test.YthdnhfjodhjejaaRt
import Derived.Test.YthdnhfjodhjejaaRv
import Derived.Deep.Cut
import Derived.StillTailTactics
namespace Go.Proofs.Ythdnhfjodhjejaa.Ma
open Go.RowKit Go.Proofs.Ythdnhfjodhjejaa.PMe Go.Proofs.YthdnhfjodhjejaaW.PrintWords Go.Proofs.YthdnhfjodhjejaaW.PrintLast Go.Proofs.YthdnhfjodhjejaaW.PrintMore
set_option linter.unusedVariables false
set_option linter.unusedSimpArgs false
variable {w W W1 : World}
theorem moves_ltu {L : List Rec} {p : V3} {n : Int} (hp : p.k = 2) {r : Rec} (h2 : ofR L p = some r) (h3 : ofR L ⟨2, p.v + wint n, p.b⟩ = some r) :
    binF L 17 p ⟨2, p.v + wint n, p.b⟩ = truthV (decide (0 < wint n)) := by
  obtain ⟨pk, pv, pb⟩ := p
  simp only at hp h2 h3 ⊢
  subst hp
  unfold binF
  rw [show nmE 17 = false by decide, if_neg (by decide), if_neg (by simp), h2]
  simp only
  rw [if_neg (by simp), h3]
  simp only [ptrsF]
  rw [if_neg (by decide), if_neg (by simp), if_neg (by decide), if_pos (by decide)]
  congr 1
  apply decide_eq_decide.2
  omega
theorem wint_zero : wint 0 = 0 := by unfold wint wrap64 wrap32; omega
theorem int_f {k : Int} (h0 : 0 ≤ k) (h1 : k < 4294967296) : mortiseref01_Int.f k = some (wint k) := by
  unfold mortiseref01_Int.f wint
  split <;> (congr 1; unfold wrap64 wrap32; omega)
set_option maxHeartbeats 40000000 in
set_option maxRecDepth 100000 in
theorem MemoryMoves_calls (A : Option Addr) (cap : Nat) (xs : List Act1) (hs : Script w A xs) (hl : xs.length < 1759218604441) (p : V3) (k : Int) (hp : 0 ≤ p.v ∧ p.v < 4294967296) (hk : 0 ≤ k ∧ k < 4294967296) : Calls Try.prog 8 #[.slice A xs.length cap, p.enc, .int .u32 k] w fun e w' => e = .returned (.bool true) ∧ Below w.heap.size w w' := by
  have hu51 := Try.underlying51
  obtain ⟨pk, pv, pb⟩ := p
  simp only at hp
  unfold V3.enc
  simp only
  have HS := Aside0.mk hs
  have HL := Aside0.mk hl
  have HP := Aside0.mk hp
  have HK := Aside0.mk hk
  obtain ⟨n, hn⟩ : ∃ n, n = xs.length := ⟨_, rfl⟩
  rw [← hn]
  have HN := Aside0.mk hn
  clear hs hl hp hk hn
  go_enter Try.func8, Try.ntmps8
  go_wp2_with (fail)
  have hB0 : Below w.heap.size w (w.alloc (.cells #[.int .i64 pk, .int .u32 pv, .int .i64 pb] 51)) := by (repeat (first | (with_reducible exact Below.refl _ _) | (with_reducible assumption) | with_reducible apply below_alloc | with_reducible apply pw_below_drewN | with_reducible apply below_drew1))
  have Rg4 := Aside0.mk (show (w.alloc (.cells #[.int .i64 pk, .int .u32 pv, .int .i64 pb] 51)).heap[w.heap.size]? = some (.cells #[.int .i64 pk, .int .u32 pv, .int .i64 pb] 51 (0, 0)) from heap_at _ _ _ rfl)
  have B0 := Aside0.mk hB0
  clear hB0
  generalize (w.alloc (.cells #[.int .i64 pk, .int .u32 pv, .int .i64 pb] 51)) = W0 at Rg4 B0 ⊢
  obtain ⟨g4, hg4⟩ : ∃ g, g = w.heap.size := ⟨_, rfl⟩
  rw [← hg4] at Rg4
  rw [← hg4]
  clear hg4
  go_at_call 15
  rw [HN.out]
  refine (made_calls A cap xs (HS.out.below B0.out) HL.out).mono ?_
  rintro e W1 ⟨m, r, rfl, mm, last, L, sv, Bs, T, _, _⟩
  have O := Aside0.mk (show Own w W1 m mm last L from ⟨T.own.pm, pm_chain B0.out T.below, fun i hi => Nat.le_trans B0.out.size (T.own.new i hi)⟩)
  replace Rg4 := Aside0.mk (blk_below Rg4.out T.below)
  clear T HN HL HS B0
  obtain ⟨⟨⟨q0, q1, q2⟩, q3⟩, hq⟩ : ∃ x, binF L 1 ⟨pk, pv, pb⟩ ⟨1, k, 0⟩ = x := ⟨_, rfl⟩
  have Hq := Aside0.mk hq
  clear hq
  obtain ⟨⟨kg40, kg41, kg42⟩, _⟩ := know3 Rg4.out
  go_upto_region 2 with (fail)
  go_cut [8, 9] from 23 (fun va vb wc => ∃ g, va = .pointer (some ⟨g, 0, none⟩) ∧ vb = .int .i64 q3 ∧ Aside0 (wc.heap[g]? = some (.cells #[.int .i64 q0, .int .u32 q1, .int .i64 q2] 51 (0, 0))) ∧ Aside0 (Below W1.heap.size W1 wc))
  case first =>
    go_region_held3 (fun w' => (w'.cell? ⟨g4, 0, none⟩ = some (.int .i64 pk) ∧ w'.cell? ⟨g4, 1, none⟩ = some (.int .u32 pv) ∧ w'.cell? ⟨g4, 2, none⟩ = some (.int .i64 pb))) (exact ⟨pw_cell_below (by (repeat (first | (with_reducible exact Below.refl _ _) | (with_reducible assumption) | with_reducible apply below_alloc | with_reducible apply pw_below_drewN | with_reducible apply below_drew1 | (refine below_set ?_ (by omega)))); done) kg40, pw_cell_below (by (repeat (first | (with_reducible exact Below.refl _ _) | (with_reducible assumption) | with_reducible apply below_alloc | with_reducible apply pw_below_drewN | with_reducible apply below_drew1 | (refine below_set ?_ (by omega)))); done) kg41, pw_cell_below (by (repeat (first | (with_reducible exact Below.refl _ _) | (with_reducible assumption) | with_reducible apply below_alloc | with_reducible apply pw_below_drewN | with_reducible apply below_drew1 | (refine below_set ?_ (by omega)))); done) kg42⟩) (first | (go_at_call 18; refine (mortiseref11_Num.calls _ 1 _ 0 _ rfl).mono ?_; rintro e WX ⟨rfl, hB1⟩; have hBc := pm_chain (w := W1) (by (first | assumption | (repeat (first | (with_reducible exact Below.refl _ _) | (with_reducible assumption) | with_reducible apply below_alloc | with_reducible apply pw_below_drewN | with_reducible apply below_drew1)))) hB1; have hSx := hBc.size; (first | (have hNw := blk_below (show (W1.alloc (.cells #[.int .i64 0, .int .u32 0, .int .i64 0] 51)).drew.heap[W1.heap.size]? = some (.cells #[.int .i64 0, .int .u32 0, .int .i64 0] 51 (0, 0)) from heap_at W1 (.cells #[.int .i64 0, .int .u32 0, .int .i64 0] 51) _ rfl) hB1; obtain ⟨⟨z0, z1, z2⟩, ⟨y0, y1, y2⟩⟩ := know3 hNw) | (have hNw := blk_below (heap_at W1.drew (.cells #[.int .i64 0, .int .u32 0, .int .i64 0] 51) W1.drew.heap.size rfl) hB1; obtain ⟨⟨z0, z1, z2⟩, ⟨y0, y1, y2⟩⟩ := know3 hNw) | skip); clear hB1) | (go_at_call 16; refine (Bin_calls (O.out.grown (show Below W1.heap.size W1 _ by (first | assumption | (repeat (first | (with_reducible exact Below.refl _ _) | (with_reducible assumption) | with_reducible apply below_alloc | with_reducible apply pw_below_drewN | with_reducible apply below_drew1))))).pm 1 ⟨pk, pv, pb⟩ ⟨1, k, 0⟩ (.tuple #[V3.enc ⟨q0, q1, q2⟩, .int .i64 q3]) ⟨by rw [Hq.out]; rfl⟩ ⟨HP.out, HK.out⟩).mono ?_; rintro e WY ⟨rfl, hB1⟩; have hBd := pm_chain (w := W1) (by (first | assumption | (repeat (first | (with_reducible exact Below.refl _ _) | (with_reducible assumption) | with_reducible apply below_alloc | with_reducible apply pw_below_drewN | with_reducible apply below_drew1)))) hB1; have hSy := hBd.size; (first | (have hNx := blk_below hNw hB1; obtain ⟨⟨x0, x1, x2⟩, ⟨t0, t1, t2⟩⟩ := know3 hNx) | (have hNx := blk_below (heap_at WX (.cells #[.int .i64 0, .int .u32 0, .int .i64 0] 51) WX.heap.size rfl) hB1; obtain ⟨⟨x0, x1, x2⟩, ⟨t0, t1, t2⟩⟩ := know3 hNx) | skip); clear hB1; simp only [V3.enc]))
    all_goals (go_wp2_with (fail))
    all_goals go_meet
    all_goals (first | exact ⟨_, rfl, rfl, ⟨put3 hNx _ _ _⟩, ⟨by (repeat (first | (with_reducible exact Below.refl _ _) | (with_reducible assumption) | with_reducible apply below_alloc | with_reducible apply pw_below_drewN | with_reducible apply below_drew1 | (refine below_set ?_ (by omega))))⟩⟩ | exact ⟨_, rfl, rfl, ⟨heap_at _ _ _ rfl⟩, ⟨by (repeat (first | (with_reducible exact Below.refl _ _) | (with_reducible assumption) | with_reducible apply below_alloc | with_reducible apply pw_below_drewN | with_reducible apply below_drew1))⟩⟩)
  clear kg40 kg41 kg42
  case rest =>
    obtain ⟨g8, rfl, rfl, Rg8, HB⟩ := hcut
    replace O := Aside0.mk (O.out.grown HB.out)
    replace Rg4 := Aside0.mk (blk_below Rg4.out HB.out)
    clear HB
    generalize wc = W2 at O Rg4 Rg8 ⊢
    obtain ⟨⟨kg40, kg41, kg42⟩, _⟩ := know3 Rg4.out
    by_cases cq : q3 = 0 ∧ pk = 2
    · clear kg40 kg41 kg42
      obtain ⟨rfl, rfl⟩ := cq
      have hlen : ∀ r ∈ L, r.cs.length < 4294967296 := fun r hr => by have := (O.out.pm.len r hr).2; omega
      obtain ⟨r1, a1, a2, a3, a4, a5⟩ := moves_some (p := ⟨2, pv, pb⟩) HK.out.1 HK.out.2 HP.out.1 HP.out.2 rfl (by rw [Hq.out]) hlen
      obtain ⟨b1, b2, b3, b4, b5, b6⟩ := moves_rest (p := ⟨2, pv, pb⟩) HK.out.1 HK.out.2 HP.out.1 rfl a1 a5
      have b7 := moves_ltu (p := ⟨2, pv, pb⟩) rfl a1 a5
      clear b5
      rw [Hq.out] at a2
      simp only at a2 a3 a4 b1 b2 b3 b4 b6 b7
      have hr1 := hlen r1 (of_mem a1).1
      simp only [V3.mk.injEq] at a2
      obtain ⟨e1, e2, e3⟩ := a2
      replace e3 := e3.symm
      subst e1 e3
      rw [← e2] at a3 a4 b1 b2 b3 b4 b6 b7
      have HQ := Aside0.mk (show 0 ≤ q1 ∧ q1 < 4294967296 by omega)
      have B1 := Aside0.mk b1
      have B2 := Aside0.mk b2
      have B3 := Aside0.mk b3
      have B4 := Aside0.mk b4
      have B6 := Aside0.mk b6
      have B7 := Aside0.mk b7
      clear b1 b2 b3 b4 b6 b7 a1 a3 a4 a5 hlen hr1 e2 Hq
      obtain ⟨d, hd⟩ : ∃ d, d = wint k := ⟨_, rfl⟩
      rw [← hd] at B7
      have HD := Aside0.mk hd
      clear hd
      obtain ⟨⟨kg40, kg41, kg42⟩, _⟩ := know3 Rg4.out
      obtain ⟨⟨kg80, kg81, kg82⟩, _⟩ := know3 Rg8.out
      go_upto_region 5 with (fail)
      go_cut [10, 11] from 23 (fun va vb wc => ∃ g, va = .pointer (some ⟨g, 0, none⟩) ∧ vb = .int .i64 0 ∧ Aside0 (wc.heap[g]? = some (.cells #[.int .i64 2, .int .u32 pv, .int .i64 pb] 51 (0, 0))) ∧ Aside0 (Below W2.heap.size W2 wc))
      case first =>
        go_region_held3 (fun w' => (w'.cell? ⟨g8, 0, none⟩ = some (.int .i64 2) ∧ w'.cell? ⟨g8, 1, none⟩ = some (.int .u32 q1) ∧ w'.cell? ⟨g8, 2, none⟩ = some (.int .i64 pb))) (exact ⟨pw_cell_below (by (repeat (first | (with_reducible exact Below.refl _ _) | (with_reducible assumption) | with_reducible apply below_alloc | with_reducible apply pw_below_drewN | with_reducible apply below_drew1 | (refine below_set ?_ (by omega)))); done) kg80, pw_cell_below (by (repeat (first | (with_reducible exact Below.refl _ _) | (with_reducible assumption) | with_reducible apply below_alloc | with_reducible apply pw_below_drewN | with_reducible apply below_drew1 | (refine below_set ?_ (by omega)))); done) kg81, pw_cell_below (by (repeat (first | (with_reducible exact Below.refl _ _) | (with_reducible assumption) | with_reducible apply below_alloc | with_reducible apply pw_below_drewN | with_reducible apply below_drew1 | (refine below_set ?_ (by omega)))); done) kg82⟩) (first | (go_at_call 18; refine (mortiseref11_Num.calls _ 1 _ 0 _ rfl).mono ?_; rintro e WX ⟨rfl, hB1⟩; have hBc := pm_chain (w := W2) (by (first | assumption | (repeat (first | (with_reducible exact Below.refl _ _) | (with_reducible assumption) | with_reducible apply below_alloc | with_reducible apply pw_below_drewN | with_reducible apply below_drew1)))) hB1; have hSx := hBc.size; (first | (have hNw := blk_below (show (W2.alloc (.cells #[.int .i64 0, .int .u32 0, .int .i64 0] 51)).drew.heap[W2.heap.size]? = some (.cells #[.int .i64 0, .int .u32 0, .int .i64 0] 51 (0, 0)) from heap_at W2 (.cells #[.int .i64 0, .int .u32 0, .int .i64 0] 51) _ rfl) hB1; obtain ⟨⟨z0, z1, z2⟩, ⟨y0, y1, y2⟩⟩ := know3 hNw) | (have hNw := blk_below (heap_at W2.drew (.cells #[.int .i64 0, .int .u32 0, .int .i64 0] 51) W2.drew.heap.size rfl) hB1; obtain ⟨⟨z0, z1, z2⟩, ⟨y0, y1, y2⟩⟩ := know3 hNw) | skip); clear hB1) | (go_at_call 16; refine (Bin_calls (O.out.grown (show Below W2.heap.size W2 _ by (first | assumption | (repeat (first | (with_reducible exact Below.refl _ _) | (with_reducible assumption) | with_reducible apply below_alloc | with_reducible apply pw_below_drewN | with_reducible apply below_drew1))))).pm 2 ⟨2, q1, pb⟩ ⟨1, k, 0⟩ (.tuple #[V3.enc ⟨2, pv, pb⟩, .int .i64 0]) ⟨by rw [B1.out]; rfl⟩ ⟨HQ.out, HK.out⟩).mono ?_; rintro e WY ⟨rfl, hB1⟩; have hBd := pm_chain (w := W2) (by (first | assumption | (repeat (first | (with_reducible exact Below.refl _ _) | (with_reducible assumption) | with_reducible apply below_alloc | with_reducible apply pw_below_drewN | with_reducible apply below_drew1)))) hB1; have hSy := hBd.size; (first | (have hNx := blk_below hNw hB1; obtain ⟨⟨x0, x1, x2⟩, ⟨t0, t1, t2⟩⟩ := know3 hNx) | (have hNx := blk_below (heap_at WX (.cells #[.int .i64 0, .int .u32 0, .int .i64 0] 51) WX.heap.size rfl) hB1; obtain ⟨⟨x0, x1, x2⟩, ⟨t0, t1, t2⟩⟩ := know3 hNx) | skip); clear hB1; simp only [V3.enc]))
        all_goals (go_wp2_with (fail))
        all_goals go_meet
        all_goals (first | exact ⟨_, rfl, rfl, ⟨put3 hNx _ _ _⟩, ⟨by (repeat (first | (with_reducible exact Below.refl _ _) | (with_reducible assumption) | with_reducible apply below_alloc | with_reducible apply pw_below_drewN | with_reducible apply below_drew1 | (refine below_set ?_ (by omega))))⟩⟩ | exact ⟨_, rfl, rfl, ⟨heap_at _ _ _ rfl⟩, ⟨by (repeat (first | (with_reducible exact Below.refl _ _) | (with_reducible assumption) | with_reducible apply below_alloc | with_reducible apply pw_below_drewN | with_reducible apply below_drew1))⟩⟩)
      clear kg40 kg41 kg42 kg80 kg81 kg82
      case rest =>
        obtain ⟨g10, rfl, rfl, Rg10, HB⟩ := hcut
        replace O := Aside0.mk (O.out.grown HB.out)
        replace Rg4 := Aside0.mk (blk_below Rg4.out HB.out)
        replace Rg8 := Aside0.mk (blk_below Rg8.out HB.out)
        clear HB
        generalize wc = W3 at O Rg4 Rg8 Rg10 ⊢
        obtain ⟨⟨kg40, kg41, kg42⟩, _⟩ := know3 Rg4.out
        obtain ⟨⟨kg80, kg81, kg82⟩, _⟩ := know3 Rg8.out
        go_wp2_with (fail)
        go_at_call 16
        refine (Bin_calls O.out.pm 2 ⟨2, q1, pb⟩ ⟨2, pv, pb⟩ (.tuple #[V3.enc ⟨1, k, 0⟩, .int .i64 0]) ⟨by rw [B2.out]; rfl⟩ ⟨HQ.out, HP.out⟩).mono ?_
        rintro e W4 ⟨rfl, hB1⟩
        simp only [V3.enc]
        have hBn := pm_chain (w := W3) (by (first | assumption | (repeat (first | (with_reducible exact Below.refl _ _) | (with_reducible assumption) | with_reducible apply below_alloc | with_reducible apply pw_below_drewN | with_reducible apply below_drew1)))) hB1
        replace O := Aside0.mk (O.out.grown hBn)
        replace Rg4 := Aside0.mk (blk_below Rg4.out hBn)
        replace Rg8 := Aside0.mk (blk_below Rg8.out hBn)
        replace Rg10 := Aside0.mk (blk_below Rg10.out hBn)
        clear hB1 hBn
        clear kg40 kg41 kg42 kg80 kg81 kg82
        go_upto_region 7 with (fail)
        have hBn : Below W4.heap.size W4 (W4.alloc (.cells #[.int .i64 1, .int .u32 k, .int .i64 0] 51)) := by (repeat (first | (with_reducible exact Below.refl _ _) | (with_reducible assumption) | with_reducible apply below_alloc | with_reducible apply pw_below_drewN | with_reducible apply below_drew1))
        replace O := Aside0.mk (O.out.grown hBn)
        replace Rg4 := Aside0.mk (blk_below Rg4.out hBn)
        replace Rg8 := Aside0.mk (blk_below Rg8.out hBn)
        replace Rg10 := Aside0.mk (blk_below Rg10.out hBn)
        have Rg12 := Aside0.mk (show (W4.alloc (.cells #[.int .i64 1, .int .u32 k, .int .i64 0] 51)).heap[W4.heap.size]? = some (.cells #[.int .i64 1, .int .u32 k, .int .i64 0] 51 (0, 0)) from heap_at _ _ _ rfl)
        clear hBn
        generalize (W4.alloc (.cells #[.int .i64 1, .int .u32 k, .int .i64 0] 51)) = W5 at O Rg4 Rg8 Rg10 Rg12 ⊢
        generalize W4.heap.size = g12 at Rg12 ⊢
        have h3 : (k = 0 ∧ d = 0) ∨ (k ≠ 0 ∧ 0 < d) ∨ (k ≠ 0 ∧ d < 0) := by
          have h1 := HD.out
          have h2 := HK.out
          have h4 : wint k = 0 ↔ k = 0 := by unfold wint wrap64 wrap32; omega
          omega
        rcases h3 with ⟨ck, cd⟩ | ⟨ck, cd⟩ | ⟨ck, cd⟩
        · subst ck cd
          have E3 := Aside0.mk (show binF L 14 ⟨2, pv, pb⟩ ⟨2, q1, pb⟩ = (⟨1, 1, 0⟩, 0) by rw [B3.out]; rfl)
          have E4 := Aside0.mk (show binF L 15 ⟨2, pv, pb⟩ ⟨2, q1, pb⟩ = (⟨1, 0, 0⟩, 0) by rw [B4.out]; rfl)
          have E7 := Aside0.mk (show binF L 17 ⟨2, pv, pb⟩ ⟨2, q1, pb⟩ = (⟨1, 0, 0⟩, 0) by rw [B7.out]; rfl)
          have HI := Aside0.mk (show mortiseref01_Int.f 0 = some 0 from (int_f (k := 0) (by decide) (by decide)).trans (by rw [wint_zero]))
          clear B3 B4 B7 HD
          obtain ⟨⟨kg40, kg41, kg42⟩, _⟩ := know3 Rg4.out
          obtain ⟨⟨kg80, kg81, kg82⟩, _⟩ := know3 Rg8.out
          go_wp2_with (fail)
          go_at_call 16
          refine (Bin_calls O.out.pm 14 ⟨2, pv, pb⟩ ⟨2, q1, pb⟩ (.tuple #[V3.enc ⟨1, 1, 0⟩, .int .i64 0]) ⟨by rw [E3.out]; rfl⟩ ⟨HP.out, HQ.out⟩).mono ?_
          rintro e W6 ⟨rfl, hB1⟩
          simp only [V3.enc]
          have hBn := pm_chain (w := W5) (by (first | assumption | (repeat (first | (with_reducible exact Below.refl _ _) | (with_reducible assumption) | with_reducible apply below_alloc | with_reducible apply pw_below_drewN | with_reducible apply below_drew1)))) hB1
          replace O := Aside0.mk (O.out.grown hBn)
          replace Rg4 := Aside0.mk (blk_below Rg4.out hBn)
          replace Rg8 := Aside0.mk (blk_below Rg8.out hBn)
          replace Rg10 := Aside0.mk (blk_below Rg10.out hBn)
          replace Rg12 := Aside0.mk (blk_below Rg12.out hBn)
          clear hB1 hBn
          clear kg40 kg41 kg42 kg80 kg81 kg82
          go_upto_region 8 with (fail)
          have hBn : Below W6.heap.size W6 (W6.alloc (.cells #[.int .i64 1, .int .u32 1, .int .i64 0] 51)) := by (repeat (first | (with_reducible exact Below.refl _ _) | (with_reducible assumption) | with_reducible apply below_alloc | with_reducible apply pw_below_drewN | with_reducible apply below_drew1))
          replace O := Aside0.mk (O.out.grown hBn)
          replace Rg4 := Aside0.mk (blk_below Rg4.out hBn)
          replace Rg8 := Aside0.mk (blk_below Rg8.out hBn)
          replace Rg10 := Aside0.mk (blk_below Rg10.out hBn)
          replace Rg12 := Aside0.mk (blk_below Rg12.out hBn)
          have Rg14 := Aside0.mk (show (W6.alloc (.cells #[.int .i64 1, .int .u32 1, .int .i64 0] 51)).heap[W6.heap.size]? = some (.cells #[.int .i64 1, .int .u32 1, .int .i64 0] 51 (0, 0)) from heap_at _ _ _ rfl)
          clear hBn
          generalize (W6.alloc (.cells #[.int .i64 1, .int .u32 1, .int .i64 0] 51)) = W7 at O Rg4 Rg8 Rg10 Rg12 Rg14 ⊢
          generalize W6.heap.size = g14 at Rg14 ⊢
          obtain ⟨⟨kg40, kg41, kg42⟩, _⟩ := know3 Rg4.out
          obtain ⟨⟨kg80, kg81, kg82⟩, _⟩ := know3 Rg8.out
          go_wp2_with (fail)
          go_at_call 16
          refine (Bin_calls O.out.pm 15 ⟨2, pv, pb⟩ ⟨2, q1, pb⟩ (.tuple #[V3.enc ⟨1, 0, 0⟩, .int .i64 0]) ⟨by rw [E4.out]; rfl⟩ ⟨HP.out, HQ.out⟩).mono ?_
          rintro e W8 ⟨rfl, hB1⟩
          simp only [V3.enc]
          have hBn := pm_chain (w := W7) (by (first | assumption | (repeat (first | (with_reducible exact Below.refl _ _) | (with_reducible assumption) | with_reducible apply below_alloc | with_reducible apply pw_below_drewN | with_reducible apply below_drew1)))) hB1
          replace O := Aside0.mk (O.out.grown hBn)
          replace Rg4 := Aside0.mk (blk_below Rg4.out hBn)
          replace Rg8 := Aside0.mk (blk_below Rg8.out hBn)
          replace Rg10 := Aside0.mk (blk_below Rg10.out hBn)
          replace Rg12 := Aside0.mk (blk_below Rg12.out hBn)
          replace Rg14 := Aside0.mk (blk_below Rg14.out hBn)
          clear hB1 hBn
          clear kg40 kg41 kg42 kg80 kg81 kg82
          go_upto_region 9 with (fail)
          have hBn : Below W8.heap.size W8 (W8.alloc (.cells #[.int .i64 1, .int .u32 0, .int .i64 0] 51)) := by (repeat (first | (with_reducible exact Below.refl _ _) | (with_reducible assumption) | with_reducible apply below_alloc | with_reducible apply pw_below_drewN | with_reducible apply below_drew1))
          replace O := Aside0.mk (O.out.grown hBn)
          replace Rg4 := Aside0.mk (blk_below Rg4.out hBn)
          replace Rg8 := Aside0.mk (blk_below Rg8.out hBn)
          replace Rg10 := Aside0.mk (blk_below Rg10.out hBn)
          replace Rg12 := Aside0.mk (blk_below Rg12.out hBn)
          replace Rg14 := Aside0.mk (blk_below Rg14.out hBn)
          have Rg16 := Aside0.mk (show (W8.alloc (.cells #[.int .i64 1, .int .u32 0, .int .i64 0] 51)).heap[W8.heap.size]? = some (.cells #[.int .i64 1, .int .u32 0, .int .i64 0] 51 (0, 0)) from heap_at _ _ _ rfl)
          clear hBn
          generalize (W8.alloc (.cells #[.int .i64 1, .int .u32 0, .int .i64 0] 51)) = W9 at O Rg4 Rg8 Rg10 Rg12 Rg14 Rg16 ⊢
          generalize W8.heap.size = g16 at Rg16 ⊢
          obtain ⟨⟨kg40, kg41, kg42⟩, _⟩ := know3 Rg4.out
          obtain ⟨⟨kg80, kg81, kg82⟩, _⟩ := know3 Rg8.out
          go_wp2_with (fail)
          go_at_call 16
          refine (Bin_calls O.out.pm 17 ⟨2, pv, pb⟩ ⟨2, q1, pb⟩ (.tuple #[V3.enc ⟨1, 0, 0⟩, .int .i64 0]) ⟨by rw [E7.out]; rfl⟩ ⟨HP.out, HQ.out⟩).mono ?_
          rintro e W10 ⟨rfl, hB1⟩
          simp only [V3.enc]
          have hBn := pm_chain (w := W9) (by (first | assumption | (repeat (first | (with_reducible exact Below.refl _ _) | (with_reducible assumption) | with_reducible apply below_alloc | with_reducible apply pw_below_drewN | with_reducible apply below_drew1)))) hB1
          replace O := Aside0.mk (O.out.grown hBn)
          replace Rg4 := Aside0.mk (blk_below Rg4.out hBn)
          replace Rg8 := Aside0.mk (blk_below Rg8.out hBn)
          replace Rg10 := Aside0.mk (blk_below Rg10.out hBn)
          replace Rg12 := Aside0.mk (blk_below Rg12.out hBn)
          replace Rg14 := Aside0.mk (blk_below Rg14.out hBn)
          replace Rg16 := Aside0.mk (blk_below Rg16.out hBn)
          clear hB1 hBn
          clear kg40 kg41 kg42 kg80 kg81 kg82
          go_upto_region 10 with (fail)
          have hBn : Below W10.heap.size W10 (W10.alloc (.cells #[.int .i64 1, .int .u32 0, .int .i64 0] 51)) := by (repeat (first | (with_reducible exact Below.refl _ _) | (with_reducible assumption) | with_reducible apply below_alloc | with_reducible apply pw_below_drewN | with_reducible apply below_drew1))
          replace O := Aside0.mk (O.out.grown hBn)
          replace Rg4 := Aside0.mk (blk_below Rg4.out hBn)
          replace Rg8 := Aside0.mk (blk_below Rg8.out hBn)
          replace Rg10 := Aside0.mk (blk_below Rg10.out hBn)
          replace Rg12 := Aside0.mk (blk_below Rg12.out hBn)
          replace Rg14 := Aside0.mk (blk_below Rg14.out hBn)
          replace Rg16 := Aside0.mk (blk_below Rg16.out hBn)
          have Rg18 := Aside0.mk (show (W10.alloc (.cells #[.int .i64 1, .int .u32 0, .int .i64 0] 51)).heap[W10.heap.size]? = some (.cells #[.int .i64 1, .int .u32 0, .int .i64 0] 51 (0, 0)) from heap_at _ _ _ rfl)
          clear hBn
          generalize (W10.alloc (.cells #[.int .i64 1, .int .u32 0, .int .i64 0] 51)) = W11 at O Rg4 Rg8 Rg10 Rg12 Rg14 Rg16 Rg18 ⊢
          generalize W10.heap.size = g18 at Rg18 ⊢
          obtain ⟨⟨kg80, kg81, kg82⟩, _⟩ := know3 Rg8.out
          go_wp2_with (fail)
          go_at_call 26
          refine (Truth_calls O.out.pm ⟨2, q1, pb⟩ HQ.out.1 HQ.out.2).mono ?_
          rintro e W12 ⟨rfl, hB1⟩
          rw [B6.out]
          simp only
          have hBn := pm_chain (w := W11) (by (first | assumption | (repeat (first | (with_reducible exact Below.refl _ _) | (with_reducible assumption) | with_reducible apply below_alloc | with_reducible apply pw_below_drewN | with_reducible apply below_drew1)))) hB1
          replace O := Aside0.mk (O.out.grown hBn)
          replace Rg4 := Aside0.mk (blk_below Rg4.out hBn)
          replace Rg8 := Aside0.mk (blk_below Rg8.out hBn)
          replace Rg10 := Aside0.mk (blk_below Rg10.out hBn)
          replace Rg12 := Aside0.mk (blk_below Rg12.out hBn)
          replace Rg14 := Aside0.mk (blk_below Rg14.out hBn)
          replace Rg16 := Aside0.mk (blk_below Rg16.out hBn)
          replace Rg18 := Aside0.mk (blk_below Rg18.out hBn)
          clear hB1 hBn
          clear kg80 kg81 kg82
          go_upto_region 11 with (fail)
          go_wp2_with (fail)
          go_at_call 27
          refine (mortiseref01_Int.calls 0 0 _ HI.out).mono ?_
          rintro e WI ⟨rfl, hD⟩
          obtain ⟨nk, rfl⟩ := hD.out
          have hBn : Below W12.heap.size W12 (W12.drewN nk) := by (repeat (first | (with_reducible exact Below.refl _ _) | (with_reducible assumption) | with_reducible apply below_alloc | with_reducible apply pw_below_drewN | with_reducible apply below_drew1))
          replace O := Aside0.mk (O.out.grown hBn)
          replace Rg4 := Aside0.mk (blk_below Rg4.out hBn)
          replace Rg8 := Aside0.mk (blk_below Rg8.out hBn)
          replace Rg10 := Aside0.mk (blk_below Rg10.out hBn)
          replace Rg12 := Aside0.mk (blk_below Rg12.out hBn)
          replace Rg14 := Aside0.mk (blk_below Rg14.out hBn)
          replace Rg16 := Aside0.mk (blk_below Rg16.out hBn)
          replace Rg18 := Aside0.mk (blk_below Rg18.out hBn)
          clear hBn
          generalize W12.drewN nk = W13 at O Rg4 Rg8 Rg10 Rg12 Rg14 Rg16 Rg18 ⊢
          go_upto_region 12 with (fail)
          obtain ⟨⟨kg40, kg41, kg42⟩, _⟩ := know3 Rg4.out
          obtain ⟨⟨kg80, kg81, kg82⟩, _⟩ := know3 Rg8.out
          obtain ⟨⟨kg100, kg101, kg102⟩, _⟩ := know3 Rg10.out
          obtain ⟨⟨kg120, kg121, kg122⟩, _⟩ := know3 Rg12.out
          obtain ⟨⟨kg140, kg141, kg142⟩, _⟩ := know3 Rg14.out
          obtain ⟨⟨kg160, kg161, kg162⟩, _⟩ := know3 Rg16.out
          obtain ⟨⟨kg180, kg181, kg182⟩, _⟩ := know3 Rg18.out
          go_region_held3 (fun w' => (w'.cell? ⟨g4, 0, none⟩ = some (.int .i64 2) ∧ w'.cell? ⟨g4, 1, none⟩ = some (.int .u32 pv) ∧ w'.cell? ⟨g4, 2, none⟩ = some (.int .i64 pb)) ∧ (w'.cell? ⟨g10, 0, none⟩ = some (.int .i64 2) ∧ w'.cell? ⟨g10, 1, none⟩ = some (.int .u32 pv) ∧ w'.cell? ⟨g10, 2, none⟩ = some (.int .i64 pb)) ∧ (w'.cell? ⟨g12, 0, none⟩ = some (.int .i64 1) ∧ w'.cell? ⟨g12, 1, none⟩ = some (.int .u32 0) ∧ w'.cell? ⟨g12, 2, none⟩ = some (.int .i64 0)) ∧ (w'.cell? ⟨g14, 0, none⟩ = some (.int .i64 1) ∧ w'.cell? ⟨g14, 1, none⟩ = some (.int .u32 1) ∧ w'.cell? ⟨g14, 2, none⟩ = some (.int .i64 0)) ∧ (w'.cell? ⟨g16, 0, none⟩ = some (.int .i64 1) ∧ w'.cell? ⟨g16, 1, none⟩ = some (.int .u32 0) ∧ w'.cell? ⟨g16, 2, none⟩ = some (.int .i64 0)) ∧ (w'.cell? ⟨g18, 0, none⟩ = some (.int .i64 1) ∧ w'.cell? ⟨g18, 1, none⟩ = some (.int .u32 0) ∧ w'.cell? ⟨g18, 2, none⟩ = some (.int .i64 0))) (exact ⟨⟨pw_cell_below (by (repeat (first | (with_reducible exact Below.refl _ _) | (with_reducible assumption) | with_reducible apply below_alloc | with_reducible apply pw_below_drewN | with_reducible apply below_drew1)); done) kg40, pw_cell_below (by (repeat (first | (with_reducible exact Below.refl _ _) | (with_reducible assumption) | with_reducible apply below_alloc | with_reducible apply pw_below_drewN | with_reducible apply below_drew1)); done) kg41, pw_cell_below (by (repeat (first | (with_reducible exact Below.refl _ _) | (with_reducible assumption) | with_reducible apply below_alloc | with_reducible apply pw_below_drewN | with_reducible apply below_drew1)); done) kg42⟩, ⟨pw_cell_below (by (repeat (first | (with_reducible exact Below.refl _ _) | (with_reducible assumption) | with_reducible apply below_alloc | with_reducible apply pw_below_drewN | with_reducible apply below_drew1)); done) kg100, pw_cell_below (by (repeat (first | (with_reducible exact Below.refl _ _) | (with_reducible assumption) | with_reducible apply below_alloc | with_reducible apply pw_below_drewN | with_reducible apply below_drew1)); done) kg101, pw_cell_below (by (repeat (first | (with_reducible exact Below.refl _ _) | (with_reducible assumption) | with_reducible apply below_alloc | with_reducible apply pw_below_drewN | with_reducible apply below_drew1)); done) kg102⟩, ⟨pw_cell_below (by (repeat (first | (with_reducible exact Below.refl _ _) | (with_reducible assumption) | with_reducible apply below_alloc | with_reducible apply pw_below_drewN | with_reducible apply below_drew1)); done) kg120, pw_cell_below (by (repeat (first | (with_reducible exact Below.refl _ _) | (with_reducible assumption) | with_reducible apply below_alloc | with_reducible apply pw_below_drewN | with_reducible apply below_drew1)); done) kg121, pw_cell_below (by (repeat (first | (with_reducible exact Below.refl _ _) | (with_reducible assumption) | with_reducible apply below_alloc | with_reducible apply pw_below_drewN | with_reducible apply below_drew1)); done) kg122⟩, ⟨pw_cell_below (by (repeat (first | (with_reducible exact Below.refl _ _) | (with_reducible assumption) | with_reducible apply below_alloc | with_reducible apply pw_below_drewN | with_reducible apply below_drew1)); done) kg140, pw_cell_below (by (repeat (first | (with_reducible exact Below.refl _ _) | (with_reducible assumption) | with_reducible apply below_alloc | with_reducible apply pw_below_drewN | with_reducible apply below_drew1)); done) kg141, pw_cell_below (by (repeat (first | (with_reducible exact Below.refl _ _) | (with_reducible assumption) | with_reducible apply below_alloc | with_reducible apply pw_below_drewN | with_reducible apply below_drew1)); done) kg142⟩, ⟨pw_cell_below (by (repeat (first | (with_reducible exact Below.refl _ _) | (with_reducible assumption) | with_reducible apply below_alloc | with_reducible apply pw_below_drewN | with_reducible apply below_drew1)); done) kg160, pw_cell_below (by (repeat (first | (with_reducible exact Below.refl _ _) | (with_reducible assumption) | with_reducible apply below_alloc | with_reducible apply pw_below_drewN | with_reducible apply below_drew1)); done) kg161, pw_cell_below (by (repeat (first | (with_reducible exact Below.refl _ _) | (with_reducible assumption) | with_reducible apply below_alloc | with_reducible apply pw_below_drewN | with_reducible apply below_drew1)); done) kg162⟩, ⟨pw_cell_below (by (repeat (first | (with_reducible exact Below.refl _ _) | (with_reducible assumption) | with_reducible apply below_alloc | with_reducible apply pw_below_drewN | with_reducible apply below_drew1)); done) kg180, pw_cell_below (by (repeat (first | (with_reducible exact Below.refl _ _) | (with_reducible assumption) | with_reducible apply below_alloc | with_reducible apply pw_below_drewN | with_reducible apply below_drew1)); done) kg181, pw_cell_below (by (repeat (first | (with_reducible exact Below.refl _ _) | (with_reducible assumption) | with_reducible apply below_alloc | with_reducible apply pw_below_drewN | with_reducible apply below_drew1)); done) kg182⟩⟩) (first | (go_at_call 18; refine (mortiseref11_Num.calls _ 1 _ 0 _ rfl).mono ?_; rintro e WX ⟨rfl, hB1⟩; have hBc := pm_chain (w := W13) (by first | assumption | (repeat (first | (with_reducible exact Below.refl _ _) | (with_reducible assumption) | with_reducible apply below_alloc | with_reducible apply pw_below_drewN | with_reducible apply below_drew1))) hB1; clear hB1) | (go_at_call 17; refine (heads_calls _).mono ?_; rintro e WX ⟨rfl, hB1⟩; have hBc := pm_chain (w := W13) (by first | assumption | (repeat (first | (with_reducible exact Below.refl _ _) | (with_reducible assumption) | with_reducible apply below_alloc | with_reducible apply pw_below_drewN | with_reducible apply below_drew1))) hB1; clear hB1))
          all_goals (go_wp2_with (fail))
          all_goals go_ret
          all_goals exact ⟨rfl, (O.out.grown (by first | assumption | (repeat (first | (with_reducible exact Below.refl _ _) | (with_reducible assumption) | with_reducible apply below_alloc | with_reducible apply pw_below_drewN | with_reducible apply below_drew1)))).below⟩
        · have E3 := Aside0.mk (show binF L 14 ⟨2, pv, pb⟩ ⟨2, q1, pb⟩ = (⟨1, 0, 0⟩, 0) by rw [B3.out, beq_eq_false_iff_ne.2 ck]; rfl)
          have E4 := Aside0.mk (show binF L 15 ⟨2, pv, pb⟩ ⟨2, q1, pb⟩ = (⟨1, 1, 0⟩, 0) by rw [B4.out, beq_eq_false_iff_ne.2 ck]; rfl)
          have E7 := Aside0.mk (show binF L 17 ⟨2, pv, pb⟩ ⟨2, q1, pb⟩ = (⟨1, 1, 0⟩, 0) by rw [B7.out, decide_eq_true cd]; rfl)
          have HI := Aside0.mk (show mortiseref01_Int.f k = some d by rw [HD.out]; have := HK.out; exact int_f this.1 this.2)
          clear B3 B4 B7 HD
          have CK := Aside0.mk ck
          have CD := Aside0.mk cd
          clear ck cd
          obtain ⟨⟨kg40, kg41, kg42⟩, _⟩ := know3 Rg4.out
          obtain ⟨⟨kg80, kg81, kg82⟩, _⟩ := know3 Rg8.out
          go_wp2_with (fail)
          go_at_call 16
          refine (Bin_calls O.out.pm 14 ⟨2, pv, pb⟩ ⟨2, q1, pb⟩ (.tuple #[V3.enc ⟨1, 0, 0⟩, .int .i64 0]) ⟨by rw [E3.out]; rfl⟩ ⟨HP.out, HQ.out⟩).mono ?_
          rintro e W6 ⟨rfl, hB1⟩
          simp only [V3.enc]
          have hBn := pm_chain (w := W5) (by (first | assumption | (repeat (first | (with_reducible exact Below.refl _ _) | (with_reducible assumption) | with_reducible apply below_alloc | with_reducible apply pw_below_drewN | with_reducible apply below_drew1)))) hB1
          replace O := Aside0.mk (O.out.grown hBn)
          replace Rg4 := Aside0.mk (blk_below Rg4.out hBn)
          replace Rg8 := Aside0.mk (blk_below Rg8.out hBn)
          replace Rg10 := Aside0.mk (blk_below Rg10.out hBn)
          replace Rg12 := Aside0.mk (blk_below Rg12.out hBn)
          clear hB1 hBn
          clear kg40 kg41 kg42 kg80 kg81 kg82
          go_upto_region 8 with (fail)
          have hBn : Below W6.heap.size W6 (W6.alloc (.cells #[.int .i64 1, .int .u32 0, .int .i64 0] 51)) := by (repeat (first | (with_reducible exact Below.refl _ _) | (with_reducible assumption) | with_reducible apply below_alloc | with_reducible apply pw_below_drewN | with_reducible apply below_drew1))
          replace O := Aside0.mk (O.out.grown hBn)
          replace Rg4 := Aside0.mk (blk_below Rg4.out hBn)
          replace Rg8 := Aside0.mk (blk_below Rg8.out hBn)
          replace Rg10 := Aside0.mk (blk_below Rg10.out hBn)
          replace Rg12 := Aside0.mk (blk_below Rg12.out hBn)
          have Rg14 := Aside0.mk (show (W6.alloc (.cells #[.int .i64 1, .int .u32 0, .int .i64 0] 51)).heap[W6.heap.size]? = some (.cells #[.int .i64 1, .int .u32 0, .int .i64 0] 51 (0, 0)) from heap_at _ _ _ rfl)
          clear hBn
          generalize (W6.alloc (.cells #[.int .i64 1, .int .u32 0, .int .i64 0] 51)) = W7 at O Rg4 Rg8 Rg10 Rg12 Rg14 ⊢
          generalize W6.heap.size = g14 at Rg14 ⊢
          obtain ⟨⟨kg40, kg41, kg42⟩, _⟩ := know3 Rg4.out
          obtain ⟨⟨kg80, kg81, kg82⟩, _⟩ := know3 Rg8.out
          go_wp2_with (fail)
          go_at_call 16
          refine (Bin_calls O.out.pm 15 ⟨2, pv, pb⟩ ⟨2, q1, pb⟩ (.tuple #[V3.enc ⟨1, 1, 0⟩, .int .i64 0]) ⟨by rw [E4.out]; rfl⟩ ⟨HP.out, HQ.out⟩).mono ?_
          rintro e W8 ⟨rfl, hB1⟩
          simp only [V3.enc]
          have hBn := pm_chain (w := W7) (by (first | assumption | (repeat (first | (with_reducible exact Below.refl _ _) | (with_reducible assumption) | with_reducible apply below_alloc | with_reducible apply pw_below_drewN | with_reducible apply below_drew1)))) hB1
          replace O := Aside0.mk (O.out.grown hBn)
          replace Rg4 := Aside0.mk (blk_below Rg4.out hBn)
          replace Rg8 := Aside0.mk (blk_below Rg8.out hBn)
          replace Rg10 := Aside0.mk (blk_below Rg10.out hBn)
          replace Rg12 := Aside0.mk (blk_below Rg12.out hBn)
          replace Rg14 := Aside0.mk (blk_below Rg14.out hBn)
          clear hB1 hBn
          clear kg40 kg41 kg42 kg80 kg81 kg82
          go_upto_region 9 with (fail)
          have hBn : Below W8.heap.size W8 (W8.alloc (.cells #[.int .i64 1, .int .u32 1, .int .i64 0] 51)) := by (repeat (first | (with_reducible exact Below.refl _ _) | (with_reducible assumption) | with_reducible apply below_alloc | with_reducible apply pw_below_drewN | with_reducible apply below_drew1))
          replace O := Aside0.mk (O.out.grown hBn)
          replace Rg4 := Aside0.mk (blk_below Rg4.out hBn)
          replace Rg8 := Aside0.mk (blk_below Rg8.out hBn)
          replace Rg10 := Aside0.mk (blk_below Rg10.out hBn)
          replace Rg12 := Aside0.mk (blk_below Rg12.out hBn)
          replace Rg14 := Aside0.mk (blk_below Rg14.out hBn)
          have Rg16 := Aside0.mk (show (W8.alloc (.cells #[.int .i64 1, .int .u32 1, .int .i64 0] 51)).heap[W8.heap.size]? = some (.cells #[.int .i64 1, .int .u32 1, .int .i64 0] 51 (0, 0)) from heap_at _ _ _ rfl)
          clear hBn
          generalize (W8.alloc (.cells #[.int .i64 1, .int .u32 1, .int .i64 0] 51)) = W9 at O Rg4 Rg8 Rg10 Rg12 Rg14 Rg16 ⊢
          generalize W8.heap.size = g16 at Rg16 ⊢
          obtain ⟨⟨kg40, kg41, kg42⟩, _⟩ := know3 Rg4.out
          obtain ⟨⟨kg80, kg81, kg82⟩, _⟩ := know3 Rg8.out
          go_wp2_with (fail)
          go_at_call 16
          refine (Bin_calls O.out.pm 17 ⟨2, pv, pb⟩ ⟨2, q1, pb⟩ (.tuple #[V3.enc ⟨1, 1, 0⟩, .int .i64 0]) ⟨by rw [E7.out]; rfl⟩ ⟨HP.out, HQ.out⟩).mono ?_
          rintro e W10 ⟨rfl, hB1⟩
          simp only [V3.enc]
          have hBn := pm_chain (w := W9) (by (first | assumption | (repeat (first | (with_reducible exact Below.refl _ _) | (with_reducible assumption) | with_reducible apply below_alloc | with_reducible apply pw_below_drewN | with_reducible apply below_drew1)))) hB1
          replace O := Aside0.mk (O.out.grown hBn)
          replace Rg4 := Aside0.mk (blk_below Rg4.out hBn)
          replace Rg8 := Aside0.mk (blk_below Rg8.out hBn)
          replace Rg10 := Aside0.mk (blk_below Rg10.out hBn)
          replace Rg12 := Aside0.mk (blk_below Rg12.out hBn)
          replace Rg14 := Aside0.mk (blk_below Rg14.out hBn)
          replace Rg16 := Aside0.mk (blk_below Rg16.out hBn)
          clear hB1 hBn
          clear kg40 kg41 kg42 kg80 kg81 kg82
          go_upto_region 10 with (fail)
          have hBn : Below W10.heap.size W10 (W10.alloc (.cells #[.int .i64 1, .int .u32 1, .int .i64 0] 51)) := by (repeat (first | (with_reducible exact Below.refl _ _) | (with_reducible assumption) | with_reducible apply below_alloc | with_reducible apply pw_below_drewN | with_reducible apply below_drew1))
          replace O := Aside0.mk (O.out.grown hBn)
          replace Rg4 := Aside0.mk (blk_below Rg4.out hBn)
          replace Rg8 := Aside0.mk (blk_below Rg8.out hBn)
          replace Rg10 := Aside0.mk (blk_below Rg10.out hBn)
          replace Rg12 := Aside0.mk (blk_below Rg12.out hBn)
          replace Rg14 := Aside0.mk (blk_below Rg14.out hBn)
          replace Rg16 := Aside0.mk (blk_below Rg16.out hBn)
          have Rg18 := Aside0.mk (show (W10.alloc (.cells #[.int .i64 1, .int .u32 1, .int .i64 0] 51)).heap[W10.heap.size]? = some (.cells #[.int .i64 1, .int .u32 1, .int .i64 0] 51 (0, 0)) from heap_at _ _ _ rfl)
          clear hBn
          generalize (W10.alloc (.cells #[.int .i64 1, .int .u32 1, .int .i64 0] 51)) = W11 at O Rg4 Rg8 Rg10 Rg12 Rg14 Rg16 Rg18 ⊢
          generalize W10.heap.size = g18 at Rg18 ⊢
          obtain ⟨⟨kg80, kg81, kg82⟩, _⟩ := know3 Rg8.out
          go_wp2_with (fail)
          go_at_call 26
          refine (Truth_calls O.out.pm ⟨2, q1, pb⟩ HQ.out.1 HQ.out.2).mono ?_
          rintro e W12 ⟨rfl, hB1⟩
          rw [B6.out]
          simp only
          have hBn := pm_chain (w := W11) (by (first | assumption | (repeat (first | (with_reducible exact Below.refl _ _) | (with_reducible assumption) | with_reducible apply below_alloc | with_reducible apply pw_below_drewN | with_reducible apply below_drew1)))) hB1
          replace O := Aside0.mk (O.out.grown hBn)
          replace Rg4 := Aside0.mk (blk_below Rg4.out hBn)
          replace Rg8 := Aside0.mk (blk_below Rg8.out hBn)
          replace Rg10 := Aside0.mk (blk_below Rg10.out hBn)
          replace Rg12 := Aside0.mk (blk_below Rg12.out hBn)
          replace Rg14 := Aside0.mk (blk_below Rg14.out hBn)
          replace Rg16 := Aside0.mk (blk_below Rg16.out hBn)
          replace Rg18 := Aside0.mk (blk_below Rg18.out hBn)
          clear hB1 hBn
          clear kg80 kg81 kg82
          go_upto_region 11 with (fail)
          have ck := CK.out
          have cd := CD.out
          have ck2 : (k == 0) = false := beq_eq_false_iff_ne.2 ck
          have ck3 : decide (k = 0) = false := decide_eq_false ck
          go_wp2_with (fail)
          go_at_call 27
          refine (mortiseref01_Int.calls k d _ HI.out).mono ?_
          rintro e WI ⟨rfl, hD⟩
          obtain ⟨nk, rfl⟩ := hD.out
          have hBn : Below W12.heap.size W12 (W12.drewN nk) := by (repeat (first | (with_reducible exact Below.refl _ _) | (with_reducible assumption) | with_reducible apply below_alloc | with_reducible apply pw_below_drewN | with_reducible apply below_drew1))
          replace O := Aside0.mk (O.out.grown hBn)
          replace Rg4 := Aside0.mk (blk_below Rg4.out hBn)
          replace Rg8 := Aside0.mk (blk_below Rg8.out hBn)
          replace Rg10 := Aside0.mk (blk_below Rg10.out hBn)
          replace Rg12 := Aside0.mk (blk_below Rg12.out hBn)
          replace Rg14 := Aside0.mk (blk_below Rg14.out hBn)
          replace Rg16 := Aside0.mk (blk_below Rg16.out hBn)
          replace Rg18 := Aside0.mk (blk_below Rg18.out hBn)
          clear hBn
          generalize W12.drewN nk = W13 at O Rg4 Rg8 Rg10 Rg12 Rg14 Rg16 Rg18 ⊢
          go_upto_region 12 with (fail)
          obtain ⟨⟨kg40, kg41, kg42⟩, _⟩ := know3 Rg4.out
          obtain ⟨⟨kg80, kg81, kg82⟩, _⟩ := know3 Rg8.out
          obtain ⟨⟨kg100, kg101, kg102⟩, _⟩ := know3 Rg10.out
          obtain ⟨⟨kg120, kg121, kg122⟩, _⟩ := know3 Rg12.out
          obtain ⟨⟨kg140, kg141, kg142⟩, _⟩ := know3 Rg14.out
          obtain ⟨⟨kg160, kg161, kg162⟩, _⟩ := know3 Rg16.out
          obtain ⟨⟨kg180, kg181, kg182⟩, _⟩ := know3 Rg18.out
          go_region_held3 (fun w' => (w'.cell? ⟨g4, 0, none⟩ = some (.int .i64 2) ∧ w'.cell? ⟨g4, 1, none⟩ = some (.int .u32 pv) ∧ w'.cell? ⟨g4, 2, none⟩ = some (.int .i64 pb)) ∧ (w'.cell? ⟨g10, 0, none⟩ = some (.int .i64 2) ∧ w'.cell? ⟨g10, 1, none⟩ = some (.int .u32 pv) ∧ w'.cell? ⟨g10, 2, none⟩ = some (.int .i64 pb)) ∧ (w'.cell? ⟨g12, 0, none⟩ = some (.int .i64 1) ∧ w'.cell? ⟨g12, 1, none⟩ = some (.int .u32 k) ∧ w'.cell? ⟨g12, 2, none⟩ = some (.int .i64 0)) ∧ (w'.cell? ⟨g14, 0, none⟩ = some (.int .i64 1) ∧ w'.cell? ⟨g14, 1, none⟩ = some (.int .u32 0) ∧ w'.cell? ⟨g14, 2, none⟩ = some (.int .i64 0)) ∧ (w'.cell? ⟨g16, 0, none⟩ = some (.int .i64 1) ∧ w'.cell? ⟨g16, 1, none⟩ = some (.int .u32 1) ∧ w'.cell? ⟨g16, 2, none⟩ = some (.int .i64 0)) ∧ (w'.cell? ⟨g18, 0, none⟩ = some (.int .i64 1) ∧ w'.cell? ⟨g18, 1, none⟩ = some (.int .u32 1) ∧ w'.cell? ⟨g18, 2, none⟩ = some (.int .i64 0))) (exact ⟨⟨pw_cell_below (by (repeat (first | (with_reducible exact Below.refl _ _) | (with_reducible assumption) | with_reducible apply below_alloc | with_reducible apply pw_below_drewN | with_reducible apply below_drew1)); done) kg40, pw_cell_below (by (repeat (first | (with_reducible exact Below.refl _ _) | (with_reducible assumption) | with_reducible apply below_alloc | with_reducible apply pw_below_drewN | with_reducible apply below_drew1)); done) kg41, pw_cell_below (by (repeat (first | (with_reducible exact Below.refl _ _) | (with_reducible assumption) | with_reducible apply below_alloc | with_reducible apply pw_below_drewN | with_reducible apply below_drew1)); done) kg42⟩, ⟨pw_cell_below (by (repeat (first | (with_reducible exact Below.refl _ _) | (with_reducible assumption) | with_reducible apply below_alloc | with_reducible apply pw_below_drewN | with_reducible apply below_drew1)); done) kg100, pw_cell_below (by (repeat (first | (with_reducible exact Below.refl _ _) | (with_reducible assumption) | with_reducible apply below_alloc | with_reducible apply pw_below_drewN | with_reducible apply below_drew1)); done) kg101, pw_cell_below (by (repeat (first | (with_reducible exact Below.refl _ _) | (with_reducible assumption) | with_reducible apply below_alloc | with_reducible apply pw_below_drewN | with_reducible apply below_drew1)); done) kg102⟩, ⟨pw_cell_below (by (repeat (first | (with_reducible exact Below.refl _ _) | (with_reducible assumption) | with_reducible apply below_alloc | with_reducible apply pw_below_drewN | with_reducible apply below_drew1)); done) kg120, pw_cell_below (by (repeat (first | (with_reducible exact Below.refl _ _) | (with_reducible assumption) | with_reducible apply below_alloc | with_reducible apply pw_below_drewN | with_reducible apply below_drew1)); done) kg121, pw_cell_below (by (repeat (first | (with_reducible exact Below.refl _ _) | (with_reducible assumption) | with_reducible apply below_alloc | with_reducible apply pw_below_drewN | with_reducible apply below_drew1)); done) kg122⟩, ⟨pw_cell_below (by (repeat (first | (with_reducible exact Below.refl _ _) | (with_reducible assumption) | with_reducible apply below_alloc | with_reducible apply pw_below_drewN | with_reducible apply below_drew1)); done) kg140, pw_cell_below (by (repeat (first | (with_reducible exact Below.refl _ _) | (with_reducible assumption) | with_reducible apply below_alloc | with_reducible apply pw_below_drewN | with_reducible apply below_drew1)); done) kg141, pw_cell_below (by (repeat (first | (with_reducible exact Below.refl _ _) | (with_reducible assumption) | with_reducible apply below_alloc | with_reducible apply pw_below_drewN | with_reducible apply below_drew1)); done) kg142⟩, ⟨pw_cell_below (by (repeat (first | (with_reducible exact Below.refl _ _) | (with_reducible assumption) | with_reducible apply below_alloc | with_reducible apply pw_below_drewN | with_reducible apply below_drew1)); done) kg160, pw_cell_below (by (repeat (first | (with_reducible exact Below.refl _ _) | (with_reducible assumption) | with_reducible apply below_alloc | with_reducible apply pw_below_drewN | with_reducible apply below_drew1)); done) kg161, pw_cell_below (by (repeat (first | (with_reducible exact Below.refl _ _) | (with_reducible assumption) | with_reducible apply below_alloc | with_reducible apply pw_below_drewN | with_reducible apply below_drew1)); done) kg162⟩, ⟨pw_cell_below (by (repeat (first | (with_reducible exact Below.refl _ _) | (with_reducible assumption) | with_reducible apply below_alloc | with_reducible apply pw_below_drewN | with_reducible apply below_drew1)); done) kg180, pw_cell_below (by (repeat (first | (with_reducible exact Below.refl _ _) | (with_reducible assumption) | with_reducible apply below_alloc | with_reducible apply pw_below_drewN | with_reducible apply below_drew1)); done) kg181, pw_cell_below (by (repeat (first | (with_reducible exact Below.refl _ _) | (with_reducible assumption) | with_reducible apply below_alloc | with_reducible apply pw_below_drewN | with_reducible apply below_drew1)); done) kg182⟩⟩) (first | (go_at_call 18; refine (mortiseref11_Num.calls _ 1 _ 0 _ rfl).mono ?_; rintro e WX ⟨rfl, hB1⟩; have hBc := pm_chain (w := W13) (by first | assumption | (repeat (first | (with_reducible exact Below.refl _ _) | (with_reducible assumption) | with_reducible apply below_alloc | with_reducible apply pw_below_drewN | with_reducible apply below_drew1))) hB1; clear hB1) | (go_at_call 17; refine (heads_calls _).mono ?_; rintro e WX ⟨rfl, hB1⟩; have hBc := pm_chain (w := W13) (by first | assumption | (repeat (first | (with_reducible exact Below.refl _ _) | (with_reducible assumption) | with_reducible apply below_alloc | with_reducible apply pw_below_drewN | with_reducible apply below_drew1))) hB1; clear hB1))
          all_goals (go_wp2_with (fail))
          all_goals go_ret
          all_goals exact ⟨rfl, (O.out.grown (by first | assumption | (repeat (first | (with_reducible exact Below.refl _ _) | (with_reducible assumption) | with_reducible apply below_alloc | with_reducible apply pw_below_drewN | with_reducible apply below_drew1)))).below⟩
        · have E3 := Aside0.mk (show binF L 14 ⟨2, pv, pb⟩ ⟨2, q1, pb⟩ = (⟨1, 0, 0⟩, 0) by rw [B3.out, beq_eq_false_iff_ne.2 ck]; rfl)
          have E4 := Aside0.mk (show binF L 15 ⟨2, pv, pb⟩ ⟨2, q1, pb⟩ = (⟨1, 1, 0⟩, 0) by rw [B4.out, beq_eq_false_iff_ne.2 ck]; rfl)
          have E7 := Aside0.mk (show binF L 17 ⟨2, pv, pb⟩ ⟨2, q1, pb⟩ = (⟨1, 0, 0⟩, 0) by rw [B7.out, decide_eq_false (by omega : ¬ 0 < d)]; rfl)
          have HI := Aside0.mk (show mortiseref01_Int.f k = some d by rw [HD.out]; have := HK.out; exact int_f this.1 this.2)
          clear B3 B4 B7 HD
          have CK := Aside0.mk ck
          have CD := Aside0.mk cd
          clear ck cd
          obtain ⟨⟨kg40, kg41, kg42⟩, _⟩ := know3 Rg4.out
          obtain ⟨⟨kg80, kg81, kg82⟩, _⟩ := know3 Rg8.out
          go_wp2_with (fail)
          go_at_call 16
          refine (Bin_calls O.out.pm 14 ⟨2, pv, pb⟩ ⟨2, q1, pb⟩ (.tuple #[V3.enc ⟨1, 0, 0⟩, .int .i64 0]) ⟨by rw [E3.out]; rfl⟩ ⟨HP.out, HQ.out⟩).mono ?_
          rintro e W6 ⟨rfl, hB1⟩
          simp only [V3.enc]
          have hBn := pm_chain (w := W5) (by (first | assumption | (repeat (first | (with_reducible exact Below.refl _ _) | (with_reducible assumption) | with_reducible apply below_alloc | with_reducible apply pw_below_drewN | with_reducible apply below_drew1)))) hB1
          replace O := Aside0.mk (O.out.grown hBn)
          replace Rg4 := Aside0.mk (blk_below Rg4.out hBn)
          replace Rg8 := Aside0.mk (blk_below Rg8.out hBn)
          replace Rg10 := Aside0.mk (blk_below Rg10.out hBn)
          replace Rg12 := Aside0.mk (blk_below Rg12.out hBn)
          clear hB1 hBn
          clear kg40 kg41 kg42 kg80 kg81 kg82
          go_upto_region 8 with (fail)
          have hBn : Below W6.heap.size W6 (W6.alloc (.cells #[.int .i64 1, .int .u32 0, .int .i64 0] 51)) := by (repeat (first | (with_reducible exact Below.refl _ _) | (with_reducible assumption) | with_reducible apply below_alloc | with_reducible apply pw_below_drewN | with_reducible apply below_drew1))
          replace O := Aside0.mk (O.out.grown hBn)
          replace Rg4 := Aside0.mk (blk_below Rg4.out hBn)
          replace Rg8 := Aside0.mk (blk_below Rg8.out hBn)
          replace Rg10 := Aside0.mk (blk_below Rg10.out hBn)
          replace Rg12 := Aside0.mk (blk_below Rg12.out hBn)
          have Rg14 := Aside0.mk (show (W6.alloc (.cells #[.int .i64 1, .int .u32 0, .int .i64 0] 51)).heap[W6.heap.size]? = some (.cells #[.int .i64 1, .int .u32 0, .int .i64 0] 51 (0, 0)) from heap_at _ _ _ rfl)
          clear hBn
          generalize (W6.alloc (.cells #[.int .i64 1, .int .u32 0, .int .i64 0] 51)) = W7 at O Rg4 Rg8 Rg10 Rg12 Rg14 ⊢
          generalize W6.heap.size = g14 at Rg14 ⊢
          obtain ⟨⟨kg40, kg41, kg42⟩, _⟩ := know3 Rg4.out
          obtain ⟨⟨kg80, kg81, kg82⟩, _⟩ := know3 Rg8.out
          go_wp2_with (fail)
          go_at_call 16
          refine (Bin_calls O.out.pm 15 ⟨2, pv, pb⟩ ⟨2, q1, pb⟩ (.tuple #[V3.enc ⟨1, 1, 0⟩, .int .i64 0]) ⟨by rw [E4.out]; rfl⟩ ⟨HP.out, HQ.out⟩).mono ?_
          rintro e W8 ⟨rfl, hB1⟩
          simp only [V3.enc]
          have hBn := pm_chain (w := W7) (by (first | assumption | (repeat (first | (with_reducible exact Below.refl _ _) | (with_reducible assumption) | with_reducible apply below_alloc | with_reducible apply pw_below_drewN | with_reducible apply below_drew1)))) hB1
          replace O := Aside0.mk (O.out.grown hBn)
          replace Rg4 := Aside0.mk (blk_below Rg4.out hBn)
          replace Rg8 := Aside0.mk (blk_below Rg8.out hBn)
          replace Rg10 := Aside0.mk (blk_below Rg10.out hBn)
          replace Rg12 := Aside0.mk (blk_below Rg12.out hBn)
          replace Rg14 := Aside0.mk (blk_below Rg14.out hBn)
          clear hB1 hBn
          clear kg40 kg41 kg42 kg80 kg81 kg82
          go_upto_region 9 with (fail)
          have hBn : Below W8.heap.size W8 (W8.alloc (.cells #[.int .i64 1, .int .u32 1, .int .i64 0] 51)) := by (repeat (first | (with_reducible exact Below.refl _ _) | (with_reducible assumption) | with_reducible apply below_alloc | with_reducible apply pw_below_drewN | with_reducible apply below_drew1))
          replace O := Aside0.mk (O.out.grown hBn)
          replace Rg4 := Aside0.mk (blk_below Rg4.out hBn)
          replace Rg8 := Aside0.mk (blk_below Rg8.out hBn)
          replace Rg10 := Aside0.mk (blk_below Rg10.out hBn)
          replace Rg12 := Aside0.mk (blk_below Rg12.out hBn)
          replace Rg14 := Aside0.mk (blk_below Rg14.out hBn)
          have Rg16 := Aside0.mk (show (W8.alloc (.cells #[.int .i64 1, .int .u32 1, .int .i64 0] 51)).heap[W8.heap.size]? = some (.cells #[.int .i64 1, .int .u32 1, .int .i64 0] 51 (0, 0)) from heap_at _ _ _ rfl)
          clear hBn
          generalize (W8.alloc (.cells #[.int .i64 1, .int .u32 1, .int .i64 0] 51)) = W9 at O Rg4 Rg8 Rg10 Rg12 Rg14 Rg16 ⊢
          generalize W8.heap.size = g16 at Rg16 ⊢
          obtain ⟨⟨kg40, kg41, kg42⟩, _⟩ := know3 Rg4.out
          obtain ⟨⟨kg80, kg81, kg82⟩, _⟩ := know3 Rg8.out
          go_wp2_with (fail)
          go_at_call 16
          refine (Bin_calls O.out.pm 17 ⟨2, pv, pb⟩ ⟨2, q1, pb⟩ (.tuple #[V3.enc ⟨1, 0, 0⟩, .int .i64 0]) ⟨by rw [E7.out]; rfl⟩ ⟨HP.out, HQ.out⟩).mono ?_
          rintro e W10 ⟨rfl, hB1⟩
          simp only [V3.enc]
          have hBn := pm_chain (w := W9) (by (first | assumption | (repeat (first | (with_reducible exact Below.refl _ _) | (with_reducible assumption) | with_reducible apply below_alloc | with_reducible apply pw_below_drewN | with_reducible apply below_drew1)))) hB1
          replace O := Aside0.mk (O.out.grown hBn)
          replace Rg4 := Aside0.mk (blk_below Rg4.out hBn)
          replace Rg8 := Aside0.mk (blk_below Rg8.out hBn)
          replace Rg10 := Aside0.mk (blk_below Rg10.out hBn)
          replace Rg12 := Aside0.mk (blk_below Rg12.out hBn)
          replace Rg14 := Aside0.mk (blk_below Rg14.out hBn)
          replace Rg16 := Aside0.mk (blk_below Rg16.out hBn)
          clear hB1 hBn
          clear kg40 kg41 kg42 kg80 kg81 kg82
          go_upto_region 10 with (fail)
          have hBn : Below W10.heap.size W10 (W10.alloc (.cells #[.int .i64 1, .int .u32 0, .int .i64 0] 51)) := by (repeat (first | (with_reducible exact Below.refl _ _) | (with_reducible assumption) | with_reducible apply below_alloc | with_reducible apply pw_below_drewN | with_reducible apply below_drew1))
          replace O := Aside0.mk (O.out.grown hBn)
          replace Rg4 := Aside0.mk (blk_below Rg4.out hBn)
          replace Rg8 := Aside0.mk (blk_below Rg8.out hBn)
          replace Rg10 := Aside0.mk (blk_below Rg10.out hBn)
          replace Rg12 := Aside0.mk (blk_below Rg12.out hBn)
          replace Rg14 := Aside0.mk (blk_below Rg14.out hBn)
          replace Rg16 := Aside0.mk (blk_below Rg16.out hBn)
          have Rg18 := Aside0.mk (show (W10.alloc (.cells #[.int .i64 1, .int .u32 0, .int .i64 0] 51)).heap[W10.heap.size]? = some (.cells #[.int .i64 1, .int .u32 0, .int .i64 0] 51 (0, 0)) from heap_at _ _ _ rfl)
          clear hBn
          generalize (W10.alloc (.cells #[.int .i64 1, .int .u32 0, .int .i64 0] 51)) = W11 at O Rg4 Rg8 Rg10 Rg12 Rg14 Rg16 Rg18 ⊢
          generalize W10.heap.size = g18 at Rg18 ⊢
          obtain ⟨⟨kg80, kg81, kg82⟩, _⟩ := know3 Rg8.out
          go_wp2_with (fail)
          go_at_call 26
          refine (Truth_calls O.out.pm ⟨2, q1, pb⟩ HQ.out.1 HQ.out.2).mono ?_
          rintro e W12 ⟨rfl, hB1⟩
          rw [B6.out]
          simp only
          have hBn := pm_chain (w := W11) (by (first | assumption | (repeat (first | (with_reducible exact Below.refl _ _) | (with_reducible assumption) | with_reducible apply below_alloc | with_reducible apply pw_below_drewN | with_reducible apply below_drew1)))) hB1
          replace O := Aside0.mk (O.out.grown hBn)
          replace Rg4 := Aside0.mk (blk_below Rg4.out hBn)
          replace Rg8 := Aside0.mk (blk_below Rg8.out hBn)
          replace Rg10 := Aside0.mk (blk_below Rg10.out hBn)
          replace Rg12 := Aside0.mk (blk_below Rg12.out hBn)
          replace Rg14 := Aside0.mk (blk_below Rg14.out hBn)
          replace Rg16 := Aside0.mk (blk_below Rg16.out hBn)
          replace Rg18 := Aside0.mk (blk_below Rg18.out hBn)
          clear hB1 hBn
          clear kg80 kg81 kg82
          go_upto_region 11 with (fail)
          have ck := CK.out
          have cd := CD.out
          have ck2 : (k == 0) = false := beq_eq_false_iff_ne.2 ck
          have ck3 : decide (k = 0) = false := decide_eq_false ck
          have cd2 : ¬ 0 < d := by omega
          have cd3 : decide (0 < d) = false := decide_eq_false cd2
          go_wp2_with (fail)
          go_at_call 27
          refine (mortiseref01_Int.calls k d _ HI.out).mono ?_
          rintro e WI ⟨rfl, hD⟩
          obtain ⟨nk, rfl⟩ := hD.out
          have hBn : Below W12.heap.size W12 (W12.drewN nk) := by (repeat (first | (with_reducible exact Below.refl _ _) | (with_reducible assumption) | with_reducible apply below_alloc | with_reducible apply pw_below_drewN | with_reducible apply below_drew1))
          replace O := Aside0.mk (O.out.grown hBn)
          replace Rg4 := Aside0.mk (blk_below Rg4.out hBn)
          replace Rg8 := Aside0.mk (blk_below Rg8.out hBn)
          replace Rg10 := Aside0.mk (blk_below Rg10.out hBn)
          replace Rg12 := Aside0.mk (blk_below Rg12.out hBn)
          replace Rg14 := Aside0.mk (blk_below Rg14.out hBn)
          replace Rg16 := Aside0.mk (blk_below Rg16.out hBn)
          replace Rg18 := Aside0.mk (blk_below Rg18.out hBn)
          clear hBn
          generalize W12.drewN nk = W13 at O Rg4 Rg8 Rg10 Rg12 Rg14 Rg16 Rg18 ⊢
          go_upto_region 12 with (fail)
          obtain ⟨⟨kg40, kg41, kg42⟩, _⟩ := know3 Rg4.out
          obtain ⟨⟨kg80, kg81, kg82⟩, _⟩ := know3 Rg8.out
          obtain ⟨⟨kg100, kg101, kg102⟩, _⟩ := know3 Rg10.out
          obtain ⟨⟨kg120, kg121, kg122⟩, _⟩ := know3 Rg12.out
          obtain ⟨⟨kg140, kg141, kg142⟩, _⟩ := know3 Rg14.out
          obtain ⟨⟨kg160, kg161, kg162⟩, _⟩ := know3 Rg16.out
          obtain ⟨⟨kg180, kg181, kg182⟩, _⟩ := know3 Rg18.out
          go_region_held3 (fun w' => (w'.cell? ⟨g4, 0, none⟩ = some (.int .i64 2) ∧ w'.cell? ⟨g4, 1, none⟩ = some (.int .u32 pv) ∧ w'.cell? ⟨g4, 2, none⟩ = some (.int .i64 pb)) ∧ (w'.cell? ⟨g10, 0, none⟩ = some (.int .i64 2) ∧ w'.cell? ⟨g10, 1, none⟩ = some (.int .u32 pv) ∧ w'.cell? ⟨g10, 2, none⟩ = some (.int .i64 pb)) ∧ (w'.cell? ⟨g12, 0, none⟩ = some (.int .i64 1) ∧ w'.cell? ⟨g12, 1, none⟩ = some (.int .u32 k) ∧ w'.cell? ⟨g12, 2, none⟩ = some (.int .i64 0)) ∧ (w'.cell? ⟨g14, 0, none⟩ = some (.int .i64 1) ∧ w'.cell? ⟨g14, 1, none⟩ = some (.int .u32 0) ∧ w'.cell? ⟨g14, 2, none⟩ = some (.int .i64 0)) ∧ (w'.cell? ⟨g16, 0, none⟩ = some (.int .i64 1) ∧ w'.cell? ⟨g16, 1, none⟩ = some (.int .u32 1) ∧ w'.cell? ⟨g16, 2, none⟩ = some (.int .i64 0)) ∧ (w'.cell? ⟨g18, 0, none⟩ = some (.int .i64 1) ∧ w'.cell? ⟨g18, 1, none⟩ = some (.int .u32 0) ∧ w'.cell? ⟨g18, 2, none⟩ = some (.int .i64 0))) (exact ⟨⟨pw_cell_below (by (repeat (first | (with_reducible exact Below.refl _ _) | (with_reducible assumption) | with_reducible apply below_alloc | with_reducible apply pw_below_drewN | with_reducible apply below_drew1)); done) kg40, pw_cell_below (by (repeat (first | (with_reducible exact Below.refl _ _) | (with_reducible assumption) | with_reducible apply below_alloc | with_reducible apply pw_below_drewN | with_reducible apply below_drew1)); done) kg41, pw_cell_below (by (repeat (first | (with_reducible exact Below.refl _ _) | (with_reducible assumption) | with_reducible apply below_alloc | with_reducible apply pw_below_drewN | with_reducible apply below_drew1)); done) kg42⟩, ⟨pw_cell_below (by (repeat (first | (with_reducible exact Below.refl _ _) | (with_reducible assumption) | with_reducible apply below_alloc | with_reducible apply pw_below_drewN | with_reducible apply below_drew1)); done) kg100, pw_cell_below (by (repeat (first | (with_reducible exact Below.refl _ _) | (with_reducible assumption) | with_reducible apply below_alloc | with_reducible apply pw_below_drewN | with_reducible apply below_drew1)); done) kg101, pw_cell_below (by (repeat (first | (with_reducible exact Below.refl _ _) | (with_reducible assumption) | with_reducible apply below_alloc | with_reducible apply pw_below_drewN | with_reducible apply below_drew1)); done) kg102⟩, ⟨pw_cell_below (by (repeat (first | (with_reducible exact Below.refl _ _) | (with_reducible assumption) | with_reducible apply below_alloc | with_reducible apply pw_below_drewN | with_reducible apply below_drew1)); done) kg120, pw_cell_below (by (repeat (first | (with_reducible exact Below.refl _ _) | (with_reducible assumption) | with_reducible apply below_alloc | with_reducible apply pw_below_drewN | with_reducible apply below_drew1)); done) kg121, pw_cell_below (by (repeat (first | (with_reducible exact Below.refl _ _) | (with_reducible assumption) | with_reducible apply below_alloc | with_reducible apply pw_below_drewN | with_reducible apply below_drew1)); done) kg122⟩, ⟨pw_cell_below (by (repeat (first | (with_reducible exact Below.refl _ _) | (with_reducible assumption) | with_reducible apply below_alloc | with_reducible apply pw_below_drewN | with_reducible apply below_drew1)); done) kg140, pw_cell_below (by (repeat (first | (with_reducible exact Below.refl _ _) | (with_reducible assumption) | with_reducible apply below_alloc | with_reducible apply pw_below_drewN | with_reducible apply below_drew1)); done) kg141, pw_cell_below (by (repeat (first | (with_reducible exact Below.refl _ _) | (with_reducible assumption) | with_reducible apply below_alloc | with_reducible apply pw_below_drewN | with_reducible apply below_drew1)); done) kg142⟩, ⟨pw_cell_below (by (repeat (first | (with_reducible exact Below.refl _ _) | (with_reducible assumption) | with_reducible apply below_alloc | with_reducible apply pw_below_drewN | with_reducible apply below_drew1)); done) kg160, pw_cell_below (by (repeat (first | (with_reducible exact Below.refl _ _) | (with_reducible assumption) | with_reducible apply below_alloc | with_reducible apply pw_below_drewN | with_reducible apply below_drew1)); done) kg161, pw_cell_below (by (repeat (first | (with_reducible exact Below.refl _ _) | (with_reducible assumption) | with_reducible apply below_alloc | with_reducible apply pw_below_drewN | with_reducible apply below_drew1)); done) kg162⟩, ⟨pw_cell_below (by (repeat (first | (with_reducible exact Below.refl _ _) | (with_reducible assumption) | with_reducible apply below_alloc | with_reducible apply pw_below_drewN | with_reducible apply below_drew1)); done) kg180, pw_cell_below (by (repeat (first | (with_reducible exact Below.refl _ _) | (with_reducible assumption) | with_reducible apply below_alloc | with_reducible apply pw_below_drewN | with_reducible apply below_drew1)); done) kg181, pw_cell_below (by (repeat (first | (with_reducible exact Below.refl _ _) | (with_reducible assumption) | with_reducible apply below_alloc | with_reducible apply pw_below_drewN | with_reducible apply below_drew1)); done) kg182⟩⟩) (first | (go_at_call 18; refine (mortiseref11_Num.calls _ 1 _ 0 _ rfl).mono ?_; rintro e WX ⟨rfl, hB1⟩; have hBc := pm_chain (w := W13) (by first | assumption | (repeat (first | (with_reducible exact Below.refl _ _) | (with_reducible assumption) | with_reducible apply below_alloc | with_reducible apply pw_below_drewN | with_reducible apply below_drew1))) hB1; clear hB1) | (go_at_call 17; refine (heads_calls _).mono ?_; rintro e WX ⟨rfl, hB1⟩; have hBc := pm_chain (w := W13) (by first | assumption | (repeat (first | (with_reducible exact Below.refl _ _) | (with_reducible assumption) | with_reducible apply below_alloc | with_reducible apply pw_below_drewN | with_reducible apply below_drew1))) hB1; clear hB1))
          all_goals (go_wp2_with (fail))
          all_goals go_ret
          all_goals exact ⟨rfl, (O.out.grown (by first | assumption | (repeat (first | (with_reducible exact Below.refl _ _) | (with_reducible assumption) | with_reducible apply below_alloc | with_reducible apply pw_below_drewN | with_reducible apply below_drew1)))).below⟩
    · by_cases c1 : q3 = 0
      · subst c1
        have cp : ¬ pk = 2 := fun h => cq ⟨rfl, h⟩
        clear cq
        go_wp2_with (fail)
        go_at_call 17
        refine (heads_calls _).mono ?_
        rintro e WE ⟨rfl, hB⟩
        have HB2 := Aside0.mk (pm_chain (w := w) (O.out.grown (by (first | assumption | (repeat (first | (with_reducible exact Below.refl _ _) | (with_reducible assumption) | with_reducible apply below_alloc | with_reducible apply pw_below_drewN | with_reducible apply below_drew1))))).below hB)
        clear hB
        clear kg40 kg41 kg42
        go_wp2_with (fail)
        go_ret
        exact ⟨rfl, HB2.out⟩
      · clear cq
        go_wp2_with (fail)
        go_at_call 17
        refine (heads_calls _).mono ?_
        rintro e WE ⟨rfl, hB⟩
        have HB2 := Aside0.mk (pm_chain (w := w) (O.out.grown (by (first | assumption | (repeat (first | (with_reducible exact Below.refl _ _) | (with_reducible assumption) | with_reducible apply below_alloc | with_reducible apply pw_below_drewN | with_reducible apply below_drew1))))).below hB)
        clear hB
        clear kg40 kg41 kg42
        go_wp2_with (fail)
        go_ret
        exact ⟨rfl, HB2.out⟩
end Go.Proofs.Ythdnhfjodhjejaa.Ma
