/- The law MemoryBack's walk: what is stored is loaded, and no other byte is changed; what is copied is loaded. No condition beyond those each theorem names. -/
import Derived.Test.YthdnhfjodhjejaaRz
namespace Go.Proofs.Ythdnhfjodhjejaa.Ma
open Go.RowKit Go.Proofs.Ythdnhfjodhjejaa.PMe Go.Proofs.YthdnhfjodhjejaaW.PrintWords Go.Proofs.YthdnhfjodhjejaaW.PrintLast Go.Proofs.YthdnhfjodhjejaaW.PrintMore
set_option linter.unusedVariables false
set_option linter.unusedSimpArgs false
variable {w W W1 : World}
variable {m mm : Nat} {last last' : Int} {L L' : List Rec} {base : Nat} {v : Value} {xs : List S66}
theorem sub_put {cs l : List S66} {i n : Nat} (hl : l.length = n) (h : i + n ≤ cs.length) : sub (put cs i l) i n = l := by
  have hpl : (put cs i l).length = cs.length := put_len (by omega)
  apply List.ext_getElem?
  intro q
  by_cases hq : q < n
  · rw [sub_get _ _ _ _ hq, put_get (by omega), if_pos (by omega)]
    congr 1; omega
  · rw [List.getElem?_eq_none (by rw [sub_len (by omega)]; omega), List.getElem?_eq_none (by omega)]
theorem put_rd {cs l : List S66} {i n : Nat} (hl : l.length = n) (h : i + n ≤ cs.length) (j : Nat) (hj : ¬ (i ≤ j ∧ j < i + n)) : rd_T66 (put cs i l) (j : Int) = rd_T66 cs (j : Int) := by
  rw [rd_get, rd_get, put_get (by omega), if_neg (by omega)]
theorem and_all (v : Int) (h0 : 0 ≤ v) (h1 : v < 4294967296) : bits .and .u32 v 4294967295 = v := by
  have h : bits .and .u32 v 4294967295 = v % 4294967296 := bits_mask .u32 32 (by decide) Go.Proofs.Ythdnhfjodhjejaa.La.wraps_u32 32 (by decide) v h0 h1
  rw [h]; omega
set_option maxHeartbeats 40000000 in
set_option maxRecDepth 100000 in
theorem MemoryBack_calls (A : Option Addr) (cap : Nat) (xs : List Act1) (hs : Script w A xs) (hl : xs.length < 1759218604441) (p : V3) (n : Int) (v q : V3) (hp : 0 ≤ p.v ∧ p.v < 4294967296) (hn : -9223372036854775808 ≤ n ∧ n < 9223372036854775808) (hv : 0 ≤ v.v ∧ v.v < 4294967296) (hq : 0 ≤ q.v ∧ q.v < 4294967296) : Calls Try.prog 7 #[.slice A xs.length cap, p.enc, .int .i64 n, v.enc, q.enc] w fun e w' => e = .returned (.bool true) ∧ Below w.heap.size w w' := by
  have hu51 := Try.underlying51
  have hu66 := Try.underlying66
  obtain ⟨pk, pv, pb⟩ := p
  obtain ⟨vk, vv, vb⟩ := v
  obtain ⟨qk, qv, qb⟩ := q
  simp only at hp hq hv
  unfold V3.enc
  simp only
  have HS := Aside0.mk hs
  have HL := Aside0.mk hl
  have HP := Aside0.mk hp
  have HV := Aside0.mk hv
  have HQ := Aside0.mk hq
  have HNA := Aside0.mk hn
  obtain ⟨len, hlen⟩ : ∃ n, n = xs.length := ⟨_, rfl⟩
  rw [← hlen]
  have HN := Aside0.mk hlen
  clear hs hl hp hq hv hlen hn
  go_enter Try.func7, Try.ntmps7
  go_wp2_with (fail)
  have hB0 : Below w.heap.size w (((w.alloc (.cells #[.int .i64 pk, .int .u32 pv, .int .i64 pb] 51)).alloc (.cells #[.int .i64 vk, .int .u32 vv, .int .i64 vb] 51)).alloc (.cells #[.int .i64 qk, .int .u32 qv, .int .i64 qb] 51)) := by (repeat (first | (with_reducible exact Below.refl _ _) | (with_reducible assumption) | with_reducible apply below_alloc | with_reducible apply pw_below_drewN | with_reducible apply below_drew1))
  have Rg6 := Aside0.mk (show ((((w.alloc (.cells #[.int .i64 pk, .int .u32 pv, .int .i64 pb] 51)).alloc (.cells #[.int .i64 vk, .int .u32 vv, .int .i64 vb] 51)).alloc (.cells #[.int .i64 qk, .int .u32 qv, .int .i64 qb] 51))).heap[w.heap.size]? = some (.cells #[.int .i64 pk, .int .u32 pv, .int .i64 pb] 51 (0, 0)) from blk_alloc (blk_alloc (heap_at _ _ _ rfl) _) _)
  have Rg8 := Aside0.mk (show ((((w.alloc (.cells #[.int .i64 pk, .int .u32 pv, .int .i64 pb] 51)).alloc (.cells #[.int .i64 vk, .int .u32 vv, .int .i64 vb] 51)).alloc (.cells #[.int .i64 qk, .int .u32 qv, .int .i64 qb] 51))).heap[w.heap.size + 1]? = some (.cells #[.int .i64 vk, .int .u32 vv, .int .i64 vb] 51 (0, 0)) from blk_alloc (heap_at _ _ _ (by simp)) _)
  have Rg9 := Aside0.mk (show ((((w.alloc (.cells #[.int .i64 pk, .int .u32 pv, .int .i64 pb] 51)).alloc (.cells #[.int .i64 vk, .int .u32 vv, .int .i64 vb] 51)).alloc (.cells #[.int .i64 qk, .int .u32 qv, .int .i64 qb] 51))).heap[w.heap.size + 1 + 1]? = some (.cells #[.int .i64 qk, .int .u32 qv, .int .i64 qb] 51 (0, 0)) from heap_at _ _ _ (by simp))
  have B0 := Aside0.mk hB0
  have NF := Aside0.mk (show w.heap.size < ((((w.alloc (.cells #[.int .i64 pk, .int .u32 pv, .int .i64 pb] 51)).alloc (.cells #[.int .i64 vk, .int .u32 vv, .int .i64 vb] 51)).alloc (.cells #[.int .i64 qk, .int .u32 qv, .int .i64 qb] 51))).heap.size ∧ w.heap.size + 1 < ((((w.alloc (.cells #[.int .i64 pk, .int .u32 pv, .int .i64 pb] 51)).alloc (.cells #[.int .i64 vk, .int .u32 vv, .int .i64 vb] 51)).alloc (.cells #[.int .i64 qk, .int .u32 qv, .int .i64 qb] 51))).heap.size ∧ w.heap.size + 1 + 1 < ((((w.alloc (.cells #[.int .i64 pk, .int .u32 pv, .int .i64 pb] 51)).alloc (.cells #[.int .i64 vk, .int .u32 vv, .int .i64 vb] 51)).alloc (.cells #[.int .i64 qk, .int .u32 qv, .int .i64 qb] 51))).heap.size by simp; omega)
  clear hB0
  generalize (((w.alloc (.cells #[.int .i64 pk, .int .u32 pv, .int .i64 pb] 51)).alloc (.cells #[.int .i64 vk, .int .u32 vv, .int .i64 vb] 51)).alloc (.cells #[.int .i64 qk, .int .u32 qv, .int .i64 qb] 51)) = W0 at Rg6 Rg8 Rg9 B0 NF ⊢
  obtain ⟨g9, hg9⟩ : ∃ g, g = w.heap.size + 1 + 1 := ⟨_, rfl⟩
  rw [← hg9] at Rg9 NF ⊢
  obtain ⟨g8, hg8⟩ : ∃ g, g = w.heap.size + 1 := ⟨_, rfl⟩
  rw [← hg8] at Rg8 NF ⊢
  obtain ⟨g6, hg6⟩ : ∃ g, g = w.heap.size := ⟨_, rfl⟩
  rw [← hg6] at Rg6 NF ⊢
  clear hg6 hg8 hg9
  go_at_call 15
  rw [HN.out]
  refine (made_calls A cap xs (HS.out.below B0.out) HL.out).mono ?_
  rintro e W1 ⟨m, r, rfl, mm, last, L, sv, Bs, T, _, _⟩
  have O := Aside0.mk (show Own w W1 m mm last L from ⟨T.own.pm, pm_chain B0.out T.below, fun i hi => Nat.le_trans B0.out.size (T.own.new i hi)⟩)
  replace Rg6 := Aside0.mk (blk_below Rg6.out T.below)
  replace Rg8 := Aside0.mk (blk_below Rg8.out T.below)
  replace Rg9 := Aside0.mk (blk_below Rg9.out T.below)
  have NG := Aside0.mk (show g6 ∉ foot m mm L ∧ g8 ∉ foot m mm L ∧ g9 ∉ foot m mm L from ⟨fun h => absurd (T.own.new _ h) (by have := NF.out; omega), fun h => absurd (T.own.new _ h) (by have := NF.out; omega), fun h => absurd (T.own.new _ h) (by have := NF.out; omega)⟩)
  clear T HN HL HS B0 NF
  obtain ⟨cs1, e1, hA1⟩ : ∃ c e, cellsF L pb = (c, e) := ⟨_, _, rfl⟩
  have LN1 := Aside0.mk (show cs1.length ≤ 16384 by have := cells_len O.out.pm pb; rw [hA1] at this; exact this)
  have HA1 := Aside0.mk hA1
  clear hA1
  obtain ⟨⟨kg60, kg61, kg62⟩, _⟩ := know3 Rg6.out
  go_wp2_with (fail)
  have FT1 := Aside0.mk (show ∀ i ∈ foot m mm L, i < W1.heap.size from O.out.pm.foot_lt)
  go_at_call 19
  refine (Cells_calls O.out.pm pb).mono ?_
  rintro e W2 ⟨v1, rfl, hR, hB1⟩
  rw [HA1.out] at hR ⊢
  have H1 := Aside0.mk hR
  obtain ⟨A1, c1, e1, _, _⟩ := Kd.R_reads hR
  subst e1
  simp only
  replace O := Aside0.mk (O.out.grown hB1)
  replace Rg6 := Aside0.mk (blk_below Rg6.out hB1)
  replace Rg8 := Aside0.mk (blk_below Rg8.out hB1)
  replace Rg9 := Aside0.mk (blk_below Rg9.out hB1)
  clear hB1 hR
  clear kg60 kg61 kg62
  obtain ⟨⟨kg60, kg61, kg62⟩, _⟩ := know3 Rg6.out
  obtain ⟨⟨kg80, kg81, kg82⟩, _⟩ := know3 Rg8.out
  go_upto_region 3 with (fail)
  go_wp2_with (fail)
  go_at_call 24
  refine (Store_calls O.out.pm ⟨pk, pv, pb⟩ n ⟨vk, vv, vb⟩ HP.out.1 HP.out.2 HV.out.1 HV.out.2).mono ?_
  rintro e W3 ⟨rfl, d⟩
  replace H1 := Aside0.mk (R_ext H1.out FT1.out d.ext)
  replace Rg6 := Aside0.mk (d.ext.at Rg6.out NG.out.1)
  replace Rg8 := Aside0.mk (d.ext.at Rg8.out NG.out.2.1)
  replace Rg9 := Aside0.mk (d.ext.at Rg9.out NG.out.2.2)
  replace O := Aside0.mk (O.out.did d)
  clear d
  clear kg60 kg61 kg62 kg80 kg81 kg82
  rcases store_or (L := L) ⟨pk, pv, pb⟩ n ⟨vk, vv, vb⟩ HP.out.1 HV.out.1 HV.out.2 with hc | ⟨r1, l1, c1, c2, c3, c4, c5, c6, c7, c8, c9⟩
  · rw [hc] at O ⊢
    simp only at O ⊢
    clear hc
    obtain ⟨⟨kg60, kg61, kg62⟩, _⟩ := know3 Rg6.out
    go_upto_region 5 with (fail)
    go_wp2_with (fail)
    go_at_call 19
    refine (Cells_calls O.out.pm pb).mono ?_
    rintro e W4 ⟨v3, rfl, hR, hB1⟩
    rw [HA1.out] at hR ⊢
    have H3 := Aside0.mk hR
    obtain ⟨A3, c3, e3, _, _⟩ := Kd.R_reads hR
    subst e3
    simp only
    replace H1 := Aside0.mk (Kd.R_below H1.out hB1)
    replace O := Aside0.mk (O.out.grown hB1)
    replace Rg6 := Aside0.mk (blk_below Rg6.out hB1)
    replace Rg8 := Aside0.mk (blk_below Rg8.out hB1)
    replace Rg9 := Aside0.mk (blk_below Rg9.out hB1)
    clear hB1 hR
    clear kg60 kg61 kg62
    obtain ⟨A1', c1', q1, hc1, hC1⟩ := Kd.R_reads H1.out
    obtain ⟨A3', c3', q3, hc3, hC3⟩ := Kd.R_reads H3.out
    injection q1 with q11 _ q12
    injection q3 with q31 _ q32
    subst q11 q12 q31 q32
    have HSAME := Aside0.mk (mortiseref11_Same.calls 20000 _ _ cs1 _ _ cs1 true W4 hC1 hc1 hC3 hc3 (same_refl cs1 LN1.out))
    clear hC1 hc1 hC3 hc3
    go_wp2_with (fail)
    go_at_call 21
    refine HSAME.out.mono ?_
    rintro e WS ⟨rfl, ⟨nd, rfl⟩⟩
    go_wp2_with (fail)
    go_at_call 17
    refine (heads_calls _).mono ?_
    rintro e WE ⟨rfl, hB⟩
    have HB2 := Aside0.mk (pm_chain (w := w) (O.out.grown (by (first | assumption | (repeat (first | (with_reducible exact Below.refl _ _) | (with_reducible assumption) | with_reducible apply below_alloc | with_reducible apply pw_below_drewN | with_reducible apply below_drew1))))).below hB)
    clear hB
    go_wp2_with (fail)
    go_ret
    exact ⟨rfl, HB2.out⟩
  · simp only at c1 c2 c3 c4 c5 c6 c7 c8 c9
    rw [c7] at O ⊢
    simp only at O ⊢
    have e11 := (HA1.out.symm.trans (cells_of c1))
    simp only [Prod.mk.injEq] at e11
    obtain ⟨e11, rfl⟩ := e11
    obtain ⟨TV, hTV⟩ : ∃ V : Nat, pv = V := ⟨pv.toNat, by have := HP.out; omega⟩
    obtain ⟨NN, hNN⟩ : ∃ V : Nat, n = V := ⟨n.toNat, by omega⟩
    subst hTV hNN
    simp only [Int.toNat_natCast] at O c3 c7 c8
    obtain ⟨cs3, h3⟩ : ∃ c, c = put r1.cs TV l1 := ⟨_, rfl⟩
    rw [← h3] at O c8
    obtain ⟨⟨w0, w1, w2⟩, hw⟩ : ∃ x, wantF NN ⟨vk, vv, vb⟩ = x := ⟨_, rfl⟩
    rw [hw] at c6 c8
    have HLD := Aside0.mk c8
    have HLL := Aside0.mk c6
    have HW := Aside0.mk hw
    have HA3 := Aside0.mk (show cellsF (upd L r1.id cs3) pb = (cs3, 0) from cells_of (find_self c1 cs3))
    have HF3 := Aside0.mk (show findR (upd L r1.id cs3) pb = some { r1 with cs := cs3 } from find_self c1 cs3)
    have HS3 := Aside0.mk (show sub cs3 TV NN = l1 by rw [h3]; exact sub_put c3 (by omega))
    have l3 : cs3.length = cs1.length := by rw [h3, e11]; exact (put_len (by omega))
    have HRD := Aside0.mk (show ∀ j : Nat, ¬ (TV ≤ j ∧ j < TV + NN) → rd_T66 cs3 (j : Int) = rd_T66 cs1 (j : Int) by
      intro j hj
      rw [h3, e11]
      exact put_rd c3 (by omega) j hj)
    have HFT := Aside0.mk (show foot m mm (upd L r1.id cs3) = foot m mm L from upd_foot _ _ _)
    have B4 : TV + NN ≤ cs1.length := by rw [e11]; omega
    have HNN := Aside0.mk (show NN = 1 ∨ NN = 2 ∨ NN = 4 by omega)
    have HK := Aside0.mk c9
    have HB4 := Aside0.mk (And.intro B4 l3)
    have hnn : (NN : Int) = 1 ∨ (NN : Int) = 2 ∨ (NN : Int) = 4 := c2
    clear c1 c2 c3 c4 c5 c6 c7 c8 c9 e11 h3 HA1 HNA hw B4
    go_upto_region 7 with (fail)
    have HC2 := Aside0.mk hnn
    clear hnn
    go_cut [2, 71] from 25 (fun v2 v71 wc => v2 = .int .i64 NN ∧ v71 = .bool false ∧ wc = W3)
    case first =>
      rcases HC2.out with h | h | h
      all_goals (have HH := Aside0.mk h; rw [h]; clear h; go_wp2_with (fail))
      all_goals go_meet
      all_goals exact ⟨by rw [HH.out], rfl, rfl⟩
    obtain ⟨rfl, rfl, rfl⟩ := hcut
    go_upto_region 9 with (fail)
    obtain ⟨⟨kg60, kg61, kg62⟩, _⟩ := know3 Rg6.out
    go_wp2_with (fail)
    go_at_call 25
    refine (Load_calls O.out.pm ⟨pk, TV, pb⟩ NN false HP.out.1 HP.out.2).mono ?_
    rintro e W4 ⟨rfl, hB1⟩
    rw [HLD.out]
    simp only [V3.enc]
    replace O := Aside0.mk (O.out.grown hB1)
    replace Rg6 := Aside0.mk (blk_below Rg6.out hB1)
    replace Rg8 := Aside0.mk (blk_below Rg8.out hB1)
    replace Rg9 := Aside0.mk (blk_below Rg9.out hB1)
    replace H1 := Aside0.mk (Kd.R_below H1.out hB1)
    clear hB1
    clear kg60 kg61 kg62
    go_upto_region 10 with (fail)
    replace H1 := Aside0.mk (Kd.R_below H1.out (show Below W4.heap.size W4 (W4.alloc (.cells #[.int .i64 w0, .int .u32 w1, .int .i64 w2] 51)) by (repeat (first | (with_reducible exact Below.refl _ _) | (with_reducible assumption) | with_reducible apply below_alloc | with_reducible apply pw_below_drewN | with_reducible apply below_drew1))))
    have hBn : Below W4.heap.size W4 (W4.alloc (.cells #[.int .i64 w0, .int .u32 w1, .int .i64 w2] 51)) := by (repeat (first | (with_reducible exact Below.refl _ _) | (with_reducible assumption) | with_reducible apply below_alloc | with_reducible apply pw_below_drewN | with_reducible apply below_drew1))
    replace O := Aside0.mk (O.out.grown hBn)
    replace Rg6 := Aside0.mk (blk_below Rg6.out hBn)
    replace Rg8 := Aside0.mk (blk_below Rg8.out hBn)
    replace Rg9 := Aside0.mk (blk_below Rg9.out hBn)
    have Rg17 := Aside0.mk (show (W4.alloc (.cells #[.int .i64 w0, .int .u32 w1, .int .i64 w2] 51)).heap[W4.heap.size]? = some (.cells #[.int .i64 w0, .int .u32 w1, .int .i64 w2] 51 (0, 0)) from heap_at _ _ _ rfl)
    clear hBn
    generalize (W4.alloc (.cells #[.int .i64 w0, .int .u32 w1, .int .i64 w2] 51)) = W5 at H1 O Rg6 Rg8 Rg9 Rg17 ⊢
    generalize W4.heap.size = g17 at Rg17 ⊢
    obtain ⟨⟨kg80, kg81, kg82⟩, _⟩ := know3 Rg8.out
    go_upto_region 11 with (fail)
    have hBc : Below W5.heap.size W5 (W5.alloc (.cells #[.int .i64 vk, .int .u32 vv, .int .i64 vb] 51)) := by (repeat (first | (with_reducible exact Below.refl _ _) | (with_reducible assumption) | with_reducible apply below_alloc | with_reducible apply pw_below_drewN | with_reducible apply below_drew1))
    have Rg19 := Aside0.mk (show (W5.alloc (.cells #[.int .i64 vk, .int .u32 vv, .int .i64 vb] 51)).heap[W5.heap.size]? = some (.cells #[.int .i64 vk, .int .u32 vv, .int .i64 vb] 51 (0, 0)) from heap_at _ _ _ rfl)
    have m80 := pw_cell_below hBc kg80
    have m81 := pw_cell_below hBc kg81
    have m82 := pw_cell_below hBc kg82
    have HB0 := Aside0.mk hBc
    clear hBc
    clear kg80 kg81 kg82
    obtain ⟨g19, hg19⟩ : ∃ g, g = W5.heap.size := ⟨_, rfl⟩
    rw [← hg19] at Rg19 ⊢
    have HG19 := Aside0.mk hg19
    clear hg19
    generalize (W5.alloc (.cells #[.int .i64 vk, .int .u32 vv, .int .i64 vb] 51)) = WC at Rg19 m80 m81 m82 HB0 ⊢
    go_upto_if 82 with (fail)
    have HM := Aside0.mk (And.intro m80 (And.intro m81 m82))
    clear m80 m81 m82
    go_cut [2] from 25 (fun v2 wc => v2 = .int .i64 NN ∧ Aside0 (wc.heap[g19]? = some (.cells #[.int .i64 w0, .int .u32 w1, .int .i64 w2] 51 (0, 0))) ∧ Aside0 (Below W5.heap.size W5 wc))
    case first =>
      by_cases ck : vk = 1
      · subst ck
        obtain ⟨m80, m81, m82⟩ := HM.out
        rcases HNN.out with h | h | h
        · have HH := Aside0.mk (show (NN : Int) = 1 by omega)
          have e := HW.out
          unfold wantF at e
          rw [HH.out] at e
          simp at e
          obtain ⟨rfl, rfl, rfl⟩ := e
          rw [HH.out]
          clear h
          go_wp2_with (fail)
          rw [Go.Proofs.Ythdnhfjodhjejaa.La.and255 vv HV.out.1 HV.out.2]
          go_at_call 18
          refine (mortiseref11_Num.calls _ 1 _ 0 _ rfl).mono ?_
          rintro e WX ⟨rfl, hB1⟩
          have hBx := pm_chain HB0.out hB1
          have hgs : W5.heap.size ≤ g19 := Nat.le_of_eq HG19.out.symm
          have Rx := blk_below Rg19.out hB1
          obtain ⟨_, f0, f1, f2⟩ := know3 Rx
          clear m80 m81 m82 hB1
          go_wp2_with (fail)
          go_meet
          exact ⟨by rw [HH.out], ⟨put3 Rx _ _ _⟩, ⟨by (repeat (first | (with_reducible exact Below.refl _ _) | (with_reducible assumption) | with_reducible apply below_alloc | with_reducible apply pw_below_drewN | with_reducible apply below_drew1 | (refine below_set ?_ (by omega))))⟩⟩
        · have HH := Aside0.mk (show (NN : Int) = 2 by omega)
          have e := HW.out
          unfold wantF at e
          rw [HH.out] at e
          simp at e
          obtain ⟨rfl, rfl, rfl⟩ := e
          rw [HH.out]
          clear h
          go_wp2_with (fail)
          rw [Go.Proofs.Ythdnhfjodhjejaa.La.and65535 vv HV.out.1 HV.out.2]
          go_at_call 18
          refine (mortiseref11_Num.calls _ 1 _ 0 _ rfl).mono ?_
          rintro e WX ⟨rfl, hB1⟩
          have hBx := pm_chain HB0.out hB1
          have hgs : W5.heap.size ≤ g19 := Nat.le_of_eq HG19.out.symm
          have Rx := blk_below Rg19.out hB1
          obtain ⟨_, f0, f1, f2⟩ := know3 Rx
          clear m80 m81 m82 hB1
          go_wp2_with (fail)
          go_meet
          exact ⟨by rw [HH.out], ⟨put3 Rx _ _ _⟩, ⟨by (repeat (first | (with_reducible exact Below.refl _ _) | (with_reducible assumption) | with_reducible apply below_alloc | with_reducible apply pw_below_drewN | with_reducible apply below_drew1 | (refine below_set ?_ (by omega))))⟩⟩
        · have HH := Aside0.mk (show (NN : Int) = 4 by omega)
          have e := HW.out
          unfold wantF at e
          rw [HH.out] at e
          simp at e
          obtain ⟨rfl, rfl, rfl⟩ := e
          rw [HH.out]
          clear h
          go_wp2_with (fail)
          rw [and_all vv HV.out.1 HV.out.2]
          go_at_call 18
          refine (mortiseref11_Num.calls _ 1 _ 0 _ rfl).mono ?_
          rintro e WX ⟨rfl, hB1⟩
          have hBx := pm_chain HB0.out hB1
          have hgs : W5.heap.size ≤ g19 := Nat.le_of_eq HG19.out.symm
          have Rx := blk_below Rg19.out hB1
          obtain ⟨_, f0, f1, f2⟩ := know3 Rx
          clear m80 m81 m82 hB1
          go_wp2_with (fail)
          go_meet
          exact ⟨by rw [HH.out], ⟨put3 Rx _ _ _⟩, ⟨by (repeat (first | (with_reducible exact Below.refl _ _) | (with_reducible assumption) | with_reducible apply below_alloc | with_reducible apply pw_below_drewN | with_reducible apply below_drew1 | (refine below_set ?_ (by omega))))⟩⟩
      · have e := HW.out
        unfold wantF at e
        simp [ck] at e
        obtain ⟨rfl, rfl, rfl⟩ := e
        obtain ⟨m80, m81, m82⟩ := HM.out
        have ck2 : (vk == 1) = false := beq_eq_false_iff_ne.2 ck
        go_wp2_with (fail)
        go_meet
        exact ⟨rfl, ⟨Rg19.out⟩, ⟨HB0.out⟩⟩
    obtain ⟨rfl, Rg19', HBc⟩ := hcut
    clear Rg19 HM HB0 HW
    have Rg19 := Rg19'
    clear Rg19'
    have NG19 := Aside0.mk (show g19 ∉ foot m mm L from fun h => absurd (O.out.pm.foot_lt _ (by rw [HFT.out]; exact h)) (by rw [HG19.out]; omega))
    replace O := Aside0.mk (O.out.grown HBc.out)
    replace Rg6 := Aside0.mk (blk_below Rg6.out HBc.out)
    replace Rg8 := Aside0.mk (blk_below Rg8.out HBc.out)
    replace Rg9 := Aside0.mk (blk_below Rg9.out HBc.out)
    replace Rg17 := Aside0.mk (blk_below Rg17.out HBc.out)
    replace H1 := Aside0.mk (Kd.R_below H1.out HBc.out)
    clear HBc HG19
    generalize wc = W6 at O Rg6 Rg8 Rg9 Rg17 Rg19 H1 ⊢
    obtain ⟨⟨kg60, kg61, kg62⟩, _⟩ := know3 Rg6.out
    go_wp2_with (fail)
    go_at_call 19
    refine (Cells_calls O.out.pm pb).mono ?_
    rintro e W7 ⟨v3, rfl, hR, hB1⟩
    rw [HA3.out] at hR ⊢
    have H3 := Aside0.mk hR
    obtain ⟨A3, c3, e3, _, _⟩ := Kd.R_reads hR
    subst e3
    simp only
    replace H1 := Aside0.mk (Kd.R_below H1.out hB1)
    replace O := Aside0.mk (O.out.grown hB1)
    replace Rg6 := Aside0.mk (blk_below Rg6.out hB1)
    replace Rg8 := Aside0.mk (blk_below Rg8.out hB1)
    replace Rg9 := Aside0.mk (blk_below Rg9.out hB1)
    replace Rg17 := Aside0.mk (blk_below Rg17.out hB1)
    replace Rg19 := Aside0.mk (blk_below Rg19.out hB1)
    clear hB1 hR
    clear kg60 kg61 kg62
    obtain ⟨⟨kg170, kg171, kg172⟩, _⟩ := know3 Rg17.out
    obtain ⟨⟨kg190, kg191, kg192⟩, _⟩ := know3 Rg19.out
    rw [HB4.out.2]
    obtain ⟨N1, hN1⟩ : ∃ k, k = cs1.length := ⟨_, rfl⟩
    have HN1 := Aside0.mk hN1
    rw [← hN1]
    have b4 : (N1 : Int) ≤ 16384 := by have := LN1.out; omega
    clear hN1
    go_upto_region 16 with (fail)
    clear kg170 kg171 kg172 kg190 kg191 kg192
    go_wp2_with (fail)
    go_loopg [22] N1 (fun kq v22 wr => ∃ j : Nat, j + kq = N1 ∧ v22 = .int .i64 j ∧ Aside0 (Below W7.heap.size W7 wr))
    case atStart => exact ⟨0, by omega, rfl, ⟨Below.refl _ _⟩⟩
    case round =>
      obtain ⟨j, hj, rfl, HB⟩ := hrel
      by_cases hlt : j < N1
      · have HJ := Aside0.mk hj
        have HLT := Aside0.mk hlt
        have hjN : (j : Int) < N1 := by omega
        have hj0 : (0 : Int) ≤ j := by omega
        clear hj
        replace H1 := Aside0.mk (Kd.R_below H1.out HB.out)
        replace H3 := Aside0.mk (Kd.R_below H3.out HB.out)
        replace Rg6 := Aside0.mk (blk_below Rg6.out HB.out)
        obtain ⟨⟨kg60, kg61, kg62⟩, _⟩ := know3 Rg6.out
        have hb9 : (TV : Int) + NN ≤ 16384 := by have := HB4.out; have := LN1.out; omega
        rcases (show j < TV ∨ (TV ≤ j ∧ j < TV + NN) ∨ (TV + NN ≤ j) by omega) with cl | cl | cl
        · have cl' : (j : Int) < TV := by omega
          obtain ⟨A1', c1', q1, hc1, hC1⟩ := Kd.R_reads H1.out
          injection q1 with q11 _ q12
          subst q11 q12
          obtain ⟨A3', c3', q3, hc3, hC3⟩ := Kd.R_reads H3.out
          injection q3 with q31 _ q32
          subst q31 q32
          obtain ⟨ad1, rfl, k10, k11, k12, k13⟩ := at_T66 hC1 (j : Int) (by omega) (by have := HN1.out; omega)
          obtain ⟨ad3, rfl, k30, k31, k32, k33⟩ := at_T66 hC3 (j : Int) (by omega) (by have := HN1.out; have := HB4.out; omega)
          rw [HRD.out j (by omega)] at k30 k31 k32 k33
          simp only [Int.toNat_natCast] at k10 k11 k12 k13 k30 k31 k32 k33
          generalize rd_T66 cs1 (j : Int) = d1 at k10 k11 k12 k13 k30 k31 k32 k33
          clear hC1 hC3 hc1 hc3
          clear cl
          go_upto_region 19 with (fail)
          have fw1 : IntKind.i64.wrap (TV : Int) = TV := IntWalk.i64_in _ (by omega)
          have fw2 : IntKind.i64.wrap ((TV : Int) + NN) = (TV : Int) + NN := IntWalk.i64_in _ (by omega)
          refine wp_region_still_tail 24 (by kernel_rfl) (by kernel_rfl) ?_
          simp only [List.take_succ_cons, List.take_zero, List.drop_succ_cons, List.drop_zero]
          repeat (with_reducible refine wpStill_step (fun K hK => ?_); go_simp; with_reducible refine hK _ ?_; clear hK K)
          with_reducible refine wpStill_nil ?_
          change wpList _ _ _ _ _ wr.drew
          clear fw1 fw2 cl' kg60 kg61 kg62
          go_wp2_with (fail)
          go_roundg (N1 - (j + 1))
          case measure => have := HJ.out; have := HLT.out; omega
          case rel => have := HLT.out; exact ⟨j + 1, by omega, by simp, ⟨pm_chain HB.out (by (repeat (first | (with_reducible exact Below.refl _ _) | (with_reducible assumption) | with_reducible apply below_alloc | with_reducible apply pw_below_drewN | with_reducible apply below_drew1)))⟩⟩
        · have cl' : ¬ (j : Int) < TV := by omega
          have cr' : ¬ (j : Int) ≥ (TV : Int) + NN := by omega
          have cr2 : ¬ (TV : Int) + NN ≤ j := by omega
          clear cl
          go_upto_region 19 with (fail)
          have fw1 : IntKind.i64.wrap (TV : Int) = TV := IntWalk.i64_in _ (by omega)
          have fw2 : IntKind.i64.wrap ((TV : Int) + NN) = (TV : Int) + NN := IntWalk.i64_in _ (by omega)
          refine wp_region_still_tail 24 (by kernel_rfl) (by kernel_rfl) ?_
          simp only [List.take_succ_cons, List.take_zero, List.drop_succ_cons, List.drop_zero]
          repeat (with_reducible refine wpStill_step (fun K hK => ?_); go_simp; with_reducible refine hK _ ?_; clear hK K)
          with_reducible refine wpStill_nil ?_
          change wpList _ _ _ _ _ wr.drew
          clear fw1 fw2 cl' kg60 kg61 kg62
          go_wp2_with (fail)
          go_roundg (N1 - (j + 1))
          case measure => have := HJ.out; have := HLT.out; omega
          case rel => have := HLT.out; exact ⟨j + 1, by omega, by simp, ⟨pm_chain HB.out (by (repeat (first | (with_reducible exact Below.refl _ _) | (with_reducible assumption) | with_reducible apply below_alloc | with_reducible apply pw_below_drewN | with_reducible apply below_drew1)))⟩⟩
        · have cl' : ¬ (j : Int) < TV := by omega
          have cr' : (TV : Int) + NN ≤ j := by omega
          obtain ⟨A1', c1', q1, hc1, hC1⟩ := Kd.R_reads H1.out
          injection q1 with q11 _ q12
          subst q11 q12
          obtain ⟨A3', c3', q3, hc3, hC3⟩ := Kd.R_reads H3.out
          injection q3 with q31 _ q32
          subst q31 q32
          obtain ⟨ad1, rfl, k10, k11, k12, k13⟩ := at_T66 hC1 (j : Int) (by omega) (by have := HN1.out; omega)
          obtain ⟨ad3, rfl, k30, k31, k32, k33⟩ := at_T66 hC3 (j : Int) (by omega) (by have := HN1.out; have := HB4.out; omega)
          rw [HRD.out j (by omega)] at k30 k31 k32 k33
          simp only [Int.toNat_natCast] at k10 k11 k12 k13 k30 k31 k32 k33
          generalize rd_T66 cs1 (j : Int) = d1 at k10 k11 k12 k13 k30 k31 k32 k33
          clear hC1 hC3 hc1 hc3
          clear cl
          go_upto_region 19 with (fail)
          have fw1 : IntKind.i64.wrap (TV : Int) = TV := IntWalk.i64_in _ (by omega)
          have fw2 : IntKind.i64.wrap ((TV : Int) + NN) = (TV : Int) + NN := IntWalk.i64_in _ (by omega)
          refine wp_region_still_tail 24 (by kernel_rfl) (by kernel_rfl) ?_
          simp only [List.take_succ_cons, List.take_zero, List.drop_succ_cons, List.drop_zero]
          repeat (with_reducible refine wpStill_step (fun K hK => ?_); go_simp; with_reducible refine hK _ ?_; clear hK K)
          with_reducible refine wpStill_nil ?_
          change wpList _ _ _ _ _ wr.drew
          clear fw1 fw2 cl' kg60 kg61 kg62
          go_wp2_with (fail)
          go_roundg (N1 - (j + 1))
          case measure => have := HJ.out; have := HLT.out; omega
          case rel => have := HLT.out; exact ⟨j + 1, by omega, by simp, ⟨pm_chain HB.out (by (repeat (first | (with_reducible exact Below.refl _ _) | (with_reducible assumption) | with_reducible apply below_alloc | with_reducible apply pw_below_drewN | with_reducible apply below_drew1)))⟩⟩
      · obtain rfl : j = N1 := by omega
        clear hj hlt
        replace O := Aside0.mk (O.out.grown HB.out)
        replace Rg6 := Aside0.mk (blk_below Rg6.out HB.out)
        replace Rg9 := Aside0.mk (blk_below Rg9.out HB.out)
        replace Rg19 := Aside0.mk (blk_below Rg19.out HB.out)
        clear HB
        obtain ⟨⟨kg60, kg61, kg62⟩, _⟩ := know3 Rg6.out
        obtain ⟨⟨kg90, kg91, kg92⟩, _⟩ := know3 Rg9.out
        go_wp2_with (fail)
        go_at_call 20
        refine (Copy_calls O.out.pm ⟨qk, qv, qb⟩ ⟨pk, TV, pb⟩ NN 1 HQ.out.1 HQ.out.2 HP.out.1 HP.out.2 (by have := HNN.out; omega)).mono ?_
        rintro e WD ⟨rfl, d⟩
        obtain ⟨⟨z, L9⟩, hz⟩ : ∃ x, copyF (upd L r1.id cs3) ⟨qk, qv, qb⟩ ⟨pk, TV, pb⟩ NN 1 = x := ⟨_, rfl⟩
        rw [hz] at d ⊢
        simp only at d ⊢
        have hx := d.ext
        rw [HFT.out] at hx
        replace Rg9 := Aside0.mk (hx.at Rg9.out NG.out.2.2)
        replace Rg19 := Aside0.mk (hx.at Rg19.out NG19.out)
        replace O := Aside0.mk (O.out.did d)
        have HZ := Aside0.mk hz
        clear d hx hz Rg6 NG NG19
        clear kg60 kg61 kg62 kg90 kg91 kg92
        by_cases cz : z = 0
        · subst cz
          obtain ⟨⟨⟨y0, y1, y2⟩, y3⟩, hy⟩ : ∃ x, loadF L9 ⟨qk, qv, qb⟩ NN false = x := ⟨_, rfl⟩
          have HY := Aside0.mk hy
          have HO := Aside0.mk (show y3 ≠ 0 ∨ ((⟨y0, y1, y2⟩ : V3) = ⟨w0, w1, w2⟩ ∧ y3 = 0) by
            have h := copy_load (L := upd L r1.id cs3) (x := ⟨qk, qv, qb⟩) (y := ⟨pk, TV, pb⟩) (n := NN) HQ.out.1 HP.out.1 HF3.out (by simpa using HS3.out) HLL.out HZ.out
            rw [hy] at h
            simpa using h)
          clear hy
          obtain ⟨⟨kg90, kg91, kg92⟩, _⟩ := know3 Rg9.out
          go_wp2_with (fail)
          go_at_call 25
          refine (Load_calls O.out.pm ⟨qk, qv, qb⟩ NN false HQ.out.1 HQ.out.2).mono ?_
          rintro e W201 ⟨rfl, hB1⟩
          rw [HY.out]
          simp only [V3.enc]
          have hBn := pm_chain (w := WD) (by (first | assumption | (repeat (first | (with_reducible exact Below.refl _ _) | (with_reducible assumption) | with_reducible apply below_alloc | with_reducible apply pw_below_drewN | with_reducible apply below_drew1)))) hB1
          replace O := Aside0.mk (O.out.grown hBn)
          replace Rg9 := Aside0.mk (blk_below Rg9.out hBn)
          replace Rg19 := Aside0.mk (blk_below Rg19.out hBn)
          clear hB1 hBn
          clear kg90 kg91 kg92
          go_upto_region 24 with (fail)
          have hBn : Below W201.heap.size W201 (W201.alloc (.cells #[.int .i64 y0, .int .u32 y1, .int .i64 y2] 51)) := by (repeat (first | (with_reducible exact Below.refl _ _) | (with_reducible assumption) | with_reducible apply below_alloc | with_reducible apply pw_below_drewN | with_reducible apply below_drew1))
          replace O := Aside0.mk (O.out.grown hBn)
          replace Rg9 := Aside0.mk (blk_below Rg9.out hBn)
          replace Rg19 := Aside0.mk (blk_below Rg19.out hBn)
          have Rg23 := Aside0.mk (show (W201.alloc (.cells #[.int .i64 y0, .int .u32 y1, .int .i64 y2] 51)).heap[W201.heap.size]? = some (.cells #[.int .i64 y0, .int .u32 y1, .int .i64 y2] 51 (0, 0)) from heap_at _ _ _ rfl)
          clear hBn
          generalize (W201.alloc (.cells #[.int .i64 y0, .int .u32 y1, .int .i64 y2] 51)) = W202 at O Rg9 Rg19 Rg23 ⊢
          generalize W201.heap.size = g23 at Rg23 ⊢
          rcases HO.out with c | ⟨c, rfl⟩
          · go_wp2_with (fail)
            go_at_call 17
            refine (heads_calls _).mono ?_
            rintro e WE ⟨rfl, hB⟩
            have HB2 := Aside0.mk (pm_chain (w := w) (O.out.grown (by (first | assumption | (repeat (first | (with_reducible exact Below.refl _ _) | (with_reducible assumption) | with_reducible apply below_alloc | with_reducible apply pw_below_drewN | with_reducible apply below_drew1))))).below hB)
            clear hB
            go_wp2_with (fail)
            go_ret
            exact ⟨rfl, HB2.out⟩
          · simp only [V3.mk.injEq] at c
            obtain ⟨rfl, rfl, rfl⟩ := c
            obtain ⟨⟨kg190, kg191, kg192⟩, _⟩ := know3 Rg19.out
            obtain ⟨⟨kg230, kg231, kg232⟩, _⟩ := know3 Rg23.out
            go_wp2_with (fail)
            go_at_call 17
            refine (heads_calls _).mono ?_
            rintro e WE ⟨rfl, hB⟩
            have HB2 := Aside0.mk (pm_chain (w := w) (O.out.grown (by (first | assumption | (repeat (first | (with_reducible exact Below.refl _ _) | (with_reducible assumption) | with_reducible apply below_alloc | with_reducible apply pw_below_drewN | with_reducible apply below_drew1))))).below hB)
            clear hB
            clear kg190 kg191 kg192 kg230 kg231 kg232
            go_wp2_with (fail)
            go_ret
            exact ⟨rfl, HB2.out⟩
        · go_wp2_with (fail)
          go_at_call 17
          refine (heads_calls _).mono ?_
          rintro e WE ⟨rfl, hB⟩
          have HB2 := Aside0.mk (pm_chain (w := w) (O.out.grown (by (first | assumption | (repeat (first | (with_reducible exact Below.refl _ _) | (with_reducible assumption) | with_reducible apply below_alloc | with_reducible apply pw_below_drewN | with_reducible apply below_drew1))))).below hB)
          clear hB
          go_wp2_with (fail)
          go_ret
          exact ⟨rfl, HB2.out⟩
end Go.Proofs.Ythdnhfjodhjejaa.Ma
