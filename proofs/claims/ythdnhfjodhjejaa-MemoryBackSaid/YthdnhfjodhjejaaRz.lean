/- The law MemoryCopies's walk: a copy is byte by byte the same, and nothing else is changed. No condition beyond those each theorem names. -/
import Derived.Test.YthdnhfjodhjejaaRt
import Derived.Test.YthdnhfjodhjejaaRx
import Derived.Test.YthdnhfjodhjejaaRq
import Derived.Deep.Cut
import Derived.StillTailTactics
namespace Go.Proofs.Ythdnhfjodhjejaa.Ma
open Go.RowKit Go.Proofs.Ythdnhfjodhjejaa.PMe Go.Proofs.YthdnhfjodhjejaaW.PrintWords Go.Proofs.YthdnhfjodhjejaaW.PrintLast Go.Proofs.YthdnhfjodhjejaaW.PrintMore
set_option linter.unusedVariables false
set_option linter.unusedSimpArgs false
variable {w W W1 : World}
variable {m mm : Nat} {last last' : Int} {L L' : List Rec} {base : Nat} {v : Value} {xs : List S66}
/-- What Cells gave stays, whatever the memory does. -/
theorem R_ext (h : Kd.R k66 66 W base (fun _ => True) v xs) (hb : ∀ i ∈ foot m mm L, i < base) (k : Ext (fun i => i ∈ foot m mm L) W W1) : Kd.R k66 66 W1 base (fun _ => True) v xs :=
  Kd.R_mono (Kd.R_step (Kd.R_bound h) (fun k1 h1 hlt => k.block k1 hlt (fun hf => absurd (hb k1 hf) (by have := h1.2.1; omega)))) (fun _ _ => trivial)
theorem cells_len (h : PM W m mm last L) (k : Int) : (cellsF L k).1.length ≤ 16384 := by
  unfold cellsF
  cases hf : findR L k with
  | none => simp
  | some r => exact (h.len r (find_mem hf).1).2
theorem cells_of {k : Int} {r : Rec} (h : findR L k = some r) : cellsF L k = (r.cs, 0) := by unfold cellsF; rw [h]
theorem rd_get (cs : List S66) (j : Nat) : rd_T66 cs (j : Int) = (cs[j]?).getD z66 := by unfold rd_T66; rw [List.getD_eq_getElem?_getD]; rfl
theorem put4 {W : World} {g : Nat} {a b c d : Value} {t : TypeId} (B : W.heap[g]? = some (.cells #[a, b, c, d] t (0, 0))) (x y z u : Value) : ((((W.setCell ⟨g, 0, none⟩ x).setCell ⟨g, 1, none⟩ y).setCell ⟨g, 2, none⟩ z).setCell ⟨g, 3, none⟩ u).heap[g]? = some (.cells #[x, y, z, u] t (0, 0)) :=
  blk_put (blk_put (blk_put (blk_put B 0 x rfl) 1 y rfl) 2 z rfl) 3 u rfl
theorem below_trans' {n : Nat} {a b c : World} (h : Below n a b) (k : Below n b c) : Below n a c := h.trans k
theorem copied_rd {r s : Rec} {a b n : Nat} (h1 : a + n ≤ r.cs.length) (h2 : b + n ≤ s.cs.length) (j : Nat) (hj : j < r.cs.length) :
    rd_T66 (put r.cs a (sub s.cs b n)) (j : Int) = if a ≤ j ∧ j < a + n then rd_T66 s.cs ((b + j - a : Nat) : Int) else rd_T66 r.cs (j : Int) := by
  rw [rd_get, (copied_get h1 h2 j hj).2]
  split
  · rw [rd_get]
  · rw [rd_get]
set_option maxHeartbeats 40000000 in
set_option maxRecDepth 100000 in
theorem MemoryCopies_calls (A : Option Addr) (cap : Nat) (xs : List Act1) (hs : Script w A xs) (hl : xs.length < 1759218604441) (p q : V3) (n al : Int) (hp : 0 ≤ p.v ∧ p.v < 4294967296) (hq : 0 ≤ q.v ∧ q.v < 4294967296) (hn : -9223372036854775808 ≤ n ∧ n < 9223372036854775808) (hal : -9223372036854775808 ≤ al ∧ al < 9223372036854775808) : Calls Try.prog 5 #[.slice A xs.length cap, p.enc, q.enc, .int .i64 n, .int .i64 al] w fun e w' => e = .returned (.bool true) ∧ Below w.heap.size w w' := by
  have hu51 := Try.underlying51
  have hu66 := Try.underlying66
  obtain ⟨tk, tv, tb⟩ := p
  obtain ⟨fk, fv, fb⟩ := q
  simp only at hp hq
  unfold V3.enc
  simp only
  have HS := Aside0.mk hs
  have HL := Aside0.mk hl
  have HP := Aside0.mk hp
  have HQ := Aside0.mk hq
  have HNA := Aside0.mk (And.intro hn hal)
  obtain ⟨len, hlen⟩ : ∃ n, n = xs.length := ⟨_, rfl⟩
  rw [← hlen]
  have HN := Aside0.mk hlen
  clear hs hl hp hq hlen hn hal
  go_enter Try.func5, Try.ntmps5
  go_wp2_with (fail)
  have hB0 : Below w.heap.size w ((w.alloc (.cells #[.int .i64 tk, .int .u32 tv, .int .i64 tb] 51)).alloc (.cells #[.int .i64 fk, .int .u32 fv, .int .i64 fb] 51)) := by (repeat (first | (with_reducible exact Below.refl _ _) | (with_reducible assumption) | with_reducible apply below_alloc | with_reducible apply pw_below_drewN | with_reducible apply below_drew1))
  have Rg6 := Aside0.mk (show ((w.alloc (.cells #[.int .i64 tk, .int .u32 tv, .int .i64 tb] 51)).alloc (.cells #[.int .i64 fk, .int .u32 fv, .int .i64 fb] 51)).heap[w.heap.size]? = some (.cells #[.int .i64 tk, .int .u32 tv, .int .i64 tb] 51 (0, 0)) from blk_alloc (heap_at _ _ _ rfl) _)
  have Rg7 := Aside0.mk (show ((w.alloc (.cells #[.int .i64 tk, .int .u32 tv, .int .i64 tb] 51)).alloc (.cells #[.int .i64 fk, .int .u32 fv, .int .i64 fb] 51)).heap[w.heap.size + 1]? = some (.cells #[.int .i64 fk, .int .u32 fv, .int .i64 fb] 51 (0, 0)) from heap_at _ _ _ (by simp))
  have B0 := Aside0.mk hB0
  have NF := Aside0.mk (show w.heap.size < ((w.alloc (.cells #[.int .i64 tk, .int .u32 tv, .int .i64 tb] 51)).alloc (.cells #[.int .i64 fk, .int .u32 fv, .int .i64 fb] 51)).heap.size ∧ w.heap.size + 1 < ((w.alloc (.cells #[.int .i64 tk, .int .u32 tv, .int .i64 tb] 51)).alloc (.cells #[.int .i64 fk, .int .u32 fv, .int .i64 fb] 51)).heap.size by simp; omega)
  clear hB0
  generalize ((w.alloc (.cells #[.int .i64 tk, .int .u32 tv, .int .i64 tb] 51)).alloc (.cells #[.int .i64 fk, .int .u32 fv, .int .i64 fb] 51)) = W0 at Rg6 Rg7 B0 NF ⊢
  obtain ⟨g7, hg7⟩ : ∃ g, g = w.heap.size + 1 := ⟨_, rfl⟩
  obtain ⟨g6, hg6⟩ : ∃ g, g = w.heap.size := ⟨_, rfl⟩
  rw [← hg6] at Rg6
  rw [← hg7] at Rg7 NF
  rw [← hg7, ← hg6]
  rw [← hg6] at NF
  clear hg6 hg7
  go_at_call 15
  rw [HN.out]
  refine (made_calls A cap xs (HS.out.below B0.out) HL.out).mono ?_
  rintro e W1 ⟨m, r, rfl, mm, last, L, sv, Bs, T, _, _⟩
  have O := Aside0.mk (show Own w W1 m mm last L from ⟨T.own.pm, pm_chain B0.out T.below, fun i hi => Nat.le_trans B0.out.size (T.own.new i hi)⟩)
  replace Rg6 := Aside0.mk (blk_below Rg6.out T.below)
  replace Rg7 := Aside0.mk (blk_below Rg7.out T.below)
  have NG := Aside0.mk (show g6 ∉ foot m mm L ∧ g7 ∉ foot m mm L from ⟨fun h => absurd (T.own.new _ h) (by have := NF.out; omega), fun h => absurd (T.own.new _ h) (by have := NF.out; omega)⟩)
  clear T HN HL HS B0 NF
  obtain ⟨cs1, e1, hA1⟩ : ∃ c e, cellsF L tb = (c, e) := ⟨_, _, rfl⟩
  obtain ⟨cs2, e2, hA2⟩ : ∃ c e, cellsF L fb = (c, e) := ⟨_, _, rfl⟩
  have LN1 := Aside0.mk (show cs1.length ≤ 16384 by have := cells_len O.out.pm tb; rw [hA1] at this; exact this)
  have LN2 := Aside0.mk (show cs2.length ≤ 16384 by have := cells_len O.out.pm fb; rw [hA2] at this; exact this)
  have HA1 := Aside0.mk hA1
  have HA2 := Aside0.mk hA2
  clear hA1 hA2
  obtain ⟨⟨kg60, kg61, kg62⟩, _⟩ := know3 Rg6.out
  go_wp2_with (fail)
  have FT1 := Aside0.mk (show ∀ i ∈ foot m mm L, i < W1.heap.size from O.out.pm.foot_lt)
  go_at_call 19
  refine (Cells_calls O.out.pm tb).mono ?_
  rintro e W2 ⟨v1, rfl, hR, hB1⟩
  rw [HA1.out] at hR ⊢
  have H1 := Aside0.mk hR
  obtain ⟨A1, c1, e1, _, _⟩ := Kd.R_reads hR
  subst e1
  simp only
  replace O := Aside0.mk (O.out.grown hB1)
  replace Rg6 := Aside0.mk (blk_below Rg6.out hB1)
  replace Rg7 := Aside0.mk (blk_below Rg7.out hB1)
  clear hB1 hR
  clear kg60 kg61 kg62
  obtain ⟨⟨kg70, kg71, kg72⟩, _⟩ := know3 Rg7.out
  go_wp2_with (fail)
  have FT2 := Aside0.mk (show ∀ i ∈ foot m mm L, i < W2.heap.size from O.out.pm.foot_lt)
  go_at_call 19
  refine (Cells_calls O.out.pm fb).mono ?_
  rintro e W3 ⟨v2, rfl, hR, hB1⟩
  rw [HA2.out] at hR ⊢
  have H2 := Aside0.mk hR
  obtain ⟨A2, c2, e2, _, _⟩ := Kd.R_reads hR
  subst e2
  simp only
  replace H1 := Aside0.mk (Kd.R_below H1.out hB1)
  replace O := Aside0.mk (O.out.grown hB1)
  replace Rg6 := Aside0.mk (blk_below Rg6.out hB1)
  replace Rg7 := Aside0.mk (blk_below Rg7.out hB1)
  clear hB1 hR
  clear kg70 kg71 kg72
  obtain ⟨⟨kg60, kg61, kg62⟩, _⟩ := know3 Rg6.out
  obtain ⟨⟨kg70, kg71, kg72⟩, _⟩ := know3 Rg7.out
  go_upto_region 4 with (fail)
  go_wp2_with (fail)
  go_at_call 20
  refine (Copy_calls O.out.pm ⟨tk, tv, tb⟩ ⟨fk, fv, fb⟩ n al HP.out.1 HP.out.2 HQ.out.1 HQ.out.2 HNA.out.1.2).mono ?_
  rintro e W4 ⟨rfl, d⟩
  replace H1 := Aside0.mk (R_ext H1.out FT1.out d.ext)
  replace H2 := Aside0.mk (R_ext H2.out FT2.out d.ext)
  replace Rg6 := Aside0.mk (d.ext.at Rg6.out NG.out.1)
  replace Rg7 := Aside0.mk (d.ext.at Rg7.out NG.out.2)
  replace O := Aside0.mk (O.out.did d)
  clear d NG FT1 FT2
  clear kg60 kg61 kg62 kg70 kg71 kg72
  rcases copy_or (L := L) ⟨tk, tv, tb⟩ ⟨fk, fv, fb⟩ n al HP.out.1 HQ.out.1 with hc | ⟨r1, s1, c1, c2, c3, c4, c5, c6, c7, c8, hc⟩
  · rw [hc] at O ⊢
    simp only at O ⊢
    clear hc
    obtain ⟨⟨kg60, kg61, kg62⟩, _⟩ := know3 Rg6.out
    go_upto_region 5 with (fail)
    go_wp2_with (fail)
    have FT3 := Aside0.mk (show ∀ i ∈ foot m mm L, i < W4.heap.size from O.out.pm.foot_lt)
    go_at_call 19
    refine (Cells_calls O.out.pm tb).mono ?_
    rintro e W5 ⟨v3, rfl, hR, hB1⟩
    rw [HA1.out] at hR ⊢
    have H3 := Aside0.mk hR
    obtain ⟨A3, c3, e3, _, _⟩ := Kd.R_reads hR
    subst e3
    simp only
    replace H1 := Aside0.mk (Kd.R_below H1.out hB1)
    replace H2 := Aside0.mk (Kd.R_below H2.out hB1)
    replace O := Aside0.mk (O.out.grown hB1)
    replace Rg6 := Aside0.mk (blk_below Rg6.out hB1)
    replace Rg7 := Aside0.mk (blk_below Rg7.out hB1)
    clear hB1 hR
    clear kg60 kg61 kg62
    obtain ⟨A1', c1', q1, hc1, hC1⟩ := Kd.R_reads H1.out
    obtain ⟨A3', c3', q3, hc3, hC3⟩ := Kd.R_reads H3.out
    injection q1 with q11 _ q12
    injection q3 with q31 _ q32
    subst q11 q12 q31 q32
    have HSAME := Aside0.mk (mortiseref11_Same.calls 20000 _ _ cs1 _ _ cs1 true W5 hC1 hc1 hC3 hc3 (same_refl cs1 LN1.out))
    clear hC1 hc1 hC3 hc3
    go_wp2_with (fail)
    go_at_call 21
    refine HSAME.out.mono ?_
    rintro e WS ⟨rfl, ⟨nd, rfl⟩⟩
    go_wp2_with (fail)
    go_at_call 17
    refine (heads_calls _).mono ?_
    rintro e WE ⟨rfl, hB⟩
    have HB2 := Aside0.mk (pm_chain (w := w) (O.out.grown (by (first | assumption | (repeat (first | (with_reducible exact Below.refl _ _) | (with_reducible assumption) | with_reducible apply below_alloc | with_reducible apply pw_below_drewN | with_reducible apply below_drew1))))).below hB)
    clear hB
    go_wp2_with (fail)
    go_ret
    exact ⟨rfl, HB2.out⟩
  · simp only at c1 c2 c3 c4 c5 c7 c8
    rw [hc] at O ⊢
    simp only at O ⊢
    have e11 := (HA1.out.symm.trans (cells_of c1))
    have e22 := (HA2.out.symm.trans (cells_of c2))
    simp only [Prod.mk.injEq] at e11 e22
    obtain ⟨e11, rfl⟩ := e11
    obtain ⟨e22, rfl⟩ := e22
    obtain ⟨TV, hTV⟩ : ∃ V : Nat, tv = V := ⟨tv.toNat, by have := HP.out; omega⟩
    obtain ⟨FV, hFV⟩ : ∃ V : Nat, fv = V := ⟨fv.toNat, by have := HQ.out; omega⟩
    obtain ⟨NN, hNN⟩ : ∃ V : Nat, n = V := ⟨n.toNat, by omega⟩
    subst hTV hFV hNN
    simp only [Int.toNat_natCast] at O hc
    obtain ⟨cs3, h3⟩ : ∃ c, c = put r1.cs TV (sub s1.cs FV NN) := ⟨_, rfl⟩
    rw [← h3] at O
    have HA3 := Aside0.mk (show cellsF (upd L r1.id cs3) tb = (cs3, 0) from cells_of (find_self c1 cs3))
    have l3 : cs3.length = cs1.length := by rw [h3, e11]; exact (put_len (by rw [sub_len (by omega)]; omega))
    have HRD := Aside0.mk (show ∀ j : Nat, j < cs1.length → rd_T66 cs3 (j : Int) = if TV ≤ j ∧ j < TV + NN then rd_T66 cs2 ((FV + j - TV : Nat) : Int) else rd_T66 cs1 (j : Int) by
      intro j hj
      rw [h3, e11, e22]
      exact copied_rd (by omega) (by omega) j (by rw [← e11]; exact hj))
    have B4 : TV + NN ≤ cs1.length := by rw [e11]; omega
    have B5 : FV + NN ≤ cs2.length := by rw [e22]; omega
    have B3 : 1 ≤ NN := by omega
    clear hc c1 c2 c3 c4 c5 c6 c7 c8 e11 e22 h3 HA1 HA2 HNA
    have HB345 := Aside0.mk (And.intro B3 (And.intro B4 (And.intro B5 l3)))
    clear B3 B4 B5
    obtain ⟨⟨kg60, kg61, kg62⟩, _⟩ := know3 Rg6.out
    go_upto_region 5 with (fail)
    go_wp2_with (fail)
    have FT3 := Aside0.mk (show True from trivial)
    go_at_call 19
    refine (Cells_calls O.out.pm tb).mono ?_
    rintro e W5 ⟨v3, rfl, hR, hB1⟩
    rw [HA3.out] at hR ⊢
    have H3 := Aside0.mk hR
    obtain ⟨A3, c3, e3, _, _⟩ := Kd.R_reads hR
    subst e3
    simp only
    replace H1 := Aside0.mk (Kd.R_below H1.out hB1)
    replace H2 := Aside0.mk (Kd.R_below H2.out hB1)
    replace O := Aside0.mk (O.out.grown hB1)
    replace Rg6 := Aside0.mk (blk_below Rg6.out hB1)
    replace Rg7 := Aside0.mk (blk_below Rg7.out hB1)
    clear hB1 hR
    clear kg60 kg61 kg62
    rw [l3]
    clear l3
    go_upto_region 8 with (fail)
    obtain ⟨⟨kg60, kg61, kg62⟩, _⟩ := know3 Rg6.out
    obtain ⟨⟨kg70, kg71, kg72⟩, _⟩ := know3 Rg7.out
    obtain ⟨N1, hN1⟩ : ∃ k, k = cs1.length := ⟨_, rfl⟩
    obtain ⟨N2, hN2⟩ : ∃ k, k = cs2.length := ⟨_, rfl⟩
    have HN1 := Aside0.mk hN1
    have HN2 := Aside0.mk hN2
    rw [← hN1, ← hN2]
    have b1 : (1 : Int) ≤ NN := by have := HB345.out; omega
    have b2 : (TV : Int) + NN ≤ N1 := by have := HB345.out; omega
    have b3 : (FV : Int) + NN ≤ N2 := by have := HB345.out; omega
    have b4 : (N1 : Int) ≤ 16384 := by have := LN1.out; omega
    have b5 : (N2 : Int) ≤ 16384 := by have := LN2.out; omega
    clear hN1 hN2
    go_upto_region 10 with (fail)
    clear kg60 kg61 kg62 kg70 kg71 kg72
    clear b1 b2 b3
    go_wp2_with (fail)
    go_loopg [19] N1 (fun kq v19 wr => ∃ j : Nat, j + kq = N1 ∧ v19 = .int .i64 j ∧ Aside0 (Below W5.heap.size W5 wr))
    case atStart => exact ⟨0, by omega, rfl, ⟨Below.refl _ _⟩⟩
    case round =>
      obtain ⟨j, hj, rfl, HB⟩ := hrel
      by_cases hlt : j < N1
      · have HJ := Aside0.mk hj
        have HLT := Aside0.mk hlt
        have hjN : (j : Int) < N1 := by omega
        have hj0 : (0 : Int) ≤ j := by omega
        clear hj
        replace H1 := Aside0.mk (Kd.R_below H1.out HB.out)
        replace H2 := Aside0.mk (Kd.R_below H2.out HB.out)
        replace H3 := Aside0.mk (Kd.R_below H3.out HB.out)
        replace Rg6 := Aside0.mk (blk_below Rg6.out HB.out)
        replace Rg7 := Aside0.mk (blk_below Rg7.out HB.out)
        obtain ⟨A1', c1', q1, hc1, hC1⟩ := Kd.R_reads H1.out
        injection q1 with q11 _ q12
        subst q11 q12
        have hC1l := at_T66 hC1 (j : Int) (by omega) (by have := HN1.out; omega)
        obtain ⟨ad1, rfl, k10, k11, k12, k13⟩ := hC1l
        simp only [Int.toNat_natCast] at k10 k11 k12 k13
        generalize hd1 : rd_T66 cs1 (j : Int) = d1 at k10 k11 k12 k13
        have HD1 := Aside0.mk hd1
        clear hC1 hd1
        go_upto_region 14 with (fail)
        clear k10 k11 k12 k13
        replace H3 := Aside0.mk (Kd.R_mono (ok' := fun k => k < wr.heap.size) (Kd.R_bound H3.out) (fun k h => h.2.2.1))
        have hBw : Below wr.heap.size wr (wr.alloc (.cells #[.int .i64 d1.f0, .int .u32 d1.f1, .int .i64 d1.f2, .int .i64 d1.f3] 66)) := by (repeat (first | (with_reducible exact Below.refl _ _) | (with_reducible assumption) | with_reducible apply below_alloc | with_reducible apply pw_below_drewN | with_reducible apply below_drew1))
        have Rg20 := Aside0.mk (show (wr.alloc (.cells #[.int .i64 d1.f0, .int .u32 d1.f1, .int .i64 d1.f2, .int .i64 d1.f3] 66)).heap[wr.heap.size]? = some (.cells #[.int .i64 d1.f0, .int .u32 d1.f1, .int .i64 d1.f2, .int .i64 d1.f3] 66 (0, 0)) from heap_at _ _ _ rfl)
        have HG20 := Aside0.mk (show W5.heap.size ≤ wr.heap.size from HB.out.size)
        replace HB := Aside0.mk (pm_chain HB.out hBw)
        replace H1 := Aside0.mk (Kd.R_below H1.out hBw)
        replace H2 := Aside0.mk (Kd.R_below H2.out hBw)
        replace H3 := Aside0.mk (Kd.R_below H3.out hBw)
        replace Rg6 := Aside0.mk (blk_below Rg6.out hBw)
        replace Rg7 := Aside0.mk (blk_below Rg7.out hBw)
        clear hBw
        generalize wr.alloc (.cells #[.int .i64 d1.f0, .int .u32 d1.f1, .int .i64 d1.f2, .int .i64 d1.f3] 66) = wa at *
        generalize wr.heap.size = g20 at *
        obtain ⟨⟨kg60, kg61, kg62⟩, _⟩ := know3 Rg6.out
        obtain ⟨⟨kg70, kg71, kg72⟩, _⟩ := know3 Rg7.out
        have hne : ∀ k : Nat, k < g20 → k ≠ g20 := fun k h => Nat.ne_of_lt h
        by_cases cl : TV ≤ j
        · by_cases cr : j < TV + NN
          · obtain ⟨q, hq⟩ : ∃ q : Nat, q = FV + j - TV := ⟨_, rfl⟩
            have hr := HRD.out j (by have := HLT.out; have := HN1.out; omega)
            rw [if_pos ⟨cl, cr⟩, ← hq] at hr
            obtain ⟨A2', c2', q2, hc2, hC2⟩ := Kd.R_reads H2.out
            injection q2 with q21 _ q22
            subst q21 q22
            have hqN : (q : Int) < N2 := by have := HB345.out; have := HN2.out; omega
            obtain ⟨ad2, rfl, k20, k21, k22, k23⟩ := at_T66 hC2 (q : Int) (by omega) (by have := HN2.out; omega)
            simp only [Int.toNat_natCast] at k20 k21 k22 k23
            generalize hd2 : rd_T66 cs2 (q : Int) = d2 at k20 k21 k22 k23 hr
            have HR3 := Aside0.mk hr
            have cl' : (TV : Int) ≤ j := by omega
            have cr' : (j : Int) < (TV : Int) + NN := by omega
            have hq' : (FV : Int) + j - TV = q := by omega
            have hqw : IntKind.i64.wrap (IntKind.i64.wrap ((FV : Int) + j) - TV) = q := by rw [show IntKind.i64.wrap ((FV : Int) + j) = FV + j from IntWalk.i64_in _ (by have := HB345.out; have := HN2.out; omega), hq']; exact IntWalk.i64_in _ (by omega)
            have hq0 : (0 : Int) ≤ q := by omega
            have HBB := Aside0.mk (And.intro b4 b5)
            have y0 := blk_cell Rg20.out 0
            have y1 := blk_cell Rg20.out 1
            have y2 := blk_cell Rg20.out 2
            have y3 := blk_cell Rg20.out 3
            have z0 := blk_frozen Rg20.out 0
            have z1 := blk_frozen Rg20.out 1
            have z2 := blk_frozen Rg20.out 2
            have z3 := blk_frozen Rg20.out 3
            clear hC2 hc2 hd2 hq hr cl cr
            go_upto_region 16 with (fail)
            have Rg21 := Aside0.mk (put4 Rg20.out (.int .i64 d2.f0) (.int .u32 d2.f1) (.int .i64 d2.f2) (.int .i64 d2.f3))
            clear k20 k21 k22 k23 y0 y1 y2 y3 z0 z1 z2 z3 kg60 kg61 kg62 kg70 kg71 kg72 cl' cr' hq' hqw hq0 hqN
            have hBw : Below W5.heap.size wa ((((wa.setCell ⟨g20, 0, none⟩ (.int .i64 d2.f0)).setCell ⟨g20, 1, none⟩ (.int .u32 d2.f1)).setCell ⟨g20, 2, none⟩ (.int .i64 d2.f2)).setCell ⟨g20, 3, none⟩ (.int .i64 d2.f3)) := Below.setCell (p := ⟨g20, 3, none⟩) (Below.setCell (p := ⟨g20, 2, none⟩) (Below.setCell (p := ⟨g20, 1, none⟩) (Below.setCell (p := ⟨g20, 0, none⟩) (Below.refl _ _) HG20.out _) HG20.out _) HG20.out _) HG20.out _
            replace HB := Aside0.mk (below_trans' HB.out hBw)
            obtain ⟨A3', c3', q3, hc3, hC3⟩ := Kd.R_reads (Kd.R_far (p := ⟨g20, 3, none⟩) (Kd.R_far (p := ⟨g20, 2, none⟩) (Kd.R_far (p := ⟨g20, 1, none⟩) (Kd.R_far (p := ⟨g20, 0, none⟩) H3.out hne _) hne _) hne _) hne _)
            injection q3 with q31 _ q32
            subst q31 q32
            try clear hBw
            try clear hne
            generalize ((((wa.setCell ⟨g20, 0, none⟩ (.int .i64 d2.f0)).setCell ⟨g20, 1, none⟩ (.int .u32 d2.f1)).setCell ⟨g20, 2, none⟩ (.int .i64 d2.f2)).setCell ⟨g20, 3, none⟩ (.int .i64 d2.f3)) = wb at *
            obtain ⟨ad3, rfl, k30, k31, k32, k33⟩ := at_T66 hC3 (j : Int) (by omega) (by have := HLT.out; have := HN1.out; have := HB345.out; omega)
            rw [HR3.out] at k30 k31 k32 k33
            simp only [Int.toNat_natCast] at k30 k31 k32 k33
            have y0 := blk_cell Rg21.out 0
            have y1 := blk_cell Rg21.out 1
            have y2 := blk_cell Rg21.out 2
            have y3 := blk_cell Rg21.out 3
            go_still_tail 5, (by kernel_rfl)
            change wpList _ _ _ _ _ wb.drew
            go_wp2_with (fail)
            go_roundg (N1 - (j + 1))
            case measure => have := HJ.out; have := HLT.out; omega
            case rel => have := HLT.out; exact ⟨j + 1, by omega, by simp, ⟨pm_chain HB.out (by (repeat (first | (with_reducible exact Below.refl _ _) | (with_reducible assumption) | with_reducible apply below_alloc | with_reducible apply pw_below_drewN | with_reducible apply below_drew1)))⟩⟩
          · have HR3 := Aside0.mk ((HRD.out j (by have := HLT.out; have := HN1.out; omega)).trans ((if_neg (fun h => cr h.2)).trans HD1.out))
            have cl' : (TV : Int) ≤ j := by omega
            have cr' : ¬ (j : Int) < (TV : Int) + NN := by omega
            have hb9 : (TV : Int) + NN ≤ 16384 := by have := HB345.out; have := LN1.out; omega
            have HBB := Aside0.mk (And.intro b4 b5)
            go_upto_region 16 with (fail)
            clear kg60 kg61 kg62 kg70 kg71 kg72 cl' cr' hb9
            have Rg21 := Aside0.mk Rg20.out
            have hBw : Below W5.heap.size wa wa := Below.refl _ _
            replace HB := Aside0.mk (below_trans' HB.out hBw)
            obtain ⟨A3', c3', q3, hc3, hC3⟩ := Kd.R_reads H3.out
            injection q3 with q31 _ q32
            subst q31 q32
            try clear hBw
            try clear hne
            obtain ⟨ad3, rfl, k30, k31, k32, k33⟩ := at_T66 hC3 (j : Int) (by omega) (by have := HLT.out; have := HN1.out; have := HB345.out; omega)
            rw [HR3.out] at k30 k31 k32 k33
            simp only [Int.toNat_natCast] at k30 k31 k32 k33
            have y0 := blk_cell Rg21.out 0
            have y1 := blk_cell Rg21.out 1
            have y2 := blk_cell Rg21.out 2
            have y3 := blk_cell Rg21.out 3
            go_still_tail 5, (by kernel_rfl)
            change wpList _ _ _ _ _ wa.drew
            go_wp2_with (fail)
            go_roundg (N1 - (j + 1))
            case measure => have := HJ.out; have := HLT.out; omega
            case rel => have := HLT.out; exact ⟨j + 1, by omega, by simp, ⟨pm_chain HB.out (by (repeat (first | (with_reducible exact Below.refl _ _) | (with_reducible assumption) | with_reducible apply below_alloc | with_reducible apply pw_below_drewN | with_reducible apply below_drew1)))⟩⟩
        · have HR3 := Aside0.mk ((HRD.out j (by have := HLT.out; have := HN1.out; omega)).trans ((if_neg (fun h => cl h.1)).trans HD1.out))
          have cl' : ¬ (TV : Int) ≤ j := by omega
          have HBB := Aside0.mk (And.intro b4 b5)
          go_upto_region 16 with (fail)
          clear kg60 kg61 kg62 kg70 kg71 kg72 cl'
          have Rg21 := Aside0.mk Rg20.out
          have hBw : Below W5.heap.size wa wa := Below.refl _ _
          replace HB := Aside0.mk (below_trans' HB.out hBw)
          obtain ⟨A3', c3', q3, hc3, hC3⟩ := Kd.R_reads H3.out
          injection q3 with q31 _ q32
          subst q31 q32
          try clear hBw
          try clear hne
          obtain ⟨ad3, rfl, k30, k31, k32, k33⟩ := at_T66 hC3 (j : Int) (by omega) (by have := HLT.out; have := HN1.out; have := HB345.out; omega)
          rw [HR3.out] at k30 k31 k32 k33
          simp only [Int.toNat_natCast] at k30 k31 k32 k33
          have y0 := blk_cell Rg21.out 0
          have y1 := blk_cell Rg21.out 1
          have y2 := blk_cell Rg21.out 2
          have y3 := blk_cell Rg21.out 3
          go_still_tail 5, (by kernel_rfl)
          change wpList _ _ _ _ _ wa.drew
          go_wp2_with (fail)
          go_roundg (N1 - (j + 1))
          case measure => have := HJ.out; have := HLT.out; omega
          case rel => have := HLT.out; exact ⟨j + 1, by omega, by simp, ⟨pm_chain HB.out (by (repeat (first | (with_reducible exact Below.refl _ _) | (with_reducible assumption) | with_reducible apply below_alloc | with_reducible apply pw_below_drewN | with_reducible apply below_drew1)))⟩⟩
      · obtain rfl : j = N1 := by omega
        clear hj hlt
        replace O := Aside0.mk (O.out.grown HB.out)
        go_wp2_with (fail)
        go_at_call 17
        refine (heads_calls _).mono ?_
        rintro e WE ⟨rfl, hB⟩
        have HB2 := Aside0.mk (pm_chain (w := w) (O.out.grown (by (first | assumption | (repeat (first | (with_reducible exact Below.refl _ _) | (with_reducible assumption) | with_reducible apply below_alloc | with_reducible apply pw_below_drewN | with_reducible apply below_drew1))))).below hB)
        clear hB
        go_wp2_with (fail)
        go_ret
        exact ⟨rfl, HB2.out⟩
end Go.Proofs.Ythdnhfjodhjejaa.Ma
