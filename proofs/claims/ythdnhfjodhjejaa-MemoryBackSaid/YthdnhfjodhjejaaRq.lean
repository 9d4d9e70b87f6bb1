/- An action on both memories: Load, Bin, Make. No condition beyond those each theorem names. -/
import Derived.Test.YthdnhfjodhjejaaRp
namespace Go.Proofs.Ythdnhfjodhjejaa.Ma
open Go.RowKit Go.Proofs.Ythdnhfjodhjejaa.PMe Go.Proofs.YthdnhfjodhjejaaW.PrintWords Go.Proofs.YthdnhfjodhjejaaW.PrintLast Go.Proofs.YthdnhfjodhjejaaW.PrintMore
set_option linter.unusedVariables false
set_option linter.unusedSimpArgs false
variable {w W W1 : World} {m mm : Nat} {last last' : Int} {L L' : List Rec} {r : Nat} {sv sv' : Value} {Bs Bs' : List Blk}
theorem rLoad_calls {w : World} (h : RM w r sv Bs) (x : V3) (n : Int) (sg : Bool) (h0 : 0 ≤ x.v) (h1 : x.v < 4294967296) (hn2 : n < 9223372036854775808) : Calls Try.prog 56 #[.pointer (some ⟨r, 0, none⟩), x.enc, .int .i64 n, .bool sg] w fun e w' => e = .returned (ans (rloadF Bs x n sg)) ∧ Below w.heap.size w w' := by
  cases ha : ratR Bs x n n with
  | none =>
    unfold rloadF
    rw [ha]
    exact rLoad_no h x n sg h0 h1 hn2 ha
  | some y => exact rLoad_go h x n sg h0 h1 hn2 ha _ ⟨rfl⟩
set_option maxHeartbeats 8000000 in
set_option maxRecDepth 100000 in
theorem play_2 {N : Nat} (h : Two w W m mm last L r sv Bs) (hs : Sim last L Bs) (hN : Bs.length ≤ N) (hN2 : N < 1759218604441) (x : Act1) (hk : x.k = 2) (hx : x.In) : Calls Try.prog 23 #[.pointer (some ⟨m, 0, none⟩), .pointer (some ⟨r, 0, none⟩), x.enc] W fun e w' => e = .returned (.bool true) ∧ Played w m r (N + 1) w' := by
  have hu51 := Try.underlying51
  have T := Aside0.mk h
  have S := Aside0.mk hs
  have HN := Aside0.mk (And.intro hN hN2)
  have HX := Aside0.mk hx
  clear h hs hN hN2 hx
  obtain ⟨k, ⟨pk, pv, pb⟩, ⟨qk, qv, qb⟩, n, wd, sg⟩ := x
  simp only at hk
  subst hk
  unfold Act1.enc
  simp only
  have hpv := HX.out.p
  have hqv := HX.out.q
  have HP := Aside0.mk hpv
  have HQ := Aside0.mk hqv
  have HNW := Aside0.mk (And.intro HX.out.n HX.out.wd)
  clear hpv hqv
  have R5 : (W.alloc (.cells #[.int .i64 2, .int .i64 pk, .int .u32 pv, .int .i64 pb, .int .i64 qk, .int .u32 qv, .int .i64 qb, .int .i64 n, .int .i64 wd, .bool sg] 75)).heap[W.heap.size]? = some (.cells #[.int .i64 2, .int .i64 pk, .int .u32 pv, .int .i64 pb, .int .i64 qk, .int .u32 qv, .int .i64 qb, .int .i64 n, .int .i64 wd, .bool sg] 75 (0, 0)) := heap_at _ _ _ rfl
  have T1 := Aside0.mk (T.out.grown (show Below W.heap.size W (W.alloc (.cells #[.int .i64 2, .int .i64 pk, .int .u32 pv, .int .i64 pb, .int .i64 qk, .int .u32 qv, .int .i64 qb, .int .i64 n, .int .i64 wd, .bool sg] 75)) by (repeat (first | (with_reducible exact Below.refl _ _) | (with_reducible assumption) | with_reducible apply below_alloc | with_reducible apply pw_below_drewN | with_reducible apply below_drew1))))
  have FAR := Aside0.mk (T.out.far (Nat.le_refl W.heap.size))
  have HR5 := Aside0.mk R5
  clear R5
  go_enter Try.func23, Try.ntmps23
  go_upto_region 1 with (fail)
  generalize (W.alloc (.cells #[.int .i64 2, .int .i64 pk, .int .u32 pv, .int .i64 pb, .int .i64 qk, .int .u32 qv, .int .i64 qb, .int .i64 n, .int .i64 wd, .bool sg] 75)) = W0 at HR5 T1 ⊢
  generalize W.heap.size = g5 at HR5 FAR ⊢
  obtain ⟨b0, b1, b2, b3, b4, b5, b6, b7, b8, b9⟩ := know10 HR5.out
  have hst := sim_load S.out ⟨pk, pv, pb⟩ wd sg HP.out.1
  obtain ⟨ak, av, ab, az, hA⟩ : ∃ ak av ab az, loadF L ⟨pk, pv, pb⟩ wd sg = (⟨ak, av, ab⟩, az) := ⟨_, _, _, _, rfl⟩
  rw [hA] at hst
  have HA := Aside0.mk hA
  have HST := Aside0.mk hst.symm
  clear hA hst
  go_wp2_with (fail)
  go_at_call 25
  refine (Load_calls T1.out.own.pm ⟨pk, pv, pb⟩ wd sg HP.out.1 HP.out.2).mono ?_
  rintro e W2 ⟨rfl, hB1⟩
  rw [HA.out]
  clear b0 b1 b2 b3 b4 b5 b6 b7 b8 b9
  have T2 := Aside0.mk (T1.out.grown hB1)
  have HR52 := Aside0.mk (blk_below HR5.out hB1)
  clear T1 HR5 hB1
  have T1 := T2
  have HR5 := HR52
  clear T2 HR52
  obtain ⟨b0, b1, b2, b3, b4, b5, b6, b7, b8, b9⟩ := know10 HR5.out
  (try simp only [V3.enc])
  go_upto_region 10 with (fail)
  have RA := Aside0.mk (show (W2.alloc (.cells #[.int .i64 ak, .int .u32 av, .int .i64 ab] 51)).heap[W2.heap.size]? = some (.cells #[.int .i64 ak, .int .u32 av, .int .i64 ab] 51 (0, 0)) from heap_at _ _ _ rfl)
  have hB1 : Below W2.heap.size W2 (W2.alloc (.cells #[.int .i64 ak, .int .u32 av, .int .i64 ab] 51)) := by (repeat (first | (with_reducible exact Below.refl _ _) | (with_reducible assumption) | with_reducible apply below_alloc | with_reducible apply pw_below_drewN | with_reducible apply below_drew1))
  clear b0 b1 b2 b3 b4 b5 b6 b7 b8 b9
  have T2 := Aside0.mk (T1.out.grown hB1)
  have HR52 := Aside0.mk (blk_below HR5.out hB1)
  clear T1 HR5 hB1
  have T1 := T2
  have HR5 := HR52
  clear T2 HR52
  generalize (W2.alloc (.cells #[.int .i64 ak, .int .u32 av, .int .i64 ab] 51)) = W3 at RA T1 HR5 ⊢
  generalize W2.heap.size = ga at RA ⊢
  obtain ⟨b0, b1, b2, b3, b4, b5, b6, b7, b8, b9⟩ := know10 HR5.out
  go_wp2_with (fail)
  go_at_call 56
  refine (rLoad_calls T1.out.rm ⟨pk, pv, pb⟩ wd sg HP.out.1 HP.out.2 HNW.out.2.2).mono ?_
  rintro e W4 ⟨rfl, hB1⟩
  have RA2 := Aside0.mk (blk_below RA.out hB1)
  rw [HST.out]
  clear b0 b1 b2 b3 b4 b5 b6 b7 b8 b9
  have T2 := Aside0.mk (T1.out.grown hB1)
  have HR52 := Aside0.mk (blk_below HR5.out hB1)
  clear T1 HR5 hB1
  have T1 := T2
  have HR5 := HR52
  clear T2 HR52
  (try simp only [ans, V3.enc])
  go_upto_region 11 with (fail)
  have RB := Aside0.mk (show (W4.alloc (.cells #[.int .i64 ak, .int .u32 av, .int .i64 ab] 51)).heap[W4.heap.size]? = some (.cells #[.int .i64 ak, .int .u32 av, .int .i64 ab] 51 (0, 0)) from heap_at _ _ _ rfl)
  have hB1 : Below W4.heap.size W4 (W4.alloc (.cells #[.int .i64 ak, .int .u32 av, .int .i64 ab] 51)) := by (repeat (first | (with_reducible exact Below.refl _ _) | (with_reducible assumption) | with_reducible apply below_alloc | with_reducible apply pw_below_drewN | with_reducible apply below_drew1))
  have RA3 := Aside0.mk (blk_below RA2.out hB1)
  have T2 := Aside0.mk (T1.out.grown hB1)
  have HR52 := Aside0.mk (blk_below HR5.out hB1)
  clear T1 HR5 hB1
  have T1 := T2
  have HR5 := HR52
  clear T2 HR52
  generalize (W4.alloc (.cells #[.int .i64 ak, .int .u32 av, .int .i64 ab] 51)) = W5 at RA3 RB T1 HR5 ⊢
  generalize W4.heap.size = gb at RB ⊢
  obtain ⟨⟨x0, x1, x2⟩, _⟩ := know3 RA3.out
  obtain ⟨⟨z0, z1, z2⟩, _⟩ := know3 RB.out
  go_wp2_with (fail)
  go_ret
  exact ⟨by simp, mm, last, L, sv, Bs, T1.out, S.out, by have := HN.out; omega⟩
set_option maxHeartbeats 8000000 in
set_option maxRecDepth 100000 in
theorem play_6 {N : Nat} (h : Two w W m mm last L r sv Bs) (hs : Sim last L Bs) (hN : Bs.length ≤ N) (hN2 : N < 1759218604441) (x : Act1) (hk : x.k = 6) (hx : x.In) : Calls Try.prog 23 #[.pointer (some ⟨m, 0, none⟩), .pointer (some ⟨r, 0, none⟩), x.enc] W fun e w' => e = .returned (.bool true) ∧ Played w m r (N + 1) w' := by
  have hu51 := Try.underlying51
  have T := Aside0.mk h
  have S := Aside0.mk hs
  have HN := Aside0.mk (And.intro hN hN2)
  have HX := Aside0.mk hx
  clear h hs hN hN2 hx
  obtain ⟨k, ⟨pk, pv, pb⟩, ⟨qk, qv, qb⟩, n, wd, sg⟩ := x
  simp only at hk
  subst hk
  unfold Act1.enc
  simp only
  have hpv := HX.out.p
  have hqv := HX.out.q
  have HP := Aside0.mk hpv
  have HQ := Aside0.mk hqv
  have HNW := Aside0.mk (And.intro HX.out.n HX.out.wd)
  clear hpv hqv
  have R5 : (W.alloc (.cells #[.int .i64 6, .int .i64 pk, .int .u32 pv, .int .i64 pb, .int .i64 qk, .int .u32 qv, .int .i64 qb, .int .i64 n, .int .i64 wd, .bool sg] 75)).heap[W.heap.size]? = some (.cells #[.int .i64 6, .int .i64 pk, .int .u32 pv, .int .i64 pb, .int .i64 qk, .int .u32 qv, .int .i64 qb, .int .i64 n, .int .i64 wd, .bool sg] 75 (0, 0)) := heap_at _ _ _ rfl
  have T1 := Aside0.mk (T.out.grown (show Below W.heap.size W (W.alloc (.cells #[.int .i64 6, .int .i64 pk, .int .u32 pv, .int .i64 pb, .int .i64 qk, .int .u32 qv, .int .i64 qb, .int .i64 n, .int .i64 wd, .bool sg] 75)) by (repeat (first | (with_reducible exact Below.refl _ _) | (with_reducible assumption) | with_reducible apply below_alloc | with_reducible apply pw_below_drewN | with_reducible apply below_drew1))))
  have FAR := Aside0.mk (T.out.far (Nat.le_refl W.heap.size))
  have HR5 := Aside0.mk R5
  clear R5
  go_enter Try.func23, Try.ntmps23
  go_upto_region 1 with (fail)
  generalize (W.alloc (.cells #[.int .i64 6, .int .i64 pk, .int .u32 pv, .int .i64 pb, .int .i64 qk, .int .u32 qv, .int .i64 qb, .int .i64 n, .int .i64 wd, .bool sg] 75)) = W0 at HR5 T1 ⊢
  generalize W.heap.size = g5 at HR5 FAR ⊢
  obtain ⟨b0, b1, b2, b3, b4, b5, b6, b7, b8, b9⟩ := know10 HR5.out
  have hst := sim_bin S.out n ⟨pk, pv, pb⟩ ⟨qk, qv, qb⟩
  obtain ⟨ak, av, ab, az, hA⟩ : ∃ ak av ab az, binF L n ⟨pk, pv, pb⟩ ⟨qk, qv, qb⟩ = (⟨ak, av, ab⟩, az) := ⟨_, _, _, _, rfl⟩
  rw [hA] at hst
  have HA := Aside0.mk hA
  have HST := Aside0.mk hst.symm
  clear hA hst
  go_wp2_with (fail)
  go_at_call 16
  refine (Bin_calls T1.out.own.pm n ⟨pk, pv, pb⟩ ⟨qk, qv, qb⟩ (.tuple #[.agg #[.int .i64 ak, .int .u32 av, .int .i64 ab], .int .i64 az]) ⟨by rw [HA.out]; rfl⟩ ⟨⟨HP.out, HQ.out⟩⟩).mono ?_
  rintro e W2 ⟨rfl, hB1⟩
  clear b0 b1 b2 b3 b4 b5 b6 b7 b8 b9
  have T2 := Aside0.mk (T1.out.grown hB1)
  have HR52 := Aside0.mk (blk_below HR5.out hB1)
  clear T1 HR5 hB1
  have T1 := T2
  have HR5 := HR52
  clear T2 HR52
  obtain ⟨b0, b1, b2, b3, b4, b5, b6, b7, b8, b9⟩ := know10 HR5.out
  (try simp only [V3.enc])
  go_upto_region 20 with (fail)
  have RA := Aside0.mk (show (W2.alloc (.cells #[.int .i64 ak, .int .u32 av, .int .i64 ab] 51)).heap[W2.heap.size]? = some (.cells #[.int .i64 ak, .int .u32 av, .int .i64 ab] 51 (0, 0)) from heap_at _ _ _ rfl)
  have hB1 : Below W2.heap.size W2 (W2.alloc (.cells #[.int .i64 ak, .int .u32 av, .int .i64 ab] 51)) := by (repeat (first | (with_reducible exact Below.refl _ _) | (with_reducible assumption) | with_reducible apply below_alloc | with_reducible apply pw_below_drewN | with_reducible apply below_drew1))
  clear b0 b1 b2 b3 b4 b5 b6 b7 b8 b9
  have T2 := Aside0.mk (T1.out.grown hB1)
  have HR52 := Aside0.mk (blk_below HR5.out hB1)
  clear T1 HR5 hB1
  have T1 := T2
  have HR5 := HR52
  clear T2 HR52
  generalize (W2.alloc (.cells #[.int .i64 ak, .int .u32 av, .int .i64 ab] 51)) = W3 at RA T1 HR5 ⊢
  generalize W2.heap.size = ga at RA ⊢
  obtain ⟨b0, b1, b2, b3, b4, b5, b6, b7, b8, b9⟩ := know10 HR5.out
  go_wp2_with (fail)
  go_at_call 61
  refine (rBin_calls T1.out.rm n ⟨pk, pv, pb⟩ ⟨qk, qv, qb⟩ (.tuple #[.agg #[.int .i64 ak, .int .u32 av, .int .i64 ab], .int .i64 az]) ⟨by rw [HST.out]; rfl⟩ ⟨⟨HP.out, HQ.out⟩⟩).mono ?_
  rintro e W4 ⟨rfl, hB1⟩
  have RA2 := Aside0.mk (blk_below RA.out hB1)
  clear b0 b1 b2 b3 b4 b5 b6 b7 b8 b9
  have T2 := Aside0.mk (T1.out.grown hB1)
  have HR52 := Aside0.mk (blk_below HR5.out hB1)
  clear T1 HR5 hB1
  have T1 := T2
  have HR5 := HR52
  clear T2 HR52
  (try simp only [ans, V3.enc])
  go_upto_region 21 with (fail)
  have RB := Aside0.mk (show (W4.alloc (.cells #[.int .i64 ak, .int .u32 av, .int .i64 ab] 51)).heap[W4.heap.size]? = some (.cells #[.int .i64 ak, .int .u32 av, .int .i64 ab] 51 (0, 0)) from heap_at _ _ _ rfl)
  have hB1 : Below W4.heap.size W4 (W4.alloc (.cells #[.int .i64 ak, .int .u32 av, .int .i64 ab] 51)) := by (repeat (first | (with_reducible exact Below.refl _ _) | (with_reducible assumption) | with_reducible apply below_alloc | with_reducible apply pw_below_drewN | with_reducible apply below_drew1))
  have RA3 := Aside0.mk (blk_below RA2.out hB1)
  have T2 := Aside0.mk (T1.out.grown hB1)
  have HR52 := Aside0.mk (blk_below HR5.out hB1)
  clear T1 HR5 hB1
  have T1 := T2
  have HR5 := HR52
  clear T2 HR52
  generalize (W4.alloc (.cells #[.int .i64 ak, .int .u32 av, .int .i64 ab] 51)) = W5 at RA3 RB T1 HR5 ⊢
  generalize W4.heap.size = gb at RB ⊢
  obtain ⟨⟨x0, x1, x2⟩, _⟩ := know3 RA3.out
  obtain ⟨⟨z0, z1, z2⟩, _⟩ := know3 RB.out
  go_wp2_with (fail)
  go_ret
  exact ⟨by simp, mm, last, L, sv, Bs, T1.out, S.out, by have := HN.out; omega⟩
end Go.Proofs.Ythdnhfjodhjejaa.Ma
