/- An action on both memories: Make. No condition beyond those each theorem names. -/
import Derived.Test.YthdnhfjodhjejaaRq
namespace Go.Proofs.Ythdnhfjodhjejaa.Ma
open Go.RowKit Go.Proofs.Ythdnhfjodhjejaa.PMe Go.Proofs.YthdnhfjodhjejaaW.PrintWords Go.Proofs.YthdnhfjodhjejaaW.PrintLast Go.Proofs.YthdnhfjodhjejaaW.PrintMore
set_option linter.unusedVariables false
set_option linter.unusedSimpArgs false
variable {w W W1 : World} {m mm : Nat} {last last' : Int} {L L' : List Rec} {r : Nat} {sv sv' : Value} {Bs Bs' : List Blk}
set_option maxHeartbeats 8000000 in
set_option maxRecDepth 100000 in
theorem play_0 {N : Nat} (h : Two w W m mm last L r sv Bs) (hs : Sim last L Bs) (hN : Bs.length ≤ N) (hN2 : N < 1759218604441) (x : Act1) (hk : x.k = 0) (hx : x.In) : Calls Try.prog 23 #[.pointer (some ⟨m, 0, none⟩), .pointer (some ⟨r, 0, none⟩), x.enc] W fun e w' => e = .returned (.bool true) ∧ Played w m r (N + 1) w' := by
  have hu51 := Try.underlying51
  have T := Aside0.mk h
  have S := Aside0.mk hs
  have HN := Aside0.mk (And.intro hN hN2)
  have HX := Aside0.mk hx
  clear h hs hN hN2 hx
  obtain ⟨k, ⟨pk, pv, pb⟩, ⟨qk, qv, qb⟩, n, wd, sg⟩ := x
  simp only at hk
  subst hk
  unfold Act1.enc
  simp only
  have hpv := HX.out.p
  have hqv := HX.out.q
  have HP := Aside0.mk hpv
  have HQ := Aside0.mk hqv
  have HNW := Aside0.mk (And.intro HX.out.n HX.out.wd)
  clear hpv hqv
  have R5 : (W.alloc (.cells #[.int .i64 0, .int .i64 pk, .int .u32 pv, .int .i64 pb, .int .i64 qk, .int .u32 qv, .int .i64 qb, .int .i64 n, .int .i64 wd, .bool sg] 75)).heap[W.heap.size]? = some (.cells #[.int .i64 0, .int .i64 pk, .int .u32 pv, .int .i64 pb, .int .i64 qk, .int .u32 qv, .int .i64 qb, .int .i64 n, .int .i64 wd, .bool sg] 75 (0, 0)) := heap_at _ _ _ rfl
  have T1 := Aside0.mk (T.out.grown (show Below W.heap.size W (W.alloc (.cells #[.int .i64 0, .int .i64 pk, .int .u32 pv, .int .i64 pb, .int .i64 qk, .int .u32 qv, .int .i64 qb, .int .i64 n, .int .i64 wd, .bool sg] 75)) by (repeat (first | (with_reducible exact Below.refl _ _) | (with_reducible assumption) | with_reducible apply below_alloc | with_reducible apply pw_below_drewN | with_reducible apply below_drew1))))
  have FAR := Aside0.mk (T.out.far (Nat.le_refl W.heap.size))
  have HR5 := Aside0.mk R5
  clear R5
  go_enter Try.func23, Try.ntmps23
  go_upto_region 1 with (fail)
  generalize (W.alloc (.cells #[.int .i64 0, .int .i64 pk, .int .u32 pv, .int .i64 pb, .int .i64 qk, .int .u32 qv, .int .i64 qb, .int .i64 n, .int .i64 wd, .bool sg] 75)) = W0 at HR5 T1 ⊢
  generalize W.heap.size = g5 at HR5 FAR ⊢
  obtain ⟨b0, b1, b2, b3, b4, b5, b6, b7, b8, b9⟩ := know10 HR5.out
  by_cases hb : n < 1 ∨ 16384 < n ∨ pow2 wd = false
  · have HBAD := Aside0.mk hb
    clear hb
    go_wp2_with (fail)
    go_at_call 48
    refine (Make_arg T1.out.own.pm n wd HBAD.out).mono ?_
    rintro e W2 ⟨rfl, hB1⟩
    clear b0 b1 b2 b3 b4 b5 b6 b7 b8 b9
    have T2 := Aside0.mk (T1.out.grown hB1)
    have HR52 := Aside0.mk (blk_below HR5.out hB1)
    clear T1 HR5 hB1
    have T1 := T2
    have HR5 := HR52
    clear T2 HR52
    obtain ⟨b0, b1, b2, b3, b4, b5, b6, b7, b8, b9⟩ := know10 HR5.out
    go_wp2_with (fail)
    go_at_call 53
    refine (rMake_arg T1.out.rm n wd HBAD.out).mono ?_
    rintro e W3 ⟨rfl, hB1⟩
    clear b0 b1 b2 b3 b4 b5 b6 b7 b8 b9
    have T2 := Aside0.mk (T1.out.grown hB1)
    have HR52 := Aside0.mk (blk_below HR5.out hB1)
    clear T1 HR5 hB1
    have T1 := T2
    have HR5 := HR52
    clear T2 HR52
    go_wp2_with (fail)
    go_ret
    exact ⟨by simp, mm, last, L, sv, Bs, T1.out, S.out, by have := HN.out; omega⟩
  · have HBAD := Aside0.mk hb
    clear hb
    by_cases hf : 4096 ≤ L.length
    · have HFUL := Aside0.mk hf
      clear hf
      go_wp2_with (fail)
      go_at_call 48
      refine (Make_full T1.out.own.pm n wd HBAD.out HFUL.out).mono ?_
      rintro e W2 ⟨rfl, hB1⟩
      clear b0 b1 b2 b3 b4 b5 b6 b7 b8 b9
      have T2 := Aside0.mk (T1.out.grown hB1)
      have HR52 := Aside0.mk (blk_below HR5.out hB1)
      clear T1 HR5 hB1
      have T1 := T2
      have HR5 := HR52
      clear T2 HR52
      obtain ⟨b0, b1, b2, b3, b4, b5, b6, b7, b8, b9⟩ := know10 HR5.out
      go_wp2_with (fail)
      go_at_call 53
      refine (rMake_full T1.out.rm n wd HBAD.out (by have := HFUL.out; have := S.out.live; omega)).mono ?_
      rintro e W3 ⟨rfl, hB1⟩
      clear b0 b1 b2 b3 b4 b5 b6 b7 b8 b9
      have T2 := Aside0.mk (T1.out.grown hB1)
      have HR52 := Aside0.mk (blk_below HR5.out hB1)
      clear T1 HR5 hB1
      have T1 := T2
      have HR5 := HR52
      clear T2 HR52
      go_wp2_with (fail)
      go_ret
      exact ⟨by simp, mm, last, L, sv, Bs, T1.out, S.out, by have := HN.out; omega⟩
    · have HFUL := Aside0.mk hf
      clear hf
      go_wp2_with (fail)
      go_at_call 48
      refine (Make_did T1.out.own.pm n wd HBAD.out (by have := HFUL.out; omega) (by have := S.out.last; have := HN.out; omega)).mono ?_
      rintro e W2 ⟨bb, bg, bo, rfl, d⟩
      rw [S.out.last] at d ⊢
      clear b0 b1 b2 b3 b4 b5 b6 b7 b8 b9
      have T2 := Aside0.mk (T1.out.did d)
      have HR52 := Aside0.mk (d.ext.at HR5.out FAR.out.1)
      clear T1 HR5 d
      have T1 := T2
      have HR5 := HR52
      clear T2 HR52
      obtain ⟨b0, b1, b2, b3, b4, b5, b6, b7, b8, b9⟩ := know10 HR5.out
      go_wp2_with (fail)
      go_at_call 53
      refine (rMake_ok T1.out.rm n wd HBAD.out (by have := HFUL.out; have := S.out.live; omega) (by have := HN.out; omega)).mono ?_
      rintro e W3 ⟨sv', g', rfl, d⟩
      clear b0 b1 b2 b3 b4 b5 b6 b7 b8 b9
      have T2 := Aside0.mk (T1.out.rdid d)
      have HR52 := Aside0.mk (d.ext.at HR5.out FAR.out.2)
      clear T1 HR5 d
      have T1 := T2
      have HR5 := HR52
      clear T2 HR52
      go_wp2_with (fail)
      go_ret
      exact ⟨by simp, mm, _, _, _, _, T1.out, by have := sim_make S.out wd n.toNat bb bg bo g'; rw [S.out.last] at this; exact this, by have := HN.out; simp; omega⟩
end Go.Proofs.Ythdnhfjodhjejaa.Ma
