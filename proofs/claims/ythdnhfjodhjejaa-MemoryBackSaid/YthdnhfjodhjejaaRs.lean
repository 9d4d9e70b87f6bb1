/- An action on both memories: Cells, and none. No condition beyond those each theorem names. -/
import Derived.Test.YthdnhfjodhjejaaRr
namespace Go.Proofs.Ythdnhfjodhjejaa.Ma
open Go.RowKit Go.Proofs.Ythdnhfjodhjejaa.PMe Go.Proofs.YthdnhfjodhjejaaW.PrintWords Go.Proofs.YthdnhfjodhjejaaW.PrintLast Go.Proofs.YthdnhfjodhjejaaW.PrintMore
set_option linter.unusedVariables false
set_option linter.unusedSimpArgs false
variable {w W W1 : World} {m mm : Nat} {last last' : Int} {L L' : List Rec} {r : Nat} {sv sv' : Value} {Bs Bs' : List Blk}
theorem Two.far_set (h : Two w W m mm last L r sv Bs) {g : Nat} (hg : w.heap.size ≤ g) (h1 : g ∉ foot m mm L) (h2 : g ∉ rfoot r sv Bs) (k : Ext (fun i => i = g) W W1) : Two w W1 m mm last L r sv Bs :=
  ⟨⟨h.own.pm.ext k (fun i hi e => h1 (e ▸ hi)), h.own.below.trans (k.below_of h.own.below.size (fun i e => e ▸ hg)), h.own.new⟩, h.rm.ext k (fun i hi e => h2 (e ▸ hi)), h.rnew, h.apart⟩
theorem same_l0 (l : List S66) (hl : l.length ≤ 16384) : ∀ (k i : Nat), i ≤ l.length → l.length < k + i → mortiseref11_Same.l0 k l l (i : Int) = some true
  | 0, i, h1, h2 => by omega
  | k + 1, i, h1, h2 => by
    unfold mortiseref11_Same.l0
    by_cases h : (i : Int) < (l.length : Int)
    · rw [if_pos h, if_pos (by omega), if_pos h]
      have hw : wrap64 ((i : Int) + 1) = ((i + 1 : Nat) : Int) := by unfold wrap64; omega
      rw [hw, if_neg (by simp)]
      exact same_l0 l hl k (i + 1) (by omega) (by omega)
    · rw [if_neg h]
theorem same_refl (l : List S66) (hl : l.length ≤ 16384) : mortiseref11_Same.f 20000 l l = some true := by
  unfold mortiseref11_Same.f
  rw [if_pos rfl]
  exact same_l0 l hl 20000 0 (by omega) (by omega)
theorem rcells_len {Bs : List Blk} {W : World} (h : RM W r sv Bs) (k : Int) : (rcellsF Bs k).1.length ≤ 16384 := by
  unfold rcellsF
  cases hl : livR Bs k with
  | none => simp
  | some y => exact (h.len y (List.mem_of_getElem? (livR_some hl).2.2.1) (livR_some hl).2.2.2).2
set_option maxHeartbeats 8000000 in
set_option maxRecDepth 100000 in
theorem play_no {N : Nat} (h : Two w W m mm last L r sv Bs) (hs : Sim last L Bs) (hN : Bs.length ≤ N) (hN2 : N < 1759218604441) (x : Act1) (hk : x.k < 0 ∨ 8 < x.k) (hx : x.In) : Calls Try.prog 23 #[.pointer (some ⟨m, 0, none⟩), .pointer (some ⟨r, 0, none⟩), x.enc] W fun e w' => e = .returned (.bool true) ∧ Played w m r (N + 1) w' := by
  have hu51 := Try.underlying51
  have T := Aside0.mk h
  have S := Aside0.mk hs
  have HN := Aside0.mk (And.intro hN hN2)
  have HX := Aside0.mk hx
  clear h hs hN hN2 hx
  obtain ⟨k, ⟨pk, pv, pb⟩, ⟨qk, qv, qb⟩, n, wd, sg⟩ := x
  simp only at hk
  unfold Act1.enc
  simp only
  have hpv := HX.out.p
  have hqv := HX.out.q
  have HP := Aside0.mk hpv
  have HQ := Aside0.mk hqv
  have HNW := Aside0.mk (And.intro HX.out.n HX.out.wd)
  clear hpv hqv
  have R5 : (W.alloc (.cells #[.int .i64 k, .int .i64 pk, .int .u32 pv, .int .i64 pb, .int .i64 qk, .int .u32 qv, .int .i64 qb, .int .i64 n, .int .i64 wd, .bool sg] 75)).heap[W.heap.size]? = some (.cells #[.int .i64 k, .int .i64 pk, .int .u32 pv, .int .i64 pb, .int .i64 qk, .int .u32 qv, .int .i64 qb, .int .i64 n, .int .i64 wd, .bool sg] 75 (0, 0)) := heap_at _ _ _ rfl
  have T1 := Aside0.mk (T.out.grown (show Below W.heap.size W (W.alloc (.cells #[.int .i64 k, .int .i64 pk, .int .u32 pv, .int .i64 pb, .int .i64 qk, .int .u32 qv, .int .i64 qb, .int .i64 n, .int .i64 wd, .bool sg] 75)) by (repeat (first | (with_reducible exact Below.refl _ _) | (with_reducible assumption) | with_reducible apply below_alloc | with_reducible apply pw_below_drewN | with_reducible apply below_drew1))))
  have FAR := Aside0.mk (T.out.far (Nat.le_refl W.heap.size))
  have HR5 := Aside0.mk R5
  clear R5
  go_enter Try.func23, Try.ntmps23
  go_upto_region 1 with (fail)
  generalize (W.alloc (.cells #[.int .i64 k, .int .i64 pk, .int .u32 pv, .int .i64 pb, .int .i64 qk, .int .u32 qv, .int .i64 qb, .int .i64 n, .int .i64 wd, .bool sg] 75)) = W0 at HR5 T1 ⊢
  generalize W.heap.size = g5 at HR5 FAR ⊢
  obtain ⟨b0, b1, b2, b3, b4, b5, b6, b7, b8, b9⟩ := know10 HR5.out
  have k0 : (k == 0) = false := beq_eq_false_iff_ne.mpr (by omega)
  have k1 : (k == 1) = false := beq_eq_false_iff_ne.mpr (by omega)
  have k2 : (k == 2) = false := beq_eq_false_iff_ne.mpr (by omega)
  have k3 : (k == 3) = false := beq_eq_false_iff_ne.mpr (by omega)
  have k4 : (k == 4) = false := beq_eq_false_iff_ne.mpr (by omega)
  have k5 : (k == 5) = false := beq_eq_false_iff_ne.mpr (by omega)
  have k6 : (k == 6) = false := beq_eq_false_iff_ne.mpr (by omega)
  have k7 : (k == 7) = false := beq_eq_false_iff_ne.mpr (by omega)
  have k8 : (k == 8) = false := beq_eq_false_iff_ne.mpr (by omega)
  clear hk
  go_wp2_with (fail)
  go_ret
  exact ⟨by simp, mm, last, L, sv, Bs, T1.out, S.out, by have := HN.out; omega⟩
set_option maxHeartbeats 8000000 in
set_option maxRecDepth 100000 in
theorem play_8 {N : Nat} (h : Two w W m mm last L r sv Bs) (hs : Sim last L Bs) (hN : Bs.length ≤ N) (hN2 : N < 1759218604441) (x : Act1) (hk : x.k = 8) (hx : x.In) : Calls Try.prog 23 #[.pointer (some ⟨m, 0, none⟩), .pointer (some ⟨r, 0, none⟩), x.enc] W fun e w' => e = .returned (.bool true) ∧ Played w m r (N + 1) w' := by
  have hu51 := Try.underlying51
  have T := Aside0.mk h
  have S := Aside0.mk hs
  have HN := Aside0.mk (And.intro hN hN2)
  have HX := Aside0.mk hx
  clear h hs hN hN2 hx
  obtain ⟨k, ⟨pk, pv, pb⟩, ⟨qk, qv, qb⟩, n, wd, sg⟩ := x
  simp only at hk
  subst hk
  unfold Act1.enc
  simp only
  have hpv := HX.out.p
  have hqv := HX.out.q
  have HP := Aside0.mk hpv
  have HQ := Aside0.mk hqv
  have HNW := Aside0.mk (And.intro HX.out.n HX.out.wd)
  clear hpv hqv
  have R5 : (W.alloc (.cells #[.int .i64 8, .int .i64 pk, .int .u32 pv, .int .i64 pb, .int .i64 qk, .int .u32 qv, .int .i64 qb, .int .i64 n, .int .i64 wd, .bool sg] 75)).heap[W.heap.size]? = some (.cells #[.int .i64 8, .int .i64 pk, .int .u32 pv, .int .i64 pb, .int .i64 qk, .int .u32 qv, .int .i64 qb, .int .i64 n, .int .i64 wd, .bool sg] 75 (0, 0)) := heap_at _ _ _ rfl
  have T1 := Aside0.mk (T.out.grown (show Below W.heap.size W (W.alloc (.cells #[.int .i64 8, .int .i64 pk, .int .u32 pv, .int .i64 pb, .int .i64 qk, .int .u32 qv, .int .i64 qb, .int .i64 n, .int .i64 wd, .bool sg] 75)) by (repeat (first | (with_reducible exact Below.refl _ _) | (with_reducible assumption) | with_reducible apply below_alloc | with_reducible apply pw_below_drewN | with_reducible apply below_drew1))))
  have FAR := Aside0.mk (T.out.far (Nat.le_refl W.heap.size))
  have HR5 := Aside0.mk R5
  clear R5
  go_enter Try.func23, Try.ntmps23
  go_upto_region 1 with (fail)
  generalize (W.alloc (.cells #[.int .i64 8, .int .i64 pk, .int .u32 pv, .int .i64 pb, .int .i64 qk, .int .u32 qv, .int .i64 qb, .int .i64 n, .int .i64 wd, .bool sg] 75)) = W0 at HR5 T1 ⊢
  generalize W.heap.size = g5 at HR5 FAR ⊢
  obtain ⟨b0, b1, b2, b3, b4, b5, b6, b7, b8, b9⟩ := know10 HR5.out
  have hst := sim_cells S.out n
  obtain ⟨cs, code, hA⟩ : ∃ cs code, cellsF L n = (cs, code) := ⟨_, _, rfl⟩
  rw [hA] at hst
  have hlen := rcells_len T1.out.rm n
  rw [← hst] at hlen
  have HLEN := Aside0.mk hlen
  have HA := Aside0.mk hA
  have HST := Aside0.mk hst.symm
  clear hA hst hlen
  go_wp2_with (fail)
  go_at_call 19
  refine (Cells_calls T1.out.own.pm n).mono ?_
  rintro e W2 ⟨v1, rfl, hR1, hB1⟩
  rw [HA.out] at hR1 ⊢
  have HT0 := Aside0.mk T1.out
  clear b0 b1 b2 b3 b4 b5 b6 b7 b8 b9
  have T2 := Aside0.mk (T1.out.grown hB1)
  have HR52 := Aside0.mk (blk_below HR5.out hB1)
  clear T1 HR5 hB1
  have T1 := T2
  have HR5 := HR52
  clear T2 HR52
  obtain ⟨b0, b1, b2, b3, b4, b5, b6, b7, b8, b9⟩ := know10 HR5.out
  go_wp2_with (fail)
  go_at_call 63
  refine (rCells_calls T1.out.rm n).mono ?_
  rintro e W3 ⟨v2, rfl, hR2, hB1⟩
  rw [HST.out] at hR2 ⊢
  replace hR1 := Kd.R_below hR1 hB1
  clear b0 b1 b2 b3 b4 b5 b6 b7 b8 b9
  have T2 := Aside0.mk (T1.out.grown hB1)
  have HR52 := Aside0.mk (blk_below HR5.out hB1)
  clear T1 HR5 hB1
  have T1 := T2
  have HR5 := HR52
  clear T2 HR52
  obtain ⟨A1, c1, e1, hc1, hC1⟩ := Kd.R_reads hR1
  obtain ⟨A2, c2, e2, hc2, hC2⟩ := Kd.R_reads hR2
  subst e1 e2
  have hsame := mortiseref11_Same.calls 20000 A1 c1 cs A2 c2 cs true W3 hC1 hc1 hC2 hc2 (same_refl cs HLEN.out)
  have HSAME := Aside0.mk hsame
  have HR1 := Aside0.mk hR1
  clear hC1 hc1 hC2 hc2 hsame hR2 hR1
  simp only
  go_wp2_with (first | (go_at_call 21; refine HSAME.out.mono ?_; rintro e W9 ⟨rfl, ⟨nd, rfl⟩⟩))
  have TW := Aside0.mk (T1.out.grown (show Below W3.heap.size W3 (W3.drewN nd) by (repeat (first | (with_reducible exact Below.refl _ _) | (with_reducible assumption) | with_reducible apply below_alloc | with_reducible apply pw_below_drewN | with_reducible apply below_drew1))))
  obtain ⟨_, inner, ⟨_, ho⟩, _⟩ := HR1.out
  have HO := Aside0.mk ho
  clear ho
  clear T1 HR5 HSAME
  by_cases hn0 : cs.length = 0
  · rw [hn0]
    have HN0 := Aside0.mk hn0
    clear hn0
    go_loopg [28] 1 (fun kq v28 wr => v28 = .int .i64 0 ∧ wr = W3.drewN nd)
    case atStart => exact ⟨rfl, rfl⟩
    case round =>
      obtain ⟨rfl, rfl⟩ := hrel
      go_wp2_with (fail)
      go_ret
      exact ⟨rfl, mm, last, L, sv, Bs, TW.out, S.out, by have := HN.out; omega⟩
  · have hO := HO.out
    rcases hO with ⟨_, h0⟩ | ⟨g, cap, cur, e1, hge, hcur, hcap, _, hsz, _⟩
    · exact absurd h0 hn0
    injection e1 with e1 _ e2
    subst e1 e2
    have HGE := Aside0.mk (show w.heap.size ≤ g ∧ g ∉ foot m mm L ∧ g ∉ rfoot r sv Bs from ⟨Nat.le_trans HT0.out.own.below.size hge, fun h => absurd (HT0.out.own.pm.foot_lt g h) (by omega), fun h => absurd (HT0.out.rm.foot_lt g h) (by omega)⟩)
    have HCUR := Aside0.mk (show (W3.drewN nd).heap[g]? = some (.cells cur 66 (0, 0)) from blk_drewN hcur nd)
    rw [show k66.sz = 4 from rfl] at hsz
    obtain ⟨n', hn'⟩ : ∃ n', n' = cs.length := ⟨_, rfl⟩
    have HSZ := Aside0.mk (show n' * 4 ≤ cur.size by omega)
    have hn16 : n' ≤ 16384 := by have := HLEN.out; omega
    have hc16 : n' ≤ c1 := by omega
    rw [← hn']
    clear hge hcur hcap hsz hn0 hn' HO HLEN HR1 HT0
    go_loopg [28] n' (fun kq v28 wr => ∃ j : Nat, j + kq = n' ∧ v28 = .int .i64 j ∧ Aside0 (∃ cur, wr.heap[g]? = some (.cells cur 66 (0, 0)) ∧ n' * 4 ≤ cur.size) ∧ Aside0 (Ext (fun i => i = g) (W3.drewN nd) wr))
    case atStart => exact ⟨0, by omega, rfl, ⟨cur, HCUR.out, HSZ.out⟩, ⟨Ext.refl _ _⟩⟩
    case round =>
      obtain ⟨j, hj, rfl, HC, HX⟩ := hrel
      by_cases hlt : j < n'
      · have HJ := Aside0.mk hj
        clear hj
        obtain ⟨cu, hcu, hsz⟩ := HC.out
        have q0 : wr.cell? ⟨g, j * 4, none⟩ = some cu[j * 4] := (blk_cell hcu _).trans (Array.getElem?_eq_getElem (by omega))
        have q1 : wr.cell? ⟨g, j * 4 + 1, none⟩ = some cu[j * 4 + 1] := (blk_cell hcu _).trans (Array.getElem?_eq_getElem (by omega))
        have q2 : wr.cell? ⟨g, j * 4 + 2, none⟩ = some cu[j * 4 + 2] := (blk_cell hcu _).trans (Array.getElem?_eq_getElem (by omega))
        have q3 : wr.cell? ⟨g, j * 4 + 3, none⟩ = some cu[j * 4 + 3] := (blk_cell hcu _).trans (Array.getElem?_eq_getElem (by omega))
        have u0 := blk_frozen hcu (j * 4)
        have u1 := blk_frozen hcu (j * 4 + 1)
        have u2 := blk_frozen hcu (j * 4 + 2)
        have u3 := blk_frozen hcu (j * 4 + 3)
        have HCU := Aside0.mk hcu
        have HSZ2 := Aside0.mk hsz
        have HLT := Aside0.mk hlt
        generalize cu[j * 4] = y0 at q0
        generalize cu[j * 4 + 1] = y1 at q1
        generalize cu[j * 4 + 2] = y2 at q2
        generalize cu[j * 4 + 3] = y3 at q3
        clear hcu hsz
        go_wp2_with (fail)
        go_roundg (n' - (j + 1))
        case measure => have := HJ.out; have := HLT.out; omega
        case rel =>
          have hj1 := HLT.out
          exact ⟨j + 1, by omega, by simp, ⟨_, blk_set (blk_set (blk_set (blk_set HCU.out _ _) _ _) _ _) _ _, by simp; exact HSZ2.out⟩, ⟨Ext.set4 HX.out rfl _ _ _ _ _⟩⟩
      · go_wp2_with (fail)
        go_ret
        exact ⟨rfl, mm, last, L, sv, Bs, TW.out.far_set HGE.out.1 HGE.out.2.1 HGE.out.2.2 HX.out, S.out, by have := HN.out; omega⟩
/-- An action on both memories. -/
theorem play_calls {N : Nat} (h : Two w W m mm last L r sv Bs) (hs : Sim last L Bs) (hN : Bs.length ≤ N) (hN2 : N < 1759218604441) (x : Act1) (hx : x.In) : Calls Try.prog 23 #[.pointer (some ⟨m, 0, none⟩), .pointer (some ⟨r, 0, none⟩), x.enc] W fun e w' => e = .returned (.bool true) ∧ Played w m r (N + 1) w' := by
  by_cases hk : x.k < 0 ∨ 8 < x.k
  · exact play_no h hs hN hN2 x hk hx
  · have hd : x.k = 0 ∨ x.k = 1 ∨ x.k = 2 ∨ x.k = 3 ∨ x.k = 4 ∨ x.k = 5 ∨ x.k = 6 ∨ x.k = 7 ∨ x.k = 8 := by omega
    rcases hd with e | e | e | e | e | e | e | e | e
    · exact play_0 h hs hN hN2 x e hx
    · exact play_1 h hs hN hN2 x e hx
    · exact play_2 h hs hN hN2 x e hx
    · exact play_3 h hs hN hN2 x e hx
    · exact play_4 h hs hN hN2 x e hx
    · exact play_5 h hs hN hN2 x e hx
    · exact play_6 h hs hN hN2 x e hx
    · exact play_7 h hs hN hN2 x e hx
    · exact play_8 h hs hN hN2 x e hx
end Go.Proofs.Ythdnhfjodhjejaa.Ma
