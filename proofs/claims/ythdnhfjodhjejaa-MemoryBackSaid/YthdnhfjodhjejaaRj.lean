/- The document's memory: Copy. No condition beyond those each theorem names. -/
import Derived.Test.YthdnhfjodhjejaaRi
namespace Go.Proofs.Ythdnhfjodhjejaa.Ma
open Go.RowKit Go.Proofs.Ythdnhfjodhjejaa.PMe Go.Proofs.YthdnhfjodhjejaaW.PrintWords Go.Proofs.YthdnhfjodhjejaaW.PrintLast Go.Proofs.YthdnhfjodhjejaaW.PrintMore
set_option linter.unusedVariables false
set_option linter.unusedSimpArgs false
variable {w w' : World} {r : Nat} {sv : Value} {Bs : List Blk}
/-- What Copy answers, and the blocks behind it. -/
def rcopyF (Bs : List Blk) (x y : V3) (n al : Int) : Int × List Blk := match ratR Bs x n al, ratR Bs y n al with
  | some p, some q => if x.b = y.b ∧ x.v ≠ y.v ∧ x.v < y.v + n ∧ y.v < x.v + n then (3, Bs) else (0, updB Bs x.b (put p.cs x.v.toNat (sub q.cs y.v.toNat n.toNat)))
  | _, _ => (3, Bs)
set_option maxHeartbeats 8000000 in
set_option maxRecDepth 100000 in
theorem rCopy_no (h : RM w r sv Bs) (x y : V3) (n al : Int) (h0 : 0 ≤ x.v) (h1 : x.v < 4294967296) (h2 : 0 ≤ y.v) (h3 : y.v < 4294967296) (hn2 : n < 9223372036854775808) (ha : ratR Bs x n al = none ∨ ratR Bs y n al = none) : Calls Try.prog 58 #[.pointer (some ⟨r, 0, none⟩), x.enc, y.enc, .int .i64 n, .int .i64 al] w fun e w' => e = .returned (.int .i64 3) ∧ Below w.heap.size w w' := by
  have hu51 := Try.underlying51
  have hu66 := Try.underlying66
  have H := Aside0.mk h
  clear h
  obtain ⟨k, v, b⟩ := x
  obtain ⟨yk, yv, yb⟩ := y
  unfold V3.enc
  simp only at h0 h1 h2 h3 ha ⊢
  have hcx := fun W (hW : RM W r sv Bs) => rat_calls hW ⟨k, v, b⟩ n al h0 h1 hn2
  have hcy := fun W (hW : RM W r sv Bs) => rat_calls hW ⟨yk, yv, yb⟩ n al h2 h3 hn2
  cases hr : ratR Bs ⟨k, v, b⟩ n al with
  | none =>
    rw [hr] at hcx
    have HCX := Aside0.mk hcx
    clear hcx hcy ha hr
    go_enter Try.func58, Try.ntmps58
    go_wp2_with (fail)
    go_at_call 86
    refine (HCX.out _ (H.out.below (by (repeat (first | (with_reducible exact Below.refl _ _) | (with_reducible assumption) | with_reducible apply below_alloc | with_reducible apply pw_below_drewN | with_reducible apply below_drew1))))).mono ?_
    rintro e W1 ⟨rfl, hB0⟩
    have R6 := blk_below (blk_alloc (heap_at w (.cells #[.int .i64 k, .int .u32 v, .int .i64 b] 51) w.heap.size rfl) (.cells #[.int .i64 yk, .int .u32 yv, .int .i64 yb] 51)) hB0
    have R7 := blk_below (heap_at (w.alloc (.cells #[.int .i64 k, .int .u32 v, .int .i64 b] 51)) (.cells #[.int .i64 yk, .int .u32 yv, .int .i64 yb] 51) (w.heap.size + 1) (by simp)) hB0
    have hB := pm_chain (w := w) (by (repeat (first | (with_reducible exact Below.refl _ _) | (with_reducible assumption) | with_reducible apply below_alloc | with_reducible apply pw_below_drewN | with_reducible apply below_drew1))) hB0
    clear hB0
    simp only [Option.isSome]
    go_wp2_with (fail)
    go_ret
    exact ⟨rfl, hB⟩
  | some p =>
    rw [hr] at hcx ha
    have hs : ratR Bs ⟨yk, yv, yb⟩ n al = none := by rcases ha with h | h <;> first | exact h | cases h
    rw [hs] at hcy
    have HCX := Aside0.mk hcx
    have HCY := Aside0.mk hcy
    clear hcx hcy ha hr hs
    go_enter Try.func58, Try.ntmps58
    go_wp2_with (fail)
    go_at_call 86
    refine (HCX.out _ (H.out.below (by (repeat (first | (with_reducible exact Below.refl _ _) | (with_reducible assumption) | with_reducible apply below_alloc | with_reducible apply pw_below_drewN | with_reducible apply below_drew1))))).mono ?_
    rintro e W1 ⟨rfl, hB0⟩
    have R6 := blk_below (blk_alloc (heap_at w (.cells #[.int .i64 k, .int .u32 v, .int .i64 b] 51) w.heap.size rfl) (.cells #[.int .i64 yk, .int .u32 yv, .int .i64 yb] 51)) hB0
    have R7 := blk_below (heap_at (w.alloc (.cells #[.int .i64 k, .int .u32 v, .int .i64 b] 51)) (.cells #[.int .i64 yk, .int .u32 yv, .int .i64 yb] 51) (w.heap.size + 1) (by simp)) hB0
    have hB := pm_chain (w := w) (by (repeat (first | (with_reducible exact Below.refl _ _) | (with_reducible assumption) | with_reducible apply below_alloc | with_reducible apply pw_below_drewN | with_reducible apply below_drew1))) hB0
    clear hB0
    simp only [Option.isSome]
    obtain ⟨⟨c0, c1, c2⟩, _⟩ := know3 R7
    go_wp2_with (fail)
    go_at_call 86
    refine (HCY.out _ (H.out.below hB)).mono ?_
    rintro e W2 ⟨rfl, hB0⟩
    replace R6 := blk_below R6 hB0
    replace R7 := blk_below R7 hB0
    replace hB := pm_chain (w := w) hB hB0
    clear hB0 c0 c1 c2
    simp only [Option.isSome]
    go_wp2_with (fail)
    go_ret
    exact ⟨rfl, hB⟩
set_option maxHeartbeats 40000000 in
set_option maxRecDepth 100000 in
theorem rCopy_go (h : RM w r sv Bs) (x y : V3) (n al : Int) (h0 : 0 ≤ x.v) (h1 : x.v < 4294967296) (h2 : 0 ≤ y.v) (h3 : y.v < 4294967296) (hn2 : n < 9223372036854775808) {p q : Blk} (hax : ratR Bs x n al = some p) (hay : ratR Bs y n al = some q) : Calls Try.prog 58 #[.pointer (some ⟨r, 0, none⟩), x.enc, y.enc, .int .i64 n, .int .i64 al] w fun e w' => e = .returned (.int .i64 (rcopyF Bs x y n al).1) ∧ RDid w w' r sv Bs sv (rcopyF Bs x y n al).2 := by
  unfold rcopyF
  rw [hax, hay]
  simp only
  have hu51 := Try.underlying51
  have hu66 := Try.underlying66
  have H := Aside0.mk h
  clear h
  obtain ⟨k, v, b⟩ := x
  obtain ⟨yk, yv, yb⟩ := y
  unfold V3.enc
  simp only at h0 h1 h2 h3 hax hay ⊢
  have hcx := fun W (hW : RM W r sv Bs) => rat_calls hW ⟨k, v, b⟩ n al h0 h1 hn2
  have hcy := fun W (hW : RM W r sv Bs) => rat_calls hW ⟨yk, yv, yb⟩ n al h2 h3 hn2
  rw [hax] at hcx
  rw [hay] at hcy
  have HCX := Aside0.mk hcx
  have HCY := Aside0.mk hcy
  obtain ⟨hg, hn1, _, hle, _, _⟩ := ratR_some hax
  obtain ⟨hg', _, _, hle', _, _⟩ := ratR_some hay
  have hl := (goodR_some hg).2.1
  have hl' := (goodR_some hg').2.1
  clear hcx hcy hg hg' hax hay
  simp only at hle hl hle' hl'
  have hdead := (livR_some hl).2.2.2
  have hdead' := (livR_some hl').2.2.2
  have HL := Aside0.mk hl
  have HL' := Aside0.mk hl'
  obtain ⟨K, _, _, rfl, hK, hKl, _, _, _, l1, l2, _, _⟩ := livR_at H.out hl
  obtain ⟨J, _, _, rfl, hJ, hJl, _, _, _, l3, l4, _, _⟩ := livR_at H.out hl'
  obtain ⟨V, rfl⟩ : ∃ V : Nat, v = V := ⟨v.toNat, by omega⟩
  obtain ⟨U, rfl⟩ : ∃ U : Nat, yv = U := ⟨yv.toNat, by omega⟩
  obtain ⟨N, rfl⟩ : ∃ N : Nat, n = N := ⟨n.toNat, by omega⟩
  have HF := Aside0.mk (And.intro (And.intro hKl hJl) (And.intro H.out.big (And.intro (And.intro (show V + N ≤ p.cs.length by omega) (show U + N ≤ q.cs.length by omega)) (And.intro l2 l4))))
  have HK := Aside0.mk (And.intro hK hdead)
  have HJ0 := Aside0.mk (And.intro hJ hdead')
  have hV : V ≤ 16384 := by omega
  have hU : U ≤ 16384 := by omega
  have hN : N ≤ 16384 := by omega
  have HN1 := Aside0.mk (show 1 ≤ N by omega)
  simp only [Int.toNat_natCast]
  rw [updB_at hK]
  generalize hO : (if (K : Int) + 1 = (J : Int) + 1 ∧ (V : Int) ≠ U ∧ (V : Int) < (U : Int) + N ∧ (U : Int) < (V : Int) + N then ((3 : Int), Bs) else (0, Bs.set K (wr p (put p.cs V (sub q.cs U N))))) = O
  obtain ⟨O1, O2⟩ := O
  have HO := Aside0.mk hO
  clear h0 h1 h2 h3 hn2 hle hl hle' hl' hn1 l1 l2 l3 l4 hdead hdead' hK hKl hJ hJl hO
  go_enter Try.func58, Try.ntmps58
  go_wp2_with (fail)
  go_at_call 86
  refine (HCX.out _ (H.out.below (by (repeat (first | (with_reducible exact Below.refl _ _) | (with_reducible assumption) | with_reducible apply below_alloc | with_reducible apply pw_below_drewN | with_reducible apply below_drew1))))).mono ?_
  rintro e W1 ⟨rfl, hB0⟩
  have R6 := blk_below (blk_alloc (heap_at w (.cells #[.int .i64 k, .int .u32 (V : Int), .int .i64 ((K : Int) + 1)] 51) w.heap.size rfl) (.cells #[.int .i64 yk, .int .u32 (U : Int), .int .i64 ((J : Int) + 1)] 51)) hB0
  have R7 := blk_below (heap_at (w.alloc (.cells #[.int .i64 k, .int .u32 (V : Int), .int .i64 ((K : Int) + 1)] 51)) (.cells #[.int .i64 yk, .int .u32 (U : Int), .int .i64 ((J : Int) + 1)] 51) (w.heap.size + 1) (by simp)) hB0
  have hB := pm_chain (w := w) (by (repeat (first | (with_reducible exact Below.refl _ _) | (with_reducible assumption) | with_reducible apply below_alloc | with_reducible apply pw_below_drewN | with_reducible apply below_drew1))) hB0
  clear hB0
  simp only [Option.isSome]
  obtain ⟨⟨c0, c1, c2⟩, _⟩ := know3 R7
  go_wp2_with (fail)
  go_at_call 86
  refine (HCY.out _ (H.out.below hB)).mono ?_
  rintro e W2 ⟨rfl, hB0⟩
  replace R6 := blk_below R6 hB0
  replace R7 := blk_below R7 hB0
  replace hB := pm_chain (w := w) hB hB0
  clear hB0 c0 c1 c2
  simp only [Option.isSome]
  obtain ⟨g7, hg7⟩ : ∃ g, g = w.heap.size + 1 := ⟨_, rfl⟩
  obtain ⟨g6, hg6⟩ : ∃ g, g = w.heap.size := ⟨_, rfl⟩
  rw [← hg7, ← hg6]
  rw [← hg6] at R6
  rw [← hg7] at R7
  have HG := Aside0.mk (show g6 ≠ p.g ∧ g7 ≠ p.g by have := blk_lt (H.out.row p (List.mem_of_getElem? HK.out.1) HK.out.2); omega)
  clear hg6 hg7
  obtain ⟨⟨k0, k1, k2⟩, _⟩ := know3 R6
  obtain ⟨⟨c0, c1, c2⟩, _⟩ := know3 R7
  have HR6 := Aside0.mk R6
  have HR7 := Aside0.mk R7
  have HB := Aside0.mk hB
  clear R6 R7 hB
  have f4 : IntKind.i64.wrap (V : Int) = V := IntWalk.i64_in _ (by omega)
  have f5 : IntKind.i64.wrap (U : Int) = U := IntWalk.i64_in _ (by omega)
  go_wp2_with (fail)
  go_quiet (fail)
  clear k0 k1 k2 c0 c1 c2 f4 f5
  replace HB := Aside0.mk (show Below w.heap.size w (W2.drewN nq) by have hB := HB.out; (repeat (first | (with_reducible exact Below.refl _ _) | (with_reducible assumption) | with_reducible apply below_alloc | with_reducible apply pw_below_drewN | with_reducible apply below_drew1)))
  replace HR6 := Aside0.mk (blk_drewN HR6.out nq)
  replace HR7 := Aside0.mk (blk_drewN HR7.out nq)
  generalize W2.drewN nq = W3 at HB HR6 HR7 ⊢
  obtain ⟨⟨k0, k1, k2⟩, _⟩ := know3 HR6.out
  obtain ⟨⟨c0, c1, c2⟩, _⟩ := know3 HR7.out
  have HRM := Aside0.mk (H.out.below HB.out)
  by_cases cb : (K : Int) + 1 = (J : Int) + 1
  · have kb : ((K : Int) + 1 == (J : Int) + 1) = true := beq_iff_eq.mpr cb
    have kb2 : ((K : Int) == (J : Int)) = true := beq_iff_eq.mpr (by omega)
    by_cases cv : (V : Int) = U
    · have kv : ((V : Int) != U) = false := bne_eq_false_iff_eq.mpr cv
      have CV := Aside0.mk cv
      have hO := HO.out
      rw [if_neg (fun h => h.2.1 cv)] at hO
      cases hO
      have HAP : Aside0 (p.g = q.g → V = U ∨ V + N ≤ U ∨ U + N ≤ V) := ⟨fun _ => .inl (by omega)⟩
      clear HO cb cv
      obtain ⟨d0, _⟩ := HRM.out.cells
      obtain ⟨K', hb, cap, hKK, _, _, hsv, hcap, ⟨e4, e5, e6⟩, _, _, hrow, _⟩ := livR_at HRM.out HL.out
      obtain rfl : K' = K := by omega
      obtain ⟨J', hb', cap', hJJ, _, _, hsv', hcap', ⟨i4, i5, i6⟩, _, _, hrow', _⟩ := livR_at HRM.out HL'.out
      obtain rfl : J' = J := by omega
      rw [hsv] at d0 hsv'
      injection hsv' with q1 _ q3
      injection q1 with q1
      injection q1 with q1
      subst q1 q3
      have HROW := Aside0.mk hrow
      have HROW' := Aside0.mk hrow'
      clear hKK hJJ hsv hrow hrow' hcap'
      go_wp2_with (fail)
      have f2 : IntKind.i64.wrap ((K' : Int) + 1 - 1) = K' := by have := HF.out; rw [show (K' : Int) + 1 - 1 = K' by omega]; exact IntWalk.i64_in _ (by omega)
      have f3 : (0 : Int) ≤ K' := by omega
      have f10 : (K' : Int) < (Bs.length : Int) := by have := HF.out; omega
      have f11 : IntKind.i64.wrap (K' : Int) = K' := IntWalk.i64_in _ (by have := HF.out; omega)
      have t2 : IntKind.i64.wrap ((J' : Int) + 1 - 1) = J' := by have := HF.out; rw [show (J' : Int) + 1 - 1 = J' by omega]; exact IntWalk.i64_in _ (by omega)
      have t3 : (0 : Int) ≤ J' := by omega
      have t10 : (J' : Int) < (Bs.length : Int) := by have := HF.out; omega
      have t11 : IntKind.i64.wrap (J' : Int) = J' := IntWalk.i64_in _ (by have := HF.out; omega)
      go_quiet (fail)
      clear f2 f3 f10 f11 t2 t3 t10 t11 d0 e4 e5 e6 i4 i5 i6 k0 k1 k2 c0 c1 c2 hcap
      have HRM4 := Aside0.mk (HRM.out.below (show Below W3.heap.size W3 (W3.drewN nq) by (repeat (first | (with_reducible exact Below.refl _ _) | (with_reducible assumption) | with_reducible apply below_alloc | with_reducible apply pw_below_drewN | with_reducible apply below_drew1))))
      have HB4 := Aside0.mk (show Below w.heap.size w (W3.drewN nq) by have hB := HB.out; (repeat (first | (with_reducible exact Below.refl _ _) | (with_reducible assumption) | with_reducible apply below_alloc | with_reducible apply pw_below_drewN | with_reducible apply below_drew1)))
      have HROW4 := Aside0.mk (blk_drewN HROW.out nq)
      have HROW4' := Aside0.mk (blk_drewN HROW'.out nq)
      clear HB HR6 HR7 HRM HROW HROW'
      generalize W3.drewN nq = W4 at HRM4 HB4 HROW4 HROW4' ⊢
      go_wp2_with (fail)
      have HPQ := Aside0.mk (show p.g = q.g → p = q from fun e => by
        by_cases ek : K' = J'
        · subst ek
          exact Option.some.inj (HK.out.1.symm.trans HJ0.out.1)
        · have hnd := HRM4.out.nodup
          unfold rfoot at hnd
          rw [List.nodup_cons, List.nodup_append] at hnd
          exact absurd (by rw [e]; simp [Blk.fp, HJ0.out.2]) (flat_ne_at hnd.2.2.1 HK.out.1 HJ0.out.1 ek p.g (by simp [Blk.fp, HK.out.2])))
      obtain ⟨l, hll⟩ : ∃ l : List S66, l = sub q.cs U N := ⟨_, rfl⟩
      have HLEN := Aside0.mk (show l.length = N by rw [hll]; exact sub_len (by have := HF.out; omega))
      have HLL := Aside0.mk hll
      clear hll
      go_loopg [15] N (fun kq v15 wr => ∃ j : Nat, j + kq = N ∧ v15 = .int .i64 j ∧ Aside0 (wr.heap[p.g]? = some (.cells (rowC (put p.cs V (l.take j))) 66 (0, 0))) ∧ Aside0 (Ext (fun i => i = p.g) W4 wr))
      case atStart => exact ⟨0, by omega, rfl, ⟨by rw [List.take_zero, put_nil]; exact HROW4.out⟩, ⟨Ext.refl _ _⟩⟩
      case round =>
        obtain ⟨j, hj, rfl, HG1, HX⟩ := hrel
        by_cases hlt : j < N
        · have HJJ := Aside0.mk hj
          clear hj
          have hlp : (put p.cs V (l.take j)).length = p.cs.length := put_len (by have := HLEN.out; have := HF.out; simp only [List.length_take]; omega)
          obtain ⟨c, hc⟩ : ∃ c, q.cs[U + j]? = some c := ⟨_, List.getElem?_eq_getElem (by have := HF.out; omega)⟩
          have hsrc : ∃ X, wr.heap[q.g]? = some (.cells (rowC X) 66 (0, 0)) ∧ X[U + j]? = some c := by
            by_cases e : p.g = q.g
            · obtain rfl := HPQ.out e
              refine ⟨_, HG1.out, ?_⟩
              rw [put_get (by have := HLEN.out; have := HF.out; simp only [List.length_take]; omega), if_neg (by have := HAP.out rfl; have := HLEN.out; simp only [List.length_take]; omega)]
              exact hc
            · exact ⟨_, HX.out.at HROW4'.out (fun h => e h.symm), hc⟩
          obtain ⟨X, hX, hXc⟩ := hsrc
          have e0 := row_cell hX (U + j) 0 (by omega)
          have e1 := row_cell hX (U + j) 1 (by omega)
          have e2 := row_cell hX (U + j) 2 (by omega)
          have e3 := row_cell hX (U + j) 3 (by omega)
          rw [hXc] at e0 e1 e2 e3
          simp only [Option.bind_some, encC, List.getElem?_cons_zero, List.getElem?_cons_succ, Nat.add_zero] at e0 e1 e2 e3
          obtain ⟨⟨y0, y1, y2, y3, g0, g1, g2, g3⟩, u0, u1, u2, u3⟩ := row_cells HG1.out (V + j) (by rw [hlp]; have := HF.out; omega)
          have HLP := Aside0.mk hlp
          have HC := Aside0.mk hc
          have HLT := Aside0.mk hlt
          have f8 : (V : Int) + j < (p.cs.length : Int) := by have := HF.out; omega
          have f9 : ((V : Int) + j).toNat = V + j := by omega
          have t8 : (U : Int) + j < (q.cs.length : Int) := by have := HF.out; omega
          have t9 : ((U : Int) + j).toNat = U + j := by omega
          clear hlp hc hX hXc
          go_wp2_with (fail)
          go_roundg (N - (j + 1))
          case measure => have := HJJ.out; have := HLT.out; omega
          case rel =>
            have hj1 := HLT.out
            have hcl : l[j]? = some c := by rw [HLL.out, sub_get _ _ _ _ hj1]; exact HC.out
            have hrp := row_put HG1.out (V + j) (by rw [HLP.out]; have := HF.out; omega) c.f0 c.f1 c.f2 c.f3
            have hst := put_step (cs := p.cs) (i := V) (j := j) (l := l) (c := c) (by have := HLEN.out; have := HF.out; omega) hcl
            exact ⟨j + 1, by omega, by simp, ⟨by rw [hst]; exact hrp⟩, ⟨Ext.set4 HX.out rfl _ _ _ _ _⟩⟩
        · obtain rfl : j = N := by omega
          go_wp2_with (fail)
          go_ret
          have hg := HG1.out
          rw [List.take_of_length_le (by have := HLEN.out; omega), HLL.out] at hg
          exact ⟨rfl, RDid.pre HB4.out (RDid.upd HRM4.out HK.out.1 HK.out.2 (put_len (by rw [← HLL.out]; have := HLEN.out; have := HF.out; omega)) HX.out hg)⟩
    · have kv : ((V : Int) != U) = true := bne_iff_ne.mpr cv
      by_cases c3 : (V : Int) < U + N
      · have k3 : decide ((V : Int) < (U : Int) + N) = true := by simp; omega
        by_cases c4 : (U : Int) < V + N
        · have k4 : decide ((U : Int) < (V : Int) + N) = true := by simp; omega
          have CC := Aside0.mk (And.intro cb (And.intro cv (And.intro c3 c4)))
          clear cb cv c3 c4
          have hO := HO.out
          rw [if_pos CC.out] at hO
          cases hO
          go_wp2_with (fail)
          go_ret
          exact ⟨rfl, RDid.same H.out HB.out⟩
        · have k4 : decide ((U : Int) < (V : Int) + N) = false := by simp; omega
          have hO := HO.out
          rw [if_neg (fun h => c4 h.2.2.2)] at hO
          cases hO
          have HAP : Aside0 (p.g = q.g → V = U ∨ V + N ≤ U ∨ U + N ≤ V) := ⟨fun _ => .inr (.inl (by omega))⟩
          clear HO cb cv c3 c4
          obtain ⟨d0, _⟩ := HRM.out.cells
          obtain ⟨K', hb, cap, hKK, _, _, hsv, hcap, ⟨e4, e5, e6⟩, _, _, hrow, _⟩ := livR_at HRM.out HL.out
          obtain rfl : K' = K := by omega
          obtain ⟨J', hb', cap', hJJ, _, _, hsv', hcap', ⟨i4, i5, i6⟩, _, _, hrow', _⟩ := livR_at HRM.out HL'.out
          obtain rfl : J' = J := by omega
          rw [hsv] at d0 hsv'
          injection hsv' with q1 _ q3
          injection q1 with q1
          injection q1 with q1
          subst q1 q3
          have HROW := Aside0.mk hrow
          have HROW' := Aside0.mk hrow'
          clear hKK hJJ hsv hrow hrow' hcap'
          go_wp2_with (fail)
          have f2 : IntKind.i64.wrap ((K' : Int) + 1 - 1) = K' := by have := HF.out; rw [show (K' : Int) + 1 - 1 = K' by omega]; exact IntWalk.i64_in _ (by omega)
          have f3 : (0 : Int) ≤ K' := by omega
          have f10 : (K' : Int) < (Bs.length : Int) := by have := HF.out; omega
          have f11 : IntKind.i64.wrap (K' : Int) = K' := IntWalk.i64_in _ (by have := HF.out; omega)
          have t2 : IntKind.i64.wrap ((J' : Int) + 1 - 1) = J' := by have := HF.out; rw [show (J' : Int) + 1 - 1 = J' by omega]; exact IntWalk.i64_in _ (by omega)
          have t3 : (0 : Int) ≤ J' := by omega
          have t10 : (J' : Int) < (Bs.length : Int) := by have := HF.out; omega
          have t11 : IntKind.i64.wrap (J' : Int) = J' := IntWalk.i64_in _ (by have := HF.out; omega)
          go_quiet (fail)
          clear f2 f3 f10 f11 t2 t3 t10 t11 d0 e4 e5 e6 i4 i5 i6 k0 k1 k2 c0 c1 c2 hcap
          have HRM4 := Aside0.mk (HRM.out.below (show Below W3.heap.size W3 (W3.drewN nq) by (repeat (first | (with_reducible exact Below.refl _ _) | (with_reducible assumption) | with_reducible apply below_alloc | with_reducible apply pw_below_drewN | with_reducible apply below_drew1))))
          have HB4 := Aside0.mk (show Below w.heap.size w (W3.drewN nq) by have hB := HB.out; (repeat (first | (with_reducible exact Below.refl _ _) | (with_reducible assumption) | with_reducible apply below_alloc | with_reducible apply pw_below_drewN | with_reducible apply below_drew1)))
          have HROW4 := Aside0.mk (blk_drewN HROW.out nq)
          have HROW4' := Aside0.mk (blk_drewN HROW'.out nq)
          clear HB HR6 HR7 HRM HROW HROW'
          generalize W3.drewN nq = W4 at HRM4 HB4 HROW4 HROW4' ⊢
          go_wp2_with (fail)
          have HPQ := Aside0.mk (show p.g = q.g → p = q from fun e => by
            by_cases ek : K' = J'
            · subst ek
              exact Option.some.inj (HK.out.1.symm.trans HJ0.out.1)
            · have hnd := HRM4.out.nodup
              unfold rfoot at hnd
              rw [List.nodup_cons, List.nodup_append] at hnd
              exact absurd (by rw [e]; simp [Blk.fp, HJ0.out.2]) (flat_ne_at hnd.2.2.1 HK.out.1 HJ0.out.1 ek p.g (by simp [Blk.fp, HK.out.2])))
          obtain ⟨l, hll⟩ : ∃ l : List S66, l = sub q.cs U N := ⟨_, rfl⟩
          have HLEN := Aside0.mk (show l.length = N by rw [hll]; exact sub_len (by have := HF.out; omega))
          have HLL := Aside0.mk hll
          clear hll
          go_loopg [15] N (fun kq v15 wr => ∃ j : Nat, j + kq = N ∧ v15 = .int .i64 j ∧ Aside0 (wr.heap[p.g]? = some (.cells (rowC (put p.cs V (l.take j))) 66 (0, 0))) ∧ Aside0 (Ext (fun i => i = p.g) W4 wr))
          case atStart => exact ⟨0, by omega, rfl, ⟨by rw [List.take_zero, put_nil]; exact HROW4.out⟩, ⟨Ext.refl _ _⟩⟩
          case round =>
            obtain ⟨j, hj, rfl, HG1, HX⟩ := hrel
            by_cases hlt : j < N
            · have HJJ := Aside0.mk hj
              clear hj
              have hlp : (put p.cs V (l.take j)).length = p.cs.length := put_len (by have := HLEN.out; have := HF.out; simp only [List.length_take]; omega)
              obtain ⟨c, hc⟩ : ∃ c, q.cs[U + j]? = some c := ⟨_, List.getElem?_eq_getElem (by have := HF.out; omega)⟩
              have hsrc : ∃ X, wr.heap[q.g]? = some (.cells (rowC X) 66 (0, 0)) ∧ X[U + j]? = some c := by
                by_cases e : p.g = q.g
                · obtain rfl := HPQ.out e
                  refine ⟨_, HG1.out, ?_⟩
                  rw [put_get (by have := HLEN.out; have := HF.out; simp only [List.length_take]; omega), if_neg (by have := HAP.out rfl; have := HLEN.out; simp only [List.length_take]; omega)]
                  exact hc
                · exact ⟨_, HX.out.at HROW4'.out (fun h => e h.symm), hc⟩
              obtain ⟨X, hX, hXc⟩ := hsrc
              have e0 := row_cell hX (U + j) 0 (by omega)
              have e1 := row_cell hX (U + j) 1 (by omega)
              have e2 := row_cell hX (U + j) 2 (by omega)
              have e3 := row_cell hX (U + j) 3 (by omega)
              rw [hXc] at e0 e1 e2 e3
              simp only [Option.bind_some, encC, List.getElem?_cons_zero, List.getElem?_cons_succ, Nat.add_zero] at e0 e1 e2 e3
              obtain ⟨⟨y0, y1, y2, y3, g0, g1, g2, g3⟩, u0, u1, u2, u3⟩ := row_cells HG1.out (V + j) (by rw [hlp]; have := HF.out; omega)
              have HLP := Aside0.mk hlp
              have HC := Aside0.mk hc
              have HLT := Aside0.mk hlt
              have f8 : (V : Int) + j < (p.cs.length : Int) := by have := HF.out; omega
              have f9 : ((V : Int) + j).toNat = V + j := by omega
              have t8 : (U : Int) + j < (q.cs.length : Int) := by have := HF.out; omega
              have t9 : ((U : Int) + j).toNat = U + j := by omega
              clear hlp hc hX hXc
              go_wp2_with (fail)
              go_roundg (N - (j + 1))
              case measure => have := HJJ.out; have := HLT.out; omega
              case rel =>
                have hj1 := HLT.out
                have hcl : l[j]? = some c := by rw [HLL.out, sub_get _ _ _ _ hj1]; exact HC.out
                have hrp := row_put HG1.out (V + j) (by rw [HLP.out]; have := HF.out; omega) c.f0 c.f1 c.f2 c.f3
                have hst := put_step (cs := p.cs) (i := V) (j := j) (l := l) (c := c) (by have := HLEN.out; have := HF.out; omega) hcl
                exact ⟨j + 1, by omega, by simp, ⟨by rw [hst]; exact hrp⟩, ⟨Ext.set4 HX.out rfl _ _ _ _ _⟩⟩
            · obtain rfl : j = N := by omega
              go_wp2_with (fail)
              go_ret
              have hg := HG1.out
              rw [List.take_of_length_le (by have := HLEN.out; omega), HLL.out] at hg
              exact ⟨rfl, RDid.pre HB4.out (RDid.upd HRM4.out HK.out.1 HK.out.2 (put_len (by rw [← HLL.out]; have := HLEN.out; have := HF.out; omega)) HX.out hg)⟩
      · have k3 : decide ((V : Int) < (U : Int) + N) = false := by simp; omega
        have hO := HO.out
        rw [if_neg (fun h => c3 h.2.2.1)] at hO
        cases hO
        have HAP : Aside0 (p.g = q.g → V = U ∨ V + N ≤ U ∨ U + N ≤ V) := ⟨fun _ => .inr (.inr (by omega))⟩
        clear HO cb cv c3
        obtain ⟨d0, _⟩ := HRM.out.cells
        obtain ⟨K', hb, cap, hKK, _, _, hsv, hcap, ⟨e4, e5, e6⟩, _, _, hrow, _⟩ := livR_at HRM.out HL.out
        obtain rfl : K' = K := by omega
        obtain ⟨J', hb', cap', hJJ, _, _, hsv', hcap', ⟨i4, i5, i6⟩, _, _, hrow', _⟩ := livR_at HRM.out HL'.out
        obtain rfl : J' = J := by omega
        rw [hsv] at d0 hsv'
        injection hsv' with q1 _ q3
        injection q1 with q1
        injection q1 with q1
        subst q1 q3
        have HROW := Aside0.mk hrow
        have HROW' := Aside0.mk hrow'
        clear hKK hJJ hsv hrow hrow' hcap'
        go_wp2_with (fail)
        have f2 : IntKind.i64.wrap ((K' : Int) + 1 - 1) = K' := by have := HF.out; rw [show (K' : Int) + 1 - 1 = K' by omega]; exact IntWalk.i64_in _ (by omega)
        have f3 : (0 : Int) ≤ K' := by omega
        have f10 : (K' : Int) < (Bs.length : Int) := by have := HF.out; omega
        have f11 : IntKind.i64.wrap (K' : Int) = K' := IntWalk.i64_in _ (by have := HF.out; omega)
        have t2 : IntKind.i64.wrap ((J' : Int) + 1 - 1) = J' := by have := HF.out; rw [show (J' : Int) + 1 - 1 = J' by omega]; exact IntWalk.i64_in _ (by omega)
        have t3 : (0 : Int) ≤ J' := by omega
        have t10 : (J' : Int) < (Bs.length : Int) := by have := HF.out; omega
        have t11 : IntKind.i64.wrap (J' : Int) = J' := IntWalk.i64_in _ (by have := HF.out; omega)
        go_quiet (fail)
        clear f2 f3 f10 f11 t2 t3 t10 t11 d0 e4 e5 e6 i4 i5 i6 k0 k1 k2 c0 c1 c2 hcap
        have HRM4 := Aside0.mk (HRM.out.below (show Below W3.heap.size W3 (W3.drewN nq) by (repeat (first | (with_reducible exact Below.refl _ _) | (with_reducible assumption) | with_reducible apply below_alloc | with_reducible apply pw_below_drewN | with_reducible apply below_drew1))))
        have HB4 := Aside0.mk (show Below w.heap.size w (W3.drewN nq) by have hB := HB.out; (repeat (first | (with_reducible exact Below.refl _ _) | (with_reducible assumption) | with_reducible apply below_alloc | with_reducible apply pw_below_drewN | with_reducible apply below_drew1)))
        have HROW4 := Aside0.mk (blk_drewN HROW.out nq)
        have HROW4' := Aside0.mk (blk_drewN HROW'.out nq)
        clear HB HR6 HR7 HRM HROW HROW'
        generalize W3.drewN nq = W4 at HRM4 HB4 HROW4 HROW4' ⊢
        go_wp2_with (fail)
        have HPQ := Aside0.mk (show p.g = q.g → p = q from fun e => by
          by_cases ek : K' = J'
          · subst ek
            exact Option.some.inj (HK.out.1.symm.trans HJ0.out.1)
          · have hnd := HRM4.out.nodup
            unfold rfoot at hnd
            rw [List.nodup_cons, List.nodup_append] at hnd
            exact absurd (by rw [e]; simp [Blk.fp, HJ0.out.2]) (flat_ne_at hnd.2.2.1 HK.out.1 HJ0.out.1 ek p.g (by simp [Blk.fp, HK.out.2])))
        obtain ⟨l, hll⟩ : ∃ l : List S66, l = sub q.cs U N := ⟨_, rfl⟩
        have HLEN := Aside0.mk (show l.length = N by rw [hll]; exact sub_len (by have := HF.out; omega))
        have HLL := Aside0.mk hll
        clear hll
        go_loopg [15] N (fun kq v15 wr => ∃ j : Nat, j + kq = N ∧ v15 = .int .i64 j ∧ Aside0 (wr.heap[p.g]? = some (.cells (rowC (put p.cs V (l.take j))) 66 (0, 0))) ∧ Aside0 (Ext (fun i => i = p.g) W4 wr))
        case atStart => exact ⟨0, by omega, rfl, ⟨by rw [List.take_zero, put_nil]; exact HROW4.out⟩, ⟨Ext.refl _ _⟩⟩
        case round =>
          obtain ⟨j, hj, rfl, HG1, HX⟩ := hrel
          by_cases hlt : j < N
          · have HJJ := Aside0.mk hj
            clear hj
            have hlp : (put p.cs V (l.take j)).length = p.cs.length := put_len (by have := HLEN.out; have := HF.out; simp only [List.length_take]; omega)
            obtain ⟨c, hc⟩ : ∃ c, q.cs[U + j]? = some c := ⟨_, List.getElem?_eq_getElem (by have := HF.out; omega)⟩
            have hsrc : ∃ X, wr.heap[q.g]? = some (.cells (rowC X) 66 (0, 0)) ∧ X[U + j]? = some c := by
              by_cases e : p.g = q.g
              · obtain rfl := HPQ.out e
                refine ⟨_, HG1.out, ?_⟩
                rw [put_get (by have := HLEN.out; have := HF.out; simp only [List.length_take]; omega), if_neg (by have := HAP.out rfl; have := HLEN.out; simp only [List.length_take]; omega)]
                exact hc
              · exact ⟨_, HX.out.at HROW4'.out (fun h => e h.symm), hc⟩
            obtain ⟨X, hX, hXc⟩ := hsrc
            have e0 := row_cell hX (U + j) 0 (by omega)
            have e1 := row_cell hX (U + j) 1 (by omega)
            have e2 := row_cell hX (U + j) 2 (by omega)
            have e3 := row_cell hX (U + j) 3 (by omega)
            rw [hXc] at e0 e1 e2 e3
            simp only [Option.bind_some, encC, List.getElem?_cons_zero, List.getElem?_cons_succ, Nat.add_zero] at e0 e1 e2 e3
            obtain ⟨⟨y0, y1, y2, y3, g0, g1, g2, g3⟩, u0, u1, u2, u3⟩ := row_cells HG1.out (V + j) (by rw [hlp]; have := HF.out; omega)
            have HLP := Aside0.mk hlp
            have HC := Aside0.mk hc
            have HLT := Aside0.mk hlt
            have f8 : (V : Int) + j < (p.cs.length : Int) := by have := HF.out; omega
            have f9 : ((V : Int) + j).toNat = V + j := by omega
            have t8 : (U : Int) + j < (q.cs.length : Int) := by have := HF.out; omega
            have t9 : ((U : Int) + j).toNat = U + j := by omega
            clear hlp hc hX hXc
            go_wp2_with (fail)
            go_roundg (N - (j + 1))
            case measure => have := HJJ.out; have := HLT.out; omega
            case rel =>
              have hj1 := HLT.out
              have hcl : l[j]? = some c := by rw [HLL.out, sub_get _ _ _ _ hj1]; exact HC.out
              have hrp := row_put HG1.out (V + j) (by rw [HLP.out]; have := HF.out; omega) c.f0 c.f1 c.f2 c.f3
              have hst := put_step (cs := p.cs) (i := V) (j := j) (l := l) (c := c) (by have := HLEN.out; have := HF.out; omega) hcl
              exact ⟨j + 1, by omega, by simp, ⟨by rw [hst]; exact hrp⟩, ⟨Ext.set4 HX.out rfl _ _ _ _ _⟩⟩
          · obtain rfl : j = N := by omega
            go_wp2_with (fail)
            go_ret
            have hg := HG1.out
            rw [List.take_of_length_le (by have := HLEN.out; omega), HLL.out] at hg
            exact ⟨rfl, RDid.pre HB4.out (RDid.upd HRM4.out HK.out.1 HK.out.2 (put_len (by rw [← HLL.out]; have := HLEN.out; have := HF.out; omega)) HX.out hg)⟩
  · have kb : ((K : Int) + 1 == (J : Int) + 1) = false := beq_eq_false_iff_ne.mpr cb
    have kb2 : ((K : Int) == (J : Int)) = false := beq_eq_false_iff_ne.mpr (by omega)
    have hO := HO.out
    rw [if_neg (fun h => cb h.1)] at hO
    cases hO
    have HAP : Aside0 (p.g = q.g → V = U ∨ V + N ≤ U ∨ U + N ≤ V) := ⟨fun e => absurd e (by have hnd := H.out.nodup; unfold rfoot at hnd; rw [List.nodup_cons, List.nodup_append] at hnd; intro e; exact absurd (by rw [e]; simp [Blk.fp, HJ0.out.2]) (flat_ne_at hnd.2.2.1 HK.out.1 HJ0.out.1 (by omega) p.g (by simp [Blk.fp, HK.out.2])))⟩
    clear HO cb
    obtain ⟨d0, _⟩ := HRM.out.cells
    obtain ⟨K', hb, cap, hKK, _, _, hsv, hcap, ⟨e4, e5, e6⟩, _, _, hrow, _⟩ := livR_at HRM.out HL.out
    obtain rfl : K' = K := by omega
    obtain ⟨J', hb', cap', hJJ, _, _, hsv', hcap', ⟨i4, i5, i6⟩, _, _, hrow', _⟩ := livR_at HRM.out HL'.out
    obtain rfl : J' = J := by omega
    rw [hsv] at d0 hsv'
    injection hsv' with q1 _ q3
    injection q1 with q1
    injection q1 with q1
    subst q1 q3
    have HROW := Aside0.mk hrow
    have HROW' := Aside0.mk hrow'
    clear hKK hJJ hsv hrow hrow' hcap'
    go_wp2_with (fail)
    have f2 : IntKind.i64.wrap ((K' : Int) + 1 - 1) = K' := by have := HF.out; rw [show (K' : Int) + 1 - 1 = K' by omega]; exact IntWalk.i64_in _ (by omega)
    have f3 : (0 : Int) ≤ K' := by omega
    have f10 : (K' : Int) < (Bs.length : Int) := by have := HF.out; omega
    have f11 : IntKind.i64.wrap (K' : Int) = K' := IntWalk.i64_in _ (by have := HF.out; omega)
    have t2 : IntKind.i64.wrap ((J' : Int) + 1 - 1) = J' := by have := HF.out; rw [show (J' : Int) + 1 - 1 = J' by omega]; exact IntWalk.i64_in _ (by omega)
    have t3 : (0 : Int) ≤ J' := by omega
    have t10 : (J' : Int) < (Bs.length : Int) := by have := HF.out; omega
    have t11 : IntKind.i64.wrap (J' : Int) = J' := IntWalk.i64_in _ (by have := HF.out; omega)
    go_quiet (fail)
    clear f2 f3 f10 f11 t2 t3 t10 t11 d0 e4 e5 e6 i4 i5 i6 k0 k1 k2 c0 c1 c2 hcap
    have HRM4 := Aside0.mk (HRM.out.below (show Below W3.heap.size W3 (W3.drewN nq) by (repeat (first | (with_reducible exact Below.refl _ _) | (with_reducible assumption) | with_reducible apply below_alloc | with_reducible apply pw_below_drewN | with_reducible apply below_drew1))))
    have HB4 := Aside0.mk (show Below w.heap.size w (W3.drewN nq) by have hB := HB.out; (repeat (first | (with_reducible exact Below.refl _ _) | (with_reducible assumption) | with_reducible apply below_alloc | with_reducible apply pw_below_drewN | with_reducible apply below_drew1)))
    have HROW4 := Aside0.mk (blk_drewN HROW.out nq)
    have HROW4' := Aside0.mk (blk_drewN HROW'.out nq)
    clear HB HR6 HR7 HRM HROW HROW'
    generalize W3.drewN nq = W4 at HRM4 HB4 HROW4 HROW4' ⊢
    go_wp2_with (fail)
    have HPQ := Aside0.mk (show p.g = q.g → p = q from fun e => by
      by_cases ek : K' = J'
      · subst ek
        exact Option.some.inj (HK.out.1.symm.trans HJ0.out.1)
      · have hnd := HRM4.out.nodup
        unfold rfoot at hnd
        rw [List.nodup_cons, List.nodup_append] at hnd
        exact absurd (by rw [e]; simp [Blk.fp, HJ0.out.2]) (flat_ne_at hnd.2.2.1 HK.out.1 HJ0.out.1 ek p.g (by simp [Blk.fp, HK.out.2])))
    obtain ⟨l, hll⟩ : ∃ l : List S66, l = sub q.cs U N := ⟨_, rfl⟩
    have HLEN := Aside0.mk (show l.length = N by rw [hll]; exact sub_len (by have := HF.out; omega))
    have HLL := Aside0.mk hll
    clear hll
    go_loopg [15] N (fun kq v15 wr => ∃ j : Nat, j + kq = N ∧ v15 = .int .i64 j ∧ Aside0 (wr.heap[p.g]? = some (.cells (rowC (put p.cs V (l.take j))) 66 (0, 0))) ∧ Aside0 (Ext (fun i => i = p.g) W4 wr))
    case atStart => exact ⟨0, by omega, rfl, ⟨by rw [List.take_zero, put_nil]; exact HROW4.out⟩, ⟨Ext.refl _ _⟩⟩
    case round =>
      obtain ⟨j, hj, rfl, HG1, HX⟩ := hrel
      by_cases hlt : j < N
      · have HJJ := Aside0.mk hj
        clear hj
        have hlp : (put p.cs V (l.take j)).length = p.cs.length := put_len (by have := HLEN.out; have := HF.out; simp only [List.length_take]; omega)
        obtain ⟨c, hc⟩ : ∃ c, q.cs[U + j]? = some c := ⟨_, List.getElem?_eq_getElem (by have := HF.out; omega)⟩
        have hsrc : ∃ X, wr.heap[q.g]? = some (.cells (rowC X) 66 (0, 0)) ∧ X[U + j]? = some c := by
          by_cases e : p.g = q.g
          · obtain rfl := HPQ.out e
            refine ⟨_, HG1.out, ?_⟩
            rw [put_get (by have := HLEN.out; have := HF.out; simp only [List.length_take]; omega), if_neg (by have := HAP.out rfl; have := HLEN.out; simp only [List.length_take]; omega)]
            exact hc
          · exact ⟨_, HX.out.at HROW4'.out (fun h => e h.symm), hc⟩
        obtain ⟨X, hX, hXc⟩ := hsrc
        have e0 := row_cell hX (U + j) 0 (by omega)
        have e1 := row_cell hX (U + j) 1 (by omega)
        have e2 := row_cell hX (U + j) 2 (by omega)
        have e3 := row_cell hX (U + j) 3 (by omega)
        rw [hXc] at e0 e1 e2 e3
        simp only [Option.bind_some, encC, List.getElem?_cons_zero, List.getElem?_cons_succ, Nat.add_zero] at e0 e1 e2 e3
        obtain ⟨⟨y0, y1, y2, y3, g0, g1, g2, g3⟩, u0, u1, u2, u3⟩ := row_cells HG1.out (V + j) (by rw [hlp]; have := HF.out; omega)
        have HLP := Aside0.mk hlp
        have HC := Aside0.mk hc
        have HLT := Aside0.mk hlt
        have f8 : (V : Int) + j < (p.cs.length : Int) := by have := HF.out; omega
        have f9 : ((V : Int) + j).toNat = V + j := by omega
        have t8 : (U : Int) + j < (q.cs.length : Int) := by have := HF.out; omega
        have t9 : ((U : Int) + j).toNat = U + j := by omega
        clear hlp hc hX hXc
        go_wp2_with (fail)
        go_roundg (N - (j + 1))
        case measure => have := HJJ.out; have := HLT.out; omega
        case rel =>
          have hj1 := HLT.out
          have hcl : l[j]? = some c := by rw [HLL.out, sub_get _ _ _ _ hj1]; exact HC.out
          have hrp := row_put HG1.out (V + j) (by rw [HLP.out]; have := HF.out; omega) c.f0 c.f1 c.f2 c.f3
          have hst := put_step (cs := p.cs) (i := V) (j := j) (l := l) (c := c) (by have := HLEN.out; have := HF.out; omega) hcl
          exact ⟨j + 1, by omega, by simp, ⟨by rw [hst]; exact hrp⟩, ⟨Ext.set4 HX.out rfl _ _ _ _ _⟩⟩
      · obtain rfl : j = N := by omega
        go_wp2_with (fail)
        go_ret
        have hg := HG1.out
        rw [List.take_of_length_le (by have := HLEN.out; omega), HLL.out] at hg
        exact ⟨rfl, RDid.pre HB4.out (RDid.upd HRM4.out HK.out.1 HK.out.2 (put_len (by rw [← HLL.out]; have := HLEN.out; have := HF.out; omega)) HX.out hg)⟩
theorem rCopy_calls (h : RM w r sv Bs) (x y : V3) (n al : Int) (h0 : 0 ≤ x.v) (h1 : x.v < 4294967296) (h2 : 0 ≤ y.v) (h3 : y.v < 4294967296) (hn2 : n < 9223372036854775808) : Calls Try.prog 58 #[.pointer (some ⟨r, 0, none⟩), x.enc, y.enc, .int .i64 n, .int .i64 al] w fun e w' => e = .returned (.int .i64 (rcopyF Bs x y n al).1) ∧ RDid w w' r sv Bs sv (rcopyF Bs x y n al).2 := by
  cases hax : ratR Bs x n al with
  | none =>
    unfold rcopyF
    rw [hax]
    exact (rCopy_no h x y n al h0 h1 h2 h3 hn2 (.inl hax)).mono fun _ _ q => ⟨q.1, RDid.same h q.2⟩
  | some p =>
    cases hay : ratR Bs y n al with
    | none =>
      unfold rcopyF
      rw [hax, hay]
      exact (rCopy_no h x y n al h0 h1 h2 h3 hn2 (.inr hay)).mono fun _ _ q => ⟨q.1, RDid.same h q.2⟩
    | some q => exact rCopy_go h x y n al h0 h1 h2 h3 hn2 hax hay
end Go.Proofs.Ythdnhfjodhjejaa.Ma
