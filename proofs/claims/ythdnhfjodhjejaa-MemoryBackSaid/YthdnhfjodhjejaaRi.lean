/- The document's memory: Store. No condition beyond those each theorem names. -/
import Derived.Test.YthdnhfjodhjejaaRh
namespace Go.Proofs.Ythdnhfjodhjejaa.Ma
open Go.RowKit Go.Proofs.Ythdnhfjodhjejaa.PMe Go.Proofs.YthdnhfjodhjejaaW.PrintWords Go.Proofs.YthdnhfjodhjejaaW.PrintLast Go.Proofs.YthdnhfjodhjejaaW.PrintMore
set_option linter.unusedVariables false
set_option linter.unusedSimpArgs false
variable {w w' : World} {r : Nat} {sv : Value} {Bs : List Blk}
/-- What Store answers, and the blocks behind it. -/
def rstoreF (Bs : List Blk) (x : V3) (n : Int) (v : V3) : Int × List Blk := match ratR Bs x n n with
  | none => (3, Bs)
  | some y =>
    if v.k = 1 then (0, updB Bs x.b (put y.cs x.v.toNat ((bytesL v.v n).map cellN)))
    else if v.k = 2 ∧ n = 4 then (0, updB Bs x.b (put y.cs x.v.toNat (partsC v)))
    else (3, Bs)
theorem cell_lt {W : World} {p : Addr} {v : Value} (hc : W.cell? p = some v) : p.block < W.heap.size := by
  cases h : W.heap[p.block]? with
  | none => simp [World.cell?, h] at hc
  | some o => exact blk_lt h
theorem know4 {W : World} {g : Nat} {a b c d : Value} {t : TypeId} (B : W.heap[g]? = some (.cells #[a, b, c, d] t (0, 0))) :
    (W.cell? ⟨g, 0, none⟩ = some a ∧ W.cell? ⟨g, 1, none⟩ = some b ∧ W.cell? ⟨g, 2, none⟩ = some c ∧ W.cell? ⟨g, 3, none⟩ = some d) ∧ (W.frozen? ⟨g, 0, none⟩ = false ∧ W.frozen? ⟨g, 1, none⟩ = false ∧ W.frozen? ⟨g, 2, none⟩ = false ∧ W.frozen? ⟨g, 3, none⟩ = false) :=
  ⟨⟨(blk_cell B 0).trans rfl, (blk_cell B 1).trans rfl, (blk_cell B 2).trans rfl, (blk_cell B 3).trans rfl⟩, blk_frozen B 0, blk_frozen B 1, blk_frozen B 2, blk_frozen B 3⟩
theorem rb0 (v : Int) (h0 : 0 ≤ v) (h1 : v < 4294967296) (j : Nat) (hj : j < 4) : bits .and .u32 (shr .u32 v (8 * (j : Int))) 255 = v / 2 ^ (8 * j) % 256 := by
  rw [La.shr32 v (8 * (j : Int)) (by omega), show ((8 * (j : Int)).toNat) = 8 * j by omega]
  refine La.and255 _ (Int.ediv_nonneg h0 (Int.le_of_lt (La.pow_pos _))) (Int.lt_of_le_of_lt (Int.ediv_le_self _ h0) h1)
theorem bytesL_at (v n : Int) (hn : n = 1 ∨ n = 2 ∨ n = 4) (j : Nat) (hj : j < n.toNat) : (bytesL v n)[j]? = some (v / 2 ^ (8 * j) % 256) := by
  rcases hn with rfl | rfl | rfl
  · obtain rfl : j = 0 := by simp at hj; omega
    simp [bytesL]
  · have : j = 0 ∨ j = 1 := by simp at hj; omega
    rcases this with rfl | rfl <;> simp [bytesL]
  · have : j = 0 ∨ j = 1 ∨ j = 2 ∨ j = 3 := by simp at hj; omega
    rcases this with rfl | rfl | rfl | rfl <;> simp [bytesL]
set_option maxHeartbeats 8000000 in
set_option maxRecDepth 100000 in
theorem rStore_no (h : RM w r sv Bs) (x : V3) (n : Int) (z : V3) (h0 : 0 ≤ x.v) (h1 : x.v < 4294967296) (hn2 : n < 9223372036854775808) (ha : ratR Bs x n n = none ∨ (z.k ≠ 1 ∧ ¬ (z.k = 2 ∧ n = 4))) : Calls Try.prog 57 #[.pointer (some ⟨r, 0, none⟩), x.enc, .int .i64 n, z.enc] w fun e w' => e = .returned (.int .i64 3) ∧ Below w.heap.size w w' := by
  have hu51 := Try.underlying51
  have H := Aside0.mk h
  clear h
  obtain ⟨k, v, b⟩ := x
  obtain ⟨zk, zv, zb⟩ := z
  unfold V3.enc
  simp only at h0 h1 ha ⊢
  have hc := fun W (hW : RM W r sv Bs) => rat_calls hW ⟨k, v, b⟩ n n h0 h1 hn2
  have HC := Aside0.mk hc
  cases hr : ratR Bs ⟨k, v, b⟩ n n with
  | none =>
    rw [hr] at HC
    clear hc ha hr
    go_enter Try.func57, Try.ntmps57
    go_wp2_with (fail)
    go_at_call 86
    refine (HC.out _ (H.out.below (by (repeat (first | (with_reducible exact Below.refl _ _) | (with_reducible assumption) | with_reducible apply below_alloc | with_reducible apply pw_below_drewN | with_reducible apply below_drew1))))).mono ?_
    rintro e W1 ⟨rfl, hB0⟩
    have R7 := blk_below (heap_at (w.alloc (.cells #[.int .i64 k, .int .u32 v, .int .i64 b] 51)) (.cells #[.int .i64 zk, .int .u32 zv, .int .i64 zb] 51) (w.heap.size + 1) (by simp)) hB0
    have HB := Aside0.mk (pm_chain (w := w) (by (repeat (first | (with_reducible exact Below.refl _ _) | (with_reducible assumption) | with_reducible apply below_alloc | with_reducible apply pw_below_drewN | with_reducible apply below_drew1))) hB0)
    obtain ⟨⟨c0, c1, c2⟩, _⟩ := know3 R7
    clear hB0 R7
    simp only [Option.isSome]
    go_wp2_with (fail)
    go_ret
    exact ⟨rfl, HB.out⟩
  | some y =>
    rw [hr] at HC ha
    have hk : zk ≠ 1 ∧ ¬ (zk = 2 ∧ n = 4) := by rcases ha with h | h <;> first | exact h | cases h
    have m1 : (zk == 1) = false := beq_eq_false_iff_ne.mpr hk.1
    have m1' : (zk != 1) = true := bne_iff_ne.mpr hk.1
    by_cases q : zk = 2
    · have m2 : (zk != 2) = false := bne_eq_false_iff_eq.mpr q
      have m3 : (n != 4) = true := bne_iff_ne.mpr (fun e => hk.2 ⟨q, e⟩)
      clear hc ha hr hk q
      go_enter Try.func57, Try.ntmps57
      go_wp2_with (fail)
      go_at_call 86
      refine (HC.out _ (H.out.below (by (repeat (first | (with_reducible exact Below.refl _ _) | (with_reducible assumption) | with_reducible apply below_alloc | with_reducible apply pw_below_drewN | with_reducible apply below_drew1))))).mono ?_
      rintro e W1 ⟨rfl, hB0⟩
      have R7 := blk_below (heap_at (w.alloc (.cells #[.int .i64 k, .int .u32 v, .int .i64 b] 51)) (.cells #[.int .i64 zk, .int .u32 zv, .int .i64 zb] 51) (w.heap.size + 1) (by simp)) hB0
      have HB := Aside0.mk (pm_chain (w := w) (by (repeat (first | (with_reducible exact Below.refl _ _) | (with_reducible assumption) | with_reducible apply below_alloc | with_reducible apply pw_below_drewN | with_reducible apply below_drew1))) hB0)
      obtain ⟨⟨c0, c1, c2⟩, _⟩ := know3 R7
      clear hB0 R7
      simp only [Option.isSome]
      go_wp2_with (fail)
      go_ret
      exact ⟨rfl, HB.out⟩
    · have m2 : (zk != 2) = true := bne_iff_ne.mpr q
      clear hc ha hr hk q
      go_enter Try.func57, Try.ntmps57
      go_wp2_with (fail)
      go_at_call 86
      refine (HC.out _ (H.out.below (by (repeat (first | (with_reducible exact Below.refl _ _) | (with_reducible assumption) | with_reducible apply below_alloc | with_reducible apply pw_below_drewN | with_reducible apply below_drew1))))).mono ?_
      rintro e W1 ⟨rfl, hB0⟩
      have R7 := blk_below (heap_at (w.alloc (.cells #[.int .i64 k, .int .u32 v, .int .i64 b] 51)) (.cells #[.int .i64 zk, .int .u32 zv, .int .i64 zb] 51) (w.heap.size + 1) (by simp)) hB0
      have HB := Aside0.mk (pm_chain (w := w) (by (repeat (first | (with_reducible exact Below.refl _ _) | (with_reducible assumption) | with_reducible apply below_alloc | with_reducible apply pw_below_drewN | with_reducible apply below_drew1))) hB0)
      obtain ⟨⟨c0, c1, c2⟩, _⟩ := know3 R7
      clear hB0 R7
      simp only [Option.isSome]
      go_wp2_with (fail)
      go_ret
      exact ⟨rfl, HB.out⟩
set_option maxHeartbeats 8000000 in
set_option maxRecDepth 100000 in
theorem rStore_num (h : RM w r sv Bs) (x : V3) (n : Int) (zv zb : Int) (h0 : 0 ≤ x.v) (h1 : x.v < 4294967296) (h2 : 0 ≤ zv) (h3 : zv < 4294967296) (hn2 : n < 9223372036854775808) {y : Blk} (ha : ratR Bs x n n = some y) : Calls Try.prog 57 #[.pointer (some ⟨r, 0, none⟩), x.enc, .int .i64 n, .agg #[.int .i64 1, .int .u32 zv, .int .i64 zb]] w fun e w' => e = .returned (.int .i64 0) ∧ RDid w w' r sv Bs sv (updB Bs x.b (put y.cs x.v.toNat ((bytesL zv n).map cellN))) := by
  have hu51 := Try.underlying51
  have hu66 := Try.underlying66
  have H := Aside0.mk h
  have hc := fun W (hW : RM W r sv Bs) => rat_calls hW x n n h0 h1 hn2
  obtain ⟨hg, hn1, hp, hle, _, _⟩ := ratR_some ha
  have hwd : n = 1 ∨ n = 2 ∨ n = 4 := by simp only [pow2, Bool.or_eq_true, beq_iff_eq] at hp; omega
  have hl := (goodR_some hg).2.1
  rw [ha] at hc
  have HC := Aside0.mk hc
  have HL := Aside0.mk hl
  have HWD := Aside0.mk hwd
  clear hc hg ha h hp
  obtain ⟨k, v, b⟩ := x
  unfold V3.enc at HC
  simp only at h0 h1 hle hl HL HC ⊢
  unfold V3.enc
  simp only
  have hdead := (livR_some hl).2.2.2
  obtain ⟨K, _, _, rfl, hK, hKl, _, _, _, l1, l2, _, _⟩ := livR_at H.out hl
  obtain ⟨V, rfl⟩ : ∃ V : Nat, v = V := ⟨v.toNat, by omega⟩
  obtain ⟨N, rfl⟩ : ∃ N : Nat, n = N := ⟨n.toNat, by omega⟩
  have HF := Aside0.mk (And.intro hKl (And.intro H.out.big (And.intro (show V + N ≤ y.cs.length by omega) (And.intro l2 (show 1 ≤ N ∧ N ≤ 4 by omega)))))
  have HZ := Aside0.mk (And.intro h2 h3)
  have HK := Aside0.mk (And.intro hK hdead)
  have hV : V ≤ 16384 := by omega
  have hN : N ≤ 4 := by omega
  obtain ⟨l, hll⟩ : ∃ l : List S66, l = (bytesL zv N).map cellN := ⟨_, rfl⟩
  have hlen : l.length = N := by rw [hll]; rw [List.length_map, bytesL_len zv N hwd]; simp
  have HLEN := Aside0.mk hlen
  have HLL := Aside0.mk hll
  simp only [Int.toNat_natCast]
  rw [updB_at hK]
  rw [← hll]
  clear h0 h1 hn2 hle hl hn1 l1 l2 hdead hK hKl hlen hll hwd h2 h3
  go_enter Try.func57, Try.ntmps57
  go_wp2_with (fail)
  go_at_call 86
  refine (HC.out _ (H.out.below (by (repeat (first | (with_reducible exact Below.refl _ _) | (with_reducible assumption) | with_reducible apply below_alloc | with_reducible apply pw_below_drewN | with_reducible apply below_drew1))))).mono ?_
  rintro e W1 ⟨rfl, hB0⟩
  have R5 := blk_below (blk_alloc (heap_at w (.cells #[.int .i64 k, .int .u32 (V : Int), .int .i64 ((K : Int) + 1)] 51) w.heap.size rfl) (.cells #[.int .i64 1, .int .u32 zv, .int .i64 zb] 51)) hB0
  have R7 := blk_below (heap_at (w.alloc (.cells #[.int .i64 k, .int .u32 (V : Int), .int .i64 ((K : Int) + 1)] 51)) (.cells #[.int .i64 1, .int .u32 zv, .int .i64 zb] 51) (w.heap.size + 1) (by simp)) hB0
  have hB := pm_chain (w := w) (by (repeat (first | (with_reducible exact Below.refl _ _) | (with_reducible assumption) | with_reducible apply below_alloc | with_reducible apply pw_below_drewN | with_reducible apply below_drew1))) hB0
  clear hB0
  obtain ⟨g7, hg7⟩ : ∃ g, g = w.heap.size + 1 := ⟨_, rfl⟩
  obtain ⟨g5, hg5⟩ : ∃ g, g = w.heap.size := ⟨_, rfl⟩
  rw [← hg7, ← hg5]
  rw [← hg5] at R5
  rw [← hg7] at R7
  have RM1 := H.out.below hB
  have HG := Aside0.mk (show g5 ≠ y.g ∧ g7 ≠ y.g by have := blk_lt (H.out.row y (List.mem_of_getElem? HK.out.1) HK.out.2); omega)
  clear hg5 hg7
  obtain ⟨d0, _⟩ := RM1.cells
  obtain ⟨K', hb, cap, hKK, _, _, hsv, hcap, ⟨e4, e5, e6⟩, _, _, hrow, _⟩ := livR_at RM1 HL.out
  obtain rfl : K' = K := by omega
  rw [hsv] at d0
  obtain ⟨⟨k0, k1, k2⟩, _⟩ := know3 R5
  obtain ⟨⟨c0, c1, c2⟩, _⟩ := know3 R7
  have HB := Aside0.mk hB
  have HRM := Aside0.mk RM1
  have HROW := Aside0.mk hrow
  have HCELL := Aside0.mk (And.intro k1 (And.intro c0 (And.intro c1 c2)))
  clear R5 R7 hB RM1 hKK hsv hrow
  simp only [Option.isSome]
  go_wp2_with (fail)
  have f2 : IntKind.i64.wrap ((K' : Int) + 1 - 1) = K' := by have := HF.out; rw [show (K' : Int) + 1 - 1 = K' by omega]; exact IntWalk.i64_in _ (by omega)
  have f3 : (0 : Int) ≤ K' := by omega
  have f10 : (K' : Int) < (Bs.length : Int) := by have := HF.out; omega
  have f11 : IntKind.i64.wrap (K' : Int) = K' := IntWalk.i64_in _ (by have := HF.out; omega)
  go_quiet (fail)
  clear f2 f3 f10 f11 d0 e4 e5 e6 k0 k1 k2 c0 c1 c2 hcap
  have HB2 := Aside0.mk (show Below W1.heap.size W1 (W1.drewN nq) by (repeat (first | (with_reducible exact Below.refl _ _) | (with_reducible assumption) | with_reducible apply below_alloc | with_reducible apply pw_below_drewN | with_reducible apply below_drew1)))
  have HRM2 := Aside0.mk (HRM.out.below HB2.out)
  have HROW2 := Aside0.mk (blk_drewN HROW.out nq)
  have HB3 := Aside0.mk (pm_chain (w := w) HB.out HB2.out)
  have HC2 := Aside0.mk (And.intro (pw_cell_below HB2.out HCELL.out.1) (And.intro (pw_cell_below HB2.out HCELL.out.2.1) (And.intro (pw_cell_below HB2.out HCELL.out.2.2.1) (pw_cell_below HB2.out HCELL.out.2.2.2))))
  clear HB HB2 HRM HROW HCELL
  generalize W1.drewN nq = W2 at HRM2 HROW2 HB3 HC2 ⊢
  go_wp2_with (fail)
  go_loopg [10] N (fun kq v10 wr => ∃ j : Nat, j + kq = N ∧ v10 = .int .i64 j ∧ Aside0 (wr.heap[y.g]? = some (.cells (rowC (put y.cs V (l.take j))) 66 (0, 0))) ∧ Aside0 (Ext (fun i => i = y.g) W2 wr))
  case atStart => exact ⟨0, by omega, rfl, ⟨by rw [List.take_zero, put_nil]; exact HROW2.out⟩, ⟨Ext.refl _ _⟩⟩
  case round =>
    obtain ⟨j, hj, rfl, HG1, HX⟩ := hrel
    by_cases hlt : j < N
    · have HJ := Aside0.mk hj
      clear hj
      have k1 := ext_cell HX.out HC2.out.1 HG.out.1
      have c0 := ext_cell HX.out HC2.out.2.1 HG.out.2
      have c1 := ext_cell HX.out HC2.out.2.2.1 HG.out.2
      have c2 := ext_cell HX.out HC2.out.2.2.2 HG.out.2
      have HLT := Aside0.mk hlt
      have s1 : IntKind.i64.wrap (8 * (j : Int)) = 8 * (j : Int) := IntWalk.i64_in _ (by omega)
      have s4 : (0 : Int) ≤ 8 * (j : Int) := by omega
      go_upto_region 8 with (fail)
      have s3 : bits .and .u32 (zv / 2 ^ (8 * j)) 255 = zv / 2 ^ (8 * j) % 256 := La.and255 _ (Int.ediv_nonneg HZ.out.1 (Int.le_of_lt (La.pow_pos _))) (Int.lt_of_le_of_lt (Int.ediv_le_self _ HZ.out.1) HZ.out.2)
      (try rw [s3])
      obtain ⟨bj, hbj⟩ : ∃ bj, bj = zv / 2 ^ (8 * j) % 256 := ⟨_, rfl⟩
      (try rw [← hbj])
      have HBJ := Aside0.mk hbj
      clear s1 s3 s4 hbj
      have hBn : Below wr.heap.size wr (wr.alloc (.cells #[.int .i64 1, .int .u32 bj, .int .i64 0, .int .i64 0] 66)) := by (repeat (first | (with_reducible exact Below.refl _ _) | (with_reducible assumption) | with_reducible apply below_alloc | with_reducible apply pw_below_drewN | with_reducible apply below_drew1))
      have R11 := Aside0.mk (show (wr.alloc (.cells #[.int .i64 1, .int .u32 bj, .int .i64 0, .int .i64 0] 66)).heap[wr.heap.size]? = some (.cells #[.int .i64 1, .int .u32 bj, .int .i64 0, .int .i64 0] 66 (0, 0)) from heap_at _ _ _ rfl)
      have HGY := Aside0.mk (show y.g ≠ wr.heap.size ∧ g5 ≠ wr.heap.size ∧ g7 ≠ wr.heap.size from ⟨Nat.ne_of_lt (blk_lt HG1.out), Nat.ne_of_lt (cell_lt k1), Nat.ne_of_lt (cell_lt c1)⟩)
      have HX2 := Aside0.mk (HX.out.then_below hBn)
      have HROWn := Aside0.mk (blk_below HG1.out hBn)
      replace k1 := pw_cell_below hBn k1
      replace c0 := pw_cell_below hBn c0
      replace c1 := pw_cell_below hBn c1
      replace c2 := pw_cell_below hBn c2
      generalize (wr.alloc (.cells #[.int .i64 1, .int .u32 bj, .int .i64 0, .int .i64 0] 66)) = Wn at R11 HX2 HROWn k1 c0 c1 c2 ⊢
      generalize wr.heap.size = g11 at R11 HGY ⊢
      clear hBn HG1 HX
      have hlp : (put y.cs V (l.take j)).length = y.cs.length := put_len (by have := HLEN.out; have := HF.out; simp only [List.length_take]; omega)
      have HLP := Aside0.mk hlp
      clear hlp
      have f4 : IntKind.i64.wrap (V : Int) = V := IntWalk.i64_in _ (by omega)
      have f8 : (V : Int) + j < (y.cs.length : Int) := by have := HF.out; omega
      have f9 : ((V : Int) + j).toNat = V + j := by omega
      obtain ⟨⟨m0, m1, m2, m3⟩, _⟩ := know4 R11.out
      obtain ⟨⟨y0, y1, y2, y3, g0, g1, g2, g3⟩, q0, q1, q2, q3⟩ := row_cells HROWn.out (V + j) (by rw [HLP.out]; have := HF.out; omega)
      go_wp2_with (fail)
      go_roundg (N - (j + 1))
      case measure => have := HJ.out; have := HLT.out; omega
      case rel =>
        have hj1 := HLT.out
        have hc : l[j]? = some (cellN bj) := by rw [HLL.out]; rw [List.getElem?_map, bytesL_at zv N HWD.out j (by simp; omega), HBJ.out]; rfl
        have hrp := row_put HROWn.out (V + j) (by rw [HLP.out]; have := HF.out; omega) 1 bj 0 0
        have hst := put_step (cs := y.cs) (i := V) (j := j) (l := l) (c := (cellN bj)) (by have := HLEN.out; have := HF.out; omega) hc
        exact ⟨j + 1, by omega, by simp, ⟨by rw [hst]; exact hrp⟩, ⟨Ext.set4 HX2.out rfl _ _ _ _ _⟩⟩
    · obtain rfl : j = N := by omega
      go_wp2_with (fail)
      go_ret
      have hg := HG1.out
      rw [List.take_of_length_le (by have := HLEN.out; omega)] at hg
      exact ⟨rfl, RDid.pre HB3.out (RDid.upd HRM2.out HK.out.1 HK.out.2 (put_len (by have := HLEN.out; have := HF.out; omega)) HX.out hg)⟩
set_option maxHeartbeats 8000000 in
set_option maxRecDepth 100000 in
theorem rStore_ptr (h : RM w r sv Bs) (x : V3) (n : Int) (zv zb : Int) (h0 : 0 ≤ x.v) (h1 : x.v < 4294967296) (h2 : 0 ≤ zv) (h3 : zv < 4294967296) (hn2 : n < 9223372036854775808) {y : Blk} (ha : ratR Bs x n n = some y) (h4 : n = 4) : Calls Try.prog 57 #[.pointer (some ⟨r, 0, none⟩), x.enc, .int .i64 n, .agg #[.int .i64 2, .int .u32 zv, .int .i64 zb]] w fun e w' => e = .returned (.int .i64 0) ∧ RDid w w' r sv Bs sv (updB Bs x.b (put y.cs x.v.toNat (partsC ⟨2, zv, zb⟩))) := by
  have hu51 := Try.underlying51
  have hu66 := Try.underlying66
  have H := Aside0.mk h
  have hc := fun W (hW : RM W r sv Bs) => rat_calls hW x n n h0 h1 hn2
  obtain ⟨hg, hn1, hp, hle, _, _⟩ := ratR_some ha
  have hwd : n = 1 ∨ n = 2 ∨ n = 4 := by simp only [pow2, Bool.or_eq_true, beq_iff_eq] at hp; omega
  have hl := (goodR_some hg).2.1
  rw [ha] at hc
  have HC := Aside0.mk hc
  have HL := Aside0.mk hl
  have HWD := Aside0.mk hwd
  clear hc hg ha h hp
  obtain ⟨k, v, b⟩ := x
  unfold V3.enc at HC
  simp only at h0 h1 hle hl HL HC ⊢
  unfold V3.enc
  simp only
  have hdead := (livR_some hl).2.2.2
  obtain ⟨K, _, _, rfl, hK, hKl, _, _, _, l1, l2, _, _⟩ := livR_at H.out hl
  obtain ⟨V, rfl⟩ : ∃ V : Nat, v = V := ⟨v.toNat, by omega⟩
  obtain ⟨N, rfl⟩ : ∃ N : Nat, n = N := ⟨n.toNat, by omega⟩
  have HF := Aside0.mk (And.intro hKl (And.intro H.out.big (And.intro (show V + N ≤ y.cs.length by omega) (And.intro l2 (show 1 ≤ N ∧ N ≤ 4 by omega)))))
  have HZ := Aside0.mk (And.intro h2 h3)
  have HK := Aside0.mk (And.intro hK hdead)
  have hV : V ≤ 16384 := by omega
  have hN : N ≤ 4 := by omega
  obtain ⟨l, hll⟩ : ∃ l : List S66, l = partsC ⟨2, zv, zb⟩ := ⟨_, rfl⟩
  have hlen : l.length = N := by rw [hll]; have := h4; simp [partsC]; omega
  have HLEN := Aside0.mk hlen
  have HLL := Aside0.mk hll
  simp only [Int.toNat_natCast]
  rw [updB_at hK]
  rw [← hll]
  have n4 : ((N : Int) != 4) = false := bne_eq_false_iff_eq.mpr h4
  clear h4 h0 h1 hn2 hle hl hn1 l1 l2 hdead hK hKl hlen hll hwd h2 h3
  go_enter Try.func57, Try.ntmps57
  go_wp2_with (fail)
  go_at_call 86
  refine (HC.out _ (H.out.below (by (repeat (first | (with_reducible exact Below.refl _ _) | (with_reducible assumption) | with_reducible apply below_alloc | with_reducible apply pw_below_drewN | with_reducible apply below_drew1))))).mono ?_
  rintro e W1 ⟨rfl, hB0⟩
  have R5 := blk_below (blk_alloc (heap_at w (.cells #[.int .i64 k, .int .u32 (V : Int), .int .i64 ((K : Int) + 1)] 51) w.heap.size rfl) (.cells #[.int .i64 2, .int .u32 zv, .int .i64 zb] 51)) hB0
  have R7 := blk_below (heap_at (w.alloc (.cells #[.int .i64 k, .int .u32 (V : Int), .int .i64 ((K : Int) + 1)] 51)) (.cells #[.int .i64 2, .int .u32 zv, .int .i64 zb] 51) (w.heap.size + 1) (by simp)) hB0
  have hB := pm_chain (w := w) (by (repeat (first | (with_reducible exact Below.refl _ _) | (with_reducible assumption) | with_reducible apply below_alloc | with_reducible apply pw_below_drewN | with_reducible apply below_drew1))) hB0
  clear hB0
  obtain ⟨g7, hg7⟩ : ∃ g, g = w.heap.size + 1 := ⟨_, rfl⟩
  obtain ⟨g5, hg5⟩ : ∃ g, g = w.heap.size := ⟨_, rfl⟩
  rw [← hg7, ← hg5]
  rw [← hg5] at R5
  rw [← hg7] at R7
  have RM1 := H.out.below hB
  have HG := Aside0.mk (show g5 ≠ y.g ∧ g7 ≠ y.g by have := blk_lt (H.out.row y (List.mem_of_getElem? HK.out.1) HK.out.2); omega)
  clear hg5 hg7
  obtain ⟨d0, _⟩ := RM1.cells
  obtain ⟨K', hb, cap, hKK, _, _, hsv, hcap, ⟨e4, e5, e6⟩, _, _, hrow, _⟩ := livR_at RM1 HL.out
  obtain rfl : K' = K := by omega
  rw [hsv] at d0
  obtain ⟨⟨k0, k1, k2⟩, _⟩ := know3 R5
  obtain ⟨⟨c0, c1, c2⟩, _⟩ := know3 R7
  have HB := Aside0.mk hB
  have HRM := Aside0.mk RM1
  have HROW := Aside0.mk hrow
  have HCELL := Aside0.mk (And.intro k1 (And.intro c0 (And.intro c1 c2)))
  clear R5 R7 hB RM1 hKK hsv hrow
  simp only [Option.isSome]
  go_wp2_with (fail)
  have f2 : IntKind.i64.wrap ((K' : Int) + 1 - 1) = K' := by have := HF.out; rw [show (K' : Int) + 1 - 1 = K' by omega]; exact IntWalk.i64_in _ (by omega)
  have f3 : (0 : Int) ≤ K' := by omega
  have f10 : (K' : Int) < (Bs.length : Int) := by have := HF.out; omega
  have f11 : IntKind.i64.wrap (K' : Int) = K' := IntWalk.i64_in _ (by have := HF.out; omega)
  go_quiet (fail)
  clear f2 f3 f10 f11 d0 e4 e5 e6 k0 k1 k2 c0 c1 c2 hcap
  have HB2 := Aside0.mk (show Below W1.heap.size W1 (W1.drewN nq) by (repeat (first | (with_reducible exact Below.refl _ _) | (with_reducible assumption) | with_reducible apply below_alloc | with_reducible apply pw_below_drewN | with_reducible apply below_drew1)))
  have HRM2 := Aside0.mk (HRM.out.below HB2.out)
  have HROW2 := Aside0.mk (blk_drewN HROW.out nq)
  have HB3 := Aside0.mk (pm_chain (w := w) HB.out HB2.out)
  have HC2 := Aside0.mk (And.intro (pw_cell_below HB2.out HCELL.out.1) (And.intro (pw_cell_below HB2.out HCELL.out.2.1) (And.intro (pw_cell_below HB2.out HCELL.out.2.2.1) (pw_cell_below HB2.out HCELL.out.2.2.2))))
  clear HB HB2 HRM HROW HCELL
  generalize W1.drewN nq = W2 at HRM2 HROW2 HB3 HC2 ⊢
  go_wp2_with (fail)
  go_loopg [10] N (fun kq v10 wr => ∃ j : Nat, j + kq = N ∧ v10 = .int .i64 j ∧ Aside0 (wr.heap[y.g]? = some (.cells (rowC (put y.cs V (l.take j))) 66 (0, 0))) ∧ Aside0 (Ext (fun i => i = y.g) W2 wr))
  case atStart => exact ⟨0, by omega, rfl, ⟨by rw [List.take_zero, put_nil]; exact HROW2.out⟩, ⟨Ext.refl _ _⟩⟩
  case round =>
    obtain ⟨j, hj, rfl, HG1, HX⟩ := hrel
    by_cases hlt : j < N
    · have HJ := Aside0.mk hj
      clear hj
      have k1 := ext_cell HX.out HC2.out.1 HG.out.1
      have c0 := ext_cell HX.out HC2.out.2.1 HG.out.2
      have c1 := ext_cell HX.out HC2.out.2.2.1 HG.out.2
      have c2 := ext_cell HX.out HC2.out.2.2.2 HG.out.2
      have HLT := Aside0.mk hlt
      have s1 : IntKind.i64.wrap (8 * (j : Int)) = 8 * (j : Int) := IntWalk.i64_in _ (by omega)
      have s4 : (0 : Int) ≤ 8 * (j : Int) := by omega
      go_upto_region 8 with (fail)
      have s3 : bits .and .u32 (zv / 2 ^ (8 * j)) 255 = zv / 2 ^ (8 * j) % 256 := La.and255 _ (Int.ediv_nonneg HZ.out.1 (Int.le_of_lt (La.pow_pos _))) (Int.lt_of_le_of_lt (Int.ediv_le_self _ HZ.out.1) HZ.out.2)
      (try rw [s3])
      obtain ⟨bj, hbj⟩ : ∃ bj, bj = zv / 2 ^ (8 * j) % 256 := ⟨_, rfl⟩
      (try rw [← hbj])
      have HBJ := Aside0.mk hbj
      clear s1 s3 s4 hbj
      have hBn : Below wr.heap.size wr (wr.alloc (.cells #[.int .i64 1, .int .u32 bj, .int .i64 0, .int .i64 0] 66)) := by (repeat (first | (with_reducible exact Below.refl _ _) | (with_reducible assumption) | with_reducible apply below_alloc | with_reducible apply pw_below_drewN | with_reducible apply below_drew1))
      have R11 := Aside0.mk (show (wr.alloc (.cells #[.int .i64 1, .int .u32 bj, .int .i64 0, .int .i64 0] 66)).heap[wr.heap.size]? = some (.cells #[.int .i64 1, .int .u32 bj, .int .i64 0, .int .i64 0] 66 (0, 0)) from heap_at _ _ _ rfl)
      have HGY := Aside0.mk (show y.g ≠ wr.heap.size ∧ g5 ≠ wr.heap.size ∧ g7 ≠ wr.heap.size from ⟨Nat.ne_of_lt (blk_lt HG1.out), Nat.ne_of_lt (cell_lt k1), Nat.ne_of_lt (cell_lt c1)⟩)
      have HX2 := Aside0.mk (HX.out.then_below hBn)
      have HGN := Aside0.mk (show W2.heap.size ≤ wr.heap.size from HX.out.size)
      have HROWn := Aside0.mk (blk_below HG1.out hBn)
      replace k1 := pw_cell_below hBn k1
      replace c0 := pw_cell_below hBn c0
      replace c1 := pw_cell_below hBn c1
      replace c2 := pw_cell_below hBn c2
      generalize (wr.alloc (.cells #[.int .i64 1, .int .u32 bj, .int .i64 0, .int .i64 0] 66)) = Wn at R11 HX2 HROWn k1 c0 c1 c2 ⊢
      generalize wr.heap.size = g11 at R11 HGY HGN ⊢
      clear hBn HG1 HX
      have hlp : (put y.cs V (l.take j)).length = y.cs.length := put_len (by have := HLEN.out; have := HF.out; simp only [List.length_take]; omega)
      have HLP := Aside0.mk hlp
      clear hlp
      have f4 : IntKind.i64.wrap (V : Int) = V := IntWalk.i64_in _ (by omega)
      have f8 : (V : Int) + j < (y.cs.length : Int) := by have := HF.out; omega
      have f9 : ((V : Int) + j).toNat = V + j := by omega
      obtain ⟨⟨m0, m1, m2, m3⟩, u0, u1, u2, u3⟩ := know4 R11.out
      go_upto_region 10 with (fail)
      have R12 := Aside0.mk (show ((((Wn.setCell ⟨g11, 0, none⟩ (.int .i64 2)).setCell ⟨g11, 1, none⟩ (.int .u32 zv)).setCell ⟨g11, 2, none⟩ (.int .i64 zb)).setCell ⟨g11, 3, none⟩ (.int .i64 (j : Int))).heap[g11]? = some (.cells #[.int .i64 2, .int .u32 zv, .int .i64 zb, .int .i64 (j : Int)] 66 (0, 0)) from blk_put (blk_put (blk_put (blk_put R11.out 0 _ rfl) 1 _ rfl) 2 _ rfl) 3 _ rfl)
      have hE : Ext (fun q => q = g11) Wn ((((Wn.setCell ⟨g11, 0, none⟩ (.int .i64 2)).setCell ⟨g11, 1, none⟩ (.int .u32 zv)).setCell ⟨g11, 2, none⟩ (.int .i64 zb)).setCell ⟨g11, 3, none⟩ (.int .i64 (j : Int))) := ext_set4 Wn g11 0 _ _ _ _
      replace k1 := ext_cell hE k1 HGY.out.2.1
      have HROWm := Aside0.mk (hE.at HROWn.out HGY.out.1)
      have HX3 := Aside0.mk (show Ext (fun i => i = y.g) W2 ((((Wn.setCell ⟨g11, 0, none⟩ (.int .i64 2)).setCell ⟨g11, 1, none⟩ (.int .u32 zv)).setCell ⟨g11, 2, none⟩ (.int .i64 zb)).setCell ⟨g11, 3, none⟩ (.int .i64 (j : Int))) from (((HX2.out.setCell (.inr HGN.out) _).setCell (.inr HGN.out) _).setCell (.inr HGN.out) _).setCell (.inr HGN.out) _)
      generalize ((((Wn.setCell ⟨g11, 0, none⟩ (.int .i64 2)).setCell ⟨g11, 1, none⟩ (.int .u32 zv)).setCell ⟨g11, 2, none⟩ (.int .i64 zb)).setCell ⟨g11, 3, none⟩ (.int .i64 (j : Int))) = Wm at R12 HROWm HX3 k1 ⊢
      clear hE R11 HX2 HROWn c0 c1 c2 m0 m1 m2 m3 u0 u1 u2 u3
      have HX2 := HX3
      have HROWn := HROWm
      obtain ⟨⟨m0, m1, m2, m3⟩, _⟩ := know4 R12.out
      obtain ⟨⟨y0, y1, y2, y3, g0, g1, g2, g3⟩, q0, q1, q2, q3⟩ := row_cells HROWn.out (V + j) (by rw [HLP.out]; have := HF.out; omega)
      go_wp2_with (fail)
      go_roundg (N - (j + 1))
      case measure => have := HJ.out; have := HLT.out; omega
      case rel =>
        have hj1 := HLT.out
        have hc : l[j]? = some ⟨2, zv, zb, (j : Int)⟩ := by rw [HLL.out]; rcases (show j = 0 ∨ j = 1 ∨ j = 2 ∨ j = 3 by omega) with rfl | rfl | rfl | rfl <;> rfl
        have hrp := row_put HROWn.out (V + j) (by rw [HLP.out]; have := HF.out; omega) 2 zv zb (j : Int)
        have hst := put_step (cs := y.cs) (i := V) (j := j) (l := l) (c := ⟨2, zv, zb, (j : Int)⟩) (by have := HLEN.out; have := HF.out; omega) hc
        exact ⟨j + 1, by omega, by simp, ⟨by rw [hst]; exact hrp⟩, ⟨Ext.set4 HX2.out rfl _ _ _ _ _⟩⟩
    · obtain rfl : j = N := by omega
      go_wp2_with (fail)
      go_ret
      have hg := HG1.out
      rw [List.take_of_length_le (by have := HLEN.out; omega)] at hg
      exact ⟨rfl, RDid.pre HB3.out (RDid.upd HRM2.out HK.out.1 HK.out.2 (put_len (by have := HLEN.out; have := HF.out; omega)) HX.out hg)⟩
theorem rStore_calls (h : RM w r sv Bs) (x : V3) (n : Int) (z : V3) (h0 : 0 ≤ x.v) (h1 : x.v < 4294967296) (h2 : 0 ≤ z.v) (h3 : z.v < 4294967296) (hn2 : n < 9223372036854775808) : Calls Try.prog 57 #[.pointer (some ⟨r, 0, none⟩), x.enc, .int .i64 n, z.enc] w fun e w' => e = .returned (.int .i64 (rstoreF Bs x n z).1) ∧ RDid w w' r sv Bs sv (rstoreF Bs x n z).2 := by
  unfold rstoreF
  cases ha : ratR Bs x n n with
  | none => exact (rStore_no h x n z h0 h1 hn2 (.inl ha)).mono fun _ _ q => ⟨q.1, RDid.same h q.2⟩
  | some y =>
    simp only
    obtain ⟨zk, zv, zb⟩ := z
    simp only at h2 h3 ⊢
    by_cases c1 : zk = 1
    · subst c1
      rw [if_pos rfl]
      exact rStore_num h x n zv zb h0 h1 h2 h3 hn2 ha
    · rw [if_neg c1]
      by_cases c2 : zk = 2 ∧ n = 4
      · obtain ⟨rfl, h4⟩ := c2
        rw [if_pos ⟨rfl, h4⟩]
        exact rStore_ptr h x n zv zb h0 h1 h2 h3 hn2 ha h4
      · rw [if_neg c2]
        exact (rStore_no h x n ⟨zk, zv, zb⟩ h0 h1 hn2 (.inr ⟨c1, c2⟩)).mono fun _ _ q => ⟨q.1, RDid.same h q.2⟩
end Go.Proofs.Ythdnhfjodhjejaa.Ma
