/- The document's memory: Load. No condition beyond those each theorem names. -/
import Derived.Test.YthdnhfjodhjejaaRc
import Derived.Deep.DeepMust
import Derived.Deep.RegionHeld3
namespace Go.Proofs.Ythdnhfjodhjejaa.Ma
open Go.RowKit Go.Proofs.Ythdnhfjodhjejaa.PMe Go.Proofs.YthdnhfjodhjejaaW.PrintWords Go.Proofs.YthdnhfjodhjejaaW.PrintLast Go.Proofs.YthdnhfjodhjejaaW.PrintMore
set_option linter.unusedVariables false
set_option linter.unusedSimpArgs false
variable {w w' : World} {r : Nat} {sv : Value} {Bs : List Blk}
def partB (c c0 : S66) (j : Nat) : Bool := c.f0 == 2 && (c.f3 == (j : Int) && (c.f1 == c0.f1 && c.f2 == c0.f2))
/-- Are the first j bytes parts of one pointer? -/
def pts (l : List S66) : Nat → Bool
  | 0 => true
  | j + 1 => pts l j && partB (l.getD j zC) (l.getD 0 zC) j
def numsL (l : List S66) : List Int := (l.filter fun c => c.f0 == 1).map fun c => c.f1 % 256
def valR (bs : List Int) (sg : Bool) : Int := ((word_Value.f 20 bs sg).getD (0, 0)).1
/-- What Load answers. -/
def rloadF (Bs : List Blk) (x : V3) (n : Int) (sg : Bool) : V3 × Int :=
  match ratR Bs x n n with
  | none => (V3.z, 3)
  | some y =>
    let l := sub y.cs x.v.toNat n.toNat
    if (numsL l).length = n.toNat then (⟨1, valR (numsL l) sg, 0⟩, 0)
    else if n = 4 ∧ pts l n.toNat = true then (⟨2, (l.getD 0 zC).f1, (l.getD 0 zC).f2⟩, 0)
    else (V3.z, 3)
theorem numsL_len (l : List S66) : (numsL l).length ≤ l.length := by unfold numsL; rw [List.length_map]; exact List.length_filter_le _ _
theorem rval_ok (bs : List Int) (sg : Bool) (h : bs.length = 1 ∨ bs.length = 2 ∨ bs.length = 4) : mortiseref01_Value.f 20 bs sg = some (valR bs sg, 0) := by
  unfold valR
  rcases h with h | h | h
  · match bs, h with
    | [a], _ => rw [La.value1, La.rvalue1]; rfl
  · match bs, h with
    | [a, b], _ => rw [La.value2, La.rvalue2]; rfl
  · match bs, h with
    | [a, b, c, d], _ => rw [La.value4, La.rvalue4]; rfl
set_option maxHeartbeats 8000000 in
set_option maxRecDepth 100000 in
theorem rLoad_no (h : RM w r sv Bs) (x : V3) (n : Int) (sg : Bool) (h0 : 0 ≤ x.v) (h1 : x.v < 4294967296) (hn2 : n < 9223372036854775808) (ha : ratR Bs x n n = none) : Calls Try.prog 56 #[.pointer (some ⟨r, 0, none⟩), x.enc, .int .i64 n, .bool sg] w fun e w' => e = .returned (.tuple #[V3.z.enc, .int .i64 3]) ∧ Below w.heap.size w w' := by
  have hu51 := Try.underlying51
  have H := Aside0.mk h
  have HA := Aside0.mk ha
  clear h ha
  obtain ⟨k, v, b⟩ := x
  unfold V3.enc V3.z
  simp only at h0 h1 ⊢
  have hc := fun W (hW : RM W r sv Bs) => rat_calls hW ⟨k, v, b⟩ n n h0 h1 hn2
  rw [HA.out] at hc
  have HC := Aside0.mk hc
  clear hc
  go_enter Try.func56, Try.ntmps56
  go_wp2_with (fail)
  go_at_call 86
  refine (HC.out _ (H.out.below (by (repeat (first | (with_reducible exact Below.refl _ _) | (with_reducible assumption) | with_reducible apply below_alloc | with_reducible apply pw_below_drewN | with_reducible apply below_drew1))))).mono ?_
  rintro e W1 ⟨rfl, hB0⟩
  have B8 := blk_below (heap_at (w.alloc (.cells #[.int .i64 k, .int .u32 v, .int .i64 b] 51)) (.cells #[.int .i64 0, .int .u32 0, .int .i64 0] 51) (w.heap.size + 1) (by simp)) hB0
  have hB := pm_chain (w := w) (by (repeat (first | (with_reducible exact Below.refl _ _) | (with_reducible assumption) | with_reducible apply below_alloc | with_reducible apply pw_below_drewN | with_reducible apply below_drew1))) hB0
  have BB := Aside0.mk B8
  obtain ⟨⟨hz0, hz1, hz2⟩, hf0, hf1, hf2⟩ := know3 B8
  clear hB0 B8
  simp only [Option.isSome]
  go_wp2_with (fail)
  refine bodyPost_ret (results_ct rfl _ _ (w.heap.size + 1) 51 _ (0, 0) _ rfl (put3 BB.out _ _ _) Try.underlying51 rfl (by kernel_rfl)) rfl ?_
  exact ⟨rfl, by (repeat (first | (with_reducible exact Below.refl _ _) | (with_reducible assumption) | with_reducible apply below_alloc | with_reducible apply pw_below_drewN | with_reducible apply below_drew1 | (refine below_set ?_ (by omega))))⟩
set_option maxHeartbeats 40000000 in
set_option maxRecDepth 100000 in
theorem rLoad_go (h : RM w r sv Bs) (x : V3) (n : Int) (sg : Bool) (h0 : 0 ≤ x.v) (h1 : x.v < 4294967296) (hn2 : n < 9223372036854775808) {y : Blk} (ha : ratR Bs x n n = some y) (A : Value) (hA : Aside0 (ans (rloadF Bs x n sg) = A)) : Calls Try.prog 56 #[.pointer (some ⟨r, 0, none⟩), x.enc, .int .i64 n, .bool sg] w fun e w' => e = .returned A ∧ Below w.heap.size w w' := by
  have hu51 := Try.underlying51
  have H := Aside0.mk h
  obtain ⟨hg, hn1, hp, hle, _, _⟩ := ratR_some ha
  have hwd : n = 1 ∨ n = 2 ∨ n = 4 := by simp only [pow2, Bool.or_eq_true, beq_iff_eq] at hp; omega
  have hl := (goodR_some hg).2.1
  unfold rloadF at hA
  rw [ha] at hA
  simp only at hA
  have hc := fun W (hW : RM W r sv Bs) => rat_calls hW x n n h0 h1 hn2
  rw [ha] at hc
  have HC := Aside0.mk hc
  have HL := Aside0.mk hl
  clear h hc hg hp ha
  obtain ⟨k, v, b⟩ := x
  unfold V3.enc
  simp only at h0 h1 hle hl hA HL ⊢
  obtain ⟨K, _, _, rfl, _, hKl, _, _, _, l1, l2, _, _⟩ := livR_at H.out hl
  obtain ⟨V, rfl⟩ : ∃ V : Nat, v = V := ⟨v.toNat, by omega⟩
  obtain ⟨N, rfl⟩ : ∃ N : Nat, n = N := ⟨n.toNat, by omega⟩
  have hm := H.out.big
  have hV : V ≤ 16384 := by omega
  have hN : N ≤ 4 := by omega
  have hN1 : 1 ≤ N := by omega
  have hVN : V + N ≤ y.cs.length := by omega
  have HVN := Aside0.mk (And.intro hVN (And.intro l1 l2))
  have HWD := Aside0.mk hwd
  simp only [Int.toNat_natCast] at hA
  have hlen : (sub y.cs V N).length = N := sub_len hVN
  have HLEN := Aside0.mk hlen
  have HF := Aside0.mk (And.intro hKl (And.intro hVN hm))
  clear h0 h1 hn2 hle hl hwd hn1 l1 l2 hVN hlen
  go_enter Try.func56, Try.ntmps56
  go_wp2_with (fail)
  go_at_call 86
  refine (HC.out _ (H.out.below (by (repeat (first | (with_reducible exact Below.refl _ _) | (with_reducible assumption) | with_reducible apply below_alloc | with_reducible apply pw_below_drewN | with_reducible apply below_drew1))))).mono ?_
  rintro e W1 ⟨rfl, hB0⟩
  have R5 := blk_below (blk_alloc (heap_at w (.cells #[.int .i64 k, .int .u32 (V : Int), .int .i64 ((K : Int) + 1)] 51) w.heap.size rfl) (.cells #[.int .i64 0, .int .u32 0, .int .i64 0] 51)) hB0
  have R8 := blk_below (heap_at (w.alloc (.cells #[.int .i64 k, .int .u32 (V : Int), .int .i64 ((K : Int) + 1)] 51)) (.cells #[.int .i64 0, .int .u32 0, .int .i64 0] 51) (w.heap.size + 1) (by simp)) hB0
  have hB := pm_chain (w := w) (by (repeat (first | (with_reducible exact Below.refl _ _) | (with_reducible assumption) | with_reducible apply below_alloc | with_reducible apply pw_below_drewN | with_reducible apply below_drew1))) hB0
  clear hB0
  obtain ⟨g8, hg8⟩ : ∃ g, g = w.heap.size + 1 := ⟨_, rfl⟩
  obtain ⟨g5, hg5⟩ : ∃ g, g = w.heap.size := ⟨_, rfl⟩
  rw [← hg8, ← hg5]
  rw [← hg5] at R5
  rw [← hg8] at R8
  have HG := Aside0.mk (show w.heap.size ≤ g8 by omega)
  clear hg8 hg5
  have RM1 := H.out.below hB
  obtain ⟨d0, _⟩ := RM1.cells
  obtain ⟨K', hb, cap, hKK, _, _, hsv, hcap, ⟨e4, e5, e6⟩, _, _, hrow, _⟩ := livR_at RM1 HL.out
  obtain rfl : K' = K := by omega
  rw [hsv] at d0
  obtain ⟨⟨k0, k1, k2⟩, _⟩ := know3 R5
  have HB := Aside0.mk hB
  have HR8 := Aside0.mk R8
  have HROW := Aside0.mk hrow
  clear R5 R8 hB RM1 hKK hsv hrow
  simp only [Option.isSome]
  go_wp2_with (fail)
  have f2 : IntKind.i64.wrap ((K' : Int) + 1 - 1) = K' := by have := HF.out; rw [show (K' : Int) + 1 - 1 = K' by omega]; exact IntWalk.i64_in _ (by omega)
  have f3 : (0 : Int) ≤ K' := by have := HF.out; omega
  have f4 : IntKind.i64.wrap (V : Int) = V := IntWalk.i64_in _ (by omega)
  have f5 : IntKind.i64.wrap ((V : Int) + N) = (V : Int) + N := IntWalk.i64_in _ (by omega)
  have f6 : (0 : Int) ≤ V := by have := HF.out; omega
  have f7 : (V : Int) ≤ (V : Int) + N := by have := HF.out; omega
  have f8 : (V : Int) + N ≤ (y.cs.length : Int) := by have := HF.out; omega
  have f9 : ((V : Int) + N).toNat - V = N := by have := HF.out; omega
  have f10 : (K' : Int) < (Bs.length : Int) := by have := HF.out; omega
  go_quiet (fail)
  clear d0 e4 e5 e6 k0 k1 k2 f2 f3 f4 f5 f6 f7 f8 f10
  have HR82 := Aside0.mk (blk_drewN HR8.out nq)
  have HROW2 := Aside0.mk (blk_drewN HROW.out nq)
  have HB2 := Aside0.mk (show Below w.heap.size w (W1.drewN nq) by have hB := HB.out; (repeat (first | (with_reducible exact Below.refl _ _) | (with_reducible assumption) | with_reducible apply below_alloc | with_reducible apply pw_below_drewN | with_reducible apply below_drew1)))
  clear HR8 HROW HB
  generalize W1.drewN nq = W2 at HR82 HROW2 HB2 ⊢
  go_wp2_with (fail)
  (try rw [f9])
  clear f9
  obtain ⟨c0, hc0⟩ : ∃ c0, (sub y.cs V N)[0]? = some c0 := ⟨_, List.getElem?_eq_getElem (by have := HLEN.out; omega)⟩
  have hc0' : y.cs[V]? = some c0 := by have := sub_get y.cs V N 0 (by omega); rw [Nat.add_zero] at this; rw [← this]; exact hc0
  have HC0 := Aside0.mk (And.intro hc0 hc0')
  clear hc0 hc0'
  have hgd0 : (sub y.cs V N).getD 0 zC = c0 := by rw [List.getD_eq_getElem?_getD, HC0.out.1]; rfl
  have HGD := Aside0.mk hgd0
  clear hgd0
  have HFAR := Aside0.mk (show g8 < W2.heap.size ∧ y.g < W2.heap.size from ⟨blk_lt HR82.out, blk_lt HROW2.out⟩)
  go_loopg [11, 12, 13] N (fun kq v11 v12 v13 wr => ∃ j : Nat, j + kq = N ∧ v13 = .int .i64 j ∧ v12 = .bool (pts (sub y.cs V N) j) ∧ Aside0 (Kd.R (Kd.int .u8) 5 wr W2.heap.size (fun q => q ≠ g8 ∧ q ≠ y.g) v11 (numsL ((sub y.cs V N).take j))) ∧ Aside0 (wr.heap[g8]? = some (.cells #[.int .i64 0, .int .u32 0, .int .i64 0] 51 (0, 0))) ∧ Aside0 (wr.heap[y.g]? = some (.cells (rowC y.cs) 66 (0, 0))) ∧ Aside0 (Below W2.heap.size W2 wr))
  case atStart => exact ⟨0, by omega, rfl, rfl, ⟨Kd.R_nil _ _ _ _ _⟩, HR82, HROW2, ⟨Below.refl _ _⟩⟩
  case round =>
    obtain ⟨j, hj, rfl, rfl, HO, HR8, HROW, HBw⟩ := hrel
    generalize hp : pts (sub y.cs V N) j = p
    have HP := Aside0.mk hp
    clear hp
    by_cases hjN : j < N
    · have HJ := Aside0.mk hj
      clear hj
      obtain ⟨c, hc⟩ : ∃ c, (sub y.cs V N)[j]? = some c := ⟨_, List.getElem?_eq_getElem (by have := HLEN.out; omega)⟩
      have hc' : y.cs[V + j]? = some c := by have := sub_get y.cs V N j hjN; rw [← this]; exact hc
      have e0 := row_cell HROW.out (V + j) 0 (by omega)
      have e1 := row_cell HROW.out (V + j) 1 (by omega)
      have e2 := row_cell HROW.out (V + j) 2 (by omega)
      have e3 := row_cell HROW.out (V + j) 3 (by omega)
      rw [hc'] at e0 e1 e2 e3
      simp only [Option.bind_some, encC, List.getElem?_cons_zero, List.getElem?_cons_succ, Nat.add_zero, Nat.add_mul] at e0 e1 e2 e3
      have a1 := row_cell HROW.out V 1 (by omega)
      have a2 := row_cell HROW.out V 2 (by omega)
      rw [HC0.out.2] at a1 a2
      simp only [Option.bind_some, encC, List.getElem?_cons_zero, List.getElem?_cons_succ] at a1 a2
      have HCC := Aside0.mk hc
      have HCS := Aside0.mk (And.intro hc' HC0.out.2)
      have hgj : (sub y.cs V N).getD j zC = c := by rw [List.getD_eq_getElem?_getD, hc]; rfl
      have HGJ := Aside0.mk hgj
      have hstep : pts (sub y.cs V N) (j + 1) = (p && partB c c0 j) := by rw [← HP.out]; show (pts _ j && partB ((sub y.cs V N).getD j zC) ((sub y.cs V N).getD 0 zC) j) = _; rw [HGJ.out, HGD.out]
      have HST := Aside0.mk hstep
      have htk : (sub y.cs V N).take (j + 1) = (sub y.cs V N).take j ++ [c] := by rw [List.take_add_one, HCC.out]; rfl
      have HTK := Aside0.mk htk
      have hlj : (numsL ((sub y.cs V N).take j)).length ≤ 4 := by have := numsL_len ((sub y.cs V N).take j); have := List.length_take_le j (sub y.cs V N); omega
      have HLJ := Aside0.mk hlj
      have HN := Aside0.mk (And.intro hN hN1)
      have HJN := Aside0.mk hjN
      have hj4 : j ≤ 4 := by omega
      have hNV4 : N ≤ y.cs.length - V := by have := HVN.out; omega
      have HROWo := Aside0.mk (And.intro HROW.out HR8.out)
      clear hc hc' hgj hstep htk hlj
      by_cases hk1 : c.f0 = 1
      · have m1 : (c.f0 == 1) = true := beq_iff_eq.mpr hk1
        have m2 : (c.f0 == 2) = false := beq_eq_false_iff_ne.mpr (by omega)
        have HK1 := Aside0.mk hk1
        clear hk1
        go_upto_region 11 with (first | ((with_reducible refine gate_builtin (b := .append) (xs := #[.tmp 54, .tmp 61]) rfl ?_); at_builtin; go_must (refine Kd.R_append (Kd.int .u8) (w0 := W2) W2.heap.size rfl (.tmp 54) (.tmp 61) 23 5 (.int .u8 0) 1 rfl Try.underlying23 info5 rfl (by decide) (by omega) u11 (numsL ((sub y.cs V N).take j)) (c.f1 % 256) [.int .u8 (c.f1 % 256)] (fun q => q ≠ g8 ∧ q ≠ y.g) (fun _ => False) rfl ?aX ?aP (fun _ hk => hk.elim) ?aF ?aO ?aB ?aS ?aL ?_; (case aX => exact (show Value.slice (some ⟨wr.heap.size, 0, none⟩) 1 1 = _ by simp)); (case aP => exact rfl); (case aB => exact (by have hB := HBw.out; (repeat (first | (with_reducible exact Below.refl _ _) | (with_reducible assumption) | with_reducible apply below_alloc | with_reducible apply pw_below_drewN | with_reducible apply below_drew1)))); (case aF => exact (fun q hq => by have h1 := HFAR.out; have h2 := HBw.out.size; omega)); (case aO => exact (by (with_reducible repeat (first | apply Kd.R_alloc | apply Kd.R_drewN | apply Kd.R_drew)); exact HO.out)); (case aS => exact (below_size (by have hB := HBw.out; (repeat (first | (with_reducible exact Below.refl _ _) | (with_reducible assumption) | with_reducible apply below_alloc | with_reducible apply pw_below_drewN | with_reducible apply below_drew1))))); (case aL => have := HLJ.out; omega); intro v1_ W3 ho hb hg hat; have HO1 := Aside0.mk ho; have HB1 := Aside0.mk hb; have HG1 := Aside0.mk hg; have HAT := Aside0.mk hat; clear ho hb hg hat)))
        have HROW3 := Aside0.mk ((HG1.out.block y.g (by have h1 := HFAR.out; have h2 := HBw.out.size; omega) (fun e => (HO.out.1 _ e.symm).2 rfl)).trans HROWo.out.1)
        have HR83 := Aside0.mk ((HG1.out.block g8 (by have h1 := HFAR.out; have h2 := HBw.out.size; omega) (fun e => (HO.out.1 _ e.symm).1 rfl)).trans HROWo.out.2)
        clear e0 e1 e2 e3 a1 a2
        have e0 := row_cell HROW3.out (V + j) 0 (by omega)
        have e1 := row_cell HROW3.out (V + j) 1 (by omega)
        have e2 := row_cell HROW3.out (V + j) 2 (by omega)
        have e3 := row_cell HROW3.out (V + j) 3 (by omega)
        rw [HCS.out.1] at e0 e1 e2 e3
        simp only [Option.bind_some, encC, List.getElem?_cons_zero, List.getElem?_cons_succ, Nat.add_zero, Nat.add_mul] at e0 e1 e2 e3
        have a1 := row_cell HROW3.out V 1 (by omega)
        have a2 := row_cell HROW3.out V 2 (by omega)
        rw [HCS.out.2] at a1 a2
        simp only [Option.bind_some, encC, List.getElem?_cons_zero, List.getElem?_cons_succ] at a1 a2
        have HNS := Aside0.mk (show numsL ((sub y.cs V N).take (j + 1)) = numsL ((sub y.cs V N).take j) ++ [c.f1 % 256] by rw [HTK.out]; unfold numsL; simp [HK1.out])
        cases p with
        | false =>
          go_quiet (fail)
          go_wp2_with (fail)
          go_roundg (N - (j + 1))
          case measure => have := HJ.out; have := HJN.out; omega
          case rel => exact ⟨j + 1, by have := HJN.out; omega, by simp, by rw [HST.out]; simp [partB], ⟨by rw [HNS.out]; exact Kd.R_drewN HO1.out _⟩, ⟨blk_drewN HR83.out _⟩, ⟨blk_drewN HROW3.out _⟩, ⟨by have hB := HB1.out; (repeat (first | (with_reducible exact Below.refl _ _) | (with_reducible assumption) | with_reducible apply below_alloc | with_reducible apply pw_below_drewN | with_reducible apply below_drew1))⟩⟩
        | true =>
          go_quiet (fail)
          go_wp2_with (fail)
          go_roundg (N - (j + 1))
          case measure => have := HJ.out; have := HJN.out; omega
          case rel => exact ⟨j + 1, by have := HJN.out; omega, by simp, by rw [HST.out]; simp [partB, HK1.out], ⟨by rw [HNS.out]; exact Kd.R_drewN HO1.out _⟩, ⟨blk_drewN HR83.out _⟩, ⟨blk_drewN HROW3.out _⟩, ⟨by have hB := HB1.out; (repeat (first | (with_reducible exact Below.refl _ _) | (with_reducible assumption) | with_reducible apply below_alloc | with_reducible apply pw_below_drewN | with_reducible apply below_drew1))⟩⟩
      · have m1 : (c.f0 == 1) = false := beq_eq_false_iff_ne.mpr hk1
        have HNS := Aside0.mk (show numsL ((sub y.cs V N).take (j + 1)) = numsL ((sub y.cs V N).take j) by rw [HTK.out]; unfold numsL; simp [hk1])
        clear hk1
        go_upto_region 11 with (fail)
        cases p with
        | false =>
          go_quiet (fail)
          go_wp2_with (fail)
          go_roundg (N - (j + 1))
          case measure => have := HJ.out; have := HJN.out; omega
          case rel => exact ⟨j + 1, by have := HJN.out; omega, by simp, by rw [HST.out]; simp [partB], ⟨by rw [HNS.out]; exact Kd.R_drewN HO.out _⟩, ⟨blk_drewN HR8.out _⟩, ⟨blk_drewN HROW.out _⟩, ⟨by have hB := HBw.out; (repeat (first | (with_reducible exact Below.refl _ _) | (with_reducible assumption) | with_reducible apply below_alloc | with_reducible apply pw_below_drewN | with_reducible apply below_drew1))⟩⟩
        | true =>
          by_cases q2 : c.f0 = 2
          · have q2b : (c.f0 == 2) = true := beq_iff_eq.mpr q2
            have q2o := Aside0.mk q2
            clear q2
            by_cases q3 : c.f3 = (j : Int)
            · have q3b : (c.f3 == (j : Int)) = true := beq_iff_eq.mpr q3
              have q3o := Aside0.mk q3
              clear q3
              by_cases q4 : c.f1 = c0.f1
              · have q4b : (c.f1 == c0.f1) = true := beq_iff_eq.mpr q4
                have q4o := Aside0.mk q4
                clear q4
                by_cases q5 : c.f2 = c0.f2
                · have q5b : (c.f2 == c0.f2) = true := beq_iff_eq.mpr q5
                  have q5o := Aside0.mk q5
                  clear q5
                  go_quiet (fail)
                  go_wp2_with (fail)
                  go_roundg (N - (j + 1))
                  case measure => have := HJ.out; have := HJN.out; omega
                  case rel => exact ⟨j + 1, by have := HJN.out; omega, by simp, by rw [HST.out]; simp [partB, q2o.out, q3o.out, q4o.out, q5o.out], ⟨by rw [HNS.out]; exact Kd.R_drewN HO.out _⟩, ⟨blk_drewN HR8.out _⟩, ⟨blk_drewN HROW.out _⟩, ⟨by have hB := HBw.out; (repeat (first | (with_reducible exact Below.refl _ _) | (with_reducible assumption) | with_reducible apply below_alloc | with_reducible apply pw_below_drewN | with_reducible apply below_drew1))⟩⟩
                · have q5b : (c.f2 == c0.f2) = false := beq_eq_false_iff_ne.mpr q5
                  have q5o := Aside0.mk q5
                  clear q5
                  go_quiet (fail)
                  go_wp2_with (fail)
                  go_roundg (N - (j + 1))
                  case measure => have := HJ.out; have := HJN.out; omega
                  case rel => exact ⟨j + 1, by have := HJN.out; omega, by simp, by rw [HST.out]; simp [partB, q2o.out, q3o.out, q4o.out, q5o.out], ⟨by rw [HNS.out]; exact Kd.R_drewN HO.out _⟩, ⟨blk_drewN HR8.out _⟩, ⟨blk_drewN HROW.out _⟩, ⟨by have hB := HBw.out; (repeat (first | (with_reducible exact Below.refl _ _) | (with_reducible assumption) | with_reducible apply below_alloc | with_reducible apply pw_below_drewN | with_reducible apply below_drew1))⟩⟩
              · have q4b : (c.f1 == c0.f1) = false := beq_eq_false_iff_ne.mpr q4
                have q4o := Aside0.mk q4
                clear q4
                go_quiet (fail)
                go_wp2_with (fail)
                go_roundg (N - (j + 1))
                case measure => have := HJ.out; have := HJN.out; omega
                case rel => exact ⟨j + 1, by have := HJN.out; omega, by simp, by rw [HST.out]; simp [partB, q2o.out, q3o.out, q4o.out], ⟨by rw [HNS.out]; exact Kd.R_drewN HO.out _⟩, ⟨blk_drewN HR8.out _⟩, ⟨blk_drewN HROW.out _⟩, ⟨by have hB := HBw.out; (repeat (first | (with_reducible exact Below.refl _ _) | (with_reducible assumption) | with_reducible apply below_alloc | with_reducible apply pw_below_drewN | with_reducible apply below_drew1))⟩⟩
            · have q3b : (c.f3 == (j : Int)) = false := beq_eq_false_iff_ne.mpr q3
              have q3o := Aside0.mk q3
              clear q3
              go_quiet (fail)
              go_wp2_with (fail)
              go_roundg (N - (j + 1))
              case measure => have := HJ.out; have := HJN.out; omega
              case rel => exact ⟨j + 1, by have := HJN.out; omega, by simp, by rw [HST.out]; simp [partB, q2o.out, q3o.out], ⟨by rw [HNS.out]; exact Kd.R_drewN HO.out _⟩, ⟨blk_drewN HR8.out _⟩, ⟨blk_drewN HROW.out _⟩, ⟨by have hB := HBw.out; (repeat (first | (with_reducible exact Below.refl _ _) | (with_reducible assumption) | with_reducible apply below_alloc | with_reducible apply pw_below_drewN | with_reducible apply below_drew1))⟩⟩
          · have q2b : (c.f0 == 2) = false := beq_eq_false_iff_ne.mpr q2
            have q2o := Aside0.mk q2
            clear q2
            go_quiet (fail)
            go_wp2_with (fail)
            go_roundg (N - (j + 1))
            case measure => have := HJ.out; have := HJN.out; omega
            case rel => exact ⟨j + 1, by have := HJN.out; omega, by simp, by rw [HST.out]; simp [partB, q2o.out], ⟨by rw [HNS.out]; exact Kd.R_drewN HO.out _⟩, ⟨blk_drewN HR8.out _⟩, ⟨blk_drewN HROW.out _⟩, ⟨by have hB := HBw.out; (repeat (first | (with_reducible exact Below.refl _ _) | (with_reducible assumption) | with_reducible apply below_alloc | with_reducible apply pw_below_drewN | with_reducible apply below_drew1))⟩⟩
    · obtain rfl : j = N := by omega
      have htake : (sub y.cs V j).take j = sub y.cs V j := List.take_of_length_le (by rw [HLEN.out]; omega)
      have ho := HO.out
      rw [htake] at ho
      obtain ⟨bs, hbs⟩ : ∃ bs, bs = numsL (sub y.cs V j) := ⟨_, rfl⟩
      rw [← hbs] at ho hA
      obtain ⟨A', cc, hs, hcc, hC⟩ := Kd.R_reads ho
      subst hs
      have HBL := Aside0.mk (show bs.length ≤ 4 by rw [hbs]; have := numsL_len (sub y.cs V j); have := HLEN.out; omega)
      clear hbs ho htake hj hjN HFAR
      obtain ⟨⟨hz0, hz1, hz2⟩, hf0, hf1, hf2⟩ := know3 HR8.out
      rw [HP.out] at hA
      by_cases hn : bs.length = j
      · rw [if_pos hn] at hA
        have hnb : ((bs.length : Int) == (j : Int)) = true := beq_iff_eq.mpr (by omega)
        have hval := mortiseref01_Value.calls 20 A' cc bs sg (valR bs sg) 0 wr hC hcc (rval_ok bs sg (by have := HWD.out; omega))
        have HV := Aside0.mk hval
        clear hcc hC hval hn
        go_wp2_with (first | (go_at_call 13; refine HV.out.mono ?_; rintro e W3 ⟨rfl, ⟨nd, rfl⟩⟩))
        refine bodyPost_ret (results_ct rfl _ _ g8 51 _ (0, 0) _ rfl (put3 (blk_drewN HR8.out nd) _ _ _) Try.underlying51 rfl (by kernel_rfl)) rfl ?_
        exact ⟨by rw [← hA.out]; rfl, by have hB := pm_chain (w := w) HB2.out HBw.out; have hq := HG.out; (repeat (first | (with_reducible exact Below.refl _ _) | (with_reducible assumption) | with_reducible apply below_alloc | with_reducible apply pw_below_drewN | with_reducible apply below_drew1 | (refine below_set ?_ (by omega))))⟩
      · rw [if_neg hn] at hA
        have hnb : ((bs.length : Int) == (j : Int)) = false := beq_eq_false_iff_ne.mpr (by omega)
        clear hcc hC hn
        by_cases h4 : (j : Int) = 4
        · have h4b : ((j : Int) == 4) = true := beq_iff_eq.mpr h4
          have H4 := Aside0.mk h4
          clear h4
          cases p with
          | true =>
            rw [if_pos ⟨H4.out, rfl⟩] at hA
            have a1 := row_cell HROW.out V 1 (by omega)
            have a2 := row_cell HROW.out V 2 (by omega)
            rw [HC0.out.2] at a1 a2
            simp only [Option.bind_some, encC, List.getElem?_cons_zero, List.getElem?_cons_succ] at a1 a2
            have p0 : 0 < j := by omega
            have p1 : (0 : Int) < (j : Int) := by omega
            have ng : ¬ y.g = g8 := fun e => by have h1 := HROW.out; have h2 := HR8.out; rw [e, h2] at h1; injection h1 with h1; injection h1 with _ h1; cases h1
            go_wp2_with (fail)
            go_region_held3 (fun w' => w'.cell? ⟨y.g, V * 4 + 1, none⟩ = some (.int .u32 c0.f1) ∧ w'.cell? ⟨y.g, V * 4 + 2, none⟩ = some (.int .i64 c0.f2)) (first | exact ⟨(blk_cell (far3 HROW.out ng _ _ _) _).trans ((blk_cell HROW.out _).symm.trans a1), (blk_cell (far3 HROW.out ng _ _ _) _).trans ((blk_cell HROW.out _).symm.trans a2)⟩ | exact ⟨pw_cell_below (by (repeat (first | (with_reducible exact Below.refl _ _) | (with_reducible assumption) | with_reducible apply below_alloc | with_reducible apply pw_below_drewN | with_reducible apply below_drew1))) a1, pw_cell_below (by (repeat (first | (with_reducible exact Below.refl _ _) | (with_reducible assumption) | with_reducible apply below_alloc | with_reducible apply pw_below_drewN | with_reducible apply below_drew1))) a2⟩) (fail)
            go_wp2_with (fail)
            refine bodyPost_ret (results_ct rfl _ _ g8 51 _ (0, 0) _ rfl (put3 (blk_drew HR8.out) _ _ _) Try.underlying51 rfl (by kernel_rfl)) rfl ?_
            exact ⟨by rw [← hA.out, HGD.out]; rfl, by have hB := pm_chain (w := w) HB2.out HBw.out; have hq := HG.out; (repeat (first | (with_reducible exact Below.refl _ _) | (with_reducible assumption) | with_reducible apply below_alloc | with_reducible apply pw_below_drewN | with_reducible apply below_drew1 | (refine below_set ?_ (by omega))))⟩
          | false =>
            rw [if_neg (by simp)] at hA
            go_wp2_with (fail)
            refine bodyPost_ret (results_ct rfl _ _ g8 51 _ (0, 0) _ rfl (put3 HR8.out _ _ _) Try.underlying51 rfl (by kernel_rfl)) rfl ?_
            exact ⟨by rw [← hA.out]; rfl, by have hB := pm_chain (w := w) HB2.out HBw.out; have hq := HG.out; (repeat (first | (with_reducible exact Below.refl _ _) | (with_reducible assumption) | with_reducible apply below_alloc | with_reducible apply pw_below_drewN | with_reducible apply below_drew1 | (refine below_set ?_ (by omega))))⟩
        · have h4b : ((j : Int) == 4) = false := beq_eq_false_iff_ne.mpr h4
          rw [if_neg (fun h => h4 h.1)] at hA
          clear h4
          go_wp2_with (fail)
          refine bodyPost_ret (results_ct rfl _ _ g8 51 _ (0, 0) _ rfl (put3 HR8.out _ _ _) Try.underlying51 rfl (by kernel_rfl)) rfl ?_
          exact ⟨by rw [← hA.out]; rfl, by have hB := pm_chain (w := w) HB2.out HBw.out; have hq := HG.out; (repeat (first | (with_reducible exact Below.refl _ _) | (with_reducible assumption) | with_reducible apply below_alloc | with_reducible apply pw_below_drewN | with_reducible apply below_drew1 | (refine below_set ?_ (by omega))))⟩
end Go.Proofs.Ythdnhfjodhjejaa.Ma
