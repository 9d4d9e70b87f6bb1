/- The document's memory: Bin. No condition beyond those each theorem names. -/
import Derived.Test.YthdnhfjodhjejaaRd
namespace Go.Proofs.Ythdnhfjodhjejaa.Ma
open Go.RowKit Go.Proofs.Ythdnhfjodhjejaa.PMe Go.Proofs.YthdnhfjodhjejaaW.PrintWords Go.Proofs.YthdnhfjodhjejaaW.PrintLast Go.Proofs.YthdnhfjodhjejaaW.PrintMore
set_option linter.unusedVariables false
set_option linter.unusedSimpArgs false
variable {w w' : World} {r : Nat} {sv : Value} {Bs : List Blk}
def rmixA (y : Blk) (op : Int) (a b : V3) : V3 × Int :=
  if op = 1 then rmovedF y a (wint b.v) else if op = 2 then rmovedF y a (-(wint b.v)) else if (op = 14 ∨ op = 15) ∧ b.v = 0 then truthV (op == 15) else (V3.z, 3)
def rmixB (y : Blk) (op : Int) (a b : V3) : V3 × Int :=
  if op = 1 then rmovedF y b (wint a.v) else if (op = 14 ∨ op = 15) ∧ a.v = 0 then truthV (op == 15) else (V3.z, 3)
/-- What Bin answers. -/
def rbinF (Bs : List Blk) (op : Int) (a b : V3) : V3 × Int :=
  if nmE op then (V3.z, 3)
  else if a.k = 1 then
    if b.k = 1 then numsF op a b
    else match goodR Bs b with
      | none => (V3.z, 3)
      | some y => rmixB y op a b
  else match goodR Bs a with
    | none => (V3.z, 3)
    | some y => if b.k = 1 then rmixA y op a b else match goodR Bs b with
      | none => (V3.z, 3)
      | some z => ptrsN y.cs.length z.cs.length op a b
theorem rname_yes (w : World) (op : Int) (h : nmE op = true) : Calls Try.prog 88 #[.int .i64 op] w fun e w' => e = .returned (.string ⟨#[]⟩) ∧ Below w.heap.size w w' := by
  refine mortiseref01_Name.calls op _ w ?_
  unfold nmE at h
  unfold mortiseref01_Name.f
  simp only [Bool.or_eq_true, decide_eq_true_eq] at h
  by_cases h1 : op < 1
  · rw [if_pos h1]
  · rw [if_neg h1, if_pos (by omega)]
theorem rname_no (w : World) (op : Int) (h : nmE op = false) : Calls Try.prog 88 #[.int .i64 op] w fun e w' => ∃ nm : ByteArray, nm.toList.isEmpty = false ∧ e = .returned (.string nm) ∧ Below w.heap.size w w' := by
  unfold nmE at h
  simp only [Bool.or_eq_false_iff, decide_eq_false_iff_not] at h
  obtain ⟨s, h1, h2⟩ := La.name_eq op
  have hn : s.toList.isEmpty = false := by
    unfold word_Name.f at h1
    rw [if_neg h.1, if_neg h.2] at h1
    cases h1
    have hd : op = 1 ∨ op = 2 ∨ op = 3 ∨ op = 4 ∨ op = 5 ∨ op = 6 ∨ op = 7 ∨ op = 8 ∨ op = 9 ∨ op = 10 ∨ op = 11 ∨ op = 12 ∨ op = 13 ∨ op = 14 ∨ op = 15 ∨ op = 16 ∨ op = 17 ∨ op = 18 ∨ op = 19 := by omega
    rcases hd with rfl | rfl | rfl | rfl | rfl | rfl | rfl | rfl | rfl | rfl | rfl | rfl | rfl | rfl | rfl | rfl | rfl | rfl | rfl <;> decide +kernel
  exact (mortiseref01_Name.calls op s w h2).mono fun _ _ h => ⟨s, hn, h.1, h.2⟩
theorem rInt_f (v : Int) (h0 : 0 ≤ v) (h1 : v < 4294967296) : mortiseref01_Int.f v = some (wint v) := by
  rw [La.refInt v h0 h1]; unfold wint; rw [La.wrap3264]
set_option maxHeartbeats 40000000 in
set_option maxRecDepth 100000 in
theorem rBin_calls (h : RM w r sv Bs) (op : Int) (a b : V3) (A : Value) (hA : Aside0 (ans (rbinF Bs op a b) = A)) (hx : Aside0 ((0 ≤ a.v ∧ a.v < 4294967296) ∧ (0 ≤ b.v ∧ b.v < 4294967296))) : Calls Try.prog 61 #[.pointer (some ⟨r, 0, none⟩), .int .i64 op, a.enc, b.enc] w fun e w' => e = .returned A ∧ Below w.heap.size w w' := by
  have hu51 := Try.underlying51
  have H := Aside0.mk h
  clear h
  obtain ⟨ak, av, ab⟩ := a
  obtain ⟨bk, bv, bb⟩ := b
  unfold V3.enc
  simp only at hx ⊢
  go_enter Try.func61, Try.ntmps61
  go_upto_region 1 with (fail)
  have RA : Row3 (((w.alloc (.cells #[.int .i64 ak, .int .u32 av, .int .i64 ab] 51)).alloc (.cells #[.int .i64 bk, .int .u32 bv, .int .i64 bb] 51)).alloc (.cells #[.int .i64 0, .int .u32 0, .int .i64 0] 51)) w.heap.size ⟨ak, av, ab⟩ := blk_alloc (blk_alloc (heap_at _ _ _ rfl) _) _
  have RB : Row3 (((w.alloc (.cells #[.int .i64 ak, .int .u32 av, .int .i64 ab] 51)).alloc (.cells #[.int .i64 bk, .int .u32 bv, .int .i64 bb] 51)).alloc (.cells #[.int .i64 0, .int .u32 0, .int .i64 0] 51)) (w.heap.size + 1) ⟨bk, bv, bb⟩ := blk_alloc (heap_at _ _ _ (by simp)) _
  have R8 : Row3 (((w.alloc (.cells #[.int .i64 ak, .int .u32 av, .int .i64 ab] 51)).alloc (.cells #[.int .i64 bk, .int .u32 bv, .int .i64 bb] 51)).alloc (.cells #[.int .i64 0, .int .u32 0, .int .i64 0] 51)) (w.heap.size + 1 + 1) ⟨0, 0, 0⟩ := heap_at _ _ _ (by simp)
  have hB : Below w.heap.size w (((w.alloc (.cells #[.int .i64 ak, .int .u32 av, .int .i64 ab] 51)).alloc (.cells #[.int .i64 bk, .int .u32 bv, .int .i64 bb] 51)).alloc (.cells #[.int .i64 0, .int .u32 0, .int .i64 0] 51)) := by (repeat (first | (with_reducible exact Below.refl _ _) | (with_reducible assumption) | with_reducible apply below_alloc | with_reducible apply pw_below_drewN | with_reducible apply below_drew1))
  generalize (((w.alloc (.cells #[.int .i64 ak, .int .u32 av, .int .i64 ab] 51)).alloc (.cells #[.int .i64 bk, .int .u32 bv, .int .i64 bb] 51)).alloc (.cells #[.int .i64 0, .int .u32 0, .int .i64 0] 51)) = W0 at RA RB R8 hB ⊢
  obtain ⟨g8, hg8⟩ : ∃ g, g = w.heap.size + 1 + 1 := ⟨_, rfl⟩
  obtain ⟨gb, hgb⟩ : ∃ g, g = w.heap.size + 1 := ⟨_, rfl⟩
  obtain ⟨ga, hga⟩ : ∃ g, g = w.heap.size := ⟨_, rfl⟩
  rw [← hg8, ← hgb, ← hga]
  rw [← hga] at RA
  rw [← hgb] at RB
  rw [← hg8] at R8
  have HG := Aside0.mk (show w.heap.size ≤ ga ∧ w.heap.size ≤ gb ∧ w.heap.size ≤ g8 by omega)
  have HN8 := Aside0.mk (show ga ≠ g8 ∧ gb ≠ g8 by omega)
  clear hga hgb hg8
  simp only [Row3] at RA RB R8
  obtain ⟨⟨ha0, ha1, ha2⟩, _⟩ := know3 RA
  obtain ⟨⟨hb0, hb1, hb2⟩, _⟩ := know3 RB
  obtain ⟨⟨hz0, hz1, hz2⟩, hf0, hf1, hf2⟩ := know3 R8
  have HRA := Aside0.mk RA
  have HRB := Aside0.mk RB
  have HR8 := Aside0.mk R8
  have HB := Aside0.mk hB
  clear RA RB R8 hB
  clear hz0 hz1 hz2 hf0 hf1 hf2
  go_cut [10, 11] (fun v10 v11 wc => v10 = .bool (goodR Bs ⟨ak, av, ab⟩).isSome ∧ v11 = .bool (goodR Bs ⟨bk, bv, bb⟩).isSome ∧ Aside0 (Below W0.heap.size W0 wc))
  case first =>
    go_region_held3 (fun w' => (w'.cell? ⟨ga, 0, none⟩ = some (.int .i64 ak) ∧ w'.cell? ⟨ga, 1, none⟩ = some (.int .u32 av) ∧ w'.cell? ⟨ga, 2, none⟩ = some (.int .i64 ab)) ∧ (w'.cell? ⟨gb, 0, none⟩ = some (.int .i64 bk) ∧ w'.cell? ⟨gb, 1, none⟩ = some (.int .u32 bv) ∧ w'.cell? ⟨gb, 2, none⟩ = some (.int .i64 bb))) (first | exact ⟨⟨pw_cell_below (by (repeat (first | (with_reducible exact Below.refl _ _) | (with_reducible assumption) | with_reducible apply below_alloc | with_reducible apply pw_below_drewN | with_reducible apply below_drew1)); done) ha0, pw_cell_below (by (repeat (first | (with_reducible exact Below.refl _ _) | (with_reducible assumption) | with_reducible apply below_alloc | with_reducible apply pw_below_drewN | with_reducible apply below_drew1)); done) ha1, pw_cell_below (by (repeat (first | (with_reducible exact Below.refl _ _) | (with_reducible assumption) | with_reducible apply below_alloc | with_reducible apply pw_below_drewN | with_reducible apply below_drew1)); done) ha2⟩, pw_cell_below (by (repeat (first | (with_reducible exact Below.refl _ _) | (with_reducible assumption) | with_reducible apply below_alloc | with_reducible apply pw_below_drewN | with_reducible apply below_drew1)); done) hb0, pw_cell_below (by (repeat (first | (with_reducible exact Below.refl _ _) | (with_reducible assumption) | with_reducible apply below_alloc | with_reducible apply pw_below_drewN | with_reducible apply below_drew1)); done) hb1, pw_cell_below (by (repeat (first | (with_reducible exact Below.refl _ _) | (with_reducible assumption) | with_reducible apply below_alloc | with_reducible apply pw_below_drewN | with_reducible apply below_drew1)); done) hb2⟩) (first | (go_at_call_of 87 ak; refine (Good_calls (H.out.below (pm_chain (w := w) HB.out (by (repeat (first | (with_reducible exact Below.refl _ _) | (with_reducible assumption) | with_reducible apply below_alloc | with_reducible apply pw_below_drewN | with_reducible apply below_drew1))))) ⟨ak, av, ab⟩ hx.out.1.1 hx.out.1.2).mono ?_; rintro e W1 ⟨rfl, hB1⟩; have hB2 := pm_chain (w := W0) (by (repeat (first | (with_reducible exact Below.refl _ _) | (with_reducible assumption) | with_reducible apply below_alloc | with_reducible apply pw_below_drewN | with_reducible apply below_drew1))) hB1; clear hB1) | (go_at_call_of 87 bk; refine (Good_calls (H.out.below (pm_chain (w := w) HB.out (by (repeat (first | (with_reducible exact Below.refl _ _) | (with_reducible assumption) | with_reducible apply below_alloc | with_reducible apply pw_below_drewN | with_reducible apply below_drew1))))) ⟨bk, bv, bb⟩ hx.out.2.1 hx.out.2.2).mono ?_; rintro e W2 ⟨rfl, hB1⟩; have hB3 := pm_chain (w := W0) (by (repeat (first | (with_reducible exact Below.refl _ _) | (with_reducible assumption) | with_reducible apply below_alloc | with_reducible apply pw_below_drewN | with_reducible apply below_drew1))) hB1; clear hB1))
    all_goals (go_wp2_with (fail); go_meet)
    all_goals exact ⟨rfl, rfl, ⟨by (repeat (first | (with_reducible exact Below.refl _ _) | (with_reducible assumption) | with_reducible apply below_alloc | with_reducible apply pw_below_drewN | with_reducible apply below_drew1))⟩⟩
  case rest =>
    obtain ⟨rfl, rfl, HB1⟩ := hcut
    clear ha0 ha1 ha2 hb0 hb1 hb2
    have RA := blk_below HRA.out HB1.out
    have RB := blk_below HRB.out HB1.out
    have R8 := blk_below HR8.out HB1.out
    have hB := pm_chain (w := w) HB.out HB1.out
    clear HRA HRB HR8 HB HB1
    obtain ⟨⟨ha0, ha1, ha2⟩, _⟩ := know3 RA
    obtain ⟨⟨hb0, hb1, hb2⟩, _⟩ := know3 RB
    have HRA := Aside0.mk RA
    have HRB := Aside0.mk RB
    have HR8 := Aside0.mk R8
    have HB := Aside0.mk hB
    clear RA RB R8 hB
    go_wp2_with (fail)
    go_quiet (fail)
    clear ha0 ha1 ha2 hb0 hb1 hb2
    unfold rbinF at hA
    simp only at hA
    cases hnm : nmE op with
    | true =>
      rw [hnm] at hA
      simp only [if_true] at hA
      have HNM := Aside0.mk hnm
      clear hnm
      go_wp2_with (first | (go_at_call 88; refine (rname_yes _ _ HNM.out).mono ?_; rintro e W1 ⟨rfl, hB1⟩; have hBc := pm_chain (w := wc) (by (repeat (first | (with_reducible exact Below.refl _ _) | (with_reducible assumption) | with_reducible apply below_alloc | with_reducible apply pw_below_drewN | with_reducible apply below_drew1))) hB1; clear hB1; have HRA1 := Aside0.mk (blk_below HRA.out hBc); have HRB1 := Aside0.mk (blk_below HRB.out hBc); have HR81 := Aside0.mk (blk_below HR8.out hBc); have HB1 := Aside0.mk (pm_chain (w := w) HB.out hBc); clear HRA HRB HR8 HB hBc; obtain ⟨⟨ha0, ha1, ha2⟩, _⟩ := know3 HRA1.out; obtain ⟨⟨hb0, hb1, hb2⟩, _⟩ := know3 HRB1.out; obtain ⟨⟨hz0, hz1, hz2⟩, hf0, hf1, hf2⟩ := know3 HR81.out; have HRA := HRA1; have HRB := HRB1; have HR8 := HR81; have HB := HB1; clear HRA1 HRB1 HR81 HB1))
      refine bodyPost_ret (results_ct rfl _ _ g8 51 _ (0, 0) _ rfl (put3 (HR8.out) _ _ _) Try.underlying51 rfl (by kernel_rfl)) rfl ?_
      exact ⟨by rw [← hA.out]; rfl, by have hB := HB.out; obtain ⟨_, _, hq⟩ := HG.out; (repeat (first | (with_reducible exact Below.refl _ _) | (with_reducible assumption) | with_reducible apply below_alloc | with_reducible apply pw_below_drewN | with_reducible apply below_drew1 | (refine below_set ?_ (by omega))))⟩
    | false =>
      rw [hnm] at hA
      simp only [Bool.false_eq_true, if_false] at hA
      have HNM := Aside0.mk hnm
      clear hnm
      by_cases ck : ak = 1
      · rw [if_pos ck] at hA
        have kak : (ak == 1) = true := beq_iff_eq.mpr ck
        have hgn : goodR Bs ⟨ak, av, ab⟩ = none := by unfold goodR; rw [if_neg (by simp only; omega)]
        rw [hgn]
        rw [show (none : Option Blk).isSome = false from rfl]
        clear ck hgn
        by_cases cb : bk = 1
        · rw [if_pos cb] at hA
          have kbk : (bk == 1) = true := beq_iff_eq.mpr cb
          have hgn : goodR Bs ⟨bk, bv, bb⟩ = none := by unfold goodR; rw [if_neg (by simp only; omega)]
          rw [hgn]
          rw [show (none : Option Blk).isSome = false from rfl]
          clear cb hgn
          have hbn : ∃ r1 r2, mortiseref01_Bin.f 30 op av bv = some (r1, r2) ∧ word_Bin.f 30 op av bv = some (r1, r2) := by
            obtain ⟨he, rr, hr⟩ := La.bin_eq op av bv hx.out.1.1 hx.out.1.2 hx.out.2.1 hx.out.2.2
            exact ⟨rr.1, rr.2, he.trans hr, hr⟩
          obtain ⟨r1, r2, hbn, hbw⟩ := hbn
          have HBN := Aside0.mk hbn
          have HBW := Aside0.mk hbw
          clear hbn hbw
          cases r2 with
          | false =>
            go_wp2_with (first | (go_at_call 88; refine (rname_no _ _ HNM.out).mono ?_; rintro e W1 ⟨nm, hnm, rfl, hB1⟩; have hBc := pm_chain (w := wc) (by (repeat (first | (with_reducible exact Below.refl _ _) | (with_reducible assumption) | with_reducible apply below_alloc | with_reducible apply pw_below_drewN | with_reducible apply below_drew1))) hB1; clear hB1; have HRA1 := Aside0.mk (blk_below HRA.out hBc); have HRB1 := Aside0.mk (blk_below HRB.out hBc); have HR81 := Aside0.mk (blk_below HR8.out hBc); have HB1 := Aside0.mk (pm_chain (w := w) HB.out hBc); clear HRA HRB HR8 HB hBc; obtain ⟨⟨ha0, ha1, ha2⟩, _⟩ := know3 HRA1.out; obtain ⟨⟨hb0, hb1, hb2⟩, _⟩ := know3 HRB1.out; obtain ⟨⟨hz0, hz1, hz2⟩, hf0, hf1, hf2⟩ := know3 HR81.out; have HRA := HRA1; have HRB := HRB1; have HR8 := HR81; have HB := HB1; clear HRA1 HRB1 HR81 HB1) | (go_at_call 89; refine (mortiseref01_Bin.calls 30 _ av bv r1 false _ HBN.out).mono ?_; rintro e w9 ⟨rfl, ⟨nd, rfl⟩⟩))
            refine bodyPost_ret (results_ct rfl _ _ g8 51 _ (0, 0) _ rfl (put3 (blk_drewN HR8.out nd) _ _ _) Try.underlying51 rfl (by kernel_rfl)) rfl ?_
            exact ⟨by rw [← hA.out]; unfold numsF; rw [HBW.out]; rfl, by have hB := HB.out; obtain ⟨_, _, hq⟩ := HG.out; (repeat (first | (with_reducible exact Below.refl _ _) | (with_reducible assumption) | with_reducible apply below_alloc | with_reducible apply pw_below_drewN | with_reducible apply below_drew1 | (refine below_set ?_ (by omega))))⟩
          | true =>
            go_wp2_with (first | (go_at_call 88; refine (rname_no _ _ HNM.out).mono ?_; rintro e W1 ⟨nm, hnm, rfl, hB1⟩; have hBc := pm_chain (w := wc) (by (repeat (first | (with_reducible exact Below.refl _ _) | (with_reducible assumption) | with_reducible apply below_alloc | with_reducible apply pw_below_drewN | with_reducible apply below_drew1))) hB1; clear hB1; have HRA1 := Aside0.mk (blk_below HRA.out hBc); have HRB1 := Aside0.mk (blk_below HRB.out hBc); have HR81 := Aside0.mk (blk_below HR8.out hBc); have HB1 := Aside0.mk (pm_chain (w := w) HB.out hBc); clear HRA HRB HR8 HB hBc; obtain ⟨⟨ha0, ha1, ha2⟩, _⟩ := know3 HRA1.out; obtain ⟨⟨hb0, hb1, hb2⟩, _⟩ := know3 HRB1.out; obtain ⟨⟨hz0, hz1, hz2⟩, hf0, hf1, hf2⟩ := know3 HR81.out; have HRA := HRA1; have HRB := HRB1; have HR8 := HR81; have HB := HB1; clear HRA1 HRB1 HR81 HB1) | (go_at_call 89; refine (mortiseref01_Bin.calls 30 _ av bv r1 true _ HBN.out).mono ?_; rintro e w9 ⟨rfl, ⟨nd, rfl⟩⟩))
            go_at_call 18
            refine (mortiseref11_Num.calls r1 1 r1 0 _ rfl).mono ?_
            rintro e WF ⟨rfl, hBF⟩
            have hBG := pm_chain (w := W1) (by (repeat (first | (with_reducible exact Below.refl _ _) | (with_reducible assumption) | with_reducible apply below_alloc | with_reducible apply pw_below_drewN | with_reducible apply below_drew1))) hBF
            obtain ⟨⟨hz0, hz1, hz2⟩, hf0, hf1, hf2⟩ := know3 (blk_below HR8.out hBG)
            (try simp only at hz0 hz1 hz2)
            skip
            go_wp2_with (fail)
            refine bodyPost_ret (results_ct rfl _ _ g8 51 _ (0, 0) _ rfl (put3 (blk_below HR8.out hBG) _ _ _) Try.underlying51 rfl (by kernel_rfl)) rfl ?_
            exact ⟨by rw [← hA.out]; unfold numsF; rw [HBW.out]; rfl, by have hB := pm_chain (w := w) HB.out hBG; obtain ⟨_, _, hq⟩ := HG.out; (repeat (first | (with_reducible exact Below.refl _ _) | (with_reducible assumption) | with_reducible apply below_alloc | with_reducible apply pw_below_drewN | with_reducible apply below_drew1 | (refine below_set ?_ (by omega))))⟩
        · rw [if_neg cb] at hA
          have kbk : (bk == 1) = false := beq_eq_false_iff_ne.mpr cb
          clear cb
          cases ho : goodR Bs ⟨bk, bv, bb⟩ with
          | none =>
            rw [ho] at hA
            rw [show (none : Option Blk).isSome = false from rfl]
            clear ho
            go_wp2_with (first | (go_at_call 88; refine (rname_no _ _ HNM.out).mono ?_; rintro e W1 ⟨nm, hnm, rfl, hB1⟩; have hBc := pm_chain (w := wc) (by (repeat (first | (with_reducible exact Below.refl _ _) | (with_reducible assumption) | with_reducible apply below_alloc | with_reducible apply pw_below_drewN | with_reducible apply below_drew1))) hB1; clear hB1; have HRA1 := Aside0.mk (blk_below HRA.out hBc); have HRB1 := Aside0.mk (blk_below HRB.out hBc); have HR81 := Aside0.mk (blk_below HR8.out hBc); have HB1 := Aside0.mk (pm_chain (w := w) HB.out hBc); clear HRA HRB HR8 HB hBc; obtain ⟨⟨ha0, ha1, ha2⟩, _⟩ := know3 HRA1.out; obtain ⟨⟨hb0, hb1, hb2⟩, _⟩ := know3 HRB1.out; obtain ⟨⟨hz0, hz1, hz2⟩, hf0, hf1, hf2⟩ := know3 HR81.out; have HRA := HRA1; have HRB := HRB1; have HR8 := HR81; have HB := HB1; clear HRA1 HRB1 HR81 HB1))
            refine bodyPost_ret (results_ct rfl _ _ g8 51 _ (0, 0) _ rfl (put3 (HR8.out) _ _ _) Try.underlying51 rfl (by kernel_rfl)) rfl ?_
            exact ⟨by rw [← hA.out]; rfl, by have hB := HB.out; obtain ⟨_, _, hq⟩ := HG.out; (repeat (first | (with_reducible exact Below.refl _ _) | (with_reducible assumption) | with_reducible apply below_alloc | with_reducible apply pw_below_drewN | with_reducible apply below_drew1 | (refine below_set ?_ (by omega))))⟩
          | some y =>
            rw [ho] at hA
            rw [show (some y).isSome = true from rfl]
            simp only [rmixB] at hA
            have HLV := Aside0.mk (goodR_some ho).2.1
            clear ho
            by_cases o1 : op = 1
            · subst o1
              rw [if_pos rfl] at hA
              have hri := rInt_f av hx.out.1.1 hx.out.1.2
              obtain ⟨rk, rv, rb, rs, hmf⟩ : ∃ rk rv rb rs, rmovedF y ⟨bk, bv, bb⟩ (wint av) = (⟨rk, rv, rb⟩, rs) := ⟨_, _, _, _, rfl⟩
              rw [hmf] at hA
              have HMF := Aside0.mk hmf
              have HRI := Aside0.mk hri
              have hn1 : ¬ ga = g8 := HN8.out.1
              have hn2 : ¬ gb = g8 := HN8.out.2
              clear hmf hri
              go_wp2_with (first | (go_at_call 88; refine (rname_no _ _ HNM.out).mono ?_; rintro e W1 ⟨nm, hnm, rfl, hB1⟩; have hBc := pm_chain (w := wc) (by (repeat (first | (with_reducible exact Below.refl _ _) | (with_reducible assumption) | with_reducible apply below_alloc | with_reducible apply pw_below_drewN | with_reducible apply below_drew1))) hB1; clear hB1; have HRA1 := Aside0.mk (blk_below HRA.out hBc); have HRB1 := Aside0.mk (blk_below HRB.out hBc); have HR81 := Aside0.mk (blk_below HR8.out hBc); have HB1 := Aside0.mk (pm_chain (w := w) HB.out hBc); clear HRA HRB HR8 HB hBc; obtain ⟨⟨ha0, ha1, ha2⟩, _⟩ := know3 HRA1.out; obtain ⟨⟨hb0, hb1, hb2⟩, _⟩ := know3 HRB1.out; obtain ⟨⟨hz0, hz1, hz2⟩, hf0, hf1, hf2⟩ := know3 HR81.out; have HRA := HRA1; have HRB := HRB1; have HR8 := HR81; have HB := HB1; clear HRA1 HRB1 HR81 HB1))
              go_region_held3 (fun w' => w'.cell? ⟨gb, 0, none⟩ = some (.int .i64 bk) ∧ w'.cell? ⟨gb, 1, none⟩ = some (.int .u32 bv) ∧ w'.cell? ⟨gb, 2, none⟩ = some (.int .i64 bb) ∧ w'.cell? ⟨ga, 1, none⟩ = some (.int .u32 av)) (first | exact ⟨(know3 (far3 (blk_below HRB.out hB3) hn2 _ _ _)).1.1, (know3 (far3 (blk_below HRB.out hB3) hn2 _ _ _)).1.2.1, (know3 (far3 (blk_below HRB.out hB3) hn2 _ _ _)).1.2.2, (know3 (far3 (blk_below HRA.out hB3) hn1 _ _ _)).1.2.1⟩ | exact ⟨pw_cell_below (by (repeat (first | (with_reducible exact Below.refl _ _) | (with_reducible assumption) | with_reducible apply below_alloc | with_reducible apply pw_below_drewN | with_reducible apply below_drew1))) hb0, pw_cell_below (by (repeat (first | (with_reducible exact Below.refl _ _) | (with_reducible assumption) | with_reducible apply below_alloc | with_reducible apply pw_below_drewN | with_reducible apply below_drew1))) hb1, pw_cell_below (by (repeat (first | (with_reducible exact Below.refl _ _) | (with_reducible assumption) | with_reducible apply below_alloc | with_reducible apply pw_below_drewN | with_reducible apply below_drew1))) hb2, pw_cell_below (by (repeat (first | (with_reducible exact Below.refl _ _) | (with_reducible assumption) | with_reducible apply below_alloc | with_reducible apply pw_below_drewN | with_reducible apply below_drew1))) ha1⟩) (first | (go_at_call 27; refine (mortiseref01_Int.calls av (wint av) _ HRI.out).mono ?_; rintro e WX ⟨rfl, ⟨nd, rfl⟩⟩) | (go_at_call 91; refine (rmoved_calls (H.out.below (pm_chain (w := w) HB.out (by (repeat (first | (with_reducible exact Below.refl _ _) | (with_reducible assumption) | with_reducible apply below_alloc | with_reducible apply pw_below_drewN | with_reducible apply below_drew1))))) ⟨bk, bv, bb⟩ (wint av) hx.out.2.1 hx.out.2.2 (by have := wint_range av hx.out.1.1 hx.out.1.2; omega) (by have := wint_range av hx.out.1.1 hx.out.1.2; omega) HLV.out (.tuple #[.agg #[.int .i64 rk, .int .u32 rv, .int .i64 rb], .int .i64 rs]) ⟨by rw [HMF.out]; rfl⟩).mono ?_; rintro e W2 ⟨rfl, hB2⟩; have hB3 := pm_chain (w := W1) (by (repeat (first | (with_reducible exact Below.refl _ _) | (with_reducible assumption) | with_reducible apply below_alloc | with_reducible apply pw_below_drewN | with_reducible apply below_drew1))) hB2; obtain ⟨⟨hz0, hz1, hz2⟩, hf0, hf1, hf2⟩ := know3 (blk_below HR8.out hB3)))
              go_wp2_with (fail)
              refine bodyPost_ret (results_ct rfl _ _ g8 51 _ (0, 0) _ rfl (put3 (blk_below HR8.out hB3) _ _ _) Try.underlying51 rfl (by kernel_rfl)) rfl ?_
              exact ⟨by rw [← hA.out]; rfl, by have hB := pm_chain (w := w) HB.out hB3; obtain ⟨_, _, hq⟩ := HG.out; (repeat (first | (with_reducible exact Below.refl _ _) | (with_reducible assumption) | with_reducible apply below_alloc | with_reducible apply pw_below_drewN | with_reducible apply below_drew1 | (refine below_set ?_ (by omega))))⟩
            rw [if_neg o1] at hA
            have k1 : (op == 1) = false := beq_eq_false_iff_ne.mpr o1
            by_cases o2 : op = 2
            · subst o2
              rw [if_neg (by omega)] at hA
              go_wp2_with (first | (go_at_call 88; refine (rname_no _ _ HNM.out).mono ?_; rintro e W1 ⟨nm, hnm, rfl, hB1⟩; have hBc := pm_chain (w := wc) (by (repeat (first | (with_reducible exact Below.refl _ _) | (with_reducible assumption) | with_reducible apply below_alloc | with_reducible apply pw_below_drewN | with_reducible apply below_drew1))) hB1; clear hB1; have HRA1 := Aside0.mk (blk_below HRA.out hBc); have HRB1 := Aside0.mk (blk_below HRB.out hBc); have HR81 := Aside0.mk (blk_below HR8.out hBc); have HB1 := Aside0.mk (pm_chain (w := w) HB.out hBc); clear HRA HRB HR8 HB hBc; obtain ⟨⟨ha0, ha1, ha2⟩, _⟩ := know3 HRA1.out; obtain ⟨⟨hb0, hb1, hb2⟩, _⟩ := know3 HRB1.out; obtain ⟨⟨hz0, hz1, hz2⟩, hf0, hf1, hf2⟩ := know3 HR81.out; have HRA := HRA1; have HRB := HRB1; have HR8 := HR81; have HB := HB1; clear HRA1 HRB1 HR81 HB1))
              refine bodyPost_ret (results_ct rfl _ _ g8 51 _ (0, 0) _ rfl (put3 (HR8.out) _ _ _) Try.underlying51 rfl (by kernel_rfl)) rfl ?_
              exact ⟨by rw [← hA.out]; rfl, by have hB := HB.out; obtain ⟨_, _, hq⟩ := HG.out; (repeat (first | (with_reducible exact Below.refl _ _) | (with_reducible assumption) | with_reducible apply below_alloc | with_reducible apply pw_below_drewN | with_reducible apply below_drew1 | (refine below_set ?_ (by omega))))⟩
            have k2 : (op == 2) = false := beq_eq_false_iff_ne.mpr o2
            by_cases ov : av = 0
            · have kv : (av == 0) = true := beq_iff_eq.mpr ov
              by_cases o14 : op = 14
              · subst o14
                rw [if_pos ⟨by omega, ov⟩] at hA
                have OV := Aside0.mk ov
                clear ov
                go_wp2_with (first | (go_at_call 88; refine (rname_no _ _ HNM.out).mono ?_; rintro e W1 ⟨nm, hnm, rfl, hB1⟩; have hBc := pm_chain (w := wc) (by (repeat (first | (with_reducible exact Below.refl _ _) | (with_reducible assumption) | with_reducible apply below_alloc | with_reducible apply pw_below_drewN | with_reducible apply below_drew1))) hB1; clear hB1; have HRA1 := Aside0.mk (blk_below HRA.out hBc); have HRB1 := Aside0.mk (blk_below HRB.out hBc); have HR81 := Aside0.mk (blk_below HR8.out hBc); have HB1 := Aside0.mk (pm_chain (w := w) HB.out hBc); clear HRA HRB HR8 HB hBc; obtain ⟨⟨ha0, ha1, ha2⟩, _⟩ := know3 HRA1.out; obtain ⟨⟨hb0, hb1, hb2⟩, _⟩ := know3 HRB1.out; obtain ⟨⟨hz0, hz1, hz2⟩, hf0, hf1, hf2⟩ := know3 HR81.out; have HRA := HRA1; have HRB := HRB1; have HR8 := HR81; have HB := HB1; clear HRA1 HRB1 HR81 HB1))
                go_at_call 92
                refine (rtruth_calls _ false).mono ?_
                rintro e WF ⟨rfl, hBF⟩
                have hBG := pm_chain (w := W1) (by (repeat (first | (with_reducible exact Below.refl _ _) | (with_reducible assumption) | with_reducible apply below_alloc | with_reducible apply pw_below_drewN | with_reducible apply below_drew1))) hBF
                obtain ⟨⟨hz0, hz1, hz2⟩, hf0, hf1, hf2⟩ := know3 (blk_below HR8.out hBG)
                (try simp only at hz0 hz1 hz2)
                simp only [ans, truthV, V3.enc, V3.z]
                go_wp2_with (fail)
                refine bodyPost_ret (results_ct rfl _ _ g8 51 _ (0, 0) _ rfl (put3 (blk_below HR8.out hBG) _ _ _) Try.underlying51 rfl (by kernel_rfl)) rfl ?_
                exact ⟨by rw [← hA.out]; rfl, by have hB := pm_chain (w := w) HB.out hBG; obtain ⟨_, _, hq⟩ := HG.out; (repeat (first | (with_reducible exact Below.refl _ _) | (with_reducible assumption) | with_reducible apply below_alloc | with_reducible apply pw_below_drewN | with_reducible apply below_drew1 | (refine below_set ?_ (by omega))))⟩
              have k14 : (op == 14) = false := beq_eq_false_iff_ne.mpr o14
              by_cases o15 : op = 15
              · subst o15
                rw [if_pos ⟨by omega, ov⟩] at hA
                have OV := Aside0.mk ov
                clear ov
                go_wp2_with (first | (go_at_call 88; refine (rname_no _ _ HNM.out).mono ?_; rintro e W1 ⟨nm, hnm, rfl, hB1⟩; have hBc := pm_chain (w := wc) (by (repeat (first | (with_reducible exact Below.refl _ _) | (with_reducible assumption) | with_reducible apply below_alloc | with_reducible apply pw_below_drewN | with_reducible apply below_drew1))) hB1; clear hB1; have HRA1 := Aside0.mk (blk_below HRA.out hBc); have HRB1 := Aside0.mk (blk_below HRB.out hBc); have HR81 := Aside0.mk (blk_below HR8.out hBc); have HB1 := Aside0.mk (pm_chain (w := w) HB.out hBc); clear HRA HRB HR8 HB hBc; obtain ⟨⟨ha0, ha1, ha2⟩, _⟩ := know3 HRA1.out; obtain ⟨⟨hb0, hb1, hb2⟩, _⟩ := know3 HRB1.out; obtain ⟨⟨hz0, hz1, hz2⟩, hf0, hf1, hf2⟩ := know3 HR81.out; have HRA := HRA1; have HRB := HRB1; have HR8 := HR81; have HB := HB1; clear HRA1 HRB1 HR81 HB1))
                go_at_call 92
                refine (rtruth_calls _ true).mono ?_
                rintro e WF ⟨rfl, hBF⟩
                have hBG := pm_chain (w := W1) (by (repeat (first | (with_reducible exact Below.refl _ _) | (with_reducible assumption) | with_reducible apply below_alloc | with_reducible apply pw_below_drewN | with_reducible apply below_drew1))) hBF
                obtain ⟨⟨hz0, hz1, hz2⟩, hf0, hf1, hf2⟩ := know3 (blk_below HR8.out hBG)
                (try simp only at hz0 hz1 hz2)
                simp only [ans, truthV, V3.enc, V3.z]
                go_wp2_with (fail)
                refine bodyPost_ret (results_ct rfl _ _ g8 51 _ (0, 0) _ rfl (put3 (blk_below HR8.out hBG) _ _ _) Try.underlying51 rfl (by kernel_rfl)) rfl ?_
                exact ⟨by rw [← hA.out]; rfl, by have hB := pm_chain (w := w) HB.out hBG; obtain ⟨_, _, hq⟩ := HG.out; (repeat (first | (with_reducible exact Below.refl _ _) | (with_reducible assumption) | with_reducible apply below_alloc | with_reducible apply pw_below_drewN | with_reducible apply below_drew1 | (refine below_set ?_ (by omega))))⟩
              have k15 : (op == 15) = false := beq_eq_false_iff_ne.mpr o15
              rw [if_neg (fun h => h.1.elim o14 o15)] at hA
              clear o1 o2 o14 o15 ov
              go_wp2_with (first | (go_at_call 88; refine (rname_no _ _ HNM.out).mono ?_; rintro e W1 ⟨nm, hnm, rfl, hB1⟩; have hBc := pm_chain (w := wc) (by (repeat (first | (with_reducible exact Below.refl _ _) | (with_reducible assumption) | with_reducible apply below_alloc | with_reducible apply pw_below_drewN | with_reducible apply below_drew1))) hB1; clear hB1; have HRA1 := Aside0.mk (blk_below HRA.out hBc); have HRB1 := Aside0.mk (blk_below HRB.out hBc); have HR81 := Aside0.mk (blk_below HR8.out hBc); have HB1 := Aside0.mk (pm_chain (w := w) HB.out hBc); clear HRA HRB HR8 HB hBc; obtain ⟨⟨ha0, ha1, ha2⟩, _⟩ := know3 HRA1.out; obtain ⟨⟨hb0, hb1, hb2⟩, _⟩ := know3 HRB1.out; obtain ⟨⟨hz0, hz1, hz2⟩, hf0, hf1, hf2⟩ := know3 HR81.out; have HRA := HRA1; have HRB := HRB1; have HR8 := HR81; have HB := HB1; clear HRA1 HRB1 HR81 HB1))
              refine bodyPost_ret (results_ct rfl _ _ g8 51 _ (0, 0) _ rfl (put3 (HR8.out) _ _ _) Try.underlying51 rfl (by kernel_rfl)) rfl ?_
              exact ⟨by rw [← hA.out]; rfl, by have hB := HB.out; obtain ⟨_, _, hq⟩ := HG.out; (repeat (first | (with_reducible exact Below.refl _ _) | (with_reducible assumption) | with_reducible apply below_alloc | with_reducible apply pw_below_drewN | with_reducible apply below_drew1 | (refine below_set ?_ (by omega))))⟩
            · have kv : (av == 0) = false := beq_eq_false_iff_ne.mpr ov
              rw [if_neg (fun h => ov h.2)] at hA
              clear ov
              by_cases o14 : op = 14
              · subst o14
                go_wp2_with (first | (go_at_call 88; refine (rname_no _ _ HNM.out).mono ?_; rintro e W1 ⟨nm, hnm, rfl, hB1⟩; have hBc := pm_chain (w := wc) (by (repeat (first | (with_reducible exact Below.refl _ _) | (with_reducible assumption) | with_reducible apply below_alloc | with_reducible apply pw_below_drewN | with_reducible apply below_drew1))) hB1; clear hB1; have HRA1 := Aside0.mk (blk_below HRA.out hBc); have HRB1 := Aside0.mk (blk_below HRB.out hBc); have HR81 := Aside0.mk (blk_below HR8.out hBc); have HB1 := Aside0.mk (pm_chain (w := w) HB.out hBc); clear HRA HRB HR8 HB hBc; obtain ⟨⟨ha0, ha1, ha2⟩, _⟩ := know3 HRA1.out; obtain ⟨⟨hb0, hb1, hb2⟩, _⟩ := know3 HRB1.out; obtain ⟨⟨hz0, hz1, hz2⟩, hf0, hf1, hf2⟩ := know3 HR81.out; have HRA := HRA1; have HRB := HRB1; have HR8 := HR81; have HB := HB1; clear HRA1 HRB1 HR81 HB1))
                refine bodyPost_ret (results_ct rfl _ _ g8 51 _ (0, 0) _ rfl (put3 (HR8.out) _ _ _) Try.underlying51 rfl (by kernel_rfl)) rfl ?_
                exact ⟨by rw [← hA.out]; rfl, by have hB := HB.out; obtain ⟨_, _, hq⟩ := HG.out; (repeat (first | (with_reducible exact Below.refl _ _) | (with_reducible assumption) | with_reducible apply below_alloc | with_reducible apply pw_below_drewN | with_reducible apply below_drew1 | (refine below_set ?_ (by omega))))⟩
              have k14 : (op == 14) = false := beq_eq_false_iff_ne.mpr o14
              by_cases o15 : op = 15
              · subst o15
                go_wp2_with (first | (go_at_call 88; refine (rname_no _ _ HNM.out).mono ?_; rintro e W1 ⟨nm, hnm, rfl, hB1⟩; have hBc := pm_chain (w := wc) (by (repeat (first | (with_reducible exact Below.refl _ _) | (with_reducible assumption) | with_reducible apply below_alloc | with_reducible apply pw_below_drewN | with_reducible apply below_drew1))) hB1; clear hB1; have HRA1 := Aside0.mk (blk_below HRA.out hBc); have HRB1 := Aside0.mk (blk_below HRB.out hBc); have HR81 := Aside0.mk (blk_below HR8.out hBc); have HB1 := Aside0.mk (pm_chain (w := w) HB.out hBc); clear HRA HRB HR8 HB hBc; obtain ⟨⟨ha0, ha1, ha2⟩, _⟩ := know3 HRA1.out; obtain ⟨⟨hb0, hb1, hb2⟩, _⟩ := know3 HRB1.out; obtain ⟨⟨hz0, hz1, hz2⟩, hf0, hf1, hf2⟩ := know3 HR81.out; have HRA := HRA1; have HRB := HRB1; have HR8 := HR81; have HB := HB1; clear HRA1 HRB1 HR81 HB1))
                refine bodyPost_ret (results_ct rfl _ _ g8 51 _ (0, 0) _ rfl (put3 (HR8.out) _ _ _) Try.underlying51 rfl (by kernel_rfl)) rfl ?_
                exact ⟨by rw [← hA.out]; rfl, by have hB := HB.out; obtain ⟨_, _, hq⟩ := HG.out; (repeat (first | (with_reducible exact Below.refl _ _) | (with_reducible assumption) | with_reducible apply below_alloc | with_reducible apply pw_below_drewN | with_reducible apply below_drew1 | (refine below_set ?_ (by omega))))⟩
              have k15 : (op == 15) = false := beq_eq_false_iff_ne.mpr o15
              clear o1 o2 o14 o15
              go_wp2_with (first | (go_at_call 88; refine (rname_no _ _ HNM.out).mono ?_; rintro e W1 ⟨nm, hnm, rfl, hB1⟩; have hBc := pm_chain (w := wc) (by (repeat (first | (with_reducible exact Below.refl _ _) | (with_reducible assumption) | with_reducible apply below_alloc | with_reducible apply pw_below_drewN | with_reducible apply below_drew1))) hB1; clear hB1; have HRA1 := Aside0.mk (blk_below HRA.out hBc); have HRB1 := Aside0.mk (blk_below HRB.out hBc); have HR81 := Aside0.mk (blk_below HR8.out hBc); have HB1 := Aside0.mk (pm_chain (w := w) HB.out hBc); clear HRA HRB HR8 HB hBc; obtain ⟨⟨ha0, ha1, ha2⟩, _⟩ := know3 HRA1.out; obtain ⟨⟨hb0, hb1, hb2⟩, _⟩ := know3 HRB1.out; obtain ⟨⟨hz0, hz1, hz2⟩, hf0, hf1, hf2⟩ := know3 HR81.out; have HRA := HRA1; have HRB := HRB1; have HR8 := HR81; have HB := HB1; clear HRA1 HRB1 HR81 HB1))
              refine bodyPost_ret (results_ct rfl _ _ g8 51 _ (0, 0) _ rfl (put3 (HR8.out) _ _ _) Try.underlying51 rfl (by kernel_rfl)) rfl ?_
              exact ⟨by rw [← hA.out]; rfl, by have hB := HB.out; obtain ⟨_, _, hq⟩ := HG.out; (repeat (first | (with_reducible exact Below.refl _ _) | (with_reducible assumption) | with_reducible apply below_alloc | with_reducible apply pw_below_drewN | with_reducible apply below_drew1 | (refine below_set ?_ (by omega))))⟩
      · rw [if_neg ck] at hA
        have kak : (ak == 1) = false := beq_eq_false_iff_ne.mpr ck
        clear ck
        cases ho : goodR Bs ⟨ak, av, ab⟩ with
        | none =>
          rw [ho] at hA
          rw [show (none : Option Blk).isSome = false from rfl]
          clear ho
          generalize (goodR Bs ⟨bk, bv, bb⟩).isSome = qb at hA ⊢
          generalize (bk == 1) = kb
          go_wp2_with (first | (go_at_call 88; refine (rname_no _ _ HNM.out).mono ?_; rintro e W1 ⟨nm, hnm, rfl, hB1⟩; have hBc := pm_chain (w := wc) (by (repeat (first | (with_reducible exact Below.refl _ _) | (with_reducible assumption) | with_reducible apply below_alloc | with_reducible apply pw_below_drewN | with_reducible apply below_drew1))) hB1; clear hB1; have HRA1 := Aside0.mk (blk_below HRA.out hBc); have HRB1 := Aside0.mk (blk_below HRB.out hBc); have HR81 := Aside0.mk (blk_below HR8.out hBc); have HB1 := Aside0.mk (pm_chain (w := w) HB.out hBc); clear HRA HRB HR8 HB hBc; obtain ⟨⟨ha0, ha1, ha2⟩, _⟩ := know3 HRA1.out; obtain ⟨⟨hb0, hb1, hb2⟩, _⟩ := know3 HRB1.out; obtain ⟨⟨hz0, hz1, hz2⟩, hf0, hf1, hf2⟩ := know3 HR81.out; have HRA := HRA1; have HRB := HRB1; have HR8 := HR81; have HB := HB1; clear HRA1 HRB1 HR81 HB1))
          refine bodyPost_ret (results_ct rfl _ _ g8 51 _ (0, 0) _ rfl (put3 (HR8.out) _ _ _) Try.underlying51 rfl (by kernel_rfl)) rfl ?_
          exact ⟨by rw [← hA.out]; rfl, by have hB := HB.out; obtain ⟨_, _, hq⟩ := HG.out; (repeat (first | (with_reducible exact Below.refl _ _) | (with_reducible assumption) | with_reducible apply below_alloc | with_reducible apply pw_below_drewN | with_reducible apply below_drew1 | (refine below_set ?_ (by omega))))⟩
        | some y =>
          rw [ho] at hA
          rw [show (some y).isSome = true from rfl]
          simp only at hA
          have HLV := Aside0.mk (goodR_some ho).2.1
          clear ho
          by_cases cb : bk = 1
          · rw [if_pos cb] at hA
            have kbk : (bk == 1) = true := beq_iff_eq.mpr cb
            have hgn : goodR Bs ⟨bk, bv, bb⟩ = none := by unfold goodR; rw [if_neg (by simp only; omega)]
            rw [hgn]
            rw [show (none : Option Blk).isSome = false from rfl]
            simp only [rmixA] at hA
            clear cb hgn
            by_cases o1 : op = 1
            · subst o1
              rw [if_pos rfl] at hA
              have hri := rInt_f bv hx.out.2.1 hx.out.2.2
              obtain ⟨rk, rv, rb, rs, hmf⟩ : ∃ rk rv rb rs, rmovedF y ⟨ak, av, ab⟩ (wint bv) = (⟨rk, rv, rb⟩, rs) := ⟨_, _, _, _, rfl⟩
              rw [hmf] at hA
              have HMF := Aside0.mk hmf
              have HRI := Aside0.mk hri
              have hn1 : ¬ ga = g8 := HN8.out.1
              have hn2 : ¬ gb = g8 := HN8.out.2
              clear hmf hri
              go_wp2_with (first | (go_at_call 88; refine (rname_no _ _ HNM.out).mono ?_; rintro e W1 ⟨nm, hnm, rfl, hB1⟩; have hBc := pm_chain (w := wc) (by (repeat (first | (with_reducible exact Below.refl _ _) | (with_reducible assumption) | with_reducible apply below_alloc | with_reducible apply pw_below_drewN | with_reducible apply below_drew1))) hB1; clear hB1; have HRA1 := Aside0.mk (blk_below HRA.out hBc); have HRB1 := Aside0.mk (blk_below HRB.out hBc); have HR81 := Aside0.mk (blk_below HR8.out hBc); have HB1 := Aside0.mk (pm_chain (w := w) HB.out hBc); clear HRA HRB HR8 HB hBc; obtain ⟨⟨ha0, ha1, ha2⟩, _⟩ := know3 HRA1.out; obtain ⟨⟨hb0, hb1, hb2⟩, _⟩ := know3 HRB1.out; obtain ⟨⟨hz0, hz1, hz2⟩, hf0, hf1, hf2⟩ := know3 HR81.out; have HRA := HRA1; have HRB := HRB1; have HR8 := HR81; have HB := HB1; clear HRA1 HRB1 HR81 HB1))
              go_region_held3 (fun w' => w'.cell? ⟨ga, 0, none⟩ = some (.int .i64 ak) ∧ w'.cell? ⟨ga, 1, none⟩ = some (.int .u32 av) ∧ w'.cell? ⟨ga, 2, none⟩ = some (.int .i64 ab) ∧ w'.cell? ⟨gb, 1, none⟩ = some (.int .u32 bv)) (first | exact ⟨(know3 (far3 (blk_below HRA.out hB3) hn1 _ _ _)).1.1, (know3 (far3 (blk_below HRA.out hB3) hn1 _ _ _)).1.2.1, (know3 (far3 (blk_below HRA.out hB3) hn1 _ _ _)).1.2.2, (know3 (far3 (blk_below HRB.out hB3) hn2 _ _ _)).1.2.1⟩ | exact ⟨pw_cell_below (by (repeat (first | (with_reducible exact Below.refl _ _) | (with_reducible assumption) | with_reducible apply below_alloc | with_reducible apply pw_below_drewN | with_reducible apply below_drew1))) ha0, pw_cell_below (by (repeat (first | (with_reducible exact Below.refl _ _) | (with_reducible assumption) | with_reducible apply below_alloc | with_reducible apply pw_below_drewN | with_reducible apply below_drew1))) ha1, pw_cell_below (by (repeat (first | (with_reducible exact Below.refl _ _) | (with_reducible assumption) | with_reducible apply below_alloc | with_reducible apply pw_below_drewN | with_reducible apply below_drew1))) ha2, pw_cell_below (by (repeat (first | (with_reducible exact Below.refl _ _) | (with_reducible assumption) | with_reducible apply below_alloc | with_reducible apply pw_below_drewN | with_reducible apply below_drew1))) hb1⟩) (first | (go_at_call 27; refine (mortiseref01_Int.calls bv (wint bv) _ HRI.out).mono ?_; rintro e WX ⟨rfl, ⟨nd, rfl⟩⟩) | (go_at_call 91; refine (rmoved_calls (H.out.below (pm_chain (w := w) HB.out (by (repeat (first | (with_reducible exact Below.refl _ _) | (with_reducible assumption) | with_reducible apply below_alloc | with_reducible apply pw_below_drewN | with_reducible apply below_drew1))))) ⟨ak, av, ab⟩ (wint bv) hx.out.1.1 hx.out.1.2 (by have := wint_range bv hx.out.2.1 hx.out.2.2; omega) (by have := wint_range bv hx.out.2.1 hx.out.2.2; omega) HLV.out (.tuple #[.agg #[.int .i64 rk, .int .u32 rv, .int .i64 rb], .int .i64 rs]) ⟨by rw [HMF.out]; rfl⟩).mono ?_; rintro e W2 ⟨rfl, hB2⟩; have hB3 := pm_chain (w := W1) (by (repeat (first | (with_reducible exact Below.refl _ _) | (with_reducible assumption) | with_reducible apply below_alloc | with_reducible apply pw_below_drewN | with_reducible apply below_drew1))) hB2; obtain ⟨⟨hz0, hz1, hz2⟩, hf0, hf1, hf2⟩ := know3 (blk_below HR8.out hB3)))
              go_wp2_with (fail)
              refine bodyPost_ret (results_ct rfl _ _ g8 51 _ (0, 0) _ rfl (put3 (blk_below HR8.out hB3) _ _ _) Try.underlying51 rfl (by kernel_rfl)) rfl ?_
              exact ⟨by rw [← hA.out]; rfl, by have hB := pm_chain (w := w) HB.out hB3; obtain ⟨_, _, hq⟩ := HG.out; (repeat (first | (with_reducible exact Below.refl _ _) | (with_reducible assumption) | with_reducible apply below_alloc | with_reducible apply pw_below_drewN | with_reducible apply below_drew1 | (refine below_set ?_ (by omega))))⟩
            rw [if_neg o1] at hA
            have k1 : (op == 1) = false := beq_eq_false_iff_ne.mpr o1
            by_cases o2 : op = 2
            · subst o2
              rw [if_pos rfl] at hA
              have hri := rInt_f bv hx.out.2.1 hx.out.2.2
              obtain ⟨rk, rv, rb, rs, hmf⟩ : ∃ rk rv rb rs, rmovedF y ⟨ak, av, ab⟩ (-(wint bv)) = (⟨rk, rv, rb⟩, rs) := ⟨_, _, _, _, rfl⟩
              rw [hmf] at hA
              have HMF := Aside0.mk hmf
              have HRI := Aside0.mk hri
              have hn1 : ¬ ga = g8 := HN8.out.1
              have hn2 : ¬ gb = g8 := HN8.out.2
              clear hmf hri
              have hneg : IntKind.i64.wrap (-(wint bv)) = -(wint bv) := IntWalk.i64_in _ (by have := wint_range bv hx.out.2.1 hx.out.2.2; omega)
              go_wp2_with (first | (go_at_call 88; refine (rname_no _ _ HNM.out).mono ?_; rintro e W1 ⟨nm, hnm, rfl, hB1⟩; have hBc := pm_chain (w := wc) (by (repeat (first | (with_reducible exact Below.refl _ _) | (with_reducible assumption) | with_reducible apply below_alloc | with_reducible apply pw_below_drewN | with_reducible apply below_drew1))) hB1; clear hB1; have HRA1 := Aside0.mk (blk_below HRA.out hBc); have HRB1 := Aside0.mk (blk_below HRB.out hBc); have HR81 := Aside0.mk (blk_below HR8.out hBc); have HB1 := Aside0.mk (pm_chain (w := w) HB.out hBc); clear HRA HRB HR8 HB hBc; obtain ⟨⟨ha0, ha1, ha2⟩, _⟩ := know3 HRA1.out; obtain ⟨⟨hb0, hb1, hb2⟩, _⟩ := know3 HRB1.out; obtain ⟨⟨hz0, hz1, hz2⟩, hf0, hf1, hf2⟩ := know3 HR81.out; have HRA := HRA1; have HRB := HRB1; have HR8 := HR81; have HB := HB1; clear HRA1 HRB1 HR81 HB1))
              go_region_held3 (fun w' => w'.cell? ⟨ga, 0, none⟩ = some (.int .i64 ak) ∧ w'.cell? ⟨ga, 1, none⟩ = some (.int .u32 av) ∧ w'.cell? ⟨ga, 2, none⟩ = some (.int .i64 ab) ∧ w'.cell? ⟨gb, 1, none⟩ = some (.int .u32 bv)) (first | exact ⟨(know3 (far3 (blk_below HRA.out hB3) hn1 _ _ _)).1.1, (know3 (far3 (blk_below HRA.out hB3) hn1 _ _ _)).1.2.1, (know3 (far3 (blk_below HRA.out hB3) hn1 _ _ _)).1.2.2, (know3 (far3 (blk_below HRB.out hB3) hn2 _ _ _)).1.2.1⟩ | exact ⟨pw_cell_below (by (repeat (first | (with_reducible exact Below.refl _ _) | (with_reducible assumption) | with_reducible apply below_alloc | with_reducible apply pw_below_drewN | with_reducible apply below_drew1))) ha0, pw_cell_below (by (repeat (first | (with_reducible exact Below.refl _ _) | (with_reducible assumption) | with_reducible apply below_alloc | with_reducible apply pw_below_drewN | with_reducible apply below_drew1))) ha1, pw_cell_below (by (repeat (first | (with_reducible exact Below.refl _ _) | (with_reducible assumption) | with_reducible apply below_alloc | with_reducible apply pw_below_drewN | with_reducible apply below_drew1))) ha2, pw_cell_below (by (repeat (first | (with_reducible exact Below.refl _ _) | (with_reducible assumption) | with_reducible apply below_alloc | with_reducible apply pw_below_drewN | with_reducible apply below_drew1))) hb1⟩) (first | (go_at_call 27; refine (mortiseref01_Int.calls bv (wint bv) _ HRI.out).mono ?_; rintro e WX ⟨rfl, ⟨nd, rfl⟩⟩) | (go_at_call 91; refine (rmoved_calls (H.out.below (pm_chain (w := w) HB.out (by (repeat (first | (with_reducible exact Below.refl _ _) | (with_reducible assumption) | with_reducible apply below_alloc | with_reducible apply pw_below_drewN | with_reducible apply below_drew1))))) ⟨ak, av, ab⟩ (-(wint bv)) hx.out.1.1 hx.out.1.2 (by have := wint_range bv hx.out.2.1 hx.out.2.2; omega) (by have := wint_range bv hx.out.2.1 hx.out.2.2; omega) HLV.out (.tuple #[.agg #[.int .i64 rk, .int .u32 rv, .int .i64 rb], .int .i64 rs]) ⟨by rw [HMF.out]; rfl⟩).mono ?_; rintro e W2 ⟨rfl, hB2⟩; have hB3 := pm_chain (w := W1) (by (repeat (first | (with_reducible exact Below.refl _ _) | (with_reducible assumption) | with_reducible apply below_alloc | with_reducible apply pw_below_drewN | with_reducible apply below_drew1))) hB2; obtain ⟨⟨hz0, hz1, hz2⟩, hf0, hf1, hf2⟩ := know3 (blk_below HR8.out hB3)))
              go_wp2_with (fail)
              refine bodyPost_ret (results_ct rfl _ _ g8 51 _ (0, 0) _ rfl (put3 (blk_below HR8.out hB3) _ _ _) Try.underlying51 rfl (by kernel_rfl)) rfl ?_
              exact ⟨by rw [← hA.out]; rfl, by have hB := pm_chain (w := w) HB.out hB3; obtain ⟨_, _, hq⟩ := HG.out; (repeat (first | (with_reducible exact Below.refl _ _) | (with_reducible assumption) | with_reducible apply below_alloc | with_reducible apply pw_below_drewN | with_reducible apply below_drew1 | (refine below_set ?_ (by omega))))⟩
            rw [if_neg o2] at hA
            have k2 : (op == 2) = false := beq_eq_false_iff_ne.mpr o2
            by_cases ov : bv = 0
            · have kv : (bv == 0) = true := beq_iff_eq.mpr ov
              by_cases o14 : op = 14
              · subst o14
                rw [if_pos ⟨by omega, ov⟩] at hA
                have OV := Aside0.mk ov
                clear ov
                go_wp2_with (first | (go_at_call 88; refine (rname_no _ _ HNM.out).mono ?_; rintro e W1 ⟨nm, hnm, rfl, hB1⟩; have hBc := pm_chain (w := wc) (by (repeat (first | (with_reducible exact Below.refl _ _) | (with_reducible assumption) | with_reducible apply below_alloc | with_reducible apply pw_below_drewN | with_reducible apply below_drew1))) hB1; clear hB1; have HRA1 := Aside0.mk (blk_below HRA.out hBc); have HRB1 := Aside0.mk (blk_below HRB.out hBc); have HR81 := Aside0.mk (blk_below HR8.out hBc); have HB1 := Aside0.mk (pm_chain (w := w) HB.out hBc); clear HRA HRB HR8 HB hBc; obtain ⟨⟨ha0, ha1, ha2⟩, _⟩ := know3 HRA1.out; obtain ⟨⟨hb0, hb1, hb2⟩, _⟩ := know3 HRB1.out; obtain ⟨⟨hz0, hz1, hz2⟩, hf0, hf1, hf2⟩ := know3 HR81.out; have HRA := HRA1; have HRB := HRB1; have HR8 := HR81; have HB := HB1; clear HRA1 HRB1 HR81 HB1))
                go_at_call 92
                refine (rtruth_calls _ false).mono ?_
                rintro e WF ⟨rfl, hBF⟩
                have hBG := pm_chain (w := W1) (by (repeat (first | (with_reducible exact Below.refl _ _) | (with_reducible assumption) | with_reducible apply below_alloc | with_reducible apply pw_below_drewN | with_reducible apply below_drew1))) hBF
                obtain ⟨⟨hz0, hz1, hz2⟩, hf0, hf1, hf2⟩ := know3 (blk_below HR8.out hBG)
                (try simp only at hz0 hz1 hz2)
                simp only [ans, truthV, V3.enc, V3.z]
                go_wp2_with (fail)
                refine bodyPost_ret (results_ct rfl _ _ g8 51 _ (0, 0) _ rfl (put3 (blk_below HR8.out hBG) _ _ _) Try.underlying51 rfl (by kernel_rfl)) rfl ?_
                exact ⟨by rw [← hA.out]; rfl, by have hB := pm_chain (w := w) HB.out hBG; obtain ⟨_, _, hq⟩ := HG.out; (repeat (first | (with_reducible exact Below.refl _ _) | (with_reducible assumption) | with_reducible apply below_alloc | with_reducible apply pw_below_drewN | with_reducible apply below_drew1 | (refine below_set ?_ (by omega))))⟩
              have k14 : (op == 14) = false := beq_eq_false_iff_ne.mpr o14
              by_cases o15 : op = 15
              · subst o15
                rw [if_pos ⟨by omega, ov⟩] at hA
                have OV := Aside0.mk ov
                clear ov
                go_wp2_with (first | (go_at_call 88; refine (rname_no _ _ HNM.out).mono ?_; rintro e W1 ⟨nm, hnm, rfl, hB1⟩; have hBc := pm_chain (w := wc) (by (repeat (first | (with_reducible exact Below.refl _ _) | (with_reducible assumption) | with_reducible apply below_alloc | with_reducible apply pw_below_drewN | with_reducible apply below_drew1))) hB1; clear hB1; have HRA1 := Aside0.mk (blk_below HRA.out hBc); have HRB1 := Aside0.mk (blk_below HRB.out hBc); have HR81 := Aside0.mk (blk_below HR8.out hBc); have HB1 := Aside0.mk (pm_chain (w := w) HB.out hBc); clear HRA HRB HR8 HB hBc; obtain ⟨⟨ha0, ha1, ha2⟩, _⟩ := know3 HRA1.out; obtain ⟨⟨hb0, hb1, hb2⟩, _⟩ := know3 HRB1.out; obtain ⟨⟨hz0, hz1, hz2⟩, hf0, hf1, hf2⟩ := know3 HR81.out; have HRA := HRA1; have HRB := HRB1; have HR8 := HR81; have HB := HB1; clear HRA1 HRB1 HR81 HB1))
                go_at_call 92
                refine (rtruth_calls _ true).mono ?_
                rintro e WF ⟨rfl, hBF⟩
                have hBG := pm_chain (w := W1) (by (repeat (first | (with_reducible exact Below.refl _ _) | (with_reducible assumption) | with_reducible apply below_alloc | with_reducible apply pw_below_drewN | with_reducible apply below_drew1))) hBF
                obtain ⟨⟨hz0, hz1, hz2⟩, hf0, hf1, hf2⟩ := know3 (blk_below HR8.out hBG)
                (try simp only at hz0 hz1 hz2)
                simp only [ans, truthV, V3.enc, V3.z]
                go_wp2_with (fail)
                refine bodyPost_ret (results_ct rfl _ _ g8 51 _ (0, 0) _ rfl (put3 (blk_below HR8.out hBG) _ _ _) Try.underlying51 rfl (by kernel_rfl)) rfl ?_
                exact ⟨by rw [← hA.out]; rfl, by have hB := pm_chain (w := w) HB.out hBG; obtain ⟨_, _, hq⟩ := HG.out; (repeat (first | (with_reducible exact Below.refl _ _) | (with_reducible assumption) | with_reducible apply below_alloc | with_reducible apply pw_below_drewN | with_reducible apply below_drew1 | (refine below_set ?_ (by omega))))⟩
              have k15 : (op == 15) = false := beq_eq_false_iff_ne.mpr o15
              rw [if_neg (fun h => h.1.elim o14 o15)] at hA
              clear o1 o2 o14 o15 ov
              go_wp2_with (first | (go_at_call 88; refine (rname_no _ _ HNM.out).mono ?_; rintro e W1 ⟨nm, hnm, rfl, hB1⟩; have hBc := pm_chain (w := wc) (by (repeat (first | (with_reducible exact Below.refl _ _) | (with_reducible assumption) | with_reducible apply below_alloc | with_reducible apply pw_below_drewN | with_reducible apply below_drew1))) hB1; clear hB1; have HRA1 := Aside0.mk (blk_below HRA.out hBc); have HRB1 := Aside0.mk (blk_below HRB.out hBc); have HR81 := Aside0.mk (blk_below HR8.out hBc); have HB1 := Aside0.mk (pm_chain (w := w) HB.out hBc); clear HRA HRB HR8 HB hBc; obtain ⟨⟨ha0, ha1, ha2⟩, _⟩ := know3 HRA1.out; obtain ⟨⟨hb0, hb1, hb2⟩, _⟩ := know3 HRB1.out; obtain ⟨⟨hz0, hz1, hz2⟩, hf0, hf1, hf2⟩ := know3 HR81.out; have HRA := HRA1; have HRB := HRB1; have HR8 := HR81; have HB := HB1; clear HRA1 HRB1 HR81 HB1))
              refine bodyPost_ret (results_ct rfl _ _ g8 51 _ (0, 0) _ rfl (put3 (HR8.out) _ _ _) Try.underlying51 rfl (by kernel_rfl)) rfl ?_
              exact ⟨by rw [← hA.out]; rfl, by have hB := HB.out; obtain ⟨_, _, hq⟩ := HG.out; (repeat (first | (with_reducible exact Below.refl _ _) | (with_reducible assumption) | with_reducible apply below_alloc | with_reducible apply pw_below_drewN | with_reducible apply below_drew1 | (refine below_set ?_ (by omega))))⟩
            · have kv : (bv == 0) = false := beq_eq_false_iff_ne.mpr ov
              rw [if_neg (fun h => ov h.2)] at hA
              clear ov
              by_cases o14 : op = 14
              · subst o14
                go_wp2_with (first | (go_at_call 88; refine (rname_no _ _ HNM.out).mono ?_; rintro e W1 ⟨nm, hnm, rfl, hB1⟩; have hBc := pm_chain (w := wc) (by (repeat (first | (with_reducible exact Below.refl _ _) | (with_reducible assumption) | with_reducible apply below_alloc | with_reducible apply pw_below_drewN | with_reducible apply below_drew1))) hB1; clear hB1; have HRA1 := Aside0.mk (blk_below HRA.out hBc); have HRB1 := Aside0.mk (blk_below HRB.out hBc); have HR81 := Aside0.mk (blk_below HR8.out hBc); have HB1 := Aside0.mk (pm_chain (w := w) HB.out hBc); clear HRA HRB HR8 HB hBc; obtain ⟨⟨ha0, ha1, ha2⟩, _⟩ := know3 HRA1.out; obtain ⟨⟨hb0, hb1, hb2⟩, _⟩ := know3 HRB1.out; obtain ⟨⟨hz0, hz1, hz2⟩, hf0, hf1, hf2⟩ := know3 HR81.out; have HRA := HRA1; have HRB := HRB1; have HR8 := HR81; have HB := HB1; clear HRA1 HRB1 HR81 HB1))
                refine bodyPost_ret (results_ct rfl _ _ g8 51 _ (0, 0) _ rfl (put3 (HR8.out) _ _ _) Try.underlying51 rfl (by kernel_rfl)) rfl ?_
                exact ⟨by rw [← hA.out]; rfl, by have hB := HB.out; obtain ⟨_, _, hq⟩ := HG.out; (repeat (first | (with_reducible exact Below.refl _ _) | (with_reducible assumption) | with_reducible apply below_alloc | with_reducible apply pw_below_drewN | with_reducible apply below_drew1 | (refine below_set ?_ (by omega))))⟩
              have k14 : (op == 14) = false := beq_eq_false_iff_ne.mpr o14
              by_cases o15 : op = 15
              · subst o15
                go_wp2_with (first | (go_at_call 88; refine (rname_no _ _ HNM.out).mono ?_; rintro e W1 ⟨nm, hnm, rfl, hB1⟩; have hBc := pm_chain (w := wc) (by (repeat (first | (with_reducible exact Below.refl _ _) | (with_reducible assumption) | with_reducible apply below_alloc | with_reducible apply pw_below_drewN | with_reducible apply below_drew1))) hB1; clear hB1; have HRA1 := Aside0.mk (blk_below HRA.out hBc); have HRB1 := Aside0.mk (blk_below HRB.out hBc); have HR81 := Aside0.mk (blk_below HR8.out hBc); have HB1 := Aside0.mk (pm_chain (w := w) HB.out hBc); clear HRA HRB HR8 HB hBc; obtain ⟨⟨ha0, ha1, ha2⟩, _⟩ := know3 HRA1.out; obtain ⟨⟨hb0, hb1, hb2⟩, _⟩ := know3 HRB1.out; obtain ⟨⟨hz0, hz1, hz2⟩, hf0, hf1, hf2⟩ := know3 HR81.out; have HRA := HRA1; have HRB := HRB1; have HR8 := HR81; have HB := HB1; clear HRA1 HRB1 HR81 HB1))
                refine bodyPost_ret (results_ct rfl _ _ g8 51 _ (0, 0) _ rfl (put3 (HR8.out) _ _ _) Try.underlying51 rfl (by kernel_rfl)) rfl ?_
                exact ⟨by rw [← hA.out]; rfl, by have hB := HB.out; obtain ⟨_, _, hq⟩ := HG.out; (repeat (first | (with_reducible exact Below.refl _ _) | (with_reducible assumption) | with_reducible apply below_alloc | with_reducible apply pw_below_drewN | with_reducible apply below_drew1 | (refine below_set ?_ (by omega))))⟩
              have k15 : (op == 15) = false := beq_eq_false_iff_ne.mpr o15
              clear o1 o2 o14 o15
              go_wp2_with (first | (go_at_call 88; refine (rname_no _ _ HNM.out).mono ?_; rintro e W1 ⟨nm, hnm, rfl, hB1⟩; have hBc := pm_chain (w := wc) (by (repeat (first | (with_reducible exact Below.refl _ _) | (with_reducible assumption) | with_reducible apply below_alloc | with_reducible apply pw_below_drewN | with_reducible apply below_drew1))) hB1; clear hB1; have HRA1 := Aside0.mk (blk_below HRA.out hBc); have HRB1 := Aside0.mk (blk_below HRB.out hBc); have HR81 := Aside0.mk (blk_below HR8.out hBc); have HB1 := Aside0.mk (pm_chain (w := w) HB.out hBc); clear HRA HRB HR8 HB hBc; obtain ⟨⟨ha0, ha1, ha2⟩, _⟩ := know3 HRA1.out; obtain ⟨⟨hb0, hb1, hb2⟩, _⟩ := know3 HRB1.out; obtain ⟨⟨hz0, hz1, hz2⟩, hf0, hf1, hf2⟩ := know3 HR81.out; have HRA := HRA1; have HRB := HRB1; have HR8 := HR81; have HB := HB1; clear HRA1 HRB1 HR81 HB1))
              refine bodyPost_ret (results_ct rfl _ _ g8 51 _ (0, 0) _ rfl (put3 (HR8.out) _ _ _) Try.underlying51 rfl (by kernel_rfl)) rfl ?_
              exact ⟨by rw [← hA.out]; rfl, by have hB := HB.out; obtain ⟨_, _, hq⟩ := HG.out; (repeat (first | (with_reducible exact Below.refl _ _) | (with_reducible assumption) | with_reducible apply below_alloc | with_reducible apply pw_below_drewN | with_reducible apply below_drew1 | (refine below_set ?_ (by omega))))⟩
          · rw [if_neg cb] at hA
            have kbk : (bk == 1) = false := beq_eq_false_iff_ne.mpr cb
            clear cb
            cases ho : goodR Bs ⟨bk, bv, bb⟩ with
            | none =>
              rw [ho] at hA
              rw [show (none : Option Blk).isSome = false from rfl]
              clear ho
              go_wp2_with (first | (go_at_call 88; refine (rname_no _ _ HNM.out).mono ?_; rintro e W1 ⟨nm, hnm, rfl, hB1⟩; have hBc := pm_chain (w := wc) (by (repeat (first | (with_reducible exact Below.refl _ _) | (with_reducible assumption) | with_reducible apply below_alloc | with_reducible apply pw_below_drewN | with_reducible apply below_drew1))) hB1; clear hB1; have HRA1 := Aside0.mk (blk_below HRA.out hBc); have HRB1 := Aside0.mk (blk_below HRB.out hBc); have HR81 := Aside0.mk (blk_below HR8.out hBc); have HB1 := Aside0.mk (pm_chain (w := w) HB.out hBc); clear HRA HRB HR8 HB hBc; obtain ⟨⟨ha0, ha1, ha2⟩, _⟩ := know3 HRA1.out; obtain ⟨⟨hb0, hb1, hb2⟩, _⟩ := know3 HRB1.out; obtain ⟨⟨hz0, hz1, hz2⟩, hf0, hf1, hf2⟩ := know3 HR81.out; have HRA := HRA1; have HRB := HRB1; have HR8 := HR81; have HB := HB1; clear HRA1 HRB1 HR81 HB1))
              refine bodyPost_ret (results_ct rfl _ _ g8 51 _ (0, 0) _ rfl (put3 (HR8.out) _ _ _) Try.underlying51 rfl (by kernel_rfl)) rfl ?_
              exact ⟨by rw [← hA.out]; rfl, by have hB := HB.out; obtain ⟨_, _, hq⟩ := HG.out; (repeat (first | (with_reducible exact Below.refl _ _) | (with_reducible assumption) | with_reducible apply below_alloc | with_reducible apply pw_below_drewN | with_reducible apply below_drew1 | (refine below_set ?_ (by omega))))⟩
            | some z =>
              rw [ho] at hA
              rw [show (some z).isSome = true from rfl]
              simp only at hA
              have HLV2 := Aside0.mk (goodR_some ho).2.1
              clear ho
              obtain ⟨rk, rv, rb, rs, hmf⟩ : ∃ rk rv rb rs, ptrsN y.cs.length z.cs.length op ⟨ak, av, ab⟩ ⟨bk, bv, bb⟩ = (⟨rk, rv, rb⟩, rs) := ⟨_, _, _, _, rfl⟩
              rw [hmf] at hA
              have HMF := Aside0.mk hmf
              clear hmf
              go_wp2_with (first | (go_at_call 88; refine (rname_no _ _ HNM.out).mono ?_; rintro e W1 ⟨nm, hnm, rfl, hB1⟩; have hBc := pm_chain (w := wc) (by (repeat (first | (with_reducible exact Below.refl _ _) | (with_reducible assumption) | with_reducible apply below_alloc | with_reducible apply pw_below_drewN | with_reducible apply below_drew1))) hB1; clear hB1; have HRA1 := Aside0.mk (blk_below HRA.out hBc); have HRB1 := Aside0.mk (blk_below HRB.out hBc); have HR81 := Aside0.mk (blk_below HR8.out hBc); have HB1 := Aside0.mk (pm_chain (w := w) HB.out hBc); clear HRA HRB HR8 HB hBc; obtain ⟨⟨ha0, ha1, ha2⟩, _⟩ := know3 HRA1.out; obtain ⟨⟨hb0, hb1, hb2⟩, _⟩ := know3 HRB1.out; obtain ⟨⟨hz0, hz1, hz2⟩, hf0, hf1, hf2⟩ := know3 HR81.out; have HRA := HRA1; have HRB := HRB1; have HR8 := HR81; have HB := HB1; clear HRA1 HRB1 HR81 HB1))
              go_at_call 90
              refine (pointers_calls (H.out.below (pm_chain (w := w) HB.out (by (repeat (first | (with_reducible exact Below.refl _ _) | (with_reducible assumption) | with_reducible apply below_alloc | with_reducible apply pw_below_drewN | with_reducible apply below_drew1))))) op ⟨ak, av, ab⟩ ⟨bk, bv, bb⟩ (.tuple #[.agg #[.int .i64 rk, .int .u32 rv, .int .i64 rb], .int .i64 rs]) ⟨by rw [HMF.out]; rfl⟩ hx ⟨HLV.out, HLV2.out⟩).mono ?_
              rintro e WF ⟨rfl, hBF⟩
              have hBG := pm_chain (w := W1) (by (repeat (first | (with_reducible exact Below.refl _ _) | (with_reducible assumption) | with_reducible apply below_alloc | with_reducible apply pw_below_drewN | with_reducible apply below_drew1))) hBF
              obtain ⟨⟨hz0, hz1, hz2⟩, hf0, hf1, hf2⟩ := know3 (blk_below HR8.out hBG)
              (try simp only at hz0 hz1 hz2)
              skip
              go_wp2_with (fail)
              refine bodyPost_ret (results_ct rfl _ _ g8 51 _ (0, 0) _ rfl (put3 (blk_below HR8.out hBG) _ _ _) Try.underlying51 rfl (by kernel_rfl)) rfl ?_
              exact ⟨by rw [← hA.out]; rfl, by have hB := pm_chain (w := w) HB.out hBG; obtain ⟨_, _, hq⟩ := HG.out; (repeat (first | (with_reducible exact Below.refl _ _) | (with_reducible assumption) | with_reducible apply below_alloc | with_reducible apply pw_below_drewN | with_reducible apply below_drew1 | (refine below_set ?_ (by omega))))⟩
end Go.Proofs.Ythdnhfjodhjejaa.Ma
