/- Bin of package memory: its entry. No condition beyond those each theorem names. -/
import Derived.Test.YthdnhfjodhjejaaMm
import Derived.Test.YthdnhfjodhjejaaN1
import Derived.BigQuiet
import Derived.Deep.QuietTactic
namespace Go.Proofs.Ythdnhfjodhjejaa.Ma
open Go.RowKit Go.Proofs.Ythdnhfjodhjejaa.PMe Go.Proofs.YthdnhfjodhjejaaW.PrintWords Go.Proofs.YthdnhfjodhjejaaW.PrintLast Go.Proofs.YthdnhfjodhjejaaW.PrintMore
set_option linter.unusedVariables false
set_option linter.unusedSimpArgs false
variable {w w' : World} {m mm : Nat} {last : Int} {L : List Rec}
/-- Is an operation's name empty? -/
def nmE (op : Int) : Bool := decide (op < 1) || decide (op > 19)
/-- What Bin answers of two pointers. -/
def ptrsF (ra rb : Rec) (op : Int) (a b : V3) : V3 × Int :=
  if op = 14 ∨ op = 15 then
    if a.b ≠ b.b ∧ (a.v = ra.cs.length ∨ b.v = rb.cs.length) then (V3.z, 3)
    else truthV (((a.b == b.b) && (a.v == b.v)) == (op == 14))
  else if a.b ≠ b.b then (V3.z, 3)
  else if op = 2 then (⟨1, (a.v - b.v) % 4294967296, 0⟩, 0)
  else if op = 16 ∨ op = 17 then truthV (decide (a.v < b.v))
  else if op = 18 ∨ op = 19 then truthV (decide (a.v ≤ b.v))
  else (V3.z, 3)
def numsF (op : Int) (a b : V3) : V3 × Int := let r := (word_Bin.f 30 op a.v b.v).getD (0, false); if r.2 then (⟨1, r.1, 0⟩, 0) else (V3.z, 2)
def binF (L : List Rec) (op : Int) (a b : V3) : V3 × Int :=
  if nmE op then (V3.z, 3)
  else if a.k = 1 then
    if b.k = 1 then numsF op a b
    else match ofR L b with
      | none => (V3.z, 3)
      | some r => mixedF r op a b
  else match ofR L a with
    | none => (V3.z, 3)
    | some r => if b.k = 1 then mixedF r op a b else match ofR L b with
      | none => (V3.z, 3)
      | some s => ptrsF r s op a b
theorem name_yes (w : World) (op : Int) (h : nmE op = true) : Calls Try.prog 42 #[.int .i64 op] w fun e w' => e = .returned (.string ⟨#[]⟩) ∧ Below w.heap.size w w' := by
  refine word_Name.calls op _ w ?_
  unfold nmE at h
  unfold word_Name.f
  simp only [Bool.or_eq_true, decide_eq_true_eq] at h
  by_cases h1 : op < 1
  · rw [if_pos h1]
  · rw [if_neg h1, if_pos (by omega)]
theorem name_no (w : World) (op : Int) (h : nmE op = false) : Calls Try.prog 42 #[.int .i64 op] w fun e w' => ∃ nm : ByteArray, nm.toList.isEmpty = false ∧ e = .returned (.string nm) ∧ Below w.heap.size w w' := by
  unfold nmE at h
  simp only [Bool.or_eq_false_iff, decide_eq_false_iff_not] at h
  have hn : ∃ nm : ByteArray, nm.toList.isEmpty = false ∧ word_Name.f op = some nm := by
    unfold word_Name.f
    rw [if_neg h.1, if_neg h.2]
    refine ⟨_, ?_, rfl⟩
    have hd : op = 1 ∨ op = 2 ∨ op = 3 ∨ op = 4 ∨ op = 5 ∨ op = 6 ∨ op = 7 ∨ op = 8 ∨ op = 9 ∨ op = 10 ∨ op = 11 ∨ op = 12 ∨ op = 13 ∨ op = 14 ∨ op = 15 ∨ op = 16 ∨ op = 17 ∨ op = 18 ∨ op = 19 := by omega
    rcases hd with rfl | rfl | rfl | rfl | rfl | rfl | rfl | rfl | rfl | rfl | rfl | rfl | rfl | rfl | rfl | rfl | rfl | rfl | rfl <;> decide +kernel
  obtain ⟨nm, h1, h2⟩ := hn
  exact (word_Name.calls op nm w h2).mono fun _ _ h => ⟨nm, h1, h.1, h.2⟩
set_option maxHeartbeats 4000000 in
set_option maxRecDepth 100000 in
theorem Bin_calls (h : PM w m mm last L) (op : Int) (a b : V3) (A : Value) (hA : Aside0 (ans (binF L op a b) = A)) (hx : Aside0 ((0 ≤ a.v ∧ a.v < 4294967296) ∧ (0 ≤ b.v ∧ b.v < 4294967296))) : Calls Try.prog 16 #[.pointer (some ⟨m, 0, none⟩), .int .i64 op, a.enc, b.enc] w fun e w' => e = .returned A ∧ Below w.heap.size w w' := by
  have hu51 := Try.underlying51
  have H := Aside0.mk h
  clear h
  obtain ⟨ak, av, ab⟩ := a
  obtain ⟨bk, bv, bb⟩ := b
  unfold V3.enc
  simp only
  go_enter Try.func16, Try.ntmps16
  go_upto_region 1 with (fail)
  have RA : Row3 (((w.alloc (.cells #[.int .i64 ak, .int .u32 av, .int .i64 ab] 51)).alloc (.cells #[.int .i64 bk, .int .u32 bv, .int .i64 bb] 51)).alloc (.cells #[.int .i64 0, .int .u32 0, .int .i64 0] 51)) w.heap.size ⟨ak, av, ab⟩ := blk_alloc (blk_alloc (heap_at _ _ _ rfl) _) _
  have RB : Row3 (((w.alloc (.cells #[.int .i64 ak, .int .u32 av, .int .i64 ab] 51)).alloc (.cells #[.int .i64 bk, .int .u32 bv, .int .i64 bb] 51)).alloc (.cells #[.int .i64 0, .int .u32 0, .int .i64 0] 51)) (w.heap.size + 1) ⟨bk, bv, bb⟩ := blk_alloc (heap_at _ _ _ (by simp)) _
  have R8 : Row3 (((w.alloc (.cells #[.int .i64 ak, .int .u32 av, .int .i64 ab] 51)).alloc (.cells #[.int .i64 bk, .int .u32 bv, .int .i64 bb] 51)).alloc (.cells #[.int .i64 0, .int .u32 0, .int .i64 0] 51)) (w.heap.size + 1 + 1) ⟨0, 0, 0⟩ := heap_at _ _ _ (by simp)
  have hB : Below w.heap.size w (((w.alloc (.cells #[.int .i64 ak, .int .u32 av, .int .i64 ab] 51)).alloc (.cells #[.int .i64 bk, .int .u32 bv, .int .i64 bb] 51)).alloc (.cells #[.int .i64 0, .int .u32 0, .int .i64 0] 51)) := by (repeat (first | (with_reducible exact Below.refl _ _) | (with_reducible assumption) | with_reducible apply below_alloc | with_reducible apply pw_below_drewN | with_reducible apply below_drew1))
  generalize (((w.alloc (.cells #[.int .i64 ak, .int .u32 av, .int .i64 ab] 51)).alloc (.cells #[.int .i64 bk, .int .u32 bv, .int .i64 bb] 51)).alloc (.cells #[.int .i64 0, .int .u32 0, .int .i64 0] 51)) = W0 at RA RB R8 hB ⊢
  obtain ⟨g8, hg8⟩ : ∃ g, g = w.heap.size + 1 + 1 := ⟨_, rfl⟩
  obtain ⟨gb, hgb⟩ : ∃ g, g = w.heap.size + 1 := ⟨_, rfl⟩
  obtain ⟨ga, hga⟩ : ∃ g, g = w.heap.size := ⟨_, rfl⟩
  rw [← hg8, ← hgb, ← hga]
  rw [← hga] at RA
  rw [← hgb] at RB
  rw [← hg8] at R8
  have HG := Aside0.mk (show w.heap.size ≤ ga ∧ w.heap.size ≤ gb ∧ w.heap.size ≤ g8 by omega)
  clear hga hgb hg8
  simp only [Row3] at RA RB R8
  obtain ⟨⟨ha0, ha1, ha2⟩, _⟩ := know3 RA
  obtain ⟨⟨hb0, hb1, hb2⟩, _⟩ := know3 RB
  have HRA := Aside0.mk RA
  have HRB := Aside0.mk RB
  have HR8 := Aside0.mk R8
  have HB := Aside0.mk hB
  clear RA RB R8 hB
  go_cut [10, 11] (fun v10 v11 wc => v10 = ptrR (ofR L ⟨ak, av, ab⟩) ∧ v11 = ptrR (ofR L ⟨bk, bv, bb⟩) ∧ Aside0 (Below W0.heap.size W0 wc))
  case first =>
    go_region_held3 (fun w' => (w'.cell? ⟨ga, 0, none⟩ = some (.int .i64 ak) ∧ w'.cell? ⟨ga, 1, none⟩ = some (.int .u32 av) ∧ w'.cell? ⟨ga, 2, none⟩ = some (.int .i64 ab)) ∧ (w'.cell? ⟨gb, 0, none⟩ = some (.int .i64 bk) ∧ w'.cell? ⟨gb, 1, none⟩ = some (.int .u32 bv) ∧ w'.cell? ⟨gb, 2, none⟩ = some (.int .i64 bb))) (first | exact ⟨⟨pw_cell_below (by (repeat (first | (with_reducible exact Below.refl _ _) | (with_reducible assumption) | with_reducible apply below_alloc | with_reducible apply pw_below_drewN | with_reducible apply below_drew1)); done) ha0, pw_cell_below (by (repeat (first | (with_reducible exact Below.refl _ _) | (with_reducible assumption) | with_reducible apply below_alloc | with_reducible apply pw_below_drewN | with_reducible apply below_drew1)); done) ha1, pw_cell_below (by (repeat (first | (with_reducible exact Below.refl _ _) | (with_reducible assumption) | with_reducible apply below_alloc | with_reducible apply pw_below_drewN | with_reducible apply below_drew1)); done) ha2⟩, pw_cell_below (by (repeat (first | (with_reducible exact Below.refl _ _) | (with_reducible assumption) | with_reducible apply below_alloc | with_reducible apply pw_below_drewN | with_reducible apply below_drew1)); done) hb0, pw_cell_below (by (repeat (first | (with_reducible exact Below.refl _ _) | (with_reducible assumption) | with_reducible apply below_alloc | with_reducible apply pw_below_drewN | with_reducible apply below_drew1)); done) hb1, pw_cell_below (by (repeat (first | (with_reducible exact Below.refl _ _) | (with_reducible assumption) | with_reducible apply below_alloc | with_reducible apply pw_below_drewN | with_reducible apply below_drew1)); done) hb2⟩) (first | (go_at_call_of 40 ak; refine (of_calls (PM.below H.out (pm_chain (w := w) HB.out (by (repeat (first | (with_reducible exact Below.refl _ _) | (with_reducible assumption) | with_reducible apply below_alloc | with_reducible apply pw_below_drewN | with_reducible apply below_drew1))))) ⟨ak, av, ab⟩ hx.out.1.1 hx.out.1.2).mono ?_; rintro e W1 ⟨rfl, hB1⟩; have hB2 := pm_chain (w := W0) (by (repeat (first | (with_reducible exact Below.refl _ _) | (with_reducible assumption) | with_reducible apply below_alloc | with_reducible apply pw_below_drewN | with_reducible apply below_drew1))) hB1; clear hB1) | (go_at_call_of 40 bk; refine (of_calls (PM.below H.out (pm_chain (w := w) HB.out (by (repeat (first | (with_reducible exact Below.refl _ _) | (with_reducible assumption) | with_reducible apply below_alloc | with_reducible apply pw_below_drewN | with_reducible apply below_drew1))))) ⟨bk, bv, bb⟩ hx.out.2.1 hx.out.2.2).mono ?_; rintro e W2 ⟨rfl, hB1⟩; have hB3 := pm_chain (w := W0) (by (repeat (first | (with_reducible exact Below.refl _ _) | (with_reducible assumption) | with_reducible apply below_alloc | with_reducible apply pw_below_drewN | with_reducible apply below_drew1))) hB1; clear hB1))
    all_goals (go_wp2_with (fail); go_meet)
    all_goals exact ⟨rfl, rfl, ⟨by (repeat (first | (with_reducible exact Below.refl _ _) | (with_reducible assumption) | with_reducible apply below_alloc | with_reducible apply pw_below_drewN | with_reducible apply below_drew1))⟩⟩
  case rest =>
    obtain ⟨rfl, rfl, HB1⟩ := hcut
    clear ha0 ha1 ha2 hb0 hb1 hb2
    have RA := blk_below HRA.out HB1.out
    have RB := blk_below HRB.out HB1.out
    have R8 := blk_below HR8.out HB1.out
    have hB := pm_chain (w := w) HB.out HB1.out
    clear HRA HRB HR8 HB HB1
    obtain ⟨⟨ha0, ha1, ha2⟩, _⟩ := know3 RA
    obtain ⟨⟨hb0, hb1, hb2⟩, _⟩ := know3 RB
    have HRA := Aside0.mk RA
    have HRB := Aside0.mk RB
    have HR8 := Aside0.mk R8
    have HB := Aside0.mk hB
    clear RA RB R8 hB
    go_wp2_with (fail)
    go_quiet (fail)
    clear ha0 ha1 ha2 hb0 hb1 hb2
    unfold binF at hA
    cases hnm : nmE op with
    | true =>
      rw [hnm] at hA
      simp only [if_true] at hA
      have HNM := Aside0.mk hnm
      clear hnm
      go_wp2_with (first | (go_at_call 41; refine (alive_yes (PM.below H.out (pm_chain (w := w) HB.out (by (repeat (first | (with_reducible exact Below.refl _ _) | (with_reducible assumption) | with_reducible apply below_alloc | with_reducible apply pw_below_drewN | with_reducible apply below_drew1)))))).mono ?_; rintro e w9 ⟨rfl, rfl⟩) | (go_at_call 42; refine (name_yes _ _ HNM.out).mono ?_; rintro e W1 ⟨rfl, hB1⟩; have hN := pm_chain (w := wc) (by (repeat (first | (with_reducible exact Below.refl _ _) | (with_reducible assumption) | with_reducible apply below_alloc | with_reducible apply pw_below_drewN | with_reducible apply below_drew1))) hB1; clear hB1; have RA := blk_below HRA.out hN; have RB := blk_below HRB.out hN; have R8 := blk_below HR8.out hN; have hB := pm_chain (w := w) HB.out hN; clear HRA HRB HR8 HB hN; obtain ⟨⟨ha0, ha1, ha2⟩, _⟩ := know3 RA; obtain ⟨⟨hb0, hb1, hb2⟩, _⟩ := know3 RB; obtain ⟨⟨hz0, hz1, hz2⟩, hf0, hf1, hf2⟩ := know3 R8; (try simp only at hz0 hz1 hz2); have HRA := Aside0.mk RA; have HRB := Aside0.mk RB; have HR8 := Aside0.mk R8; have HB := Aside0.mk hB; clear RA RB R8 hB))
      go_at_call 43
      refine (undef_calls _).mono ?_
      rintro e W2 ⟨rfl, hB2⟩
      have hB3 := pm_chain (w := W1) (by (repeat (first | (with_reducible exact Below.refl _ _) | (with_reducible assumption) | with_reducible apply below_alloc | with_reducible apply pw_below_drewN | with_reducible apply below_drew1))) hB2
      obtain ⟨⟨hz0, hz1, hz2⟩, hf0, hf1, hf2⟩ := know3 (blk_below HR8.out hB3)
      (try simp only at hz0 hz1 hz2)
      simp only [ans, truthV, V3.enc, V3.z]
      go_wp2_with (fail)
      refine bodyPost_ret (results_ct rfl _ _ g8 51 _ (0, 0) _ rfl (put3 (blk_below HR8.out hB3) _ _ _) Try.underlying51 rfl (by kernel_rfl)) rfl ?_
      exact ⟨by rw [← hA.out]; rfl, by have hB := pm_chain (w := w) HB.out hB3; obtain ⟨_, _, hq⟩ := HG.out; (repeat (first | (with_reducible exact Below.refl _ _) | (with_reducible assumption) | with_reducible apply below_alloc | with_reducible apply pw_below_drewN | with_reducible apply below_drew1 | (refine below_set ?_ (by omega))))⟩
    | false =>
      rw [hnm] at hA
      simp only [Bool.false_eq_true, if_false] at hA
      have HNM := Aside0.mk hnm
      clear hnm
      by_cases ck : ak = 1
      · rw [if_pos ck] at hA
        have kak : (ak == 1) = true := beq_iff_eq.mpr ck
        have CK := Aside0.mk ck
        clear ck
        by_cases cb : bk = 1
        · rw [if_pos cb] at hA
          have kbk : (bk == 1) = true := beq_iff_eq.mpr cb
          have CB := Aside0.mk cb
          clear cb
          have hbn : ∃ r1 r2, word_Bin.f 30 op av bv = some (r1, r2) := by
            obtain ⟨_, r, hr⟩ := La.bin_eq op av bv hx.out.1.1 hx.out.1.2 hx.out.2.1 hx.out.2.2
            exact ⟨r.1, r.2, hr⟩
          obtain ⟨r1, r2, hbn⟩ := hbn
          have HBN := Aside0.mk hbn
          clear hbn
          cases r2 with
          | false =>
            go_wp2_with (first | (go_at_call 41; refine (alive_yes (PM.below H.out (pm_chain (w := w) HB.out (by (repeat (first | (with_reducible exact Below.refl _ _) | (with_reducible assumption) | with_reducible apply below_alloc | with_reducible apply pw_below_drewN | with_reducible apply below_drew1)))))).mono ?_; rintro e w9 ⟨rfl, rfl⟩) | (go_at_call 42; refine (name_no _ _ HNM.out).mono ?_; rintro e W1 ⟨nm, hnm, rfl, hB1⟩; have hN := pm_chain (w := wc) (by (repeat (first | (with_reducible exact Below.refl _ _) | (with_reducible assumption) | with_reducible apply below_alloc | with_reducible apply pw_below_drewN | with_reducible apply below_drew1))) hB1; clear hB1; have RA := blk_below HRA.out hN; have RB := blk_below HRB.out hN; have R8 := blk_below HR8.out hN; have hB := pm_chain (w := w) HB.out hN; clear HRA HRB HR8 HB hN; obtain ⟨⟨ha0, ha1, ha2⟩, _⟩ := know3 RA; obtain ⟨⟨hb0, hb1, hb2⟩, _⟩ := know3 RB; obtain ⟨⟨hz0, hz1, hz2⟩, hf0, hf1, hf2⟩ := know3 R8; (try simp only at hz0 hz1 hz2); have HRA := Aside0.mk RA; have HRB := Aside0.mk RB; have HR8 := Aside0.mk R8; have HB := Aside0.mk hB; clear RA RB R8 hB) | (go_at_call 44; refine (word_Bin.calls 30 op av bv r1 false _ HBN.out).mono ?_; rintro e w9 ⟨rfl, ⟨nd, rfl⟩⟩))
            refine bodyPost_ret (results_ct rfl _ _ g8 51 _ (0, 0) _ rfl (put3 (blk_drewN HR8.out nd) _ _ _) Try.underlying51 rfl (by kernel_rfl)) rfl ?_
            exact ⟨by rw [← hA.out]; unfold numsF; rw [HBN.out]; rfl, by have hB := HB.out; obtain ⟨_, _, hq⟩ := HG.out; (repeat (first | (with_reducible exact Below.refl _ _) | (with_reducible assumption) | with_reducible apply below_alloc | with_reducible apply pw_below_drewN | with_reducible apply below_drew1 | (refine below_set ?_ (by omega))))⟩
          | true =>
            go_wp2_with (first | (go_at_call 41; refine (alive_yes (PM.below H.out (pm_chain (w := w) HB.out (by (repeat (first | (with_reducible exact Below.refl _ _) | (with_reducible assumption) | with_reducible apply below_alloc | with_reducible apply pw_below_drewN | with_reducible apply below_drew1)))))).mono ?_; rintro e w9 ⟨rfl, rfl⟩) | (go_at_call 42; refine (name_no _ _ HNM.out).mono ?_; rintro e W1 ⟨nm, hnm, rfl, hB1⟩; have hN := pm_chain (w := wc) (by (repeat (first | (with_reducible exact Below.refl _ _) | (with_reducible assumption) | with_reducible apply below_alloc | with_reducible apply pw_below_drewN | with_reducible apply below_drew1))) hB1; clear hB1; have RA := blk_below HRA.out hN; have RB := blk_below HRB.out hN; have R8 := blk_below HR8.out hN; have hB := pm_chain (w := w) HB.out hN; clear HRA HRB HR8 HB hN; obtain ⟨⟨ha0, ha1, ha2⟩, _⟩ := know3 RA; obtain ⟨⟨hb0, hb1, hb2⟩, _⟩ := know3 RB; obtain ⟨⟨hz0, hz1, hz2⟩, hf0, hf1, hf2⟩ := know3 R8; (try simp only at hz0 hz1 hz2); have HRA := Aside0.mk RA; have HRB := Aside0.mk RB; have HR8 := Aside0.mk R8; have HB := Aside0.mk hB; clear RA RB R8 hB) | (go_at_call 44; refine (word_Bin.calls 30 op av bv r1 true _ HBN.out).mono ?_; rintro e w9 ⟨rfl, ⟨nd, rfl⟩⟩))
            go_at_call 45
            refine (memory_number.calls r1 1 r1 0 _ rfl).mono ?_
            rintro e W2 ⟨rfl, hB2⟩
            have hB3 := pm_chain (w := W1) (by (repeat (first | (with_reducible exact Below.refl _ _) | (with_reducible assumption) | with_reducible apply below_alloc | with_reducible apply pw_below_drewN | with_reducible apply below_drew1))) hB2
            obtain ⟨⟨hz0, hz1, hz2⟩, hf0, hf1, hf2⟩ := know3 (blk_below HR8.out hB3)
            (try simp only at hz0 hz1 hz2)
            skip
            go_wp2_with (fail)
            refine bodyPost_ret (results_ct rfl _ _ g8 51 _ (0, 0) _ rfl (put3 (blk_below HR8.out hB3) _ _ _) Try.underlying51 rfl (by kernel_rfl)) rfl ?_
            exact ⟨by rw [← hA.out]; unfold numsF; rw [HBN.out]; rfl, by have hB := pm_chain (w := w) HB.out hB3; obtain ⟨_, _, hq⟩ := HG.out; (repeat (first | (with_reducible exact Below.refl _ _) | (with_reducible assumption) | with_reducible apply below_alloc | with_reducible apply pw_below_drewN | with_reducible apply below_drew1 | (refine below_set ?_ (by omega))))⟩
        · rw [if_neg cb] at hA
          have kbk : (bk == 1) = false := beq_eq_false_iff_ne.mpr cb
          have CB := Aside0.mk cb
          clear cb
          cases ho : ofR L ⟨bk, bv, bb⟩ with
          | none =>
            rw [ho] at hA
            rw [show ptrR none = Value.pointer none from rfl]
            clear ho
            go_wp2_with (first | (go_at_call 41; refine (alive_yes (PM.below H.out (pm_chain (w := w) HB.out (by (repeat (first | (with_reducible exact Below.refl _ _) | (with_reducible assumption) | with_reducible apply below_alloc | with_reducible apply pw_below_drewN | with_reducible apply below_drew1)))))).mono ?_; rintro e w9 ⟨rfl, rfl⟩) | (go_at_call 42; refine (name_no _ _ HNM.out).mono ?_; rintro e W1 ⟨nm, hnm, rfl, hB1⟩; have hN := pm_chain (w := wc) (by (repeat (first | (with_reducible exact Below.refl _ _) | (with_reducible assumption) | with_reducible apply below_alloc | with_reducible apply pw_below_drewN | with_reducible apply below_drew1))) hB1; clear hB1; have RA := blk_below HRA.out hN; have RB := blk_below HRB.out hN; have R8 := blk_below HR8.out hN; have hB := pm_chain (w := w) HB.out hN; clear HRA HRB HR8 HB hN; obtain ⟨⟨ha0, ha1, ha2⟩, _⟩ := know3 RA; obtain ⟨⟨hb0, hb1, hb2⟩, _⟩ := know3 RB; obtain ⟨⟨hz0, hz1, hz2⟩, hf0, hf1, hf2⟩ := know3 R8; (try simp only at hz0 hz1 hz2); have HRA := Aside0.mk RA; have HRB := Aside0.mk RB; have HR8 := Aside0.mk R8; have HB := Aside0.mk hB; clear RA RB R8 hB))
            go_at_call 43
            refine (undef_calls _).mono ?_
            rintro e W2 ⟨rfl, hB2⟩
            have hB3 := pm_chain (w := W1) (by (repeat (first | (with_reducible exact Below.refl _ _) | (with_reducible assumption) | with_reducible apply below_alloc | with_reducible apply pw_below_drewN | with_reducible apply below_drew1))) hB2
            obtain ⟨⟨hz0, hz1, hz2⟩, hf0, hf1, hf2⟩ := know3 (blk_below HR8.out hB3)
            (try simp only at hz0 hz1 hz2)
            simp only [ans, truthV, V3.enc, V3.z]
            go_wp2_with (fail)
            refine bodyPost_ret (results_ct rfl _ _ g8 51 _ (0, 0) _ rfl (put3 (blk_below HR8.out hB3) _ _ _) Try.underlying51 rfl (by kernel_rfl)) rfl ?_
            exact ⟨by rw [← hA.out]; rfl, by have hB := pm_chain (w := w) HB.out hB3; obtain ⟨_, _, hq⟩ := HG.out; (repeat (first | (with_reducible exact Below.refl _ _) | (with_reducible assumption) | with_reducible apply below_alloc | with_reducible apply pw_below_drewN | with_reducible apply below_drew1 | (refine below_set ?_ (by omega))))⟩
          | some rb =>
            rw [ho] at hA
            simp only at hA
            rw [show ptrR (some rb) = Value.pointer (some ⟨rb.b, 0, none⟩) from rfl]
            have HO := Aside0.mk ho
            clear ho
            have hmx : ∃ rk rv rb1 rs, mixedF rb op ⟨ak, av, ab⟩ ⟨bk, bv, bb⟩ = (⟨rk, rv, rb1⟩, rs) := ⟨_, _, _, _, rfl⟩
            obtain ⟨rk, rv, rb1, rs, hmf⟩ := hmx
            rw [hmf] at hA
            have HMF := Aside0.mk hmf
            clear hmf
            have HO1 : Aside0 (ofR L (pick ⟨ak, av, ab⟩ ⟨bk, bv, bb⟩).1 = some rb) := ⟨by unfold pick; simp only; rw [if_pos CK.out]; exact HO.out⟩
            have HX1 : Aside0 ((0 ≤ (pick ⟨ak, av, ab⟩ ⟨bk, bv, bb⟩).1.v ∧ (pick ⟨ak, av, ab⟩ ⟨bk, bv, bb⟩).1.v < 4294967296) ∧ (0 ≤ (pick ⟨ak, av, ab⟩ ⟨bk, bv, bb⟩).2.v ∧ (pick ⟨ak, av, ab⟩ ⟨bk, bv, bb⟩).2.v < 4294967296)) := ⟨by unfold pick; simp only; rw [if_pos CK.out]; first | exact hx.out | exact ⟨hx.out.2, hx.out.1⟩⟩
            go_wp2_with (first | (go_at_call 41; refine (alive_yes (PM.below H.out (pm_chain (w := w) HB.out (by (repeat (first | (with_reducible exact Below.refl _ _) | (with_reducible assumption) | with_reducible apply below_alloc | with_reducible apply pw_below_drewN | with_reducible apply below_drew1)))))).mono ?_; rintro e w9 ⟨rfl, rfl⟩) | (go_at_call 42; refine (name_no _ _ HNM.out).mono ?_; rintro e W1 ⟨nm, hnm, rfl, hB1⟩; have hN := pm_chain (w := wc) (by (repeat (first | (with_reducible exact Below.refl _ _) | (with_reducible assumption) | with_reducible apply below_alloc | with_reducible apply pw_below_drewN | with_reducible apply below_drew1))) hB1; clear hB1; have RA := blk_below HRA.out hN; have RB := blk_below HRB.out hN; have R8 := blk_below HR8.out hN; have hB := pm_chain (w := w) HB.out hN; clear HRA HRB HR8 HB hN; obtain ⟨⟨ha0, ha1, ha2⟩, _⟩ := know3 RA; obtain ⟨⟨hb0, hb1, hb2⟩, _⟩ := know3 RB; obtain ⟨⟨hz0, hz1, hz2⟩, hf0, hf1, hf2⟩ := know3 R8; (try simp only at hz0 hz1 hz2); have HRA := Aside0.mk RA; have HRB := Aside0.mk RB; have HR8 := Aside0.mk R8; have HB := Aside0.mk hB; clear RA RB R8 hB))
            go_at_call 46
            refine (mixed_calls (PM.below H.out (pm_chain (w := w) HB.out (by (repeat (first | (with_reducible exact Below.refl _ _) | (with_reducible assumption) | with_reducible apply below_alloc | with_reducible apply pw_below_drewN | with_reducible apply below_drew1))))) op ⟨ak, av, ab⟩ ⟨bk, bv, bb⟩ (.tuple #[.agg #[.int .i64 rk, .int .u32 rv, .int .i64 rb1], .int .i64 rs]) HO1 HX1 ⟨by rw [HMF.out]; rfl⟩).mono ?_
            rintro e W2 ⟨rfl, hB2⟩
            have hB3 := pm_chain (w := W1) (by (repeat (first | (with_reducible exact Below.refl _ _) | (with_reducible assumption) | with_reducible apply below_alloc | with_reducible apply pw_below_drewN | with_reducible apply below_drew1))) hB2
            obtain ⟨⟨hz0, hz1, hz2⟩, hf0, hf1, hf2⟩ := know3 (blk_below HR8.out hB3)
            (try simp only at hz0 hz1 hz2)
            skip
            go_wp2_with (fail)
            refine bodyPost_ret (results_ct rfl _ _ g8 51 _ (0, 0) _ rfl (put3 (blk_below HR8.out hB3) _ _ _) Try.underlying51 rfl (by kernel_rfl)) rfl ?_
            exact ⟨by rw [← hA.out]; rfl, by have hB := pm_chain (w := w) HB.out hB3; obtain ⟨_, _, hq⟩ := HG.out; (repeat (first | (with_reducible exact Below.refl _ _) | (with_reducible assumption) | with_reducible apply below_alloc | with_reducible apply pw_below_drewN | with_reducible apply below_drew1 | (refine below_set ?_ (by omega))))⟩
      · rw [if_neg ck] at hA
        have kak : (ak == 1) = false := beq_eq_false_iff_ne.mpr ck
        have CK := Aside0.mk ck
        clear ck
        cases ho : ofR L ⟨ak, av, ab⟩ with
        | none =>
          rw [ho] at hA
          rw [show ptrR none = Value.pointer none from rfl]
          clear ho
          go_wp2_with (first | (go_at_call 41; refine (alive_yes (PM.below H.out (pm_chain (w := w) HB.out (by (repeat (first | (with_reducible exact Below.refl _ _) | (with_reducible assumption) | with_reducible apply below_alloc | with_reducible apply pw_below_drewN | with_reducible apply below_drew1)))))).mono ?_; rintro e w9 ⟨rfl, rfl⟩) | (go_at_call 42; refine (name_no _ _ HNM.out).mono ?_; rintro e W1 ⟨nm, hnm, rfl, hB1⟩; have hN := pm_chain (w := wc) (by (repeat (first | (with_reducible exact Below.refl _ _) | (with_reducible assumption) | with_reducible apply below_alloc | with_reducible apply pw_below_drewN | with_reducible apply below_drew1))) hB1; clear hB1; have RA := blk_below HRA.out hN; have RB := blk_below HRB.out hN; have R8 := blk_below HR8.out hN; have hB := pm_chain (w := w) HB.out hN; clear HRA HRB HR8 HB hN; obtain ⟨⟨ha0, ha1, ha2⟩, _⟩ := know3 RA; obtain ⟨⟨hb0, hb1, hb2⟩, _⟩ := know3 RB; obtain ⟨⟨hz0, hz1, hz2⟩, hf0, hf1, hf2⟩ := know3 R8; (try simp only at hz0 hz1 hz2); have HRA := Aside0.mk RA; have HRB := Aside0.mk RB; have HR8 := Aside0.mk R8; have HB := Aside0.mk hB; clear RA RB R8 hB))
          go_at_call 43
          refine (undef_calls _).mono ?_
          rintro e W2 ⟨rfl, hB2⟩
          have hB3 := pm_chain (w := W1) (by (repeat (first | (with_reducible exact Below.refl _ _) | (with_reducible assumption) | with_reducible apply below_alloc | with_reducible apply pw_below_drewN | with_reducible apply below_drew1))) hB2
          obtain ⟨⟨hz0, hz1, hz2⟩, hf0, hf1, hf2⟩ := know3 (blk_below HR8.out hB3)
          (try simp only at hz0 hz1 hz2)
          simp only [ans, truthV, V3.enc, V3.z]
          go_wp2_with (fail)
          refine bodyPost_ret (results_ct rfl _ _ g8 51 _ (0, 0) _ rfl (put3 (blk_below HR8.out hB3) _ _ _) Try.underlying51 rfl (by kernel_rfl)) rfl ?_
          exact ⟨by rw [← hA.out]; rfl, by have hB := pm_chain (w := w) HB.out hB3; obtain ⟨_, _, hq⟩ := HG.out; (repeat (first | (with_reducible exact Below.refl _ _) | (with_reducible assumption) | with_reducible apply below_alloc | with_reducible apply pw_below_drewN | with_reducible apply below_drew1 | (refine below_set ?_ (by omega))))⟩
        | some ra =>
          rw [ho] at hA
          simp only at hA
          rw [show ptrR (some ra) = Value.pointer (some ⟨ra.b, 0, none⟩) from rfl]
          have HO := Aside0.mk ho
          clear ho
          by_cases cb : bk = 1
          · rw [if_pos cb] at hA
            have kbk : (bk == 1) = true := beq_iff_eq.mpr cb
            have CB := Aside0.mk cb
            clear cb
            have hmx : ∃ rk rv rb1 rs, mixedF ra op ⟨ak, av, ab⟩ ⟨bk, bv, bb⟩ = (⟨rk, rv, rb1⟩, rs) := ⟨_, _, _, _, rfl⟩
            obtain ⟨rk, rv, rb1, rs, hmf⟩ := hmx
            rw [hmf] at hA
            have HMF := Aside0.mk hmf
            clear hmf
            have HO1 : Aside0 (ofR L (pick ⟨ak, av, ab⟩ ⟨bk, bv, bb⟩).1 = some ra) := ⟨by unfold pick; simp only; rw [if_neg CK.out]; exact HO.out⟩
            have HX1 : Aside0 ((0 ≤ (pick ⟨ak, av, ab⟩ ⟨bk, bv, bb⟩).1.v ∧ (pick ⟨ak, av, ab⟩ ⟨bk, bv, bb⟩).1.v < 4294967296) ∧ (0 ≤ (pick ⟨ak, av, ab⟩ ⟨bk, bv, bb⟩).2.v ∧ (pick ⟨ak, av, ab⟩ ⟨bk, bv, bb⟩).2.v < 4294967296)) := ⟨by unfold pick; simp only; rw [if_neg CK.out]; first | exact hx.out | exact ⟨hx.out.2, hx.out.1⟩⟩
            go_wp2_with (first | (go_at_call 41; refine (alive_yes (PM.below H.out (pm_chain (w := w) HB.out (by (repeat (first | (with_reducible exact Below.refl _ _) | (with_reducible assumption) | with_reducible apply below_alloc | with_reducible apply pw_below_drewN | with_reducible apply below_drew1)))))).mono ?_; rintro e w9 ⟨rfl, rfl⟩) | (go_at_call 42; refine (name_no _ _ HNM.out).mono ?_; rintro e W1 ⟨nm, hnm, rfl, hB1⟩; have hN := pm_chain (w := wc) (by (repeat (first | (with_reducible exact Below.refl _ _) | (with_reducible assumption) | with_reducible apply below_alloc | with_reducible apply pw_below_drewN | with_reducible apply below_drew1))) hB1; clear hB1; have RA := blk_below HRA.out hN; have RB := blk_below HRB.out hN; have R8 := blk_below HR8.out hN; have hB := pm_chain (w := w) HB.out hN; clear HRA HRB HR8 HB hN; obtain ⟨⟨ha0, ha1, ha2⟩, _⟩ := know3 RA; obtain ⟨⟨hb0, hb1, hb2⟩, _⟩ := know3 RB; obtain ⟨⟨hz0, hz1, hz2⟩, hf0, hf1, hf2⟩ := know3 R8; (try simp only at hz0 hz1 hz2); have HRA := Aside0.mk RA; have HRB := Aside0.mk RB; have HR8 := Aside0.mk R8; have HB := Aside0.mk hB; clear RA RB R8 hB))
            go_at_call 46
            refine (mixed_calls (PM.below H.out (pm_chain (w := w) HB.out (by (repeat (first | (with_reducible exact Below.refl _ _) | (with_reducible assumption) | with_reducible apply below_alloc | with_reducible apply pw_below_drewN | with_reducible apply below_drew1))))) op ⟨ak, av, ab⟩ ⟨bk, bv, bb⟩ (.tuple #[.agg #[.int .i64 rk, .int .u32 rv, .int .i64 rb1], .int .i64 rs]) HO1 HX1 ⟨by rw [HMF.out]; rfl⟩).mono ?_
            rintro e W2 ⟨rfl, hB2⟩
            have hB3 := pm_chain (w := W1) (by (repeat (first | (with_reducible exact Below.refl _ _) | (with_reducible assumption) | with_reducible apply below_alloc | with_reducible apply pw_below_drewN | with_reducible apply below_drew1))) hB2
            obtain ⟨⟨hz0, hz1, hz2⟩, hf0, hf1, hf2⟩ := know3 (blk_below HR8.out hB3)
            (try simp only at hz0 hz1 hz2)
            skip
            go_wp2_with (fail)
            refine bodyPost_ret (results_ct rfl _ _ g8 51 _ (0, 0) _ rfl (put3 (blk_below HR8.out hB3) _ _ _) Try.underlying51 rfl (by kernel_rfl)) rfl ?_
            exact ⟨by rw [← hA.out]; rfl, by have hB := pm_chain (w := w) HB.out hB3; obtain ⟨_, _, hq⟩ := HG.out; (repeat (first | (with_reducible exact Below.refl _ _) | (with_reducible assumption) | with_reducible apply below_alloc | with_reducible apply pw_below_drewN | with_reducible apply below_drew1 | (refine below_set ?_ (by omega))))⟩
          · rw [if_neg cb] at hA
            have kbk : (bk == 1) = false := beq_eq_false_iff_ne.mpr cb
            have CB := Aside0.mk cb
            clear cb
            cases ho : ofR L ⟨bk, bv, bb⟩ with
            | none =>
              rw [ho] at hA
              rw [show ptrR none = Value.pointer none from rfl]
              clear ho
              go_wp2_with (first | (go_at_call 41; refine (alive_yes (PM.below H.out (pm_chain (w := w) HB.out (by (repeat (first | (with_reducible exact Below.refl _ _) | (with_reducible assumption) | with_reducible apply below_alloc | with_reducible apply pw_below_drewN | with_reducible apply below_drew1)))))).mono ?_; rintro e w9 ⟨rfl, rfl⟩) | (go_at_call 42; refine (name_no _ _ HNM.out).mono ?_; rintro e W1 ⟨nm, hnm, rfl, hB1⟩; have hN := pm_chain (w := wc) (by (repeat (first | (with_reducible exact Below.refl _ _) | (with_reducible assumption) | with_reducible apply below_alloc | with_reducible apply pw_below_drewN | with_reducible apply below_drew1))) hB1; clear hB1; have RA := blk_below HRA.out hN; have RB := blk_below HRB.out hN; have R8 := blk_below HR8.out hN; have hB := pm_chain (w := w) HB.out hN; clear HRA HRB HR8 HB hN; obtain ⟨⟨ha0, ha1, ha2⟩, _⟩ := know3 RA; obtain ⟨⟨hb0, hb1, hb2⟩, _⟩ := know3 RB; obtain ⟨⟨hz0, hz1, hz2⟩, hf0, hf1, hf2⟩ := know3 R8; (try simp only at hz0 hz1 hz2); have HRA := Aside0.mk RA; have HRB := Aside0.mk RB; have HR8 := Aside0.mk R8; have HB := Aside0.mk hB; clear RA RB R8 hB))
              go_at_call 43
              refine (undef_calls _).mono ?_
              rintro e W2 ⟨rfl, hB2⟩
              have hB3 := pm_chain (w := W1) (by (repeat (first | (with_reducible exact Below.refl _ _) | (with_reducible assumption) | with_reducible apply below_alloc | with_reducible apply pw_below_drewN | with_reducible apply below_drew1))) hB2
              obtain ⟨⟨hz0, hz1, hz2⟩, hf0, hf1, hf2⟩ := know3 (blk_below HR8.out hB3)
              (try simp only at hz0 hz1 hz2)
              simp only [ans, truthV, V3.enc, V3.z]
              go_wp2_with (fail)
              refine bodyPost_ret (results_ct rfl _ _ g8 51 _ (0, 0) _ rfl (put3 (blk_below HR8.out hB3) _ _ _) Try.underlying51 rfl (by kernel_rfl)) rfl ?_
              exact ⟨by rw [← hA.out]; rfl, by have hB := pm_chain (w := w) HB.out hB3; obtain ⟨_, _, hq⟩ := HG.out; (repeat (first | (with_reducible exact Below.refl _ _) | (with_reducible assumption) | with_reducible apply below_alloc | with_reducible apply pw_below_drewN | with_reducible apply below_drew1 | (refine below_set ?_ (by omega))))⟩
            | some rb =>
              rw [ho] at hA
              simp only at hA
              rw [show ptrR (some rb) = Value.pointer (some ⟨rb.b, 0, none⟩) from rfl]
              have HP := Aside0.mk ho
              clear ho
              have hra := of_mem HO.out
              have hrb := of_mem HP.out
              have hlra := H.out.len ra hra.1
              have hlrb := H.out.len rb hrb.1
              have HRM := Aside0.mk (And.intro hra hrb)
              clear hra hrb
              simp only [ptrsF] at hA
              by_cases o14 : op = 14
              · subst o14
                rw [if_pos (by omega)] at hA
                by_cases cb2 : ab = bb
                · rw [if_neg (fun h => h.1 cb2)] at hA
                  have f1 : (ab != bb) = false := bne_eq_false_iff_eq.mpr cb2
                  have f2 : (ab == bb) = true := beq_iff_eq.mpr cb2
                  have CB2 := Aside0.mk cb2
                  clear cb2
                  by_cases cv : av = bv
                  · have fv : (av == bv) = true := beq_iff_eq.mpr cv
                    have CV := Aside0.mk cv
                    clear cv
                    go_wp2_with (first | (go_at_call 41; refine (alive_yes (PM.below H.out (pm_chain (w := w) HB.out (by (repeat (first | (with_reducible exact Below.refl _ _) | (with_reducible assumption) | with_reducible apply below_alloc | with_reducible apply pw_below_drewN | with_reducible apply below_drew1)))))).mono ?_; rintro e w9 ⟨rfl, rfl⟩) | (go_at_call 42; refine (name_no _ _ HNM.out).mono ?_; rintro e W1 ⟨nm, hnm, rfl, hB1⟩; have hN := pm_chain (w := wc) (by (repeat (first | (with_reducible exact Below.refl _ _) | (with_reducible assumption) | with_reducible apply below_alloc | with_reducible apply pw_below_drewN | with_reducible apply below_drew1))) hB1; clear hB1; have RA := blk_below HRA.out hN; have RB := blk_below HRB.out hN; have R8 := blk_below HR8.out hN; have hB := pm_chain (w := w) HB.out hN; clear HRA HRB HR8 HB hN; obtain ⟨⟨ha0, ha1, ha2⟩, _⟩ := know3 RA; obtain ⟨⟨hb0, hb1, hb2⟩, _⟩ := know3 RB; obtain ⟨⟨hz0, hz1, hz2⟩, hf0, hf1, hf2⟩ := know3 R8; (try simp only at hz0 hz1 hz2); have HRA := Aside0.mk RA; have HRB := Aside0.mk RB; have HR8 := Aside0.mk R8; have HB := Aside0.mk hB; clear RA RB R8 hB))
                    obtain ⟨da0, _⟩ := (H.out.below HB.out).rcells HRM.out.1.1
                    obtain ⟨db0, _⟩ := (H.out.below HB.out).rcells HRM.out.2.1
                    have hxx := hx.out
                    have e1 : IntKind.i64.wrap av = av := IntWalk.i64_in _ (by omega)
                    have e2 : IntKind.i64.wrap bv = bv := IntWalk.i64_in _ (by omega)
                    clear hxx
                    go_quiet (fail)
                    go_wp2_with (fail)
                    go_at_call 47
                    refine (truth_calls _ true).mono ?_
                    rintro e W2 ⟨rfl, hB2⟩
                    have hB3 := pm_chain (w := W1) (by (repeat (first | (with_reducible exact Below.refl _ _) | (with_reducible assumption) | with_reducible apply below_alloc | with_reducible apply pw_below_drewN | with_reducible apply below_drew1))) hB2
                    obtain ⟨⟨hz0, hz1, hz2⟩, hf0, hf1, hf2⟩ := know3 (blk_below HR8.out hB3)
                    (try simp only at hz0 hz1 hz2)
                    simp only [ans, truthV, V3.enc, V3.z]
                    go_wp2_with (fail)
                    refine bodyPost_ret (results_ct rfl _ _ g8 51 _ (0, 0) _ rfl (put3 (blk_below HR8.out hB3) _ _ _) Try.underlying51 rfl (by kernel_rfl)) rfl ?_
                    exact ⟨by rw [← hA.out]; simp [CV.out, CB2.out] <;> rfl, by have hB := pm_chain (w := w) HB.out hB3; obtain ⟨_, _, hq⟩ := HG.out; (repeat (first | (with_reducible exact Below.refl _ _) | (with_reducible assumption) | with_reducible apply below_alloc | with_reducible apply pw_below_drewN | with_reducible apply below_drew1 | (refine below_set ?_ (by omega))))⟩
                  · have fv : (av == bv) = false := beq_eq_false_iff_ne.mpr cv
                    have CV := Aside0.mk cv
                    clear cv
                    go_wp2_with (first | (go_at_call 41; refine (alive_yes (PM.below H.out (pm_chain (w := w) HB.out (by (repeat (first | (with_reducible exact Below.refl _ _) | (with_reducible assumption) | with_reducible apply below_alloc | with_reducible apply pw_below_drewN | with_reducible apply below_drew1)))))).mono ?_; rintro e w9 ⟨rfl, rfl⟩) | (go_at_call 42; refine (name_no _ _ HNM.out).mono ?_; rintro e W1 ⟨nm, hnm, rfl, hB1⟩; have hN := pm_chain (w := wc) (by (repeat (first | (with_reducible exact Below.refl _ _) | (with_reducible assumption) | with_reducible apply below_alloc | with_reducible apply pw_below_drewN | with_reducible apply below_drew1))) hB1; clear hB1; have RA := blk_below HRA.out hN; have RB := blk_below HRB.out hN; have R8 := blk_below HR8.out hN; have hB := pm_chain (w := w) HB.out hN; clear HRA HRB HR8 HB hN; obtain ⟨⟨ha0, ha1, ha2⟩, _⟩ := know3 RA; obtain ⟨⟨hb0, hb1, hb2⟩, _⟩ := know3 RB; obtain ⟨⟨hz0, hz1, hz2⟩, hf0, hf1, hf2⟩ := know3 R8; (try simp only at hz0 hz1 hz2); have HRA := Aside0.mk RA; have HRB := Aside0.mk RB; have HR8 := Aside0.mk R8; have HB := Aside0.mk hB; clear RA RB R8 hB))
                    obtain ⟨da0, _⟩ := (H.out.below HB.out).rcells HRM.out.1.1
                    obtain ⟨db0, _⟩ := (H.out.below HB.out).rcells HRM.out.2.1
                    have hxx := hx.out
                    have e1 : IntKind.i64.wrap av = av := IntWalk.i64_in _ (by omega)
                    have e2 : IntKind.i64.wrap bv = bv := IntWalk.i64_in _ (by omega)
                    clear hxx
                    go_quiet (fail)
                    go_wp2_with (fail)
                    go_at_call 47
                    refine (truth_calls _ false).mono ?_
                    rintro e W2 ⟨rfl, hB2⟩
                    have hB3 := pm_chain (w := W1) (by (repeat (first | (with_reducible exact Below.refl _ _) | (with_reducible assumption) | with_reducible apply below_alloc | with_reducible apply pw_below_drewN | with_reducible apply below_drew1))) hB2
                    obtain ⟨⟨hz0, hz1, hz2⟩, hf0, hf1, hf2⟩ := know3 (blk_below HR8.out hB3)
                    (try simp only at hz0 hz1 hz2)
                    simp only [ans, truthV, V3.enc, V3.z]
                    go_wp2_with (fail)
                    refine bodyPost_ret (results_ct rfl _ _ g8 51 _ (0, 0) _ rfl (put3 (blk_below HR8.out hB3) _ _ _) Try.underlying51 rfl (by kernel_rfl)) rfl ?_
                    exact ⟨by rw [← hA.out]; simp [beq_eq_false_iff_ne.mpr CV.out, CB2.out] <;> rfl, by have hB := pm_chain (w := w) HB.out hB3; obtain ⟨_, _, hq⟩ := HG.out; (repeat (first | (with_reducible exact Below.refl _ _) | (with_reducible assumption) | with_reducible apply below_alloc | with_reducible apply pw_below_drewN | with_reducible apply below_drew1 | (refine below_set ?_ (by omega))))⟩
                · have f1 : (ab != bb) = true := bne_iff_ne.mpr cb2
                  have f2 : (ab == bb) = false := beq_eq_false_iff_ne.mpr cb2
                  have CB2 := Aside0.mk cb2
                  clear cb2
                  by_cases ca : av = ra.cs.length
                  · rw [if_pos ⟨CB2.out, .inl ca⟩] at hA
                    have f3 : (av == (ra.cs.length : Int)) = true := beq_iff_eq.mpr ca
                    have CA := Aside0.mk ca
                    clear ca
                    go_wp2_with (first | (go_at_call 41; refine (alive_yes (PM.below H.out (pm_chain (w := w) HB.out (by (repeat (first | (with_reducible exact Below.refl _ _) | (with_reducible assumption) | with_reducible apply below_alloc | with_reducible apply pw_below_drewN | with_reducible apply below_drew1)))))).mono ?_; rintro e w9 ⟨rfl, rfl⟩) | (go_at_call 42; refine (name_no _ _ HNM.out).mono ?_; rintro e W1 ⟨nm, hnm, rfl, hB1⟩; have hN := pm_chain (w := wc) (by (repeat (first | (with_reducible exact Below.refl _ _) | (with_reducible assumption) | with_reducible apply below_alloc | with_reducible apply pw_below_drewN | with_reducible apply below_drew1))) hB1; clear hB1; have RA := blk_below HRA.out hN; have RB := blk_below HRB.out hN; have R8 := blk_below HR8.out hN; have hB := pm_chain (w := w) HB.out hN; clear HRA HRB HR8 HB hN; obtain ⟨⟨ha0, ha1, ha2⟩, _⟩ := know3 RA; obtain ⟨⟨hb0, hb1, hb2⟩, _⟩ := know3 RB; obtain ⟨⟨hz0, hz1, hz2⟩, hf0, hf1, hf2⟩ := know3 R8; (try simp only at hz0 hz1 hz2); have HRA := Aside0.mk RA; have HRB := Aside0.mk RB; have HR8 := Aside0.mk R8; have HB := Aside0.mk hB; clear RA RB R8 hB))
                    obtain ⟨da0, _⟩ := (H.out.below HB.out).rcells HRM.out.1.1
                    obtain ⟨db0, _⟩ := (H.out.below HB.out).rcells HRM.out.2.1
                    have hxx := hx.out
                    have e1 : IntKind.i64.wrap av = av := IntWalk.i64_in _ (by omega)
                    have e2 : IntKind.i64.wrap bv = bv := IntWalk.i64_in _ (by omega)
                    clear hxx
                    go_quiet (fail)
                    go_wp2_with (fail)
                    go_at_call 43
                    refine (undef_calls _).mono ?_
                    rintro e W2 ⟨rfl, hB2⟩
                    have hB3 := pm_chain (w := W1) (by (repeat (first | (with_reducible exact Below.refl _ _) | (with_reducible assumption) | with_reducible apply below_alloc | with_reducible apply pw_below_drewN | with_reducible apply below_drew1))) hB2
                    obtain ⟨⟨hz0, hz1, hz2⟩, hf0, hf1, hf2⟩ := know3 (blk_below HR8.out hB3)
                    (try simp only at hz0 hz1 hz2)
                    simp only [ans, truthV, V3.enc, V3.z]
                    go_wp2_with (fail)
                    refine bodyPost_ret (results_ct rfl _ _ g8 51 _ (0, 0) _ rfl (put3 (blk_below HR8.out hB3) _ _ _) Try.underlying51 rfl (by kernel_rfl)) rfl ?_
                    exact ⟨by rw [← hA.out]; rfl, by have hB := pm_chain (w := w) HB.out hB3; obtain ⟨_, _, hq⟩ := HG.out; (repeat (first | (with_reducible exact Below.refl _ _) | (with_reducible assumption) | with_reducible apply below_alloc | with_reducible apply pw_below_drewN | with_reducible apply below_drew1 | (refine below_set ?_ (by omega))))⟩
                  · have f3 : (av == (ra.cs.length : Int)) = false := beq_eq_false_iff_ne.mpr ca
                    have CA := Aside0.mk ca
                    clear ca
                    by_cases cc : bv = rb.cs.length
                    · rw [if_pos ⟨CB2.out, .inr cc⟩] at hA
                      have f4 : (bv == (rb.cs.length : Int)) = true := beq_iff_eq.mpr cc
                      have CC := Aside0.mk cc
                      clear cc
                      go_wp2_with (first | (go_at_call 41; refine (alive_yes (PM.below H.out (pm_chain (w := w) HB.out (by (repeat (first | (with_reducible exact Below.refl _ _) | (with_reducible assumption) | with_reducible apply below_alloc | with_reducible apply pw_below_drewN | with_reducible apply below_drew1)))))).mono ?_; rintro e w9 ⟨rfl, rfl⟩) | (go_at_call 42; refine (name_no _ _ HNM.out).mono ?_; rintro e W1 ⟨nm, hnm, rfl, hB1⟩; have hN := pm_chain (w := wc) (by (repeat (first | (with_reducible exact Below.refl _ _) | (with_reducible assumption) | with_reducible apply below_alloc | with_reducible apply pw_below_drewN | with_reducible apply below_drew1))) hB1; clear hB1; have RA := blk_below HRA.out hN; have RB := blk_below HRB.out hN; have R8 := blk_below HR8.out hN; have hB := pm_chain (w := w) HB.out hN; clear HRA HRB HR8 HB hN; obtain ⟨⟨ha0, ha1, ha2⟩, _⟩ := know3 RA; obtain ⟨⟨hb0, hb1, hb2⟩, _⟩ := know3 RB; obtain ⟨⟨hz0, hz1, hz2⟩, hf0, hf1, hf2⟩ := know3 R8; (try simp only at hz0 hz1 hz2); have HRA := Aside0.mk RA; have HRB := Aside0.mk RB; have HR8 := Aside0.mk R8; have HB := Aside0.mk hB; clear RA RB R8 hB))
                      obtain ⟨da0, _⟩ := (H.out.below HB.out).rcells HRM.out.1.1
                      obtain ⟨db0, _⟩ := (H.out.below HB.out).rcells HRM.out.2.1
                      have hxx := hx.out
                      have e1 : IntKind.i64.wrap av = av := IntWalk.i64_in _ (by omega)
                      have e2 : IntKind.i64.wrap bv = bv := IntWalk.i64_in _ (by omega)
                      clear hxx
                      go_quiet (fail)
                      go_wp2_with (fail)
                      go_at_call 43
                      refine (undef_calls _).mono ?_
                      rintro e W2 ⟨rfl, hB2⟩
                      have hB3 := pm_chain (w := W1) (by (repeat (first | (with_reducible exact Below.refl _ _) | (with_reducible assumption) | with_reducible apply below_alloc | with_reducible apply pw_below_drewN | with_reducible apply below_drew1))) hB2
                      obtain ⟨⟨hz0, hz1, hz2⟩, hf0, hf1, hf2⟩ := know3 (blk_below HR8.out hB3)
                      (try simp only at hz0 hz1 hz2)
                      simp only [ans, truthV, V3.enc, V3.z]
                      go_wp2_with (fail)
                      refine bodyPost_ret (results_ct rfl _ _ g8 51 _ (0, 0) _ rfl (put3 (blk_below HR8.out hB3) _ _ _) Try.underlying51 rfl (by kernel_rfl)) rfl ?_
                      exact ⟨by rw [← hA.out]; rfl, by have hB := pm_chain (w := w) HB.out hB3; obtain ⟨_, _, hq⟩ := HG.out; (repeat (first | (with_reducible exact Below.refl _ _) | (with_reducible assumption) | with_reducible apply below_alloc | with_reducible apply pw_below_drewN | with_reducible apply below_drew1 | (refine below_set ?_ (by omega))))⟩
                    · rw [if_neg (fun h => h.2.elim CA.out cc)] at hA
                      have f4 : (bv == (rb.cs.length : Int)) = false := beq_eq_false_iff_ne.mpr cc
                      have CC := Aside0.mk cc
                      clear cc
                      go_wp2_with (first | (go_at_call 41; refine (alive_yes (PM.below H.out (pm_chain (w := w) HB.out (by (repeat (first | (with_reducible exact Below.refl _ _) | (with_reducible assumption) | with_reducible apply below_alloc | with_reducible apply pw_below_drewN | with_reducible apply below_drew1)))))).mono ?_; rintro e w9 ⟨rfl, rfl⟩) | (go_at_call 42; refine (name_no _ _ HNM.out).mono ?_; rintro e W1 ⟨nm, hnm, rfl, hB1⟩; have hN := pm_chain (w := wc) (by (repeat (first | (with_reducible exact Below.refl _ _) | (with_reducible assumption) | with_reducible apply below_alloc | with_reducible apply pw_below_drewN | with_reducible apply below_drew1))) hB1; clear hB1; have RA := blk_below HRA.out hN; have RB := blk_below HRB.out hN; have R8 := blk_below HR8.out hN; have hB := pm_chain (w := w) HB.out hN; clear HRA HRB HR8 HB hN; obtain ⟨⟨ha0, ha1, ha2⟩, _⟩ := know3 RA; obtain ⟨⟨hb0, hb1, hb2⟩, _⟩ := know3 RB; obtain ⟨⟨hz0, hz1, hz2⟩, hf0, hf1, hf2⟩ := know3 R8; (try simp only at hz0 hz1 hz2); have HRA := Aside0.mk RA; have HRB := Aside0.mk RB; have HR8 := Aside0.mk R8; have HB := Aside0.mk hB; clear RA RB R8 hB))
                      obtain ⟨da0, _⟩ := (H.out.below HB.out).rcells HRM.out.1.1
                      obtain ⟨db0, _⟩ := (H.out.below HB.out).rcells HRM.out.2.1
                      have hxx := hx.out
                      have e1 : IntKind.i64.wrap av = av := IntWalk.i64_in _ (by omega)
                      have e2 : IntKind.i64.wrap bv = bv := IntWalk.i64_in _ (by omega)
                      clear hxx
                      go_quiet (fail)
                      go_wp2_with (fail)
                      go_at_call 47
                      refine (truth_calls _ false).mono ?_
                      rintro e W2 ⟨rfl, hB2⟩
                      have hB3 := pm_chain (w := W1) (by (repeat (first | (with_reducible exact Below.refl _ _) | (with_reducible assumption) | with_reducible apply below_alloc | with_reducible apply pw_below_drewN | with_reducible apply below_drew1))) hB2
                      obtain ⟨⟨hz0, hz1, hz2⟩, hf0, hf1, hf2⟩ := know3 (blk_below HR8.out hB3)
                      (try simp only at hz0 hz1 hz2)
                      simp only [ans, truthV, V3.enc, V3.z]
                      go_wp2_with (fail)
                      refine bodyPost_ret (results_ct rfl _ _ g8 51 _ (0, 0) _ rfl (put3 (blk_below HR8.out hB3) _ _ _) Try.underlying51 rfl (by kernel_rfl)) rfl ?_
                      exact ⟨by rw [← hA.out]; simp [beq_eq_false_iff_ne.mpr CB2.out] <;> rfl, by have hB := pm_chain (w := w) HB.out hB3; obtain ⟨_, _, hq⟩ := HG.out; (repeat (first | (with_reducible exact Below.refl _ _) | (with_reducible assumption) | with_reducible apply below_alloc | with_reducible apply pw_below_drewN | with_reducible apply below_drew1 | (refine below_set ?_ (by omega))))⟩
              by_cases o15 : op = 15
              · subst o15
                rw [if_pos (by omega)] at hA
                by_cases cb2 : ab = bb
                · rw [if_neg (fun h => h.1 cb2)] at hA
                  have f1 : (ab != bb) = false := bne_eq_false_iff_eq.mpr cb2
                  have f2 : (ab == bb) = true := beq_iff_eq.mpr cb2
                  have CB2 := Aside0.mk cb2
                  clear cb2
                  by_cases cv : av = bv
                  · have fv : (av == bv) = true := beq_iff_eq.mpr cv
                    have CV := Aside0.mk cv
                    clear cv
                    go_wp2_with (first | (go_at_call 41; refine (alive_yes (PM.below H.out (pm_chain (w := w) HB.out (by (repeat (first | (with_reducible exact Below.refl _ _) | (with_reducible assumption) | with_reducible apply below_alloc | with_reducible apply pw_below_drewN | with_reducible apply below_drew1)))))).mono ?_; rintro e w9 ⟨rfl, rfl⟩) | (go_at_call 42; refine (name_no _ _ HNM.out).mono ?_; rintro e W1 ⟨nm, hnm, rfl, hB1⟩; have hN := pm_chain (w := wc) (by (repeat (first | (with_reducible exact Below.refl _ _) | (with_reducible assumption) | with_reducible apply below_alloc | with_reducible apply pw_below_drewN | with_reducible apply below_drew1))) hB1; clear hB1; have RA := blk_below HRA.out hN; have RB := blk_below HRB.out hN; have R8 := blk_below HR8.out hN; have hB := pm_chain (w := w) HB.out hN; clear HRA HRB HR8 HB hN; obtain ⟨⟨ha0, ha1, ha2⟩, _⟩ := know3 RA; obtain ⟨⟨hb0, hb1, hb2⟩, _⟩ := know3 RB; obtain ⟨⟨hz0, hz1, hz2⟩, hf0, hf1, hf2⟩ := know3 R8; (try simp only at hz0 hz1 hz2); have HRA := Aside0.mk RA; have HRB := Aside0.mk RB; have HR8 := Aside0.mk R8; have HB := Aside0.mk hB; clear RA RB R8 hB))
                    obtain ⟨da0, _⟩ := (H.out.below HB.out).rcells HRM.out.1.1
                    obtain ⟨db0, _⟩ := (H.out.below HB.out).rcells HRM.out.2.1
                    have hxx := hx.out
                    have e1 : IntKind.i64.wrap av = av := IntWalk.i64_in _ (by omega)
                    have e2 : IntKind.i64.wrap bv = bv := IntWalk.i64_in _ (by omega)
                    clear hxx
                    go_quiet (fail)
                    go_wp2_with (fail)
                    go_at_call 47
                    refine (truth_calls _ false).mono ?_
                    rintro e W2 ⟨rfl, hB2⟩
                    have hB3 := pm_chain (w := W1) (by (repeat (first | (with_reducible exact Below.refl _ _) | (with_reducible assumption) | with_reducible apply below_alloc | with_reducible apply pw_below_drewN | with_reducible apply below_drew1))) hB2
                    obtain ⟨⟨hz0, hz1, hz2⟩, hf0, hf1, hf2⟩ := know3 (blk_below HR8.out hB3)
                    (try simp only at hz0 hz1 hz2)
                    simp only [ans, truthV, V3.enc, V3.z]
                    go_wp2_with (fail)
                    refine bodyPost_ret (results_ct rfl _ _ g8 51 _ (0, 0) _ rfl (put3 (blk_below HR8.out hB3) _ _ _) Try.underlying51 rfl (by kernel_rfl)) rfl ?_
                    exact ⟨by rw [← hA.out]; simp [CV.out, CB2.out] <;> rfl, by have hB := pm_chain (w := w) HB.out hB3; obtain ⟨_, _, hq⟩ := HG.out; (repeat (first | (with_reducible exact Below.refl _ _) | (with_reducible assumption) | with_reducible apply below_alloc | with_reducible apply pw_below_drewN | with_reducible apply below_drew1 | (refine below_set ?_ (by omega))))⟩
                  · have fv : (av == bv) = false := beq_eq_false_iff_ne.mpr cv
                    have CV := Aside0.mk cv
                    clear cv
                    go_wp2_with (first | (go_at_call 41; refine (alive_yes (PM.below H.out (pm_chain (w := w) HB.out (by (repeat (first | (with_reducible exact Below.refl _ _) | (with_reducible assumption) | with_reducible apply below_alloc | with_reducible apply pw_below_drewN | with_reducible apply below_drew1)))))).mono ?_; rintro e w9 ⟨rfl, rfl⟩) | (go_at_call 42; refine (name_no _ _ HNM.out).mono ?_; rintro e W1 ⟨nm, hnm, rfl, hB1⟩; have hN := pm_chain (w := wc) (by (repeat (first | (with_reducible exact Below.refl _ _) | (with_reducible assumption) | with_reducible apply below_alloc | with_reducible apply pw_below_drewN | with_reducible apply below_drew1))) hB1; clear hB1; have RA := blk_below HRA.out hN; have RB := blk_below HRB.out hN; have R8 := blk_below HR8.out hN; have hB := pm_chain (w := w) HB.out hN; clear HRA HRB HR8 HB hN; obtain ⟨⟨ha0, ha1, ha2⟩, _⟩ := know3 RA; obtain ⟨⟨hb0, hb1, hb2⟩, _⟩ := know3 RB; obtain ⟨⟨hz0, hz1, hz2⟩, hf0, hf1, hf2⟩ := know3 R8; (try simp only at hz0 hz1 hz2); have HRA := Aside0.mk RA; have HRB := Aside0.mk RB; have HR8 := Aside0.mk R8; have HB := Aside0.mk hB; clear RA RB R8 hB))
                    obtain ⟨da0, _⟩ := (H.out.below HB.out).rcells HRM.out.1.1
                    obtain ⟨db0, _⟩ := (H.out.below HB.out).rcells HRM.out.2.1
                    have hxx := hx.out
                    have e1 : IntKind.i64.wrap av = av := IntWalk.i64_in _ (by omega)
                    have e2 : IntKind.i64.wrap bv = bv := IntWalk.i64_in _ (by omega)
                    clear hxx
                    go_quiet (fail)
                    go_wp2_with (fail)
                    go_at_call 47
                    refine (truth_calls _ true).mono ?_
                    rintro e W2 ⟨rfl, hB2⟩
                    have hB3 := pm_chain (w := W1) (by (repeat (first | (with_reducible exact Below.refl _ _) | (with_reducible assumption) | with_reducible apply below_alloc | with_reducible apply pw_below_drewN | with_reducible apply below_drew1))) hB2
                    obtain ⟨⟨hz0, hz1, hz2⟩, hf0, hf1, hf2⟩ := know3 (blk_below HR8.out hB3)
                    (try simp only at hz0 hz1 hz2)
                    simp only [ans, truthV, V3.enc, V3.z]
                    go_wp2_with (fail)
                    refine bodyPost_ret (results_ct rfl _ _ g8 51 _ (0, 0) _ rfl (put3 (blk_below HR8.out hB3) _ _ _) Try.underlying51 rfl (by kernel_rfl)) rfl ?_
                    exact ⟨by rw [← hA.out]; simp [beq_eq_false_iff_ne.mpr CV.out, CB2.out] <;> rfl, by have hB := pm_chain (w := w) HB.out hB3; obtain ⟨_, _, hq⟩ := HG.out; (repeat (first | (with_reducible exact Below.refl _ _) | (with_reducible assumption) | with_reducible apply below_alloc | with_reducible apply pw_below_drewN | with_reducible apply below_drew1 | (refine below_set ?_ (by omega))))⟩
                · have f1 : (ab != bb) = true := bne_iff_ne.mpr cb2
                  have f2 : (ab == bb) = false := beq_eq_false_iff_ne.mpr cb2
                  have CB2 := Aside0.mk cb2
                  clear cb2
                  by_cases ca : av = ra.cs.length
                  · rw [if_pos ⟨CB2.out, .inl ca⟩] at hA
                    have f3 : (av == (ra.cs.length : Int)) = true := beq_iff_eq.mpr ca
                    have CA := Aside0.mk ca
                    clear ca
                    go_wp2_with (first | (go_at_call 41; refine (alive_yes (PM.below H.out (pm_chain (w := w) HB.out (by (repeat (first | (with_reducible exact Below.refl _ _) | (with_reducible assumption) | with_reducible apply below_alloc | with_reducible apply pw_below_drewN | with_reducible apply below_drew1)))))).mono ?_; rintro e w9 ⟨rfl, rfl⟩) | (go_at_call 42; refine (name_no _ _ HNM.out).mono ?_; rintro e W1 ⟨nm, hnm, rfl, hB1⟩; have hN := pm_chain (w := wc) (by (repeat (first | (with_reducible exact Below.refl _ _) | (with_reducible assumption) | with_reducible apply below_alloc | with_reducible apply pw_below_drewN | with_reducible apply below_drew1))) hB1; clear hB1; have RA := blk_below HRA.out hN; have RB := blk_below HRB.out hN; have R8 := blk_below HR8.out hN; have hB := pm_chain (w := w) HB.out hN; clear HRA HRB HR8 HB hN; obtain ⟨⟨ha0, ha1, ha2⟩, _⟩ := know3 RA; obtain ⟨⟨hb0, hb1, hb2⟩, _⟩ := know3 RB; obtain ⟨⟨hz0, hz1, hz2⟩, hf0, hf1, hf2⟩ := know3 R8; (try simp only at hz0 hz1 hz2); have HRA := Aside0.mk RA; have HRB := Aside0.mk RB; have HR8 := Aside0.mk R8; have HB := Aside0.mk hB; clear RA RB R8 hB))
                    obtain ⟨da0, _⟩ := (H.out.below HB.out).rcells HRM.out.1.1
                    obtain ⟨db0, _⟩ := (H.out.below HB.out).rcells HRM.out.2.1
                    have hxx := hx.out
                    have e1 : IntKind.i64.wrap av = av := IntWalk.i64_in _ (by omega)
                    have e2 : IntKind.i64.wrap bv = bv := IntWalk.i64_in _ (by omega)
                    clear hxx
                    go_quiet (fail)
                    go_wp2_with (fail)
                    go_at_call 43
                    refine (undef_calls _).mono ?_
                    rintro e W2 ⟨rfl, hB2⟩
                    have hB3 := pm_chain (w := W1) (by (repeat (first | (with_reducible exact Below.refl _ _) | (with_reducible assumption) | with_reducible apply below_alloc | with_reducible apply pw_below_drewN | with_reducible apply below_drew1))) hB2
                    obtain ⟨⟨hz0, hz1, hz2⟩, hf0, hf1, hf2⟩ := know3 (blk_below HR8.out hB3)
                    (try simp only at hz0 hz1 hz2)
                    simp only [ans, truthV, V3.enc, V3.z]
                    go_wp2_with (fail)
                    refine bodyPost_ret (results_ct rfl _ _ g8 51 _ (0, 0) _ rfl (put3 (blk_below HR8.out hB3) _ _ _) Try.underlying51 rfl (by kernel_rfl)) rfl ?_
                    exact ⟨by rw [← hA.out]; rfl, by have hB := pm_chain (w := w) HB.out hB3; obtain ⟨_, _, hq⟩ := HG.out; (repeat (first | (with_reducible exact Below.refl _ _) | (with_reducible assumption) | with_reducible apply below_alloc | with_reducible apply pw_below_drewN | with_reducible apply below_drew1 | (refine below_set ?_ (by omega))))⟩
                  · have f3 : (av == (ra.cs.length : Int)) = false := beq_eq_false_iff_ne.mpr ca
                    have CA := Aside0.mk ca
                    clear ca
                    by_cases cc : bv = rb.cs.length
                    · rw [if_pos ⟨CB2.out, .inr cc⟩] at hA
                      have f4 : (bv == (rb.cs.length : Int)) = true := beq_iff_eq.mpr cc
                      have CC := Aside0.mk cc
                      clear cc
                      go_wp2_with (first | (go_at_call 41; refine (alive_yes (PM.below H.out (pm_chain (w := w) HB.out (by (repeat (first | (with_reducible exact Below.refl _ _) | (with_reducible assumption) | with_reducible apply below_alloc | with_reducible apply pw_below_drewN | with_reducible apply below_drew1)))))).mono ?_; rintro e w9 ⟨rfl, rfl⟩) | (go_at_call 42; refine (name_no _ _ HNM.out).mono ?_; rintro e W1 ⟨nm, hnm, rfl, hB1⟩; have hN := pm_chain (w := wc) (by (repeat (first | (with_reducible exact Below.refl _ _) | (with_reducible assumption) | with_reducible apply below_alloc | with_reducible apply pw_below_drewN | with_reducible apply below_drew1))) hB1; clear hB1; have RA := blk_below HRA.out hN; have RB := blk_below HRB.out hN; have R8 := blk_below HR8.out hN; have hB := pm_chain (w := w) HB.out hN; clear HRA HRB HR8 HB hN; obtain ⟨⟨ha0, ha1, ha2⟩, _⟩ := know3 RA; obtain ⟨⟨hb0, hb1, hb2⟩, _⟩ := know3 RB; obtain ⟨⟨hz0, hz1, hz2⟩, hf0, hf1, hf2⟩ := know3 R8; (try simp only at hz0 hz1 hz2); have HRA := Aside0.mk RA; have HRB := Aside0.mk RB; have HR8 := Aside0.mk R8; have HB := Aside0.mk hB; clear RA RB R8 hB))
                      obtain ⟨da0, _⟩ := (H.out.below HB.out).rcells HRM.out.1.1
                      obtain ⟨db0, _⟩ := (H.out.below HB.out).rcells HRM.out.2.1
                      have hxx := hx.out
                      have e1 : IntKind.i64.wrap av = av := IntWalk.i64_in _ (by omega)
                      have e2 : IntKind.i64.wrap bv = bv := IntWalk.i64_in _ (by omega)
                      clear hxx
                      go_quiet (fail)
                      go_wp2_with (fail)
                      go_at_call 43
                      refine (undef_calls _).mono ?_
                      rintro e W2 ⟨rfl, hB2⟩
                      have hB3 := pm_chain (w := W1) (by (repeat (first | (with_reducible exact Below.refl _ _) | (with_reducible assumption) | with_reducible apply below_alloc | with_reducible apply pw_below_drewN | with_reducible apply below_drew1))) hB2
                      obtain ⟨⟨hz0, hz1, hz2⟩, hf0, hf1, hf2⟩ := know3 (blk_below HR8.out hB3)
                      (try simp only at hz0 hz1 hz2)
                      simp only [ans, truthV, V3.enc, V3.z]
                      go_wp2_with (fail)
                      refine bodyPost_ret (results_ct rfl _ _ g8 51 _ (0, 0) _ rfl (put3 (blk_below HR8.out hB3) _ _ _) Try.underlying51 rfl (by kernel_rfl)) rfl ?_
                      exact ⟨by rw [← hA.out]; rfl, by have hB := pm_chain (w := w) HB.out hB3; obtain ⟨_, _, hq⟩ := HG.out; (repeat (first | (with_reducible exact Below.refl _ _) | (with_reducible assumption) | with_reducible apply below_alloc | with_reducible apply pw_below_drewN | with_reducible apply below_drew1 | (refine below_set ?_ (by omega))))⟩
                    · rw [if_neg (fun h => h.2.elim CA.out cc)] at hA
                      have f4 : (bv == (rb.cs.length : Int)) = false := beq_eq_false_iff_ne.mpr cc
                      have CC := Aside0.mk cc
                      clear cc
                      go_wp2_with (first | (go_at_call 41; refine (alive_yes (PM.below H.out (pm_chain (w := w) HB.out (by (repeat (first | (with_reducible exact Below.refl _ _) | (with_reducible assumption) | with_reducible apply below_alloc | with_reducible apply pw_below_drewN | with_reducible apply below_drew1)))))).mono ?_; rintro e w9 ⟨rfl, rfl⟩) | (go_at_call 42; refine (name_no _ _ HNM.out).mono ?_; rintro e W1 ⟨nm, hnm, rfl, hB1⟩; have hN := pm_chain (w := wc) (by (repeat (first | (with_reducible exact Below.refl _ _) | (with_reducible assumption) | with_reducible apply below_alloc | with_reducible apply pw_below_drewN | with_reducible apply below_drew1))) hB1; clear hB1; have RA := blk_below HRA.out hN; have RB := blk_below HRB.out hN; have R8 := blk_below HR8.out hN; have hB := pm_chain (w := w) HB.out hN; clear HRA HRB HR8 HB hN; obtain ⟨⟨ha0, ha1, ha2⟩, _⟩ := know3 RA; obtain ⟨⟨hb0, hb1, hb2⟩, _⟩ := know3 RB; obtain ⟨⟨hz0, hz1, hz2⟩, hf0, hf1, hf2⟩ := know3 R8; (try simp only at hz0 hz1 hz2); have HRA := Aside0.mk RA; have HRB := Aside0.mk RB; have HR8 := Aside0.mk R8; have HB := Aside0.mk hB; clear RA RB R8 hB))
                      obtain ⟨da0, _⟩ := (H.out.below HB.out).rcells HRM.out.1.1
                      obtain ⟨db0, _⟩ := (H.out.below HB.out).rcells HRM.out.2.1
                      have hxx := hx.out
                      have e1 : IntKind.i64.wrap av = av := IntWalk.i64_in _ (by omega)
                      have e2 : IntKind.i64.wrap bv = bv := IntWalk.i64_in _ (by omega)
                      clear hxx
                      go_quiet (fail)
                      go_wp2_with (fail)
                      go_at_call 47
                      refine (truth_calls _ true).mono ?_
                      rintro e W2 ⟨rfl, hB2⟩
                      have hB3 := pm_chain (w := W1) (by (repeat (first | (with_reducible exact Below.refl _ _) | (with_reducible assumption) | with_reducible apply below_alloc | with_reducible apply pw_below_drewN | with_reducible apply below_drew1))) hB2
                      obtain ⟨⟨hz0, hz1, hz2⟩, hf0, hf1, hf2⟩ := know3 (blk_below HR8.out hB3)
                      (try simp only at hz0 hz1 hz2)
                      simp only [ans, truthV, V3.enc, V3.z]
                      go_wp2_with (fail)
                      refine bodyPost_ret (results_ct rfl _ _ g8 51 _ (0, 0) _ rfl (put3 (blk_below HR8.out hB3) _ _ _) Try.underlying51 rfl (by kernel_rfl)) rfl ?_
                      exact ⟨by rw [← hA.out]; simp [beq_eq_false_iff_ne.mpr CB2.out] <;> rfl, by have hB := pm_chain (w := w) HB.out hB3; obtain ⟨_, _, hq⟩ := HG.out; (repeat (first | (with_reducible exact Below.refl _ _) | (with_reducible assumption) | with_reducible apply below_alloc | with_reducible apply pw_below_drewN | with_reducible apply below_drew1 | (refine below_set ?_ (by omega))))⟩
              rw [if_neg (by omega)] at hA
              have g14 : (op == 14) = false := beq_eq_false_iff_ne.mpr o14
              have g15 : (op == 15) = false := beq_eq_false_iff_ne.mpr o15
              have OO := Aside0.mk (And.intro o14 o15)
              clear o14 o15
              by_cases cb2 : ab = bb
              · rw [if_neg (fun h => h cb2)] at hA
                have f1 : (ab != bb) = false := bne_eq_false_iff_eq.mpr cb2
                have CB2 := Aside0.mk cb2
                clear cb2
                by_cases o2 : op = 2
                · subst o2
                  rw [if_pos rfl] at hA
                  go_wp2_with (first | (go_at_call 41; refine (alive_yes (PM.below H.out (pm_chain (w := w) HB.out (by (repeat (first | (with_reducible exact Below.refl _ _) | (with_reducible assumption) | with_reducible apply below_alloc | with_reducible apply pw_below_drewN | with_reducible apply below_drew1)))))).mono ?_; rintro e w9 ⟨rfl, rfl⟩) | (go_at_call 42; refine (name_no _ _ HNM.out).mono ?_; rintro e W1 ⟨nm, hnm, rfl, hB1⟩; have hN := pm_chain (w := wc) (by (repeat (first | (with_reducible exact Below.refl _ _) | (with_reducible assumption) | with_reducible apply below_alloc | with_reducible apply pw_below_drewN | with_reducible apply below_drew1))) hB1; clear hB1; have RA := blk_below HRA.out hN; have RB := blk_below HRB.out hN; have R8 := blk_below HR8.out hN; have hB := pm_chain (w := w) HB.out hN; clear HRA HRB HR8 HB hN; obtain ⟨⟨ha0, ha1, ha2⟩, _⟩ := know3 RA; obtain ⟨⟨hb0, hb1, hb2⟩, _⟩ := know3 RB; obtain ⟨⟨hz0, hz1, hz2⟩, hf0, hf1, hf2⟩ := know3 R8; (try simp only at hz0 hz1 hz2); have HRA := Aside0.mk RA; have HRB := Aside0.mk RB; have HR8 := Aside0.mk R8; have HB := Aside0.mk hB; clear RA RB R8 hB))
                  go_at_call 45
                  refine (memory_number.calls ((av - bv) % 4294967296) 1 ((av - bv) % 4294967296) 0 _ rfl).mono ?_
                  rintro e W2 ⟨rfl, hB2⟩
                  have hB3 := pm_chain (w := W1) (by (repeat (first | (with_reducible exact Below.refl _ _) | (with_reducible assumption) | with_reducible apply below_alloc | with_reducible apply pw_below_drewN | with_reducible apply below_drew1))) hB2
                  obtain ⟨⟨hz0, hz1, hz2⟩, hf0, hf1, hf2⟩ := know3 (blk_below HR8.out hB3)
                  (try simp only at hz0 hz1 hz2)
                  skip
                  go_wp2_with (fail)
                  refine bodyPost_ret (results_ct rfl _ _ g8 51 _ (0, 0) _ rfl (put3 (blk_below HR8.out hB3) _ _ _) Try.underlying51 rfl (by kernel_rfl)) rfl ?_
                  exact ⟨by rw [← hA.out]; rfl, by have hB := pm_chain (w := w) HB.out hB3; obtain ⟨_, _, hq⟩ := HG.out; (repeat (first | (with_reducible exact Below.refl _ _) | (with_reducible assumption) | with_reducible apply below_alloc | with_reducible apply pw_below_drewN | with_reducible apply below_drew1 | (refine below_set ?_ (by omega))))⟩
                rw [if_neg o2] at hA
                have g2 : (op == 2) = false := beq_eq_false_iff_ne.mpr o2
                by_cases o16 : op = 16 ∨ op = 17
                · rw [if_pos o16] at hA
                  by_cases cv : av < bv
                  · have fv : decide (av < bv) = true := by simp; omega
                    rw [fv] at hA
                    clear cv
                    rcases o16 with rfl | rfl
                    all_goals
                      go_wp2_with (first | (go_at_call 41; refine (alive_yes (PM.below H.out (pm_chain (w := w) HB.out (by (repeat (first | (with_reducible exact Below.refl _ _) | (with_reducible assumption) | with_reducible apply below_alloc | with_reducible apply pw_below_drewN | with_reducible apply below_drew1)))))).mono ?_; rintro e w9 ⟨rfl, rfl⟩) | (go_at_call 42; refine (name_no _ _ HNM.out).mono ?_; rintro e W1 ⟨nm, hnm, rfl, hB1⟩; have hN := pm_chain (w := wc) (by (repeat (first | (with_reducible exact Below.refl _ _) | (with_reducible assumption) | with_reducible apply below_alloc | with_reducible apply pw_below_drewN | with_reducible apply below_drew1))) hB1; clear hB1; have RA := blk_below HRA.out hN; have RB := blk_below HRB.out hN; have R8 := blk_below HR8.out hN; have hB := pm_chain (w := w) HB.out hN; clear HRA HRB HR8 HB hN; obtain ⟨⟨ha0, ha1, ha2⟩, _⟩ := know3 RA; obtain ⟨⟨hb0, hb1, hb2⟩, _⟩ := know3 RB; obtain ⟨⟨hz0, hz1, hz2⟩, hf0, hf1, hf2⟩ := know3 R8; (try simp only at hz0 hz1 hz2); have HRA := Aside0.mk RA; have HRB := Aside0.mk RB; have HR8 := Aside0.mk R8; have HB := Aside0.mk hB; clear RA RB R8 hB))
                      go_at_call 47
                      refine (truth_calls _ true).mono ?_
                      rintro e W2 ⟨rfl, hB2⟩
                      have hB3 := pm_chain (w := W1) (by (repeat (first | (with_reducible exact Below.refl _ _) | (with_reducible assumption) | with_reducible apply below_alloc | with_reducible apply pw_below_drewN | with_reducible apply below_drew1))) hB2
                      obtain ⟨⟨hz0, hz1, hz2⟩, hf0, hf1, hf2⟩ := know3 (blk_below HR8.out hB3)
                      (try simp only at hz0 hz1 hz2)
                      simp only [ans, truthV, V3.enc, V3.z]
                      go_wp2_with (fail)
                      refine bodyPost_ret (results_ct rfl _ _ g8 51 _ (0, 0) _ rfl (put3 (blk_below HR8.out hB3) _ _ _) Try.underlying51 rfl (by kernel_rfl)) rfl ?_
                      exact ⟨by rw [← hA.out]; rfl, by have hB := pm_chain (w := w) HB.out hB3; obtain ⟨_, _, hq⟩ := HG.out; (repeat (first | (with_reducible exact Below.refl _ _) | (with_reducible assumption) | with_reducible apply below_alloc | with_reducible apply pw_below_drewN | with_reducible apply below_drew1 | (refine below_set ?_ (by omega))))⟩
                  · have fv : decide (av < bv) = false := by simp; omega
                    rw [fv] at hA
                    clear cv
                    rcases o16 with rfl | rfl
                    all_goals
                      go_wp2_with (first | (go_at_call 41; refine (alive_yes (PM.below H.out (pm_chain (w := w) HB.out (by (repeat (first | (with_reducible exact Below.refl _ _) | (with_reducible assumption) | with_reducible apply below_alloc | with_reducible apply pw_below_drewN | with_reducible apply below_drew1)))))).mono ?_; rintro e w9 ⟨rfl, rfl⟩) | (go_at_call 42; refine (name_no _ _ HNM.out).mono ?_; rintro e W1 ⟨nm, hnm, rfl, hB1⟩; have hN := pm_chain (w := wc) (by (repeat (first | (with_reducible exact Below.refl _ _) | (with_reducible assumption) | with_reducible apply below_alloc | with_reducible apply pw_below_drewN | with_reducible apply below_drew1))) hB1; clear hB1; have RA := blk_below HRA.out hN; have RB := blk_below HRB.out hN; have R8 := blk_below HR8.out hN; have hB := pm_chain (w := w) HB.out hN; clear HRA HRB HR8 HB hN; obtain ⟨⟨ha0, ha1, ha2⟩, _⟩ := know3 RA; obtain ⟨⟨hb0, hb1, hb2⟩, _⟩ := know3 RB; obtain ⟨⟨hz0, hz1, hz2⟩, hf0, hf1, hf2⟩ := know3 R8; (try simp only at hz0 hz1 hz2); have HRA := Aside0.mk RA; have HRB := Aside0.mk RB; have HR8 := Aside0.mk R8; have HB := Aside0.mk hB; clear RA RB R8 hB))
                      go_at_call 47
                      refine (truth_calls _ false).mono ?_
                      rintro e W2 ⟨rfl, hB2⟩
                      have hB3 := pm_chain (w := W1) (by (repeat (first | (with_reducible exact Below.refl _ _) | (with_reducible assumption) | with_reducible apply below_alloc | with_reducible apply pw_below_drewN | with_reducible apply below_drew1))) hB2
                      obtain ⟨⟨hz0, hz1, hz2⟩, hf0, hf1, hf2⟩ := know3 (blk_below HR8.out hB3)
                      (try simp only at hz0 hz1 hz2)
                      simp only [ans, truthV, V3.enc, V3.z]
                      go_wp2_with (fail)
                      refine bodyPost_ret (results_ct rfl _ _ g8 51 _ (0, 0) _ rfl (put3 (blk_below HR8.out hB3) _ _ _) Try.underlying51 rfl (by kernel_rfl)) rfl ?_
                      exact ⟨by rw [← hA.out]; rfl, by have hB := pm_chain (w := w) HB.out hB3; obtain ⟨_, _, hq⟩ := HG.out; (repeat (first | (with_reducible exact Below.refl _ _) | (with_reducible assumption) | with_reducible apply below_alloc | with_reducible apply pw_below_drewN | with_reducible apply below_drew1 | (refine below_set ?_ (by omega))))⟩
                rw [if_neg o16] at hA
                have g16 : (op == 16) = false := beq_eq_false_iff_ne.mpr (fun e => o16 (.inl e))
                have g17 : (op == 17) = false := beq_eq_false_iff_ne.mpr (fun e => o16 (.inr e))
                by_cases o18 : op = 18 ∨ op = 19
                · rw [if_pos o18] at hA
                  by_cases cv : av ≤ bv
                  · have fv : decide (av ≤ bv) = true := by simp; omega
                    rw [fv] at hA
                    clear cv
                    rcases o18 with rfl | rfl
                    all_goals
                      go_wp2_with (first | (go_at_call 41; refine (alive_yes (PM.below H.out (pm_chain (w := w) HB.out (by (repeat (first | (with_reducible exact Below.refl _ _) | (with_reducible assumption) | with_reducible apply below_alloc | with_reducible apply pw_below_drewN | with_reducible apply below_drew1)))))).mono ?_; rintro e w9 ⟨rfl, rfl⟩) | (go_at_call 42; refine (name_no _ _ HNM.out).mono ?_; rintro e W1 ⟨nm, hnm, rfl, hB1⟩; have hN := pm_chain (w := wc) (by (repeat (first | (with_reducible exact Below.refl _ _) | (with_reducible assumption) | with_reducible apply below_alloc | with_reducible apply pw_below_drewN | with_reducible apply below_drew1))) hB1; clear hB1; have RA := blk_below HRA.out hN; have RB := blk_below HRB.out hN; have R8 := blk_below HR8.out hN; have hB := pm_chain (w := w) HB.out hN; clear HRA HRB HR8 HB hN; obtain ⟨⟨ha0, ha1, ha2⟩, _⟩ := know3 RA; obtain ⟨⟨hb0, hb1, hb2⟩, _⟩ := know3 RB; obtain ⟨⟨hz0, hz1, hz2⟩, hf0, hf1, hf2⟩ := know3 R8; (try simp only at hz0 hz1 hz2); have HRA := Aside0.mk RA; have HRB := Aside0.mk RB; have HR8 := Aside0.mk R8; have HB := Aside0.mk hB; clear RA RB R8 hB))
                      go_at_call 47
                      refine (truth_calls _ true).mono ?_
                      rintro e W2 ⟨rfl, hB2⟩
                      have hB3 := pm_chain (w := W1) (by (repeat (first | (with_reducible exact Below.refl _ _) | (with_reducible assumption) | with_reducible apply below_alloc | with_reducible apply pw_below_drewN | with_reducible apply below_drew1))) hB2
                      obtain ⟨⟨hz0, hz1, hz2⟩, hf0, hf1, hf2⟩ := know3 (blk_below HR8.out hB3)
                      (try simp only at hz0 hz1 hz2)
                      simp only [ans, truthV, V3.enc, V3.z]
                      go_wp2_with (fail)
                      refine bodyPost_ret (results_ct rfl _ _ g8 51 _ (0, 0) _ rfl (put3 (blk_below HR8.out hB3) _ _ _) Try.underlying51 rfl (by kernel_rfl)) rfl ?_
                      exact ⟨by rw [← hA.out]; rfl, by have hB := pm_chain (w := w) HB.out hB3; obtain ⟨_, _, hq⟩ := HG.out; (repeat (first | (with_reducible exact Below.refl _ _) | (with_reducible assumption) | with_reducible apply below_alloc | with_reducible apply pw_below_drewN | with_reducible apply below_drew1 | (refine below_set ?_ (by omega))))⟩
                  · have fv : decide (av ≤ bv) = false := by simp; omega
                    rw [fv] at hA
                    clear cv
                    rcases o18 with rfl | rfl
                    all_goals
                      go_wp2_with (first | (go_at_call 41; refine (alive_yes (PM.below H.out (pm_chain (w := w) HB.out (by (repeat (first | (with_reducible exact Below.refl _ _) | (with_reducible assumption) | with_reducible apply below_alloc | with_reducible apply pw_below_drewN | with_reducible apply below_drew1)))))).mono ?_; rintro e w9 ⟨rfl, rfl⟩) | (go_at_call 42; refine (name_no _ _ HNM.out).mono ?_; rintro e W1 ⟨nm, hnm, rfl, hB1⟩; have hN := pm_chain (w := wc) (by (repeat (first | (with_reducible exact Below.refl _ _) | (with_reducible assumption) | with_reducible apply below_alloc | with_reducible apply pw_below_drewN | with_reducible apply below_drew1))) hB1; clear hB1; have RA := blk_below HRA.out hN; have RB := blk_below HRB.out hN; have R8 := blk_below HR8.out hN; have hB := pm_chain (w := w) HB.out hN; clear HRA HRB HR8 HB hN; obtain ⟨⟨ha0, ha1, ha2⟩, _⟩ := know3 RA; obtain ⟨⟨hb0, hb1, hb2⟩, _⟩ := know3 RB; obtain ⟨⟨hz0, hz1, hz2⟩, hf0, hf1, hf2⟩ := know3 R8; (try simp only at hz0 hz1 hz2); have HRA := Aside0.mk RA; have HRB := Aside0.mk RB; have HR8 := Aside0.mk R8; have HB := Aside0.mk hB; clear RA RB R8 hB))
                      go_at_call 47
                      refine (truth_calls _ false).mono ?_
                      rintro e W2 ⟨rfl, hB2⟩
                      have hB3 := pm_chain (w := W1) (by (repeat (first | (with_reducible exact Below.refl _ _) | (with_reducible assumption) | with_reducible apply below_alloc | with_reducible apply pw_below_drewN | with_reducible apply below_drew1))) hB2
                      obtain ⟨⟨hz0, hz1, hz2⟩, hf0, hf1, hf2⟩ := know3 (blk_below HR8.out hB3)
                      (try simp only at hz0 hz1 hz2)
                      simp only [ans, truthV, V3.enc, V3.z]
                      go_wp2_with (fail)
                      refine bodyPost_ret (results_ct rfl _ _ g8 51 _ (0, 0) _ rfl (put3 (blk_below HR8.out hB3) _ _ _) Try.underlying51 rfl (by kernel_rfl)) rfl ?_
                      exact ⟨by rw [← hA.out]; rfl, by have hB := pm_chain (w := w) HB.out hB3; obtain ⟨_, _, hq⟩ := HG.out; (repeat (first | (with_reducible exact Below.refl _ _) | (with_reducible assumption) | with_reducible apply below_alloc | with_reducible apply pw_below_drewN | with_reducible apply below_drew1 | (refine below_set ?_ (by omega))))⟩
                rw [if_neg o18] at hA
                have g18 : (op == 18) = false := beq_eq_false_iff_ne.mpr (fun e => o18 (.inl e))
                have g19 : (op == 19) = false := beq_eq_false_iff_ne.mpr (fun e => o18 (.inr e))
                clear o2 o16 o18
                go_wp2_with (first | (go_at_call 41; refine (alive_yes (PM.below H.out (pm_chain (w := w) HB.out (by (repeat (first | (with_reducible exact Below.refl _ _) | (with_reducible assumption) | with_reducible apply below_alloc | with_reducible apply pw_below_drewN | with_reducible apply below_drew1)))))).mono ?_; rintro e w9 ⟨rfl, rfl⟩) | (go_at_call 42; refine (name_no _ _ HNM.out).mono ?_; rintro e W1 ⟨nm, hnm, rfl, hB1⟩; have hN := pm_chain (w := wc) (by (repeat (first | (with_reducible exact Below.refl _ _) | (with_reducible assumption) | with_reducible apply below_alloc | with_reducible apply pw_below_drewN | with_reducible apply below_drew1))) hB1; clear hB1; have RA := blk_below HRA.out hN; have RB := blk_below HRB.out hN; have R8 := blk_below HR8.out hN; have hB := pm_chain (w := w) HB.out hN; clear HRA HRB HR8 HB hN; obtain ⟨⟨ha0, ha1, ha2⟩, _⟩ := know3 RA; obtain ⟨⟨hb0, hb1, hb2⟩, _⟩ := know3 RB; obtain ⟨⟨hz0, hz1, hz2⟩, hf0, hf1, hf2⟩ := know3 R8; (try simp only at hz0 hz1 hz2); have HRA := Aside0.mk RA; have HRB := Aside0.mk RB; have HR8 := Aside0.mk R8; have HB := Aside0.mk hB; clear RA RB R8 hB))
                go_at_call 43
                refine (undef_calls _).mono ?_
                rintro e W2 ⟨rfl, hB2⟩
                have hB3 := pm_chain (w := W1) (by (repeat (first | (with_reducible exact Below.refl _ _) | (with_reducible assumption) | with_reducible apply below_alloc | with_reducible apply pw_below_drewN | with_reducible apply below_drew1))) hB2
                obtain ⟨⟨hz0, hz1, hz2⟩, hf0, hf1, hf2⟩ := know3 (blk_below HR8.out hB3)
                (try simp only at hz0 hz1 hz2)
                simp only [ans, truthV, V3.enc, V3.z]
                go_wp2_with (fail)
                refine bodyPost_ret (results_ct rfl _ _ g8 51 _ (0, 0) _ rfl (put3 (blk_below HR8.out hB3) _ _ _) Try.underlying51 rfl (by kernel_rfl)) rfl ?_
                exact ⟨by rw [← hA.out]; rfl, by have hB := pm_chain (w := w) HB.out hB3; obtain ⟨_, _, hq⟩ := HG.out; (repeat (first | (with_reducible exact Below.refl _ _) | (with_reducible assumption) | with_reducible apply below_alloc | with_reducible apply pw_below_drewN | with_reducible apply below_drew1 | (refine below_set ?_ (by omega))))⟩
              · rw [if_pos cb2] at hA
                have f1 : (ab != bb) = true := bne_iff_ne.mpr cb2
                have CB2 := Aside0.mk cb2
                clear cb2
                go_wp2_with (first | (go_at_call 41; refine (alive_yes (PM.below H.out (pm_chain (w := w) HB.out (by (repeat (first | (with_reducible exact Below.refl _ _) | (with_reducible assumption) | with_reducible apply below_alloc | with_reducible apply pw_below_drewN | with_reducible apply below_drew1)))))).mono ?_; rintro e w9 ⟨rfl, rfl⟩) | (go_at_call 42; refine (name_no _ _ HNM.out).mono ?_; rintro e W1 ⟨nm, hnm, rfl, hB1⟩; have hN := pm_chain (w := wc) (by (repeat (first | (with_reducible exact Below.refl _ _) | (with_reducible assumption) | with_reducible apply below_alloc | with_reducible apply pw_below_drewN | with_reducible apply below_drew1))) hB1; clear hB1; have RA := blk_below HRA.out hN; have RB := blk_below HRB.out hN; have R8 := blk_below HR8.out hN; have hB := pm_chain (w := w) HB.out hN; clear HRA HRB HR8 HB hN; obtain ⟨⟨ha0, ha1, ha2⟩, _⟩ := know3 RA; obtain ⟨⟨hb0, hb1, hb2⟩, _⟩ := know3 RB; obtain ⟨⟨hz0, hz1, hz2⟩, hf0, hf1, hf2⟩ := know3 R8; (try simp only at hz0 hz1 hz2); have HRA := Aside0.mk RA; have HRB := Aside0.mk RB; have HR8 := Aside0.mk R8; have HB := Aside0.mk hB; clear RA RB R8 hB))
                go_at_call 43
                refine (undef_calls _).mono ?_
                rintro e W2 ⟨rfl, hB2⟩
                have hB3 := pm_chain (w := W1) (by (repeat (first | (with_reducible exact Below.refl _ _) | (with_reducible assumption) | with_reducible apply below_alloc | with_reducible apply pw_below_drewN | with_reducible apply below_drew1))) hB2
                obtain ⟨⟨hz0, hz1, hz2⟩, hf0, hf1, hf2⟩ := know3 (blk_below HR8.out hB3)
                (try simp only at hz0 hz1 hz2)
                simp only [ans, truthV, V3.enc, V3.z]
                go_wp2_with (fail)
                refine bodyPost_ret (results_ct rfl _ _ g8 51 _ (0, 0) _ rfl (put3 (blk_below HR8.out hB3) _ _ _) Try.underlying51 rfl (by kernel_rfl)) rfl ?_
                exact ⟨by rw [← hA.out]; rfl, by have hB := pm_chain (w := w) HB.out hB3; obtain ⟨_, _, hq⟩ := HG.out; (repeat (first | (with_reducible exact Below.refl _ _) | (with_reducible assumption) | with_reducible apply below_alloc | with_reducible apply pw_below_drewN | with_reducible apply below_drew1 | (refine below_set ?_ (by omega))))⟩
end Go.Proofs.Ythdnhfjodhjejaa.Ma
