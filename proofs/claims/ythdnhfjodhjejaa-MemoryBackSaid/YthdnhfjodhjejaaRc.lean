/- The document's memory: Truth, ends, moved, Cells. No condition beyond those each theorem names. -/
import Derived.Test.YthdnhfjodhjejaaRb
import Derived.Test.YthdnhfjodhjejaaPMex7
namespace Go.Proofs.Ythdnhfjodhjejaa.Ma
open Go.RowKit Go.Proofs.Ythdnhfjodhjejaa.PMe Go.Proofs.YthdnhfjodhjejaaW.PrintWords Go.Proofs.YthdnhfjodhjejaaW.PrintLast Go.Proofs.YthdnhfjodhjejaaW.PrintMore
set_option linter.unusedVariables false
set_option linter.unusedSimpArgs false
variable {w w' : World} {r : Nat} {sv : Value} {Bs : List Blk}
/-- What Truth answers. -/
def rtruthF (Bs : List Blk) (x : V3) : Bool × Int := if x.k = 1 then (x.v != 0, 0) else if (goodR Bs x).isSome then (true, 0) else (false, 3)
set_option maxHeartbeats 4000000 in
set_option maxRecDepth 100000 in
theorem rTruth_calls (h : RM w r sv Bs) (x : V3) (h0 : 0 ≤ x.v) (h1 : x.v < 4294967296) : Calls Try.prog 62 #[.pointer (some ⟨r, 0, none⟩), x.enc] w fun e w' => e = .returned (.tuple #[.bool (rtruthF Bs x).1, .int .i64 (rtruthF Bs x).2]) ∧ Below w.heap.size w w' := by
  have H := Aside0.mk h
  clear h
  obtain ⟨k, v, b⟩ := x
  generalize hA : rtruthF Bs ⟨k, v, b⟩ = A
  obtain ⟨A1, A2⟩ := A
  have HA := Aside0.mk hA
  clear hA
  have hu51 := Try.underlying51
  unfold V3.enc
  simp only at h0 h1 ⊢
  by_cases c1 : k = 1
  · have k1 : (k == 1) = true := beq_iff_eq.mpr c1
    have C1 := Aside0.mk c1
    clear c1
    go_enter Try.func62, Try.ntmps62
    go_wp2_with (fail)
    go_ret2
    have ha := HA.out
    unfold rtruthF at ha
    rw [if_pos C1.out] at ha
    cases ha
    exact ⟨rfl, by (repeat (first | (with_reducible exact Below.refl _ _) | (with_reducible assumption) | with_reducible apply below_alloc | with_reducible apply pw_below_drewN | with_reducible apply below_drew1))⟩
  · have k1 : (k == 1) = false := beq_eq_false_iff_ne.mpr c1
    have C1 := Aside0.mk c1
    clear c1
    have hg := fun W (hW : RM W r sv Bs) => Good_calls hW ⟨k, v, b⟩ h0 h1
    cases ho : goodR Bs ⟨k, v, b⟩ with
    | none =>
      rw [ho] at hg
      have HG := Aside0.mk hg
      have HO := Aside0.mk ho
      clear ho hg
      go_enter Try.func62, Try.ntmps62
      go_wp2_with (fail)
      go_at_call 87
      refine (HG.out _ (H.out.below (by (repeat (first | (with_reducible exact Below.refl _ _) | (with_reducible assumption) | with_reducible apply below_alloc | with_reducible apply pw_below_drewN | with_reducible apply below_drew1))))).mono ?_
      rintro e W1 ⟨rfl, hB0⟩
      have hB := pm_chain (w := w) (by (repeat (first | (with_reducible exact Below.refl _ _) | (with_reducible assumption) | with_reducible apply below_alloc | with_reducible apply pw_below_drewN | with_reducible apply below_drew1))) hB0
      clear hB0
      simp only [Option.isSome]
      go_wp2_with (fail)
      go_ret2
      have ha := HA.out
      unfold rtruthF at ha
      rw [if_neg C1.out, HO.out] at ha
      cases ha
      exact ⟨rfl, by (repeat (first | (with_reducible exact Below.refl _ _) | (with_reducible assumption) | with_reducible apply below_alloc | with_reducible apply pw_below_drewN | with_reducible apply below_drew1))⟩
    | some y =>
      rw [ho] at hg
      have HG := Aside0.mk hg
      have HO := Aside0.mk ho
      clear ho hg
      go_enter Try.func62, Try.ntmps62
      go_wp2_with (fail)
      go_at_call 87
      refine (HG.out _ (H.out.below (by (repeat (first | (with_reducible exact Below.refl _ _) | (with_reducible assumption) | with_reducible apply below_alloc | with_reducible apply pw_below_drewN | with_reducible apply below_drew1))))).mono ?_
      rintro e W1 ⟨rfl, hB0⟩
      have hB := pm_chain (w := w) (by (repeat (first | (with_reducible exact Below.refl _ _) | (with_reducible assumption) | with_reducible apply below_alloc | with_reducible apply pw_below_drewN | with_reducible apply below_drew1))) hB0
      clear hB0
      simp only [Option.isSome]
      go_wp2_with (fail)
      go_ret2
      have ha := HA.out
      unfold rtruthF at ha
      rw [if_neg C1.out, HO.out] at ha
      cases ha
      exact ⟨rfl, by (repeat (first | (with_reducible exact Below.refl _ _) | (with_reducible assumption) | with_reducible apply below_alloc | with_reducible apply pw_below_drewN | with_reducible apply below_drew1))⟩
set_option maxHeartbeats 4000000 in
set_option maxRecDepth 100000 in
theorem ends_calls (h : RM w r sv Bs) (x : V3) (h0 : 0 ≤ x.v) (h1 : x.v < 4294967296) {y : Blk} (hl : livR Bs x.b = some y) : Calls Try.prog 108 #[.pointer (some ⟨r, 0, none⟩), x.enc] w fun e w' => e = .returned (.bool (x.v == (y.cs.length : Int))) ∧ Below w.heap.size w w' := by
  have H := Aside0.mk h
  clear h
  obtain ⟨k, v, b⟩ := x
  unfold V3.enc
  simp only at h0 h1 hl ⊢
  obtain ⟨K, hb, cap, rfl, hK, hKl, hsv, hcap, ⟨e4, e5, e6⟩, l1, l2, _, _⟩ := livR_at (H.out.below (w' := w.alloc (.cells #[.int .i64 k, .int .u32 v, .int .i64 b] 51)) (by (repeat (first | (with_reducible exact Below.refl _ _) | (with_reducible assumption) | with_reducible apply below_alloc | with_reducible apply pw_below_drewN | with_reducible apply below_drew1)))) hl
  have hm := H.out.big
  obtain ⟨d0, _⟩ := (H.out.below (w' := w.alloc (.cells #[.int .i64 k, .int .u32 v, .int .i64 (K + 1)] 51)) (by (repeat (first | (with_reducible exact Below.refl _ _) | (with_reducible assumption) | with_reducible apply below_alloc | with_reducible apply pw_below_drewN | with_reducible apply below_drew1)))).cells
  rw [hsv] at d0
  clear hl hK hsv
  have f1 : IntKind.i64.wrap v = v := IntWalk.i64_in _ (by omega)
  have f2 : IntKind.i64.wrap ((K : Int) + 1 - 1) = K := by rw [show (K : Int) + 1 - 1 = K by omega]; exact IntWalk.i64_in _ (by omega)
  have f3 : (0 : Int) ≤ K := by omega
  go_enter Try.func108, Try.ntmps108
  go_wp2_with (fail)
  go_quiet (fail)
  go_wp2_with (fail)
  go_ret
  exact ⟨rfl, by (repeat (first | (with_reducible exact Below.refl _ _) | (with_reducible assumption) | with_reducible apply below_alloc | with_reducible apply pw_below_drewN | with_reducible apply below_drew1))⟩
/-- What moved answers of a pointer that is good. -/
def rmovedF (y : Blk) (x : V3) (d : Int) : V3 × Int := if x.v + d < 0 ∨ x.v + d > y.cs.length then (V3.z, 3) else (⟨2, x.v + d, x.b⟩, 0)
set_option maxHeartbeats 4000000 in
set_option maxRecDepth 100000 in
theorem rmoved_calls (h : RM w r sv Bs) (x : V3) (d : Int) (h0 : 0 ≤ x.v) (h1 : x.v < 4294967296) (hd0 : -4294967296 ≤ d) (hd1 : d ≤ 4294967296) {y : Blk} (hl : livR Bs x.b = some y) (A : Value) (hA : Aside0 (ans (rmovedF y x d) = A)) : Calls Try.prog 91 #[.pointer (some ⟨r, 0, none⟩), x.enc, .int .i64 d] w fun e w' => e = .returned A ∧ Below w.heap.size w w' := by
  have hu51 := Try.underlying51
  have H := Aside0.mk h
  clear h
  obtain ⟨k, v, b⟩ := x
  unfold V3.enc
  simp only at h0 h1 hl ⊢
  obtain ⟨K, hb, cap, rfl, hK, hKl, hsv, hcap, ⟨e4, e5, e6⟩, l1, l2, _, _⟩ := livR_at (H.out.below (w' := (w.alloc (.cells #[.int .i64 k, .int .u32 v, .int .i64 b] 51)).alloc (.cells #[.int .i64 0, .int .u32 0, .int .i64 0] 51)) (by (repeat (first | (with_reducible exact Below.refl _ _) | (with_reducible assumption) | with_reducible apply below_alloc | with_reducible apply pw_below_drewN | with_reducible apply below_drew1)))) hl
  have hm := H.out.big
  obtain ⟨d0, _⟩ := (H.out.below (w' := (w.alloc (.cells #[.int .i64 k, .int .u32 v, .int .i64 (K + 1)] 51)).alloc (.cells #[.int .i64 0, .int .u32 0, .int .i64 0] 51)) (by (repeat (first | (with_reducible exact Below.refl _ _) | (with_reducible assumption) | with_reducible apply below_alloc | with_reducible apply pw_below_drewN | with_reducible apply below_drew1)))).cells
  rw [hsv] at d0
  clear hl hK hsv
  have f1 : IntKind.i64.wrap v = v := IntWalk.i64_in _ (by omega)
  have f2 : IntKind.i64.wrap ((K : Int) + 1 - 1) = K := by rw [show (K : Int) + 1 - 1 = K by omega]; exact IntWalk.i64_in _ (by omega)
  have f3 : (0 : Int) ≤ K := by omega
  have B0 : ((w.alloc (.cells #[.int .i64 k, .int .u32 v, .int .i64 ((K : Int) + 1)] 51)).alloc (.cells #[.int .i64 0, .int .u32 0, .int .i64 0] 51)).heap[w.heap.size + 1]? = some (.cells #[.int .i64 0, .int .u32 0, .int .i64 0] 51 (0, 0)) := heap_at _ _ _ (by simp)
  have BB := Aside0.mk B0
  clear B0
  by_cases c1 : v + d < 0
  · have t1 : decide (v + d < 0) = true := by simp; omega
    have ha := hA.out
    unfold rmovedF at ha
    rw [if_pos (.inl c1)] at ha
    have HA := Aside0.mk ha
    clear c1 ha hA
    go_enter Try.func91, Try.ntmps91
    go_wp2_with (fail)
    go_quiet (fail)
    go_wp2_with (fail)
    refine bodyPost_ret (results_ct rfl _ _ (w.heap.size + 1) 51 _ (0, 0) _ rfl (put3 (blk_drewN BB.out _) _ _ _) Try.underlying51 rfl (by kernel_rfl)) rfl ?_
    exact ⟨by rw [← HA.out]; rfl, by (repeat (first | (with_reducible exact Below.refl _ _) | (with_reducible assumption) | with_reducible apply below_alloc | with_reducible apply pw_below_drewN | with_reducible apply below_drew1 | (refine below_set ?_ (by omega))))⟩
  · have t1 : decide (v + d < 0) = false := by simp; omega
    by_cases c2 : v + d > y.cs.length
    · have t2 : decide (v + d > (y.cs.length : Int)) = true := by simp; omega
      have ha := hA.out
      unfold rmovedF at ha
      rw [if_pos (.inr c2)] at ha
      have HA := Aside0.mk ha
      clear c1 c2 ha hA
      go_enter Try.func91, Try.ntmps91
      go_wp2_with (fail)
      go_quiet (fail)
      go_wp2_with (fail)
      refine bodyPost_ret (results_ct rfl _ _ (w.heap.size + 1) 51 _ (0, 0) _ rfl (put3 (blk_drewN BB.out _) _ _ _) Try.underlying51 rfl (by kernel_rfl)) rfl ?_
      exact ⟨by rw [← HA.out]; rfl, by (repeat (first | (with_reducible exact Below.refl _ _) | (with_reducible assumption) | with_reducible apply below_alloc | with_reducible apply pw_below_drewN | with_reducible apply below_drew1 | (refine below_set ?_ (by omega))))⟩
    · have t2 : decide (v + d > (y.cs.length : Int)) = false := by simp; omega
      have ha := hA.out
      unfold rmovedF at ha
      rw [if_neg (fun h => h.elim c1 c2)] at ha
      have HA := Aside0.mk ha
      have q1 : 0 ≤ v + d := by omega
      have q2 : v + d ≤ 16384 := by omega
      clear c1 c2 ha hA
      go_enter Try.func91, Try.ntmps91
      go_wp2_with (fail)
      go_quiet (fail)
      go_wp2_with (fail)
      refine bodyPost_ret (results_ct rfl _ _ (w.heap.size + 1) 51 _ (0, 0) _ rfl (put3 (blk_drewN BB.out _) _ _ _) Try.underlying51 rfl (by kernel_rfl)) rfl ?_
      exact ⟨by rw [← HA.out]; rfl, by (repeat (first | (with_reducible exact Below.refl _ _) | (with_reducible assumption) | with_reducible apply below_alloc | with_reducible apply pw_below_drewN | with_reducible apply below_drew1 | (refine below_set ?_ (by omega))))⟩
/-- What Cells answers. -/
def rcellsF (Bs : List Blk) (k : Int) : List S66 × Int := match livR Bs k with
  | some y => (y.cs, 0)
  | none => ([], 2)
set_option maxHeartbeats 4000000 in
set_option maxRecDepth 100000 in
theorem rCells_calls (h : RM w r sv Bs) (k : Int) : Calls Try.prog 63 #[.pointer (some ⟨r, 0, none⟩), .int .i64 k] w fun e w' => ∃ v, e = .returned (.tuple #[v, .int .i64 (rcellsF Bs k).2]) ∧ Kd.R k66 66 w' w.heap.size (fun _ => True) v (rcellsF Bs k).1 ∧ Below w.heap.size w w' := by
  generalize hA : rcellsF Bs k = A
  obtain ⟨A1, A2⟩ := A
  have hg := fun W (hW : RM W r sv Bs) => Lives_calls hW k
  cases hl : livR Bs k with
  | none =>
    rw [hl] at hg
    have HG := Aside0.mk hg
    have H := Aside0.mk h
    unfold rcellsF at hA
    rw [hl] at hA
    cases hA
    clear hl hg h
    go_enter Try.func63, Try.ntmps63
    go_wp2_with (first | (go_at_call 85; refine (HG.out _ H.out).mono ?_; rintro e w9 ⟨rfl, rfl⟩; simp only [Option.isSome]))
    go_ret2
    exact ⟨_, rfl, Kd.R_nil _ _ _ _ _, by (repeat (first | (with_reducible exact Below.refl _ _) | (with_reducible assumption) | with_reducible apply below_alloc | with_reducible apply pw_below_drewN | with_reducible apply below_drew1))⟩
  | some y =>
    rw [hl] at hg
    have HG := Aside0.mk hg
    unfold rcellsF at hA
    rw [hl] at hA
    simp only [Prod.mk.injEq] at hA
    obtain ⟨hA1, hA2⟩ := hA
    obtain ⟨K, hb, cap, rfl, hK, hKl, hsv, hcap, ⟨e4, e5, e6⟩, l1, l2, hrow, _⟩ := livR_at h hl
    have hm := h.big
    obtain ⟨d0, _⟩ := h.cells
    rw [hsv] at d0
    have hrr := row_reads hrow l2 0 y.cs.length (by omega)
    have hsub : sub y.cs 0 y.cs.length = y.cs := by simp [sub]
    rw [hsub] at hrr
    have hrr' : ReadsRow (fun (x : S66) c => c = encC x) 4 w (some ⟨y.g, 0, none⟩) y.cs.length y.cs := by rw [Nat.zero_mul] at hrr; exact hrr
    have HRR := Aside0.mk hrr'
    clear hrr'
    have HL := Aside0.mk (And.intro l1 l2)
    have H := Aside0.mk h
    have HA1 := Aside0.mk hA1
    subst hA2
    clear hl hg h hK hsv hrr hsub hA1
    go_enter Try.func63, Try.ntmps63
    go_wp2_with (first | (go_at_call 85; refine (HG.out _ H.out).mono ?_; rintro e w9 ⟨rfl, rfl⟩; simp only [Option.isSome]) | ((with_reducible refine gate_dst (N := 10) rfl ?_); refine Kd.R_lit k66 _ 66 ?hg (N := 10) ?hd (xs := ([] : List (S66))) (inner := []) (ok := fun _ => True) (okp := fun _ => True) ?hr ?hp (fun _ hk => hk) trivial (Below.refl _ _) (Nat.le_refl _) (by simp) ?_; (case hd => rfl); (case hg => rfl); (case hr => first | (go_simp; done) | (go_simp; rfl)); (case hp => exact (Reps.none _ _)); intro v1 W1 ho hb1 hg_ hnew_; clear hg_ hnew_; have HO := Aside0.mk ho; have HB := Aside0.mk hb1; replace d0 := pw_cell_below hb1 d0; replace e6 := pw_cell_below hb1 e6; clear ho hb1) | ((with_reducible refine gate_builtin (b := .append) (xs := #[.tmp 10, .tmp 19]) rfl ?_); at_builtin; refine Kd.R_append_rows k66 (Rr := fun (x : S66) c => c = encC x) (w0 := w) w.heap.size rfl (.tmp 10) (.tmp 19) 60 66 (.agg #[(.int .i64 0), (.int .u32 0), (.int .i64 0), (.int .i64 0)]) 32 rfl Try.underlying60 info66 rfl (by decide) (by omega) v1 [] y.cs (some ⟨y.g, 0, none⟩) y.cs.length y.cs.length (fun _ => True) (fun _ => False) rfl rfl ?aO ?aR ?aK (fun _ h => h.elim) ?aF HB.out ?aS ?aL ?_; (case aR => exact ReadsRow.imp_ HRR.out HB.out (fun _ _ h => h)); (case aK => exact (fun x cs h => by subst h; exact k66_mkM _ _ _ x)); (case aF => exact (fun _ _ => trivial)); (case aO => exact HO.out); (case aS => exact HB.out.size); (case aL => have := HL.out; simp; omega); intro v2 W2 ho hb2 hg hat; have HO2 := Aside0.mk ho; have HB2 := Aside0.mk hb2; clear ho hb2 hg hat))
    go_ret2
    exact ⟨v2, rfl, by rw [← HA1.out]; exact HO2.out, HB2.out⟩
end Go.Proofs.Ythdnhfjodhjejaa.Ma
