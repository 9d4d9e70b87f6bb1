/- The document's memory: Good, at. No condition beyond those each theorem names. -/
import Derived.Test.YthdnhfjodhjejaaRa
import Derived.Test.YthdnhfjodhjejaaA1
import Derived.Test.YthdnhfjodhjejaaPMex5
namespace Go.Proofs.Ythdnhfjodhjejaa.Ma
open Go.RowKit Go.Proofs.Ythdnhfjodhjejaa.PMe Go.Proofs.YthdnhfjodhjejaaW.PrintWords Go.Proofs.YthdnhfjodhjejaaW.PrintLast Go.Proofs.YthdnhfjodhjejaaW.PrintMore
set_option linter.unusedVariables false
set_option linter.unusedSimpArgs false
variable {w w' : World} {r : Nat} {sv : Value} {Bs : List Blk}
/-- A good pointer's block. -/
def goodR (Bs : List Blk) (x : V3) : Option Blk := if x.k = 2 then (livR Bs x.b).bind fun y => if x.v ≤ y.cs.length then some y else none else none
theorem livR_at (h : RM w r sv Bs) {k : Int} {y : Blk} (hy : livR Bs k = some y) : ∃ (K : Nat) (hb cap : Nat), k = (K : Int) + 1 ∧ Bs[K]? = some y ∧ K < Bs.length ∧ sv = .slice (some ⟨hb, 0, none⟩) Bs.length cap ∧ Bs.length ≤ cap ∧ (w.cell? ⟨hb, K * 3, none⟩ = some (.int .i64 y.al) ∧ w.cell? ⟨hb, K * 3 + 1, none⟩ = some (.bool false) ∧ w.cell? ⟨hb, K * 3 + 2, none⟩ = some (.slice (some ⟨y.g, 0, none⟩) y.cs.length y.cs.length)) ∧ 1 ≤ y.cs.length ∧ y.cs.length ≤ 16384 ∧ w.heap[y.g]? = some (.cells (rowC y.cs) 66 (0, 0)) ∧ y ∈ Bs := by
  obtain ⟨h1, h2, h3, hd⟩ := livR_some hy
  obtain ⟨hb, cap, cur, e1, e2, e3, e4, e5, e6⟩ := h.at h3
  have hm := List.mem_of_getElem? h3
  have hs : y.sv = .slice (some ⟨y.g, 0, none⟩) y.cs.length y.cs.length := by unfold Blk.sv; rw [hd]; rfl
  rw [hs] at e6
  rw [hd] at e5
  exact ⟨(k - 1).toNat, hb, cap, by omega, h3, by omega, e1, e3, ⟨e4, e5, e6⟩, (h.len y hm hd).1, (h.len y hm hd).2, h.row y hm hd, hm⟩
set_option maxHeartbeats 4000000 in
theorem Good_calls (h : RM w r sv Bs) (x : V3) (h0 : 0 ≤ x.v) (h1 : x.v < 4294967296) : Calls Try.prog 87 #[.pointer (some ⟨r, 0, none⟩), x.enc] w fun e w' => e = .returned (.bool (goodR Bs x).isSome) ∧ Below w.heap.size w w' := by
  obtain ⟨k, v, b⟩ := x
  unfold V3.enc
  simp only at h0 h1 ⊢
  generalize hA : (goodR Bs ⟨k, v, b⟩).isSome = A1
  have HA := Aside0.mk hA
  have H := Aside0.mk h
  clear hA h
  by_cases c1 : k = 2
  · have k1 : (k == 2) = true := beq_iff_eq.mpr c1
    have C1 := Aside0.mk c1
    clear c1
    have hL := fun (W : World) (hW : RM W r sv Bs) => Lives_calls hW b
    cases hl : livR Bs b with
    | none =>
      have HL := Aside0.mk hL
      have hl' : (livR Bs b).isSome = false := by rw [hl]; rfl
      rw [hl'] at HL
      have HLL := Aside0.mk hl
      clear hl hl' hL
      go_enter Try.func87, Try.ntmps87
      go_wp2_with (fail)
      go_quiet ((go_at_call 85; exact Calls.quiet_of_same ((HL.out _ (H.out.below (by (repeat (first | (with_reducible exact Below.refl _ _) | (with_reducible assumption) | with_reducible apply below_alloc | with_reducible apply pw_below_drewN | with_reducible apply below_drew1))))).mono (fun _ _ h => And.intro h.1 h.2.symm))))
      go_wp2_with (fail)
      go_ret
      refine ⟨?_, by (repeat (first | (with_reducible exact Below.refl _ _) | (with_reducible assumption) | with_reducible apply below_alloc | with_reducible apply pw_below_drewN | with_reducible apply below_drew1))⟩
      rw [← HA.out]
      unfold goodR
      simp only [C1.out, if_true, HLL.out]
      rfl
    | some y =>
      have HL := Aside0.mk hL
      have hl' : (livR Bs b).isSome = true := by rw [hl]; rfl
      rw [hl'] at HL
      obtain ⟨K, hb, cap, rfl, hK, hKl, hsv, hcap, ⟨e4, e5, e6⟩, l1, l2, _, _⟩ := livR_at (H.out.below (w' := w.alloc (.cells #[.int .i64 k, .int .u32 v, .int .i64 b] 51)) (by (repeat (first | (with_reducible exact Below.refl _ _) | (with_reducible assumption) | with_reducible apply below_alloc | with_reducible apply pw_below_drewN | with_reducible apply below_drew1)))) hl
      have HLL := Aside0.mk hl
      have hm := H.out.big
      obtain ⟨d0, _⟩ := (H.out.below (w' := w.alloc (.cells #[.int .i64 k, .int .u32 v, .int .i64 (K + 1)] 51)) (by (repeat (first | (with_reducible exact Below.refl _ _) | (with_reducible assumption) | with_reducible apply below_alloc | with_reducible apply pw_below_drewN | with_reducible apply below_drew1)))).cells
      rw [hsv] at d0
      have HSV := Aside0.mk hsv
      clear hl hl' hL hK hsv
      have f1 : IntKind.i64.wrap v = v := IntWalk.i64_in _ (by omega)
      have f2 : IntKind.i64.wrap ((K : Int) + 1 - 1) = K := by rw [show (K : Int) + 1 - 1 = K by omega]; exact IntWalk.i64_in _ (by omega)
      have f3 : (0 : Int) ≤ K := by omega
      by_cases c2 : v ≤ y.cs.length
      · have f4 : decide (v ≤ (y.cs.length : Int)) = true := by simp; omega
        have C2 := Aside0.mk c2
        clear c2
        go_enter Try.func87, Try.ntmps87
        go_wp2_with (fail)
        go_quiet ((go_at_call 85; exact Calls.quiet_of_same ((HL.out _ (H.out.below (by (repeat (first | (with_reducible exact Below.refl _ _) | (with_reducible assumption) | with_reducible apply below_alloc | with_reducible apply pw_below_drewN | with_reducible apply below_drew1))))).mono (fun _ _ h => And.intro h.1 h.2.symm))))
        go_wp2_with (fail)
        go_ret
        refine ⟨?_, by (repeat (first | (with_reducible exact Below.refl _ _) | (with_reducible assumption) | with_reducible apply below_alloc | with_reducible apply pw_below_drewN | with_reducible apply below_drew1))⟩
        rw [← HA.out]
        unfold goodR
        simp [C1.out, HLL.out, C2.out]
      · have f4 : decide (v ≤ (y.cs.length : Int)) = false := by simp; omega
        have C2 := Aside0.mk c2
        clear c2
        go_enter Try.func87, Try.ntmps87
        go_wp2_with (fail)
        go_quiet ((go_at_call 85; exact Calls.quiet_of_same ((HL.out _ (H.out.below (by (repeat (first | (with_reducible exact Below.refl _ _) | (with_reducible assumption) | with_reducible apply below_alloc | with_reducible apply pw_below_drewN | with_reducible apply below_drew1))))).mono (fun _ _ h => And.intro h.1 h.2.symm))))
        go_wp2_with (fail)
        go_ret
        refine ⟨?_, by (repeat (first | (with_reducible exact Below.refl _ _) | (with_reducible assumption) | with_reducible apply below_alloc | with_reducible apply pw_below_drewN | with_reducible apply below_drew1))⟩
        rw [← HA.out]
        unfold goodR
        simp [C1.out, HLL.out, C2.out]
  · have k1 : (k == 2) = false := beq_eq_false_iff_ne.mpr c1
    have C1 := Aside0.mk c1
    clear c1
    go_enter Try.func87, Try.ntmps87
    go_wp2_with (fail)
    go_quiet (fail)
    go_wp2_with (fail)
    go_ret
    refine ⟨?_, by (repeat (first | (with_reducible exact Below.refl _ _) | (with_reducible assumption) | with_reducible apply below_alloc | with_reducible apply pw_below_drewN | with_reducible apply below_drew1))⟩
    rw [← HA.out]
    unfold goodR
    rw [if_neg C1.out]
    rfl
theorem rpower_calls (w : World) (n : Int) : Calls Try.prog 84 #[.int .i64 n] w fun e w' => e = .returned (.bool (pow2 n)) ∧ ∃ k, w' = w.drewN k := by
  have h : mortiseref11_power.f n = some (pow2 n) := by
    unfold mortiseref11_power.f pow2
    by_cases h1 : n = 1
    · simp [h1]
    · by_cases h2 : n = 2
      · simp [h2]
      · rw [if_neg h1, if_neg h2]; simp [h1, h2]
  refine (mortiseref11_power.calls n _ w h).mono ?_
  intro e w' h
  exact ⟨h.1, h.2.out⟩
/-- The block with n bytes at a pointer. -/
def ratR (Bs : List Blk) (x : V3) (n wd : Int) : Option Blk := (goodR Bs x).bind fun y => if 1 ≤ n ∧ pow2 wd = true ∧ n ≤ y.cs.length - x.v ∧ x.v % wd = 0 ∧ wd ≤ y.al then some y else none
theorem goodR_some {x : V3} {y : Blk} (h : goodR Bs x = some y) : x.k = 2 ∧ livR Bs x.b = some y ∧ x.v ≤ y.cs.length := by
  unfold goodR at h
  split at h
  · next hk =>
    obtain ⟨q, hq, h⟩ := Option.bind_eq_some_iff.mp h
    split at h
    · next hv => cases h; exact ⟨hk, hq, hv⟩
    · cases h
  · cases h
set_option maxHeartbeats 4000000 in
set_option maxRecDepth 100000 in
theorem rat_no (h : RM w r sv Bs) (x : V3) (n wd : Int) (h0 : 0 ≤ x.v) (h1 : x.v < 4294967296) (hno : goodR Bs x = none ∨ n < 1 ∨ pow2 wd = false) : Calls Try.prog 86 #[.pointer (some ⟨r, 0, none⟩), x.enc, .int .i64 n, .int .i64 wd] w fun e w' => e = .returned (.bool false) ∧ Below w.heap.size w w' := by
  obtain ⟨k, v, b⟩ := x
  unfold V3.enc
  simp only at h0 h1 ⊢
  have H := Aside0.mk h
  clear h
  cases hg : goodR Bs ⟨k, v, b⟩ with
  | none =>
    have HG := Aside0.mk hg
    clear hg hno
    go_enter Try.func86, Try.ntmps86
    go_wp2_with (first | (go_at_call 87; refine (Good_calls (H.out.below (by (repeat (first | (with_reducible exact Below.refl _ _) | (with_reducible assumption) | with_reducible apply below_alloc | with_reducible apply pw_below_drewN | with_reducible apply below_drew1)))) ⟨k, v, b⟩ h0 h1).mono ?_; rintro e W1 ⟨rfl, hB1⟩; rw [HG.out]; simp only [Option.isSome]; have hB := pm_chain (w := w) (by (repeat (first | (with_reducible exact Below.refl _ _) | (with_reducible assumption) | with_reducible apply below_alloc | with_reducible apply pw_below_drewN | with_reducible apply below_drew1))) hB1; clear hB1))
    go_ret
    exact ⟨rfl, by (repeat (first | (with_reducible exact Below.refl _ _) | (with_reducible assumption) | with_reducible apply below_alloc | with_reducible apply pw_below_drewN | with_reducible apply below_drew1))⟩
  | some y =>
    rw [hg] at hno
    have HG := Aside0.mk hg
    clear hg
    by_cases c1 : n < 1
    · have f1 : decide (n < 1) = true := by simp; omega
      clear c1 hno
      go_enter Try.func86, Try.ntmps86
      go_wp2_with (first | (go_at_call 87; refine (Good_calls (H.out.below (by (repeat (first | (with_reducible exact Below.refl _ _) | (with_reducible assumption) | with_reducible apply below_alloc | with_reducible apply pw_below_drewN | with_reducible apply below_drew1)))) ⟨k, v, b⟩ h0 h1).mono ?_; rintro e W1 ⟨rfl, hB1⟩; rw [HG.out]; simp only [Option.isSome]; have hB := pm_chain (w := w) (by (repeat (first | (with_reducible exact Below.refl _ _) | (with_reducible assumption) | with_reducible apply below_alloc | with_reducible apply pw_below_drewN | with_reducible apply below_drew1))) hB1; clear hB1))
      go_ret
      exact ⟨rfl, by (repeat (first | (with_reducible exact Below.refl _ _) | (with_reducible assumption) | with_reducible apply below_alloc | with_reducible apply pw_below_drewN | with_reducible apply below_drew1))⟩
    · have f1 : decide (n < 1) = false := by simp; omega
      have hp : pow2 wd = false := by rcases hno with h | h | h <;> first | exact h | (cases h; done) | omega
      have HP := Aside0.mk hp
      clear c1 hno hp
      go_enter Try.func86, Try.ntmps86
      go_wp2_with (first | (go_at_call 87; refine (Good_calls (H.out.below (by (repeat (first | (with_reducible exact Below.refl _ _) | (with_reducible assumption) | with_reducible apply below_alloc | with_reducible apply pw_below_drewN | with_reducible apply below_drew1)))) ⟨k, v, b⟩ h0 h1).mono ?_; rintro e W1 ⟨rfl, hB1⟩; rw [HG.out]; simp only [Option.isSome]; have hB := pm_chain (w := w) (by (repeat (first | (with_reducible exact Below.refl _ _) | (with_reducible assumption) | with_reducible apply below_alloc | with_reducible apply pw_below_drewN | with_reducible apply below_drew1))) hB1; clear hB1) | (go_at_call 84; refine (rpower_calls _ wd).mono ?_; rintro e w' ⟨rfl, nk, rfl⟩; rw [HP.out]))
      go_ret
      exact ⟨rfl, by (repeat (first | (with_reducible exact Below.refl _ _) | (with_reducible assumption) | with_reducible apply below_alloc | with_reducible apply pw_below_drewN | with_reducible apply below_drew1))⟩
set_option maxHeartbeats 4000000 in
set_option maxRecDepth 100000 in
theorem rat_go (h : RM w r sv Bs) (x : V3) (n wd : Int) (h0 : 0 ≤ x.v) (h1 : x.v < 4294967296) {y : Blk} (hg : goodR Bs x = some y) (hn : 1 ≤ n) (hn2 : n < 9223372036854775808) (hp : pow2 wd = true) : Calls Try.prog 86 #[.pointer (some ⟨r, 0, none⟩), x.enc, .int .i64 n, .int .i64 wd] w fun e w' => e = .returned (.bool (decide (n ≤ y.cs.length - x.v ∧ x.v % wd = 0 ∧ wd ≤ y.al))) ∧ Below w.heap.size w w' := by
  obtain ⟨hk2, hl, hv⟩ := goodR_some hg
  obtain ⟨k, v, b⟩ := x
  unfold V3.enc
  simp only at h0 h1 hk2 hl hv ⊢
  have H := Aside0.mk h
  have hwd : wd = 1 ∨ wd = 2 ∨ wd = 4 := by simp only [pow2, Bool.or_eq_true, beq_iff_eq] at hp; omega
  obtain ⟨K, hb, cap, rfl, hK, hKl, hsv, hcap, _, l1, l2, _, hyB⟩ := livR_at h hl
  have hal := h.al y hyB
  have hm := h.big
  have HG := Aside0.mk hg
  have HP := Aside0.mk hp
  have HL := Aside0.mk hl
  have HSV := Aside0.mk hsv
  have f0 : decide (n < 1) = false := by simp; omega
  generalize hR : decide (n ≤ (y.cs.length : Int) - v ∧ v % wd = 0 ∧ wd ≤ y.al) = R
  have HR := Aside0.mk hR
  clear h hg hp hl hsv hR hk2 hK hyB
  have f1 : IntKind.i64.wrap v = v := IntWalk.i64_in _ (by omega)
  have f2 : IntKind.i64.wrap ((K : Int) + 1 - 1) = K := by rw [show (K : Int) + 1 - 1 = K by omega]; exact IntWalk.i64_in _ (by omega)
  have f3 : (0 : Int) ≤ K := by omega
  have e2 : IntKind.i64.wrap ((y.cs.length : Int) - v) = (y.cs.length : Int) - v := IntWalk.i64_in _ (by omega)
  go_enter Try.func86, Try.ntmps86
  go_upto_region 3 with (first | (go_at_call 87; refine (Good_calls (H.out.below (by (repeat (first | (with_reducible exact Below.refl _ _) | (with_reducible assumption) | with_reducible apply below_alloc | with_reducible apply pw_below_drewN | with_reducible apply below_drew1)))) ⟨k, v, (K : Int) + 1⟩ h0 h1).mono ?_; rintro e W1 ⟨rfl, hB1⟩; rw [HG.out]; simp only [Option.isSome]; have R5 := blk_below (heap_at w (.cells #[.int .i64 k, .int .u32 v, .int .i64 ((K : Int) + 1)] 51) w.heap.size rfl) hB1; have hB := pm_chain (w := w) (by (repeat (first | (with_reducible exact Below.refl _ _) | (with_reducible assumption) | with_reducible apply below_alloc | with_reducible apply pw_below_drewN | with_reducible apply below_drew1))) hB1; clear hB1) | (go_at_call 84; refine (rpower_calls _ wd).mono ?_; rintro e w' ⟨rfl, nk, rfl⟩; rw [HP.out]))
  have R5 := blk_drewN R5 nk
  have hB : Below w.heap.size w (W1.drewN nk) := by (repeat (first | (with_reducible exact Below.refl _ _) | (with_reducible assumption) | with_reducible apply below_alloc | with_reducible apply pw_below_drewN | with_reducible apply below_drew1))
  generalize W1.drewN nk = W2 at R5 hB ⊢
  have RM2 := H.out.below hB
  obtain ⟨K', hb', cap', hKK, _, _, hsv', hcap', ⟨e4, e5, e6⟩, _⟩ := livR_at RM2 HL.out
  obtain rfl : K' = K := by omega
  have hse := HSV.out
  rw [hsv'] at hse
  injection hse with q1 _ q3
  injection q1 with q1
  injection q1 with q1
  subst q1 q3
  obtain ⟨d0, _⟩ := RM2.cells
  rw [hsv'] at d0
  obtain ⟨⟨k0, k1, k2⟩, _⟩ := know3 R5
  have HB := Aside0.mk hB
  clear R5 hB RM2 hsv' hKK hcap
  have f4 : IntKind.i64.wrap (K' : Int) = K' := IntWalk.i64_in _ (by omega)
  have f5 : (K' : Int) < (Bs.length : Int) := by omega
  obtain ⟨g5, hg5⟩ : ∃ g, g = w.heap.size := ⟨_, rfl⟩
  rw [← hg5] at k0 k1 k2 ⊢
  clear hg5
  go_region_held3 (fun w' => w'.cell? ⟨r, 0, none⟩ = some (.slice (some ⟨hb', 0, none⟩) Bs.length cap') ∧ w'.cell? ⟨g5, 2, none⟩ = some (.int .i64 ((K' : Int) + 1)) ∧ w'.cell? ⟨hb', K' * 3, none⟩ = some (.int .i64 y.al) ∧ w'.cell? ⟨hb', K' * 3 + 1, none⟩ = some (.bool false) ∧ w'.cell? ⟨hb', K' * 3 + 2, none⟩ = some (.slice (some ⟨y.g, 0, none⟩) y.cs.length y.cs.length)) (first | exact ⟨pw_cell_below (by (repeat (first | (with_reducible exact Below.refl _ _) | (with_reducible assumption) | with_reducible apply below_alloc | with_reducible apply pw_below_drewN | with_reducible apply below_drew1)); done) d0, pw_cell_below (by (repeat (first | (with_reducible exact Below.refl _ _) | (with_reducible assumption) | with_reducible apply below_alloc | with_reducible apply pw_below_drewN | with_reducible apply below_drew1)); done) k2, pw_cell_below (by (repeat (first | (with_reducible exact Below.refl _ _) | (with_reducible assumption) | with_reducible apply below_alloc | with_reducible apply pw_below_drewN | with_reducible apply below_drew1)); done) e4, pw_cell_below (by (repeat (first | (with_reducible exact Below.refl _ _) | (with_reducible assumption) | with_reducible apply below_alloc | with_reducible apply pw_below_drewN | with_reducible apply below_drew1)); done) e5, pw_cell_below (by (repeat (first | (with_reducible exact Below.refl _ _) | (with_reducible assumption) | with_reducible apply below_alloc | with_reducible apply pw_below_drewN | with_reducible apply below_drew1)); done) e6⟩) (fail)
  have R9 : ((W2.alloc (.cells #[.int .i64 y.al, .bool false, .slice (some ⟨y.g, 0, none⟩) y.cs.length y.cs.length] 181)).drew).heap[W2.heap.size]? = some (.cells #[.int .i64 y.al, .bool false, .slice (some ⟨y.g, 0, none⟩) y.cs.length y.cs.length] 181 (0, 0)) := blk_drew (heap_at _ _ _ rfl)
  have hB3 : Below W2.heap.size W2 ((W2.alloc (.cells #[.int .i64 y.al, .bool false, .slice (some ⟨y.g, 0, none⟩) y.cs.length y.cs.length] 181)).drew) := by (repeat (first | (with_reducible exact Below.refl _ _) | (with_reducible assumption) | with_reducible apply below_alloc | with_reducible apply pw_below_drewN | with_reducible apply below_drew1))
  generalize ((W2.alloc (.cells #[.int .i64 y.al, .bool false, .slice (some ⟨y.g, 0, none⟩) y.cs.length y.cs.length] 181)).drew) = W3 at R9 hB3 ⊢
  replace k1 := pw_cell_below hB3 k1
  obtain ⟨⟨m0, _, m2⟩, _⟩ := know3 R9
  have HB3 := Aside0.mk (pm_chain (w := w) HB.out hB3)
  generalize W2.heap.size = g9 at m0 m2 ⊢
  clear R9 hB3 HB k0 k2 d0 e4 e5 e6 f2 f4 f5
  by_cases c1 : n ≤ y.cs.length - v
  · have t1 : decide (n ≤ (y.cs.length : Int) - v) = true := by simp; omega
    have htm : v.tmod wd = v % wd := Int.tmod_eq_emod_of_nonneg h0
    obtain ⟨z, hz⟩ : ∃ z, z = v % wd := ⟨_, rfl⟩
    have hzb : 0 ≤ z ∧ z < 9223372036854775808 := by rw [hz]; rcases hwd with rfl | rfl | rfl <;> omega
    rw [← hz] at htm
    have hwz : wd ≠ 0 := by omega
    have e3 : IntKind.i64.wrap z = z := IntWalk.i64_in _ (by omega)
    have HZ := Aside0.mk hz
    by_cases c2 : z = 0
    · have t2 : (z == 0) = true := beq_iff_eq.mpr c2
      by_cases c3 : wd ≤ y.al
      · have t3 : decide (y.al ≥ wd) = true := by simp; omega
        have HC := Aside0.mk (show decide (n ≤ (y.cs.length : Int) - v ∧ v % wd = 0 ∧ wd ≤ y.al) = true from decide_eq_true ⟨c1, by rw [← HZ.out]; exact c2, c3⟩)
        clear c1 c2 c3 hz hzb hwd
        go_wp2_with (fail)
        go_ret
        exact ⟨by rw [← HR.out, HC.out]; rfl, HB3.out⟩
      · have t3 : decide (y.al ≥ wd) = false := by simp; omega
        have HC := Aside0.mk (show decide (n ≤ (y.cs.length : Int) - v ∧ v % wd = 0 ∧ wd ≤ y.al) = false from decide_eq_false (fun h => c3 h.2.2))
        clear c1 c2 c3 hz hzb hwd
        go_wp2_with (fail)
        go_ret
        exact ⟨by rw [← HR.out, HC.out]; rfl, HB3.out⟩
    · have t2 : (z == 0) = false := beq_eq_false_iff_ne.mpr c2
      have HC := Aside0.mk (show decide (n ≤ (y.cs.length : Int) - v ∧ v % wd = 0 ∧ wd ≤ y.al) = false from decide_eq_false (fun h => c2 (by rw [HZ.out]; exact h.2.1)))
      clear c1 c2 hz hzb hwd
      go_wp2_with (fail)
      go_ret
      exact ⟨by rw [← HR.out, HC.out]; rfl, HB3.out⟩
  · have t1 : decide (n ≤ (y.cs.length : Int) - v) = false := by simp; omega
    have HC := Aside0.mk (show decide (n ≤ (y.cs.length : Int) - v ∧ v % wd = 0 ∧ wd ≤ y.al) = false from decide_eq_false (fun h => c1 h.1))
    clear c1 hwd
    go_wp2_with (fail)
    go_ret
    exact ⟨by rw [← HR.out, HC.out]; rfl, HB3.out⟩
theorem rat_calls (h : RM w r sv Bs) (x : V3) (n wd : Int) (h0 : 0 ≤ x.v) (h1 : x.v < 4294967296) (hn2 : n < 9223372036854775808) : Calls Try.prog 86 #[.pointer (some ⟨r, 0, none⟩), x.enc, .int .i64 n, .int .i64 wd] w fun e w' => e = .returned (.bool (ratR Bs x n wd).isSome) ∧ Below w.heap.size w w' := by
  unfold ratR
  cases hg : goodR Bs x with
  | none => exact rat_no h x n wd h0 h1 (.inl hg)
  | some y =>
    rw [Option.bind_some]
    by_cases c1 : n < 1
    · rw [if_neg (by omega)]; exact rat_no h x n wd h0 h1 (.inr (.inl c1))
    · cases hp : pow2 wd with
      | false => rw [if_neg (by simp)]; exact rat_no h x n wd h0 h1 (.inr (.inr hp))
      | true =>
        refine (rat_go h x n wd h0 h1 hg (by omega) hn2 hp).mono ?_
        rintro e w' ⟨rfl, hB⟩
        refine ⟨?_, hB⟩
        by_cases c2 : n ≤ y.cs.length - x.v ∧ x.v % wd = 0 ∧ wd ≤ y.al
        · rw [decide_eq_true c2, if_pos ⟨by omega, rfl, c2⟩]; rfl
        · rw [decide_eq_false c2, if_neg (fun h => c2 h.2.2)]; rfl
theorem ratR_some {x : V3} {n wd : Int} {y : Blk} (h : ratR Bs x n wd = some y) : goodR Bs x = some y ∧ 1 ≤ n ∧ pow2 wd = true ∧ n ≤ y.cs.length - x.v ∧ x.v % wd = 0 ∧ wd ≤ y.al := by
  unfold ratR at h
  obtain ⟨q, hq, h⟩ := Option.bind_eq_some_iff.mp h
  split at h
  · next hc => cases h; exact ⟨hq, hc⟩
  · cases h
end Go.Proofs.Ythdnhfjodhjejaa.Ma
