/- heads: what must come at any rate. No condition beyond those each theorem names. And more of the kind: 7 texts in one. -/
import Derived.Test.YtejhnlljddjicaaDoorRGj
import Derived.Test.YtejhnlljddjicaaDoorRPEmx11
import Derived.Lib.SlBytesConst
namespace Go.Proofs.YtejhnlljddjicaaDoor.Ma
open Go.RowKit Go.Proofs.YtejhnlljddjicaaDoor.PEm Go.Proofs.YtejhnlljddjicaaDoorW.PrintWords Go.Proofs.YtejhnlljddjicaaDoorW.PrintLast Go.Proofs.YtejhnlljddjicaaDoorW.PrintMore Go.Proofs.YtejhnlljddjicaaDoor.La Go.Proofs.YtejhnlljddjicaaDoor.Ea
set_option linter.unusedVariables false
set_option linter.unusedSimpArgs false
variable {w w' : World} {c pg : Nat} {ps ps' : Pages} {S S' : Cpu} {inp out inp' out' : List Int}
theorem q1 : (runM 9 (startR [64, 1, 65, 0, 112, 1, 0, 0, 114, 1, 0, 0] 12 4096 [])).S.exit = 65 := by decide +kernel
theorem q2 : (runM 9 (startR [64, 1, 65, 0, 112, 1, 0, 0, 114, 1, 0, 0] 12 4096 [])).S.steps = 3 := by decide +kernel
theorem q3 : (runM 9 (startR [64, 1, 65, 0, 112, 1, 0, 0, 114, 1, 0, 0] 12 4096 [])).out = [65] := by decide +kernel
theorem q4 : stopOf (runM 9 (startR [64, 1, 65, 0, 112, 1, 0, 0, 114, 1, 0, 0] 12 4096 [])) = 1 := by decide +kernel
theorem q5 : stopOf (runM 9 (startR [84, 1, 2, 0] 4 4096 [])) = 6 := by decide +kernel
theorem q6 : (runM 9 (startR [84, 1, 2, 0] 4 4096 [])).S.exit = 1 := by decide +kernel
theorem q7 : (runM 9 (startR [84, 1, 2, 0] 4 4096 [])).out = [] := by decide +kernel
theorem q8 : (runM 9 (startR [84, 1, 2, 0] 4 4096 [])).S.steps = 1 := by decide +kernel
theorem ex2 : mortiselaw21_image.f 60 [⟨84, 1, 0, 0, 2⟩] = some ([84, 1, 2, 0], 4, 4096) := by decide +kernel
theorem ex1 : mortiselaw21_image.f 60 [⟨64, 1, 0, 0, 65⟩, ⟨112, 1, 0, 0, 0⟩, ⟨114, 1, 0, 0, 0⟩] = some ([64, 1, 65, 0, 112, 1, 0, 0, 114, 1, 0, 0], 12, 4096) := by decide +kernel
theorem add0 (g n : Nat) : (⟨g, 0, none⟩ : Addr).add n = ⟨g, n, none⟩ := by
  unfold Addr.add
  split
  · next e => rw [e]
  · simp
theorem C67 {g : Nat} (cs : Array Value) (xs : List S67) (h : w.heap[g]? = some (.cells cs 67 (0, 0))) (hl : xs.length ≤ 100) (hc : ∀ j p, xs[j]? = some p → ∀ i u, ([.int .i64 p.f0, .int .i64 p.f1, .int .i64 p.f2, .int .i64 p.f3, .int .i64 p.f4] : List Value)[i]? = some u → cs[j * 5 + i]? = some u) : Kd.C k67 w (some ⟨g, 0, none⟩) xs.length xs := by
  refine ⟨rfl, by omega, fun _ => ⟨_, rfl, fun j p hp => ⟨_, rfl, ⟨_, _, rfl, rfl, ⟨_, _, rfl, rfl, ⟨_, _, rfl, rfl, ⟨_, _, rfl, rfl, rfl⟩⟩⟩⟩, fun i u hu => ?_⟩⟩⟩
  rw [add0, blk_cell h]
  exact hc j p hp i u hu
theorem C_one {g : Nat} {b : Int} {fr : Nat × Nat} (h : w.heap[g]? = some (.cells #[.int .u8 b] 5 fr)) : Kd.C (Kd.int .u8) w (some ⟨g, 0, none⟩) 1 [b] := by
  refine Kd.C_of_reads (enc := Value.int .u8) (d := (0 : Int)) (h1 := fun _ => rfl) ⟨rfl, by omega, fun _ => ⟨_, rfl, fun j hj => ?_⟩⟩
  have : j = 0 := by omega
  subst this
  rw [add0, cell_of_row w g 0 _ 5 fr h]; rfl
theorem C_nil (w : World) : Kd.C (Kd.int .u8) w none 0 [] := ⟨rfl, by omega, fun h => absurd h (by omega)⟩
theorem bytes1 : ∀ b ∈ ([64, 1, 65, 0, 112, 1, 0, 0, 114, 1, 0, 0] : List Int), 0 ≤ b ∧ b < 256 := by decide
theorem bytes2 : ∀ b ∈ ([84, 1, 2, 0] : List Int), 0 ≤ b ∧ b < 256 := by decide
theorem image1 (w : World) (g : Nat) (h : w.heap[g]? = some (.cells #[.int .i64 64, .int .i64 1, .int .i64 0, .int .i64 0, .int .i64 65, .int .i64 112, .int .i64 1, .int .i64 0, .int .i64 0, .int .i64 0, .int .i64 114, .int .i64 1, .int .i64 0, .int .i64 0, .int .i64 0] 67 (0, 0))) : Calls Tryd.prog 24 #[.slice (some ⟨g, 0, none⟩) 3 3] w fun e w' => ∃ A k, e = .returned (.agg #[.slice A 12 k, .int .i64 12, .int .i64 4096]) ∧ Kd.C (Kd.int .u8) w' A 12 [64, 1, 65, 0, 112, 1, 0, 0, 114, 1, 0, 0] ∧ 12 ≤ k ∧ Below w.heap.size w w' := by
  refine (mortiselaw21_image.calls 60 (some ⟨g, 0, none⟩) 3 [⟨64, 1, 0, 0, 65⟩, ⟨112, 1, 0, 0, 0⟩, ⟨114, 1, 0, 0, 0⟩] _ _ _ w (C67 _ _ h (by decide) ?_) (by decide) ex1).mono ?_
  · intro j p hp i u hu
    match j, hp with
    | 0, hp | 1, hp | 2, hp =>
      simp at hp; subst hp
      match i, hu with
      | 0, hu | 1, hu | 2, hu | 3, hu | 4, hu => simp at hu; subst hu; rfl
      | n + 5, hu => simp at hu
    | n + 3, hp => simp at hp
  · rintro e w' ⟨v, rfl, hV, hb⟩
    obtain ⟨A, k, rfl⟩ := Kd.R_slice hV
    obtain ⟨_, hk, hC⟩ := Kd.R_reads' hV
    exact ⟨A, k, rfl, hC, hk, hb⟩
theorem image2 (w : World) (g : Nat) (h : w.heap[g]? = some (.cells #[.int .i64 84, .int .i64 1, .int .i64 0, .int .i64 0, .int .i64 2] 67 (0, 0))) : Calls Tryd.prog 24 #[.slice (some ⟨g, 0, none⟩) 1 1] w fun e w' => ∃ A k, e = .returned (.agg #[.slice A 4 k, .int .i64 4, .int .i64 4096]) ∧ Kd.C (Kd.int .u8) w' A 4 [84, 1, 2, 0] ∧ 4 ≤ k ∧ Below w.heap.size w w' := by
  refine (mortiselaw21_image.calls 60 (some ⟨g, 0, none⟩) 1 [⟨84, 1, 0, 0, 2⟩] _ _ _ w (C67 _ _ h (by decide) ?_) (by decide) ex2).mono ?_
  · intro j p hp i u hu
    match j, hp with
    | 0, hp =>
      simp at hp; subst hp
      match i, hu with
      | 0, hu | 1, hu | 2, hu | 3, hu | 4, hu => simp at hu; subst hu; rfl
      | n + 5, hu => simp at hu
    | n + 1, hp => simp at hp
  · rintro e w' ⟨v, rfl, hV, hb⟩
    obtain ⟨A, k, rfl⟩ := Kd.R_slice hV
    obtain ⟨_, hk, hC⟩ := Kd.R_reads' hV
    exact ⟨A, k, rfl, hC, hk, hb⟩
theorem run1 (w : World) (hh : Held w) (A : Option Addr) (k : Nat) (hC : Kd.C (Kd.int .u8) w A 12 [64, 1, 65, 0, 112, 1, 0, 0, 114, 1, 0, 0]) (hk : 12 ≤ k) : Calls Tryd.prog 8 #[.agg #[.slice A 12 k, .int .i64 12, .int .i64 4096], .slice none 0 0, .int .i64 9] w fun e w' => ∃ A2 k2, e = .returned (.tuple #[.agg #[.int .i64 1, .int .i64 65, .slice A2 1 k2, .int .i64 3], .int .i64 0]) ∧ Kd.C (Kd.int .u8) w' A2 1 [65] ∧ 1 ≤ k2 ∧ Below w.heap.size w w' := by
  refine (run_yes w hh A k [64, 1, 65, 0, 112, 1, 0, 0, 114, 1, 0, 0] 12 4096 none 0 [] 9 hC hk (by unfold okImg; decide) bytes1 (C_nil w) (by decide) (by simp) (by decide)).mono ?_
  rintro e w' ⟨v, rfl, hV, hb⟩
  rw [q3] at hV
  obtain ⟨A2, k2, rfl⟩ := Kd.R_slice hV
  obtain ⟨_, hk2, hC2⟩ := Kd.R_reads' hV
  exact ⟨A2, k2, by rw [q4, q1, q2]; rfl, hC2, hk2, hb⟩
theorem run2 (w : World) (hh : Held w) (A : Option Addr) (k : Nat) (hC : Kd.C (Kd.int .u8) w A 4 [84, 1, 2, 0]) (hk : 4 ≤ k) : Calls Tryd.prog 8 #[.agg #[.slice A 4 k, .int .i64 4, .int .i64 4096], .slice none 0 0, .int .i64 9] w fun e w' => ∃ A2 k2, e = .returned (.tuple #[.agg #[.int .i64 6, .int .i64 1, .slice A2 0 k2, .int .i64 1], .int .i64 0]) ∧ Below w.heap.size w w' := by
  refine (run_yes w hh A k [84, 1, 2, 0] 4 4096 none 0 [] 9 hC hk (by unfold okImg; decide) bytes2 (C_nil w) (by decide) (by simp) (by decide)).mono ?_
  rintro e w' ⟨v, rfl, hV, hb⟩
  rw [q7] at hV
  obtain ⟨A2, k2, rfl⟩ := Kd.R_slice hV
  exact ⟨A2, k2, by rw [q5, q6, q8]; rfl, hb⟩
set_option maxHeartbeats 4000000 in
set_option maxRecDepth 100000 in
theorem heads_calls (w : World) (hh : Held w) : Calls Tryd.prog 14 #[] w fun e w' => e = .returned (.bool true) ∧ Below w.heap.size w w' := by
  have HH := Aside0.mk hh
  clear hh
  go_enter Tryd.func14, Tryd.ntmps14
  go_upto_region 2 with (first | (go_at_call 24; refine (image1 _ w.heap.size (heap_at _ _ _ rfl)).mono ?_; rintro e Y ⟨A, k, rfl, hC, hk, hb⟩))
  have C1 := Aside0.mk (Kd.C_below hC (below_alloc (Below.refl Y.heap.size Y) (.cells #[.slice A 12 k, .int .i64 12, .int .i64 4096] 24)))
  have B1 := Aside0.mk (show Below w.heap.size w (Y.alloc (.cells #[.slice A 12 k, .int .i64 12, .int .i64 4096] 24)) from below_alloc (pm_chain (below_alloc (Below.refl _ _) _) hb) _)
  have R1 := Aside0.mk (show (Y.alloc (.cells #[.slice A 12 k, .int .i64 12, .int .i64 4096] 24)).heap[Y.heap.size]? = some (.cells #[.slice A 12 k, .int .i64 12, .int .i64 4096] 24 (0, 0)) from heap_at _ _ _ rfl)
  have K1 := Aside0.mk hk
  have HH1 := Aside0.mk (held_below HH.out B1.out)
  clear hC hk hb
  generalize Y.alloc (.cells #[.slice A 12 k, .int .i64 12, .int .i64 4096] 24) = W1 at C1 B1 R1 HH1 ⊢
  generalize Y.heap.size = g1 at R1 ⊢
  have c0 := (blk_cell R1.out 0).trans rfl
  have c1 := (blk_cell R1.out 1).trans rfl
  have c2 := (blk_cell R1.out 2).trans rfl
  go_upto_region 3 with (first | (go_at_call 8; refine (run1 _ HH1.out A k C1.out K1.out).mono ?_; rintro e Y2 ⟨A2, k2, rfl, hC2, hk2, hb2⟩))
  clear c0 c1 c2
  have C2 := Aside0.mk (Kd.C_below hC2 (below_alloc (Below.refl Y2.heap.size Y2) (.cells #[.int .i64 1, .int .i64 65, .slice A2 1 k2, .int .i64 3] 27)))
  have B2 := Aside0.mk (show Below w.heap.size w (Y2.alloc (.cells #[.int .i64 1, .int .i64 65, .slice A2 1 k2, .int .i64 3] 27)) from below_alloc (pm_chain B1.out hb2) _)
  have R2 := Aside0.mk (show (Y2.alloc (.cells #[.int .i64 1, .int .i64 65, .slice A2 1 k2, .int .i64 3] 27)).heap[Y2.heap.size]? = some (.cells #[.int .i64 1, .int .i64 65, .slice A2 1 k2, .int .i64 3] 27 (0, 0)) from heap_at _ _ _ rfl)
  have K2 := Aside0.mk hk2
  have HH2 := Aside0.mk (held_below HH.out B2.out)
  clear hC2 hk2 hb2 R1 C1 K1
  generalize Y2.alloc (.cells #[.int .i64 1, .int .i64 65, .slice A2 1 k2, .int .i64 3] 27) = W2 at C2 B2 R2 HH2 ⊢
  generalize Y2.heap.size = g2 at R2 ⊢
  go_upto_region 4 with (first | (go_at_call 24; refine (image2 _ W2.heap.size (heap_at _ _ _ rfl)).mono ?_; rintro e Y3 ⟨A3, k3, rfl, hC3, hk3, hb3⟩; have B3 := Aside0.mk (pm_chain (below_alloc (Below.refl W2.heap.size W2) (.cells #[.int .i64 84, .int .i64 1, .int .i64 0, .int .i64 0, .int .i64 2] 67)) hb3); have HH3 := Aside0.mk (held_below HH2.out B3.out); have C3 := Aside0.mk hC3; have K3 := Aside0.mk hk3; clear hC3 hk3 hb3) | (go_at_call 8; refine (run2 _ HH3.out A3 k3 C3.out K3.out).mono ?_; rintro e Y4 ⟨A4, k4, rfl, hb4⟩; have B4 := Aside0.mk (pm_chain B3.out hb4); clear hb4))
  have B5 := Aside0.mk (show Below W2.heap.size W2 (Y4.alloc (.cells #[.int .i64 6, .int .i64 1, .slice A4 0 k4, .int .i64 1] 27)) from below_alloc B4.out _)
  have R4 := Aside0.mk (show (Y4.alloc (.cells #[.int .i64 6, .int .i64 1, .slice A4 0 k4, .int .i64 1] 27)).heap[Y4.heap.size]? = some (.cells #[.int .i64 6, .int .i64 1, .slice A4 0 k4, .int .i64 1] 27 (0, 0)) from heap_at _ _ _ rfl)
  generalize Y4.alloc (.cells #[.int .i64 6, .int .i64 1, .slice A4 0 k4, .int .i64 1] 27) = W4 at B5 R4 ⊢
  generalize Y4.heap.size = g4 at R4 ⊢
  have R5 := Aside0.mk (blk_below R2.out B5.out)
  have C5 := Aside0.mk (Kd.C_below C2.out B5.out)
  have d0 := (blk_cell R5.out 0).trans rfl
  have d1 := (blk_cell R5.out 1).trans rfl
  have d2 := (blk_cell R5.out 2).trans rfl
  have d3 := (blk_cell R5.out 3).trans rfl
  have hcv := Go.Lib.run_convert_bytes_const (P := Tryd.prog) W4 22 5 #[.int .u8 65] 1 1 Tryd.underlying22 Tryd.underlying5
  have BA := Aside0.mk (show Below W4.heap.size W4 (W4.alloc (.cells #[.int .u8 65] 5 (1, 2))) from below_alloc (Below.refl _ _) _)
  have CA := Aside0.mk (C_one (fr := (1, 2)) (w := W4.alloc (.cells #[.int .u8 65] 5 (1, 2))) (g := W4.heap.size) (heap_at _ _ _ rfl))
  have CB := Aside0.mk (Kd.C_below C5.out BA.out)
  go_wp2_with (first | (go_at_call 10; refine (mortiseref21_Same.calls 40 1 65 A2 k2 [65] 3 1 65 (some ⟨W4.heap.size, 0, none⟩) 1 [65] 3 true _ CB.out K2.out CA.out (by decide) (by decide +kernel)).mono ?_; rintro e Y5 ⟨rfl, hb5⟩; have B6 := Aside0.mk (pm_chain BA.out hb5); have R6 := Aside0.mk (blk_below R4.out B6.out); have e0 := (blk_cell R6.out 0).trans rfl; have e1 := (blk_cell R6.out 1).trans rfl) | (go_at_call 11; refine (emu_Check.calls 1 none 0 [] 0 0 2 _ (C_nil _) (by decide) (by decide +kernel)).mono ?_; rintro e Y6 ⟨rfl, hb6⟩; have B7 := Aside0.mk (pm_chain B6.out hb6)))
  go_ret
  exact ⟨rfl, pm_chain B2.out (pm_chain B5.out B7.out)⟩
end Go.Proofs.YtejhnlljddjicaaDoor.Ma
namespace Go.Proofs.YtejhnlljddjicaaDoor.Ma
open Go.RowKit Go.Proofs.YtejhnlljddjicaaDoor.PEm Go.Proofs.YtejhnlljddjicaaDoorW.PrintWords Go.Proofs.YtejhnlljddjicaaDoorW.PrintLast Go.Proofs.YtejhnlljddjicaaDoorW.PrintMore Go.Proofs.YtejhnlljddjicaaDoor.La Go.Proofs.YtejhnlljddjicaaDoor.Ea
set_option linter.unusedVariables false
set_option linter.unusedSimpArgs false
variable {w w' : World} {c pg : Nat} {ps ps' : Pages} {S S' : Cpu} {inp out inp' out' : List Int}
end Go.Proofs.YtejhnlljddjicaaDoor.Ma
namespace Go.Proofs.YtejhnlljddjicaaDoor.Ma
open Go.RowKit Go.Proofs.YtejhnlljddjicaaDoor.PEm Go.Proofs.YtejhnlljddjicaaDoorW.PrintWords Go.Proofs.YtejhnlljddjicaaDoorW.PrintLast Go.Proofs.YtejhnlljddjicaaDoorW.PrintMore Go.Proofs.YtejhnlljddjicaaDoor.La Go.Proofs.YtejhnlljddjicaaDoor.Ea
set_option linter.unusedVariables false
set_option linter.unusedSimpArgs false
variable {w w' : World} {c pg : Nat} {ps ps' : Pages} {S S' : Cpu} {inp out inp' out' : List Int}
theorem same_from (l : List Int) (hl : l.length < 9223372036854775807) (d : Nat) : ∀ (k : Nat) (i : Int), 0 ≤ i → i ≤ l.length → (l.length : Int) - i = d → d < k → mortiseref01_Same.l0 k l l i = some true := by
  induction d with
  | zero =>
    intro k i h0 h1 hd hk
    obtain ⟨k, rfl⟩ : ∃ m, k = m + 1 := ⟨k - 1, by omega⟩
    simp only [mortiseref01_Same.l0]; rw [if_neg (by omega)]
  | succ d ih =>
    intro k i h0 h1 hd hk
    obtain ⟨k, rfl⟩ : ∃ m, k = m + 1 := ⟨k - 1, by omega⟩
    have hw : wrap64 (i + 1) = i + 1 := by unfold wrap64; omega
    simp only [mortiseref01_Same.l0]
    rw [if_pos (by omega), if_pos h0, hw, if_true]
    exact (if_pos (by omega)).trans (ih k (i + 1) (by omega) (by omega) (by omega) (by omega))
theorem same_self (l : List Int) (hl : l.length < 9223372036854775807) (k : Nat) (hk : l.length < k) : mortiseref01_Same.f k l l = some true := by
  unfold mortiseref01_Same.f
  rw [if_pos rfl]
  exact same_from l hl l.length k 0 (by omega) (by omega) (by omega) hk
end Go.Proofs.YtejhnlljddjicaaDoor.Ma
namespace Go.Proofs.YtejhnlljddjicaaDoor.Ma
open Go.RowKit Go.Proofs.YtejhnlljddjicaaDoor.PEm Go.Proofs.YtejhnlljddjicaaDoorW.PrintWords Go.Proofs.YtejhnlljddjicaaDoorW.PrintLast Go.Proofs.YtejhnlljddjicaaDoorW.PrintMore Go.Proofs.YtejhnlljddjicaaDoor.La Go.Proofs.YtejhnlljddjicaaDoor.Ea
set_option linter.unusedVariables false
set_option linter.unusedSimpArgs false
variable {w w' : World} {c pg : Nat} {ps ps' : Pages} {S S' : Cpu} {inp out inp' out' : List Int}
end Go.Proofs.YtejhnlljddjicaaDoor.Ma
namespace Go.Proofs.YtejhnlljddjicaaDoor.Ma
open Go.RowKit Go.Proofs.YtejhnlljddjicaaDoor.PEm Go.Proofs.YtejhnlljddjicaaDoorW.PrintWords Go.Proofs.YtejhnlljddjicaaDoorW.PrintLast Go.Proofs.YtejhnlljddjicaaDoorW.PrintMore Go.Proofs.YtejhnlljddjicaaDoor.La Go.Proofs.YtejhnlljddjicaaDoor.Ea
set_option linter.unusedVariables false
set_option linter.unusedSimpArgs false
variable {w w' : World} {c pg : Nat} {ps ps' : Pages} {S S' : Cpu} {inp out inp' out' : List Int}
theorem run_next (n : Nat) (r : Ran) (h : r.S.ended = 0) : runM (n + 1) r = runM n (stepM r.m r.S r.inp r.out) := by
  show (if r.S.ended ≠ 0 then r else _) = _
  rw [if_neg (by simp [h])]
theorem run_counts : ∀ (n : Nat) (r : Ran), (runM n r).S.steps ≤ r.S.steps + n ∧ r.S.steps ≤ (runM n r).S.steps ∧ ((runM n r).out.length : Int) - r.out.length ≤ (runM n r).S.steps - r.S.steps ∧ (0 < n → r.S.ended = 0 → r.S.steps + 1 ≤ (runM n r).S.steps)
  | 0, r => ⟨by simp [runM], by simp [runM], by simp [runM], fun h => absurd h (by omega)⟩
  | n + 1, r => by
    by_cases h : r.S.ended = 0
    · rw [run_next _ _ h]
      obtain ⟨a1, a2, a3, _⟩ := run_counts n (stepM r.m r.S r.inp r.out)
      obtain ⟨k1, _, k3, _⟩ := step_keeps r.m r.S r.inp r.out h
      have hl : ((stepM r.m r.S r.inp r.out).out.length : Int) ≤ r.out.length + 1 := by
        rcases k3 with k | ⟨v, k⟩ <;> rw [k] <;> first | omega | (rw [List.length_append, List.length_singleton]; omega)
      refine ⟨by omega, by omega, by omega, fun _ _ => by omega⟩
    · rw [run_still _ _ h]
      exact ⟨by omega, by omega, by omega, fun _ h' => absurd h' h⟩
end Go.Proofs.YtejhnlljddjicaaDoor.Ma
namespace Go.Proofs.YtejhnlljddjicaaDoor.Ma
open Go.RowKit Go.Proofs.YtejhnlljddjicaaDoor.PEm Go.Proofs.YtejhnlljddjicaaDoorW.PrintWords Go.Proofs.YtejhnlljddjicaaDoorW.PrintLast Go.Proofs.YtejhnlljddjicaaDoorW.PrintMore Go.Proofs.YtejhnlljddjicaaDoor.La Go.Proofs.YtejhnlljddjicaaDoor.Ea
set_option linter.unusedVariables false
set_option linter.unusedSimpArgs false
variable {w w' : World} {c pg : Nat} {ps ps' : Pages} {S S' : Cpu} {inp out inp' out' : List Int}
theorem same21 (a b d : Int) (l : List Int) (hl : l.length ≤ 4194304) : mortiseref21_Same.f 5000000 a b l d a b l d = some true := by
  unfold mortiseref21_Same.f
  have h := same_self l (by omega) 5000000 (by omega)
  simp [h]
end Go.Proofs.YtejhnlljddjicaaDoor.Ma
namespace Go.Proofs.YtejhnlljddjicaaDoor.Ma
open Go.RowKit Go.Proofs.YtejhnlljddjicaaDoor.PEm Go.Proofs.YtejhnlljddjicaaDoorW.PrintWords Go.Proofs.YtejhnlljddjicaaDoorW.PrintLast Go.Proofs.YtejhnlljddjicaaDoorW.PrintMore Go.Proofs.YtejhnlljddjicaaDoor.La Go.Proofs.YtejhnlljddjicaaDoor.Ea
set_option linter.unusedVariables false
set_option linter.unusedSimpArgs false
variable {w w' : World} {c pg : Nat} {ps ps' : Pages} {S S' : Cpu} {inp out inp' out' : List Int}
theorem or_low (n : Nat) (x y : Int) (hx : 0 ≤ x ∧ x < 2 ^ n ∧ x < 4294967296) (hy : 0 ≤ y ∧ y < 4294967296 ∧ y % 2 ^ n = 0) : bits .or .u32 x y = x + y := by
  have h := bits_join .u32 32 (by decide) wraps_u32 n y x hy.1 hy.2.2 hy.2.1 hx.1 hx.2.1 hx.2.2
  rw [or_bv] at h ⊢
  rw [BitVec.or_comm, h]; omega
def Ran.more (r : Ran) (t : List Int) : Ran := { r with inp := r.inp ++ t }
/-- The instruction ahead asks for input (or would, did it decode). -/
def asks (r : Ran) : Prop := r.S.pc % 4 = 0 ∧ r.S.pc ≤ 8388604 ∧ r.m r.S.pc.toNat = 113
instance (r : Ran) : Decidable (asks r) := inferInstanceAs (Decidable (_ ∧ _))
/-- How often a run of at most n steps asks. -/
def asked : Nat → Ran → Nat
  | 0, _ => 0
  | n + 1, r => if r.S.ended ≠ 0 then 0 else (if asks r then 1 else 0) + asked n (stepM r.m r.S r.inp r.out)
end Go.Proofs.YtejhnlljddjicaaDoor.Ma
