/- heads: what must come at any rate. No condition beyond those each theorem names. And more of the kind: 7 texts in one. -/
import Derived.Test.YtejhnlljddjicaaDoorVGj
import Derived.Test.YtejhnlljddjicaaDoorVPEmx11
import Derived.Lib.SlBytesConst
namespace Go.Proofs.YtejhnlljddjicaaDoor.Ma
open Go.RowKit Go.Proofs.YtejhnlljddjicaaDoor.PEm Go.Proofs.YtejhnlljddjicaaDoorW.PrintWords Go.Proofs.YtejhnlljddjicaaDoorW.PrintLast Go.Proofs.YtejhnlljddjicaaDoorW.PrintMore Go.Proofs.YtejhnlljddjicaaDoor.La Go.Proofs.YtejhnlljddjicaaDoor.Ea
set_option linter.unusedVariables false
set_option linter.unusedSimpArgs false
variable {w w' : World} {c pg : Nat} {ps ps' : Pages} {S S' : Cpu} {inp out inp' out' : List Int}
theorem q1 : (runM 9 (startR [64, 1, 65, 0, 112, 1, 0, 0, 114, 1, 0, 0] 12 4096 [])).S.exit = 65 := by decide +kernel
theorem q2 : (runM 9 (startR [64, 1, 65, 0, 112, 1, 0, 0, 114, 1, 0, 0] 12 4096 [])).S.steps = 3 := by decide +kernel
theorem q3 : (runM 9 (startR [64, 1, 65, 0, 112, 1, 0, 0, 114, 1, 0, 0] 12 4096 [])).out = [65] := by decide +kernel
theorem q4 : stopOf (runM 9 (startR [64, 1, 65, 0, 112, 1, 0, 0, 114, 1, 0, 0] 12 4096 [])) = 1 := by decide +kernel
theorem q5 : stopOf (runM 9 (startR [84, 1, 2, 0] 4 4096 [])) = 6 := by decide +kernel
theorem q6 : (runM 9 (startR [84, 1, 2, 0] 4 4096 [])).S.exit = 1 := by decide +kernel
theorem q7 : (runM 9 (startR [84, 1, 2, 0] 4 4096 [])).out = [] := by decide +kernel
theorem q8 : (runM 9 (startR [84, 1, 2, 0] 4 4096 [])).S.steps = 1 := by decide +kernel
theorem ex2 : mortiselaw21_image.f 60 [⟨84, 1, 0, 0, 2⟩] = some ([84, 1, 2, 0], 4, 4096) := by decide +kernel
theorem ex1 : mortiselaw21_image.f 60 [⟨64, 1, 0, 0, 65⟩, ⟨112, 1, 0, 0, 0⟩, ⟨114, 1, 0, 0, 0⟩] = some ([64, 1, 65, 0, 112, 1, 0, 0, 114, 1, 0, 0], 12, 4096) := by decide +kernel
theorem add0 (g n : Nat) : (⟨g, 0, none⟩ : Addr).add n = ⟨g, n, none⟩ := by
  unfold Addr.add
  split
  · next e => rw [e]
  · simp
theorem C67 {g : Nat} (cs : Array Value) (xs : List S67) (h : w.heap[g]? = some (.cells cs 67 (0, 0))) (hl : xs.length ≤ 100) (hc : ∀ j p, xs[j]? = some p → ∀ i u, ([.int .i64 p.f0, .int .i64 p.f1, .int .i64 p.f2, .int .i64 p.f3, .int .i64 p.f4] : List Value)[i]? = some u → cs[j * 5 + i]? = some u) : Kd.C k67 w (some ⟨g, 0, none⟩) xs.length xs := by
  refine ⟨rfl, by omega, fun _ => ⟨_, rfl, fun j p hp => ⟨_, rfl, ⟨_, _, rfl, rfl, ⟨_, _, rfl, rfl, ⟨_, _, rfl, rfl, ⟨_, _, rfl, rfl, rfl⟩⟩⟩⟩, fun i u hu => ?_⟩⟩⟩
  rw [add0, blk_cell h]
  exact hc j p hp i u hu
theorem C_one {g : Nat} {b : Int} {fr : Nat × Nat} (h : w.heap[g]? = some (.cells #[.int .u8 b] 5 fr)) : Kd.C (Kd.int .u8) w (some ⟨g, 0, none⟩) 1 [b] := by
  refine Kd.C_of_reads (enc := Value.int .u8) (d := (0 : Int)) (h1 := fun _ => rfl) ⟨rfl, by omega, fun _ => ⟨_, rfl, fun j hj => ?_⟩⟩
  have : j = 0 := by omega
  subst this
  rw [add0, cell_of_row w g 0 _ 5 fr h]; rfl
theorem C_nil (w : World) : Kd.C (Kd.int .u8) w none 0 [] := ⟨rfl, by omega, fun h => absurd h (by omega)⟩
theorem bytes1 : ∀ b ∈ ([64, 1, 65, 0, 112, 1, 0, 0, 114, 1, 0, 0] : List Int), 0 ≤ b ∧ b < 256 := by decide
theorem bytes2 : ∀ b ∈ ([84, 1, 2, 0] : List Int), 0 ≤ b ∧ b < 256 := by decide
theorem image1 (w : World) (g : Nat) (h : w.heap[g]? = some (.cells #[.int .i64 64, .int .i64 1, .int .i64 0, .int .i64 0, .int .i64 65, .int .i64 112, .int .i64 1, .int .i64 0, .int .i64 0, .int .i64 0, .int .i64 114, .int .i64 1, .int .i64 0, .int .i64 0, .int .i64 0] 67 (0, 0))) : Calls Tryd.prog 24 #[.slice (some ⟨g, 0, none⟩) 3 3] w fun e w' => ∃ A k, e = .returned (.agg #[.slice A 12 k, .int .i64 12, .int .i64 4096]) ∧ Kd.C (Kd.int .u8) w' A 12 [64, 1, 65, 0, 112, 1, 0, 0, 114, 1, 0, 0] ∧ 12 ≤ k ∧ Below w.heap.size w w' := by
  refine (mortiselaw21_image.calls 60 (some ⟨g, 0, none⟩) 3 [⟨64, 1, 0, 0, 65⟩, ⟨112, 1, 0, 0, 0⟩, ⟨114, 1, 0, 0, 0⟩] _ _ _ w (C67 _ _ h (by decide) ?_) (by decide) ex1).mono ?_
  · intro j p hp i u hu
    match j, hp with
    | 0, hp | 1, hp | 2, hp =>
      simp at hp; subst hp
      match i, hu with
      | 0, hu | 1, hu | 2, hu | 3, hu | 4, hu => simp at hu; subst hu; rfl
      | n + 5, hu => simp at hu
    | n + 3, hp => simp at hp
  · rintro e w' ⟨v, rfl, hV, hb⟩
    obtain ⟨A, k, rfl⟩ := Kd.R_slice hV
    obtain ⟨_, hk, hC⟩ := Kd.R_reads' hV
    exact ⟨A, k, rfl, hC, hk, hb⟩
theorem image2 (w : World) (g : Nat) (h : w.heap[g]? = some (.cells #[.int .i64 84, .int .i64 1, .int .i64 0, .int .i64 0, .int .i64 2] 67 (0, 0))) : Calls Tryd.prog 24 #[.slice (some ⟨g, 0, none⟩) 1 1] w fun e w' => ∃ A k, e = .returned (.agg #[.slice A 4 k, .int .i64 4, .int .i64 4096]) ∧ Kd.C (Kd.int .u8) w' A 4 [84, 1, 2, 0] ∧ 4 ≤ k ∧ Below w.heap.size w w' := by
  refine (mortiselaw21_image.calls 60 (some ⟨g, 0, none⟩) 1 [⟨84, 1, 0, 0, 2⟩] _ _ _ w (C67 _ _ h (by decide) ?_) (by decide) ex2).mono ?_
  · intro j p hp i u hu
    match j, hp with
    | 0, hp =>
      simp at hp; subst hp
      match i, hu with
      | 0, hu | 1, hu | 2, hu | 3, hu | 4, hu => simp at hu; subst hu; rfl
      | n + 5, hu => simp at hu
    | n + 1, hp => simp at hp
  · rintro e w' ⟨v, rfl, hV, hb⟩
    obtain ⟨A, k, rfl⟩ := Kd.R_slice hV
    obtain ⟨_, hk, hC⟩ := Kd.R_reads' hV
    exact ⟨A, k, rfl, hC, hk, hb⟩
theorem run1 (w : World) (hh : Held w) (A : Option Addr) (k : Nat) (hC : Kd.C (Kd.int .u8) w A 12 [64, 1, 65, 0, 112, 1, 0, 0, 114, 1, 0, 0]) (hk : 12 ≤ k) : Calls Tryd.prog 8 #[.agg #[.slice A 12 k, .int .i64 12, .int .i64 4096], .slice none 0 0, .int .i64 9] w fun e w' => ∃ A2 k2, e = .returned (.tuple #[.agg #[.int .i64 1, .int .i64 65, .slice A2 1 k2, .int .i64 3], .int .i64 0]) ∧ Kd.C (Kd.int .u8) w' A2 1 [65] ∧ 1 ≤ k2 ∧ Below w.heap.size w w' := by
  refine (run_yes w hh A k [64, 1, 65, 0, 112, 1, 0, 0, 114, 1, 0, 0] 12 4096 none 0 [] 9 hC hk (by unfold okImg; decide) bytes1 (C_nil w) (by decide) (by simp) (by decide)).mono ?_
  rintro e w' ⟨v, rfl, hV, hb⟩
  rw [q3] at hV
  obtain ⟨A2, k2, rfl⟩ := Kd.R_slice hV
  obtain ⟨_, hk2, hC2⟩ := Kd.R_reads' hV
  exact ⟨A2, k2, by rw [q4, q1, q2]; rfl, hC2, hk2, hb⟩
theorem run2 (w : World) (hh : Held w) (A : Option Addr) (k : Nat) (hC : Kd.C (Kd.int .u8) w A 4 [84, 1, 2, 0]) (hk : 4 ≤ k) : Calls Tryd.prog 8 #[.agg #[.slice A 4 k, .int .i64 4, .int .i64 4096], .slice none 0 0, .int .i64 9] w fun e w' => ∃ A2 k2, e = .returned (.tuple #[.agg #[.int .i64 6, .int .i64 1, .slice A2 0 k2, .int .i64 1], .int .i64 0]) ∧ Below w.heap.size w w' := by
  refine (run_yes w hh A k [84, 1, 2, 0] 4 4096 none 0 [] 9 hC hk (by unfold okImg; decide) bytes2 (C_nil w) (by decide) (by simp) (by decide)).mono ?_
  rintro e w' ⟨v, rfl, hV, hb⟩
  rw [q7] at hV
  obtain ⟨A2, k2, rfl⟩ := Kd.R_slice hV
  exact ⟨A2, k2, by rw [q5, q6, q8]; rfl, hb⟩
set_option maxHeartbeats 4000000 in
set_option maxRecDepth 100000 in
theorem heads_calls (w : World) (hh : Held w) : Calls Tryd.prog 14 #[] w fun e w' => e = .returned (.bool true) ∧ Below w.heap.size w w' := by
  have HH := Aside0.mk hh
  clear hh
  go_enter Tryd.func14, Tryd.ntmps14
  go_upto_region 2 with (first | (go_at_call 24; refine (image1 _ w.heap.size (heap_at _ _ _ rfl)).mono ?_; rintro e Y ⟨A, k, rfl, hC, hk, hb⟩))
  have C1 := Aside0.mk (Kd.C_below hC (below_alloc (Below.refl Y.heap.size Y) (.cells #[.slice A 12 k, .int .i64 12, .int .i64 4096] 24)))
  have B1 := Aside0.mk (show Below w.heap.size w (Y.alloc (.cells #[.slice A 12 k, .int .i64 12, .int .i64 4096] 24)) from below_alloc (pm_chain (below_alloc (Below.refl _ _) _) hb) _)
  have R1 := Aside0.mk (show (Y.alloc (.cells #[.slice A 12 k, .int .i64 12, .int .i64 4096] 24)).heap[Y.heap.size]? = some (.cells #[.slice A 12 k, .int .i64 12, .int .i64 4096] 24 (0, 0)) from heap_at _ _ _ rfl)
  have K1 := Aside0.mk hk
  have HH1 := Aside0.mk (held_below HH.out B1.out)
  clear hC hk hb
  generalize Y.alloc (.cells #[.slice A 12 k, .int .i64 12, .int .i64 4096] 24) = W1 at C1 B1 R1 HH1 ⊢
  generalize Y.heap.size = g1 at R1 ⊢
  have c0 := (blk_cell R1.out 0).trans rfl
  have c1 := (blk_cell R1.out 1).trans rfl
  have c2 := (blk_cell R1.out 2).trans rfl
  go_upto_region 3 with (first | (go_at_call 8; refine (run1 _ HH1.out A k C1.out K1.out).mono ?_; rintro e Y2 ⟨A2, k2, rfl, hC2, hk2, hb2⟩))
  clear c0 c1 c2
  have C2 := Aside0.mk (Kd.C_below hC2 (below_alloc (Below.refl Y2.heap.size Y2) (.cells #[.int .i64 1, .int .i64 65, .slice A2 1 k2, .int .i64 3] 27)))
  have B2 := Aside0.mk (show Below w.heap.size w (Y2.alloc (.cells #[.int .i64 1, .int .i64 65, .slice A2 1 k2, .int .i64 3] 27)) from below_alloc (pm_chain B1.out hb2) _)
  have R2 := Aside0.mk (show (Y2.alloc (.cells #[.int .i64 1, .int .i64 65, .slice A2 1 k2, .int .i64 3] 27)).heap[Y2.heap.size]? = some (.cells #[.int .i64 1, .int .i64 65, .slice A2 1 k2, .int .i64 3] 27 (0, 0)) from heap_at _ _ _ rfl)
  have K2 := Aside0.mk hk2
  have HH2 := Aside0.mk (held_below HH.out B2.out)
  clear hC2 hk2 hb2 R1 C1 K1
  generalize Y2.alloc (.cells #[.int .i64 1, .int .i64 65, .slice A2 1 k2, .int .i64 3] 27) = W2 at C2 B2 R2 HH2 ⊢
  generalize Y2.heap.size = g2 at R2 ⊢
  go_upto_region 4 with (first | (go_at_call 24; refine (image2 _ W2.heap.size (heap_at _ _ _ rfl)).mono ?_; rintro e Y3 ⟨A3, k3, rfl, hC3, hk3, hb3⟩; have B3 := Aside0.mk (pm_chain (below_alloc (Below.refl W2.heap.size W2) (.cells #[.int .i64 84, .int .i64 1, .int .i64 0, .int .i64 0, .int .i64 2] 67)) hb3); have HH3 := Aside0.mk (held_below HH2.out B3.out); have C3 := Aside0.mk hC3; have K3 := Aside0.mk hk3; clear hC3 hk3 hb3) | (go_at_call 8; refine (run2 _ HH3.out A3 k3 C3.out K3.out).mono ?_; rintro e Y4 ⟨A4, k4, rfl, hb4⟩; have B4 := Aside0.mk (pm_chain B3.out hb4); clear hb4))
  have B5 := Aside0.mk (show Below W2.heap.size W2 (Y4.alloc (.cells #[.int .i64 6, .int .i64 1, .slice A4 0 k4, .int .i64 1] 27)) from below_alloc B4.out _)
  have R4 := Aside0.mk (show (Y4.alloc (.cells #[.int .i64 6, .int .i64 1, .slice A4 0 k4, .int .i64 1] 27)).heap[Y4.heap.size]? = some (.cells #[.int .i64 6, .int .i64 1, .slice A4 0 k4, .int .i64 1] 27 (0, 0)) from heap_at _ _ _ rfl)
  generalize Y4.alloc (.cells #[.int .i64 6, .int .i64 1, .slice A4 0 k4, .int .i64 1] 27) = W4 at B5 R4 ⊢
  generalize Y4.heap.size = g4 at R4 ⊢
  have R5 := Aside0.mk (blk_below R2.out B5.out)
  have C5 := Aside0.mk (Kd.C_below C2.out B5.out)
  have d0 := (blk_cell R5.out 0).trans rfl
  have d1 := (blk_cell R5.out 1).trans rfl
  have d2 := (blk_cell R5.out 2).trans rfl
  have d3 := (blk_cell R5.out 3).trans rfl
  have hcv := Go.Lib.run_convert_bytes_const (P := Tryd.prog) W4 22 5 #[.int .u8 65] 1 1 Tryd.underlying22 Tryd.underlying5
  have BA := Aside0.mk (show Below W4.heap.size W4 (W4.alloc (.cells #[.int .u8 65] 5 (1, 2))) from below_alloc (Below.refl _ _) _)
  have CA := Aside0.mk (C_one (fr := (1, 2)) (w := W4.alloc (.cells #[.int .u8 65] 5 (1, 2))) (g := W4.heap.size) (heap_at _ _ _ rfl))
  have CB := Aside0.mk (Kd.C_below C5.out BA.out)
  go_wp2_with (first | (go_at_call 10; refine (mortiseref21_Same.calls 40 1 65 A2 k2 [65] 3 1 65 (some ⟨W4.heap.size, 0, none⟩) 1 [65] 3 true _ CB.out K2.out CA.out (by decide) (by decide +kernel)).mono ?_; rintro e Y5 ⟨rfl, hb5⟩; have B6 := Aside0.mk (pm_chain BA.out hb5); have R6 := Aside0.mk (blk_below R4.out B6.out); have e0 := (blk_cell R6.out 0).trans rfl; have e1 := (blk_cell R6.out 1).trans rfl) | (go_at_call 11; refine (emu_Check.calls 1 none 0 [] 0 0 2 _ (C_nil _) (by decide) (by decide +kernel)).mono ?_; rintro e Y6 ⟨rfl, hb6⟩; have B7 := Aside0.mk (pm_chain B6.out hb6)))
  go_ret
  exact ⟨rfl, pm_chain B2.out (pm_chain B5.out B7.out)⟩
end Go.Proofs.YtejhnlljddjicaaDoor.Ma
namespace Go.Proofs.YtejhnlljddjicaaDoor.Ma
open Go.RowKit Go.Proofs.YtejhnlljddjicaaDoor.PEm Go.Proofs.YtejhnlljddjicaaDoorW.PrintWords Go.Proofs.YtejhnlljddjicaaDoorW.PrintLast Go.Proofs.YtejhnlljddjicaaDoorW.PrintMore Go.Proofs.YtejhnlljddjicaaDoor.La Go.Proofs.YtejhnlljddjicaaDoor.Ea
set_option linter.unusedVariables false
set_option linter.unusedSimpArgs false
variable {w w' : World} {c pg : Nat} {ps ps' : Pages} {S S' : Cpu} {inp out inp' out' : List Int}
end Go.Proofs.YtejhnlljddjicaaDoor.Ma
namespace Go.Proofs.YtejhnlljddjicaaDoor.Ma
open Go.RowKit Go.Proofs.YtejhnlljddjicaaDoor.PEm Go.Proofs.YtejhnlljddjicaaDoorW.PrintWords Go.Proofs.YtejhnlljddjicaaDoorW.PrintLast Go.Proofs.YtejhnlljddjicaaDoorW.PrintMore Go.Proofs.YtejhnlljddjicaaDoor.La Go.Proofs.YtejhnlljddjicaaDoor.Ea
set_option linter.unusedVariables false
set_option linter.unusedSimpArgs false
variable {w w' : World} {c pg : Nat} {ps ps' : Pages} {S S' : Cpu} {inp out inp' out' : List Int}
theorem same_from (l : List Int) (hl : l.length < 9223372036854775807) (d : Nat) : ∀ (k : Nat) (i : Int), 0 ≤ i → i ≤ l.length → (l.length : Int) - i = d → d < k → mortiseref01_Same.l0 k l l i = some true := by
  induction d with
  | zero =>
    intro k i h0 h1 hd hk
    obtain ⟨k, rfl⟩ : ∃ m, k = m + 1 := ⟨k - 1, by omega⟩
    simp only [mortiseref01_Same.l0]; rw [if_neg (by omega)]
  | succ d ih =>
    intro k i h0 h1 hd hk
    obtain ⟨k, rfl⟩ : ∃ m, k = m + 1 := ⟨k - 1, by omega⟩
    have hw : wrap64 (i + 1) = i + 1 := by unfold wrap64; omega
    simp only [mortiseref01_Same.l0]
    rw [if_pos (by omega), if_pos h0, hw, if_true]
    exact (if_pos (by omega)).trans (ih k (i + 1) (by omega) (by omega) (by omega) (by omega))
theorem same_self (l : List Int) (hl : l.length < 9223372036854775807) (k : Nat) (hk : l.length < k) : mortiseref01_Same.f k l l = some true := by
  unfold mortiseref01_Same.f
  rw [if_pos rfl]
  exact same_from l hl l.length k 0 (by omega) (by omega) (by omega) hk
end Go.Proofs.YtejhnlljddjicaaDoor.Ma
namespace Go.Proofs.YtejhnlljddjicaaDoor.Ma
open Go.RowKit Go.Proofs.YtejhnlljddjicaaDoor.PEm Go.Proofs.YtejhnlljddjicaaDoorW.PrintWords Go.Proofs.YtejhnlljddjicaaDoorW.PrintLast Go.Proofs.YtejhnlljddjicaaDoorW.PrintMore Go.Proofs.YtejhnlljddjicaaDoor.La Go.Proofs.YtejhnlljddjicaaDoor.Ea
set_option linter.unusedVariables false
set_option linter.unusedSimpArgs false
variable {w w' : World} {c pg : Nat} {ps ps' : Pages} {S S' : Cpu} {inp out inp' out' : List Int}
end Go.Proofs.YtejhnlljddjicaaDoor.Ma
namespace Go.Proofs.YtejhnlljddjicaaDoor.Ma
open Go.RowKit Go.Proofs.YtejhnlljddjicaaDoor.PEm Go.Proofs.YtejhnlljddjicaaDoorW.PrintWords Go.Proofs.YtejhnlljddjicaaDoorW.PrintLast Go.Proofs.YtejhnlljddjicaaDoorW.PrintMore Go.Proofs.YtejhnlljddjicaaDoor.La Go.Proofs.YtejhnlljddjicaaDoor.Ea
set_option linter.unusedVariables false
set_option linter.unusedSimpArgs false
variable {w w' : World} {c pg : Nat} {ps ps' : Pages} {S S' : Cpu} {inp out inp' out' : List Int}
theorem run_next (n : Nat) (r : Ran) (h : r.S.ended = 0) : runM (n + 1) r = runM n (stepM r.m r.S r.inp r.out) := by
  show (if r.S.ended ≠ 0 then r else _) = _
  rw [if_neg (by simp [h])]
theorem run_add : ∀ (n k : Nat) (r : Ran), runM (n + k) r = runM k (runM n r)
  | 0, k, r => by rw [Nat.zero_add]; rfl
  | n + 1, k, r => by
    by_cases h : r.S.ended = 0
    · rw [show n + 1 + k = (n + k) + 1 by omega, run_next _ _ h, run_next _ _ h]
      exact run_add n k _
    · rw [run_still _ _ h, run_still _ _ h, run_still _ _ h]
theorem run_counts : ∀ (n : Nat) (r : Ran), (runM n r).S.steps ≤ r.S.steps + n ∧ r.S.steps ≤ (runM n r).S.steps ∧ ((runM n r).out.length : Int) - r.out.length ≤ (runM n r).S.steps - r.S.steps ∧ (0 < n → r.S.ended = 0 → r.S.steps + 1 ≤ (runM n r).S.steps)
  | 0, r => ⟨by simp [runM], by simp [runM], by simp [runM], fun h => absurd h (by omega)⟩
  | n + 1, r => by
    by_cases h : r.S.ended = 0
    · rw [run_next _ _ h]
      obtain ⟨a1, a2, a3, _⟩ := run_counts n (stepM r.m r.S r.inp r.out)
      obtain ⟨k1, _, k3, _⟩ := step_keeps r.m r.S r.inp r.out h
      have hl : ((stepM r.m r.S r.inp r.out).out.length : Int) ≤ r.out.length + 1 := by
        rcases k3 with k | ⟨v, k⟩ <;> rw [k] <;> first | omega | (rw [List.length_append, List.length_singleton]; omega)
      refine ⟨by omega, by omega, by omega, fun _ _ => by omega⟩
    · rw [run_still _ _ h]
      exact ⟨by omega, by omega, by omega, fun _ h' => absurd h' h⟩
end Go.Proofs.YtejhnlljddjicaaDoor.Ma
namespace Go.Proofs.YtejhnlljddjicaaDoor.Ma
open Go.RowKit Go.Proofs.YtejhnlljddjicaaDoor.PEm Go.Proofs.YtejhnlljddjicaaDoorW.PrintWords Go.Proofs.YtejhnlljddjicaaDoorW.PrintLast Go.Proofs.YtejhnlljddjicaaDoorW.PrintMore Go.Proofs.YtejhnlljddjicaaDoor.La Go.Proofs.YtejhnlljddjicaaDoor.Ea
set_option linter.unusedVariables false
set_option linter.unusedSimpArgs false
variable {w w' : World} {c pg : Nat} {ps ps' : Pages} {S S' : Cpu} {inp out inp' out' : List Int}
/-- A run that is refused. -/
def Refused (w : World) (img iv fv : Value) : Prop := Calls Tryd.prog 8 #[img, iv, fv] w fun e w' => e = .returned (.tuple #[.agg #[.int .i64 0, .int .i64 0, .slice none 0 0, .int .i64 0], .int .i64 2]) ∧ Below w.heap.size w w'
theorem same21 (a b d : Int) (l : List Int) (hl : l.length ≤ 4194304) : mortiseref21_Same.f 5000000 a b l d a b l d = some true := by
  unfold mortiseref21_Same.f
  have h := same_self l (by omega) 5000000 (by omega)
  simp [h]
theorem run_at (w : World) (hh : Held w) (A : Option Addr) (k : Nat) (bs : List Int) (code entry : Int) (Ai : Option Addr) (ki : Nat) (inp : List Int) (F : Nat) (hC : Kd.C (Kd.int .u8) w A bs.length bs) (hk : bs.length ≤ k) (ho : okImg bs.length code entry)
    (hx : ∀ b ∈ bs, 0 ≤ b ∧ b < 256) (hCi : Kd.C (Kd.int .u8) w Ai inp.length inp) (hi : inp.length ≤ 140737488355328) (hxi : ∀ b ∈ inp, 0 ≤ b ∧ b < 256) (hf : 1 ≤ F ∧ F ≤ 4194304) {q : Ran} (hq : runM F (startR bs code entry inp) = q) :
    Calls Tryd.prog 8 #[.agg #[.slice A bs.length k, .int .i64 code, .int .i64 entry], .slice Ai inp.length ki, .int .i64 F] w fun e w' => ∃ A2 k2, e = .returned (.tuple #[.agg #[.int .i64 (stopOf q), .int .i64 q.S.exit, .slice A2 q.out.length k2, .int .i64 q.S.steps], .int .i64 0]) ∧ Kd.C (Kd.int .u8) w' A2 q.out.length q.out ∧ q.out.length ≤ k2 ∧ Below w.heap.size w w' := by
  refine (run_yes w hh A k bs code entry Ai ki inp F hC hk ho hx hCi hi hxi hf).mono ?_
  rintro e w' ⟨v, rfl, hV, hb⟩
  rw [hq] at hV ⊢
  obtain ⟨A2, k2, rfl⟩ := Kd.R_slice hV
  obtain ⟨_, hk2, hC2⟩ := Kd.R_reads' hV
  exact ⟨A2, k2, rfl, hC2, hk2, hb⟩
end Go.Proofs.YtejhnlljddjicaaDoor.Ma
namespace Go.Proofs.YtejhnlljddjicaaDoor.Ma
open Go.RowKit Go.Proofs.YtejhnlljddjicaaDoor.PEm Go.Proofs.YtejhnlljddjicaaDoorW.PrintWords Go.Proofs.YtejhnlljddjicaaDoorW.PrintLast Go.Proofs.YtejhnlljddjicaaDoorW.PrintMore Go.Proofs.YtejhnlljddjicaaDoor.La Go.Proofs.YtejhnlljddjicaaDoor.Ea
set_option linter.unusedVariables false
set_option linter.unusedSimpArgs false
variable {w w' : World} {c pg : Nat} {ps ps' : Pages} {S S' : Cpu} {inp out inp' out' : List Int}
theorem or_low (n : Nat) (x y : Int) (hx : 0 ≤ x ∧ x < 2 ^ n ∧ x < 4294967296) (hy : 0 ≤ y ∧ y < 4294967296 ∧ y % 2 ^ n = 0) : bits .or .u32 x y = x + y := by
  have h := bits_join .u32 32 (by decide) wraps_u32 n y x hy.1 hy.2.2 hy.2.1 hx.1 hx.2.1 hx.2.2
  rw [or_bv] at h ⊢
  rw [BitVec.or_comm, h]; omega
theorem val4_sum (x y z u : Int) (hx : 0 ≤ x ∧ x < 256) (hy : 0 ≤ y ∧ y < 256) (hz : 0 ≤ z ∧ z < 256) (hu : 0 ≤ u ∧ u < 256) : val4 x y z u = x + 256 * y + 65536 * z + 16777216 * u := by
  have e0 : (2 : Int) ^ (0 : Int).toNat = 1 := by decide
  have e8 : (2 : Int) ^ (8 : Int).toNat = 256 := by decide
  have e16 : (2 : Int) ^ (16 : Int).toNat = 65536 := by decide
  have e24 : (2 : Int) ^ (24 : Int).toNat = 16777216 := by decide
  unfold val4 val2 val1
  rw [shl32 _ 0 (by decide), shl32 _ 8 (by decide), shl32 _ 16 (by decide), shl32 _ 24 (by decide), e0, e8, e16, e24]
  rw [show x % 4294967296 * 1 % 4294967296 = x by omega, show y % 4294967296 * 256 % 4294967296 = 256 * y by omega, show z % 4294967296 * 65536 % 4294967296 = 65536 * z by omega, show u % 4294967296 * 16777216 % 4294967296 = 16777216 * u by omega]
  rw [or_low 0 0 x (by decide) (by omega), or_low 8 (0 + x) (256 * y) (by omega) (by omega), or_low 16 (0 + x + 256 * y) (65536 * z) (by omega) (by omega), or_low 24 (0 + x + 256 * y + 65536 * z) (16777216 * u) (by omega) (by omega)]
  omega
theorem fetch_op {m : Nat → Int} {code at_ : Int} {x : I5} (hm : ∀ i, 0 ≤ m i ∧ m i < 256) (h : fetchM m code at_ = some x) : x.op = m at_.toNat ∧ at_ % 4 = 0 ∧ 4096 ≤ at_ ∧ at_ ≤ 4096 + code - 4 := by
  unfold fetchM at h
  split at h
  · cases h
  · next hc =>
    have e : wordM m at_.toNat 4 false = m at_.toNat + 256 * m (at_.toNat + 1) + 65536 * m (at_.toNat + 2) + 16777216 * m (at_.toNat + 3) := by
      unfold wordM lowv
      rw [if_neg (by decide), if_neg (by decide), if_pos rfl]
      exact val4_sum _ _ _ _ (hm _) (hm _) (hm _) (hm _)
    have h0 := hm at_.toNat
    have h1 := hm (at_.toNat + 1)
    have h2 := hm (at_.toNat + 2)
    have h3 := hm (at_.toNat + 3)
    have d := (dec_op (by rw [e]; omega) h).1
    rw [e] at d
    exact ⟨by omega, by omega, by omega, by omega⟩
theorem acc_bytes (m : Nat → Int) (S : Cpu) (x : I5) (hm : ∀ i, 0 ≤ m i ∧ m i < 256) (i : Nat) : 0 ≤ accMM m S x i ∧ accMM m S x i < 256 := by
  unfold accMM
  split
  · exact hm i
  · split
    · unfold putF
      split
      · omega
      · exact hm i
    · exact hm i
theorem do_bytes (m : Nat → Int) (S : Cpu) (x : I5) (inp out : List Int) (hm : ∀ i, 0 ≤ m i ∧ m i < 256) (i : Nat) : 0 ≤ (doM m S x inp out).m i ∧ (doM m S x inp out).m i < 256 := by
  unfold doM
  by_cases c : 1 ≤ x.op ∧ x.op ≤ 19
  · rw [if_pos c]; all_goals (first | exact hm i | exact acc_bytes m S x hm i | (split; exact hm i; exact hm i) | (cases inp; exact hm i; exact hm i))
  rw [if_neg c]; clear c
  by_cases c : 33 ≤ x.op ∧ x.op ≤ 51
  · rw [if_pos c]; all_goals (first | exact hm i | exact acc_bytes m S x hm i | (split; exact hm i; exact hm i) | (cases inp; exact hm i; exact hm i))
  rw [if_neg c]; clear c
  by_cases c : (80 ≤ x.op ∧ x.op ≤ 84) ∨ (88 ≤ x.op ∧ x.op ≤ 90)
  · rw [if_pos c]; all_goals (first | exact hm i | exact acc_bytes m S x hm i | (split; exact hm i; exact hm i) | (cases inp; exact hm i; exact hm i))
  rw [if_neg c]; clear c
  by_cases c : x.op = 64
  · rw [if_pos c]; all_goals (first | exact hm i | exact acc_bytes m S x hm i | (split; exact hm i; exact hm i) | (cases inp; exact hm i; exact hm i))
  rw [if_neg c]; clear c
  by_cases c : x.op = 65
  · rw [if_pos c]; all_goals (first | exact hm i | exact acc_bytes m S x hm i | (split; exact hm i; exact hm i) | (cases inp; exact hm i; exact hm i))
  rw [if_neg c]; clear c
  by_cases c : x.op = 96
  · rw [if_pos c]; all_goals (first | exact hm i | exact acc_bytes m S x hm i | (split; exact hm i; exact hm i) | (cases inp; exact hm i; exact hm i))
  rw [if_neg c]; clear c
  by_cases c : x.op = 97
  · rw [if_pos c]; all_goals (first | exact hm i | exact acc_bytes m S x hm i | (split; exact hm i; exact hm i) | (cases inp; exact hm i; exact hm i))
  rw [if_neg c]; clear c
  by_cases c : x.op = 98
  · rw [if_pos c]; all_goals (first | exact hm i | exact acc_bytes m S x hm i | (split; exact hm i; exact hm i) | (cases inp; exact hm i; exact hm i))
  rw [if_neg c]; clear c
  by_cases c : x.op = 99
  · rw [if_pos c]; all_goals (first | exact hm i | exact acc_bytes m S x hm i | (split; exact hm i; exact hm i) | (cases inp; exact hm i; exact hm i))
  rw [if_neg c]; clear c
  by_cases c : x.op = 100
  · rw [if_pos c]; all_goals (first | exact hm i | exact acc_bytes m S x hm i | (split; exact hm i; exact hm i) | (cases inp; exact hm i; exact hm i))
  rw [if_neg c]; clear c
  by_cases c : x.op = 104
  · rw [if_pos c]; all_goals (first | exact hm i | exact acc_bytes m S x hm i | (split; exact hm i; exact hm i) | (cases inp; exact hm i; exact hm i))
  rw [if_neg c]; clear c
  by_cases c : x.op = 105
  · rw [if_pos c]; all_goals (first | exact hm i | exact acc_bytes m S x hm i | (split; exact hm i; exact hm i) | (cases inp; exact hm i; exact hm i))
  rw [if_neg c]; clear c
  by_cases c : x.op = 112
  · rw [if_pos c]; all_goals (first | exact hm i | exact acc_bytes m S x hm i | (split; exact hm i; exact hm i) | (cases inp; exact hm i; exact hm i))
  rw [if_neg c]; clear c
  by_cases c : x.op = 113
  · rw [if_pos c]; all_goals (first | exact hm i | exact acc_bytes m S x hm i | (split; exact hm i; exact hm i) | (cases inp; exact hm i; exact hm i))
  rw [if_neg c]; clear c
  all_goals exact hm i
theorem step_bytes (m : Nat → Int) (S : Cpu) (inp out : List Int) (hm : ∀ i, 0 ≤ m i ∧ m i < 256) (i : Nat) : 0 ≤ (stepM m S inp out).m i ∧ (stepM m S inp out).m i < 256 := by
  unfold stepM
  split
  · exact hm i
  · cases fetchM m S.code S.pc with
    | none => exact hm i
    | some x =>
      show 0 ≤ (endM _).m i ∧ (endM _).m i < 256
      have e : ∀ r : Ran, (endM r).m = r.m := by intro r; unfold endM; split <;> rfl
      rw [e]
      exact do_bytes m _ x inp out hm i
def Ran.more (r : Ran) (t : List Int) : Ran := { r with inp := r.inp ++ t }
theorem do_more (m : Nat → Int) (S : Cpu) (x : I5) (inp out t : List Int) (h : x.op = 113 → inp ≠ []) : doM m S x (inp ++ t) out = (doM m S x inp out).more t := by
  unfold doM
  by_cases c : 1 ≤ x.op ∧ x.op ≤ 19
  · rw [if_pos c, if_pos c]; all_goals (first | rfl | (split; rfl; rfl) | (cases inp with | nil => exact absurd rfl (h c) | cons b l => rfl))
  rw [if_neg c, if_neg c]; clear c
  by_cases c : 33 ≤ x.op ∧ x.op ≤ 51
  · rw [if_pos c, if_pos c]; all_goals (first | rfl | (split; rfl; rfl) | (cases inp with | nil => exact absurd rfl (h c) | cons b l => rfl))
  rw [if_neg c, if_neg c]; clear c
  by_cases c : (80 ≤ x.op ∧ x.op ≤ 84) ∨ (88 ≤ x.op ∧ x.op ≤ 90)
  · rw [if_pos c, if_pos c]; all_goals (first | rfl | (split; rfl; rfl) | (cases inp with | nil => exact absurd rfl (h c) | cons b l => rfl))
  rw [if_neg c, if_neg c]; clear c
  by_cases c : x.op = 64
  · rw [if_pos c, if_pos c]; all_goals (first | rfl | (split; rfl; rfl) | (cases inp with | nil => exact absurd rfl (h c) | cons b l => rfl))
  rw [if_neg c, if_neg c]; clear c
  by_cases c : x.op = 65
  · rw [if_pos c, if_pos c]; all_goals (first | rfl | (split; rfl; rfl) | (cases inp with | nil => exact absurd rfl (h c) | cons b l => rfl))
  rw [if_neg c, if_neg c]; clear c
  by_cases c : x.op = 96
  · rw [if_pos c, if_pos c]; all_goals (first | rfl | (split; rfl; rfl) | (cases inp with | nil => exact absurd rfl (h c) | cons b l => rfl))
  rw [if_neg c, if_neg c]; clear c
  by_cases c : x.op = 97
  · rw [if_pos c, if_pos c]; all_goals (first | rfl | (split; rfl; rfl) | (cases inp with | nil => exact absurd rfl (h c) | cons b l => rfl))
  rw [if_neg c, if_neg c]; clear c
  by_cases c : x.op = 98
  · rw [if_pos c, if_pos c]; all_goals (first | rfl | (split; rfl; rfl) | (cases inp with | nil => exact absurd rfl (h c) | cons b l => rfl))
  rw [if_neg c, if_neg c]; clear c
  by_cases c : x.op = 99
  · rw [if_pos c, if_pos c]; all_goals (first | rfl | (split; rfl; rfl) | (cases inp with | nil => exact absurd rfl (h c) | cons b l => rfl))
  rw [if_neg c, if_neg c]; clear c
  by_cases c : x.op = 100
  · rw [if_pos c, if_pos c]; all_goals (first | rfl | (split; rfl; rfl) | (cases inp with | nil => exact absurd rfl (h c) | cons b l => rfl))
  rw [if_neg c, if_neg c]; clear c
  by_cases c : x.op = 104
  · rw [if_pos c, if_pos c]; all_goals (first | rfl | (split; rfl; rfl) | (cases inp with | nil => exact absurd rfl (h c) | cons b l => rfl))
  rw [if_neg c, if_neg c]; clear c
  by_cases c : x.op = 105
  · rw [if_pos c, if_pos c]; all_goals (first | rfl | (split; rfl; rfl) | (cases inp with | nil => exact absurd rfl (h c) | cons b l => rfl))
  rw [if_neg c, if_neg c]; clear c
  by_cases c : x.op = 112
  · rw [if_pos c, if_pos c]; all_goals (first | rfl | (split; rfl; rfl) | (cases inp with | nil => exact absurd rfl (h c) | cons b l => rfl))
  rw [if_neg c, if_neg c]; clear c
  by_cases c : x.op = 113
  · rw [if_pos c, if_pos c]; all_goals (first | rfl | (split; rfl; rfl) | (cases inp with | nil => exact absurd rfl (h c) | cons b l => rfl))
  rw [if_neg c, if_neg c]; clear c
  all_goals rfl
theorem do_inp (m : Nat → Int) (S : Cpu) (x : I5) (inp out : List Int) (h : x.op ≠ 113) : (doM m S x inp out).inp = inp := by
  unfold doM
  by_cases c : 1 ≤ x.op ∧ x.op ≤ 19
  · rw [if_pos c]; all_goals (first | rfl | exact absurd c h | (split; rfl; rfl))
  rw [if_neg c]; clear c
  by_cases c : 33 ≤ x.op ∧ x.op ≤ 51
  · rw [if_pos c]; all_goals (first | rfl | exact absurd c h | (split; rfl; rfl))
  rw [if_neg c]; clear c
  by_cases c : (80 ≤ x.op ∧ x.op ≤ 84) ∨ (88 ≤ x.op ∧ x.op ≤ 90)
  · rw [if_pos c]; all_goals (first | rfl | exact absurd c h | (split; rfl; rfl))
  rw [if_neg c]; clear c
  by_cases c : x.op = 64
  · rw [if_pos c]; all_goals (first | rfl | exact absurd c h | (split; rfl; rfl))
  rw [if_neg c]; clear c
  by_cases c : x.op = 65
  · rw [if_pos c]; all_goals (first | rfl | exact absurd c h | (split; rfl; rfl))
  rw [if_neg c]; clear c
  by_cases c : x.op = 96
  · rw [if_pos c]; all_goals (first | rfl | exact absurd c h | (split; rfl; rfl))
  rw [if_neg c]; clear c
  by_cases c : x.op = 97
  · rw [if_pos c]; all_goals (first | rfl | exact absurd c h | (split; rfl; rfl))
  rw [if_neg c]; clear c
  by_cases c : x.op = 98
  · rw [if_pos c]; all_goals (first | rfl | exact absurd c h | (split; rfl; rfl))
  rw [if_neg c]; clear c
  by_cases c : x.op = 99
  · rw [if_pos c]; all_goals (first | rfl | exact absurd c h | (split; rfl; rfl))
  rw [if_neg c]; clear c
  by_cases c : x.op = 100
  · rw [if_pos c]; all_goals (first | rfl | exact absurd c h | (split; rfl; rfl))
  rw [if_neg c]; clear c
  by_cases c : x.op = 104
  · rw [if_pos c]; all_goals (first | rfl | exact absurd c h | (split; rfl; rfl))
  rw [if_neg c]; clear c
  by_cases c : x.op = 105
  · rw [if_pos c]; all_goals (first | rfl | exact absurd c h | (split; rfl; rfl))
  rw [if_neg c]; clear c
  by_cases c : x.op = 112
  · rw [if_pos c]; all_goals (first | rfl | exact absurd c h | (split; rfl; rfl))
  rw [if_neg c]; clear c
  by_cases c : x.op = 113
  · rw [if_pos c]; all_goals (first | rfl | exact absurd c h | (split; rfl; rfl))
  rw [if_neg c]
/-- The instruction ahead asks for input (or would, did it decode). -/
def asks (r : Ran) : Prop := r.S.pc % 4 = 0 ∧ r.S.pc ≤ 8388604 ∧ r.m r.S.pc.toNat = 113
instance (r : Ran) : Decidable (asks r) := inferInstanceAs (Decidable (_ ∧ _))
/-- A machine that is fit: bytes in its memory, and its code within it. -/
def fit (r : Ran) : Prop := (∀ i, 0 ≤ r.m i ∧ r.m i < 256) ∧ r.S.code ≤ 1048576
theorem fit_step {r : Ran} (h : fit r) : fit (stepM r.m r.S r.inp r.out) := by
  refine ⟨step_bytes _ _ _ _ h.1, ?_⟩
  by_cases he : r.S.ended = 0
  · rw [(step_keeps r.m r.S r.inp r.out he).2.1]; exact h.2
  · unfold stepM; rw [if_pos he]; exact h.2
theorem fit_run : ∀ (n : Nat) {r : Ran}, fit r → fit (runM n r)
  | 0, r, h => h
  | n + 1, r, h => by
    unfold runM
    split
    · exact h
    · exact fit_run n (fit_step h)
theorem fit_start {bs : List Int} {code entry : Int} {inp : List Int} (hx : ∀ b ∈ bs, 0 ≤ b ∧ b < 256) (hc : code ≤ 1048576) : fit (startR bs code entry inp) := by
  refine ⟨fun i => ?_, hc⟩
  show 0 ≤ laidF (fun _ => 0) 4096 bs i ∧ laidF (fun _ => 0) 4096 bs i < 256
  unfold laidF
  split
  · next h =>
    have hi : i - 4096 < bs.length := by omega
    rw [List.getElem?_eq_getElem hi]
    exact hx _ (List.getElem_mem hi)
  · exact ⟨by show (0 : Int) ≤ 0; decide, by show (0 : Int) < 256; decide⟩
theorem end_more (r : Ran) (t : List Int) : endM (r.more t) = (endM r).more t := by
  unfold endM
  show (match endOf r.err with | none => _ | some (a, b) => _) = _
  cases endOf r.err with
  | none => rfl
  | some p => rfl
theorem step_more {r : Ran} (hf : fit r) (t : List Int) (h : asks r → r.inp ≠ []) : stepM r.m r.S (r.inp ++ t) r.out = (stepM r.m r.S r.inp r.out).more t := by
  unfold stepM
  split
  · rfl
  · cases hx : fetchM r.m r.S.code r.S.pc with
    | none => rfl
    | some x =>
      obtain ⟨o1, o2, o3, o4⟩ := fetch_op hf.1 hx
      have h113 : x.op = 113 → r.inp ≠ [] := fun e => h ⟨o2, by have := hf.2; omega, by rw [← o1, e]⟩
      simp only [do_more _ _ x _ _ t h113, end_more]
theorem step_inp {r : Ran} (hf : fit r) (h : ¬ asks r) : (stepM r.m r.S r.inp r.out).inp = r.inp := by
  unfold stepM
  split
  · rfl
  · cases hx : fetchM r.m r.S.code r.S.pc with
    | none => rfl
    | some x =>
      obtain ⟨o1, o2, o3, o4⟩ := fetch_op hf.1 hx
      have h113 : x.op ≠ 113 := fun e => h ⟨o2, by have := hf.2; omega, by rw [← o1, e]⟩
      show (endM _).inp = _
      rw [(end_keeps _).2.2.2, do_inp _ _ _ _ _ h113]
theorem step_len (r : Ran) : r.inp.length ≤ (stepM r.m r.S r.inp r.out).inp.length + 1 := by
  by_cases he : r.S.ended = 0
  · rcases (step_keeps r.m r.S r.inp r.out he).2.2.2 with e | ⟨v, e⟩
    · rw [e]; omega
    · have := congrArg List.length e
      rw [List.length_cons] at this
      omega
  · unfold stepM; rw [if_pos he]; show r.inp.length ≤ r.inp.length + 1; omega
/-- How often a run of at most n steps asks. -/
def asked : Nat → Ran → Nat
  | 0, _ => 0
  | n + 1, r => if r.S.ended ≠ 0 then 0 else (if asks r then 1 else 0) + asked n (stepM r.m r.S r.inp r.out)
theorem run_more : ∀ (n : Nat) (r : Ran) (t : List Int), fit r → asked n r ≤ r.inp.length → runM n (r.more t) = (runM n r).more t
  | 0, r, t, _, _ => rfl
  | n + 1, r, t, hf, ha => by
    by_cases he : r.S.ended = 0
    · rw [run_next _ _ he, run_next _ (r.more t) he]
      show runM n (stepM r.m r.S (r.inp ++ t) r.out) = _
      unfold asked at ha
      rw [if_neg (by simp [he])] at ha
      by_cases hk : asks r
      · rw [if_pos hk] at ha
        rw [step_more hf t (fun _ h0 => by rw [h0] at ha; simp at ha)]
        have := step_len r
        exact run_more n _ t (fit_step hf) (by omega)
      · rw [if_neg hk] at ha
        rw [step_more hf t (fun h => absurd h hk)]
        exact run_more n _ t (fit_step hf) (by rw [step_inp hf hk]; omega)
    · rw [run_still _ _ he, run_still _ _ (show (r.more t).S.ended ≠ 0 from he)]
theorem asked_one (n : Nat) (r : Ran) (he : r.S.ended = 0) : asked (n + 1) r = (if asks r then 1 else 0) + asked n (stepM r.m r.S r.inp r.out) := by
  show (if r.S.ended ≠ 0 then 0 else _) = _
  rw [if_neg (by simp [he])]
theorem asked_add : ∀ (n k : Nat) (r : Ran), asked (n + k) r = asked n r + asked k (runM n r)
  | 0, k, r => by rw [Nat.zero_add]; show _ = 0 + _; rw [Nat.zero_add]; rfl
  | n + 1, k, r => by
    by_cases he : r.S.ended = 0
    · rw [show n + 1 + k = (n + k) + 1 by omega]
      rw [asked_one _ _ he, asked_one _ _ he, run_next _ _ he, asked_add n k]
      omega
    · have e0 : ∀ m, asked m r = 0 := by
        intro m
        cases m with
        | zero => rfl
        | succ m => unfold asked; rw [if_pos he]
      rw [run_still _ _ he, e0, e0, e0]
theorem asked_next (j : Nat) (r : Ran) (he : (runM j r).S.ended = 0) : asked (j + 1) r = asked j r + (if asks (runM j r) then 1 else 0) := by
  rw [asked_add j 1]
  congr 1
  unfold asked
  rw [if_neg (by simp [he])]
  rfl
/-- Behind the steps that the run took nothing is asked. -/
theorem asked_all (F s : Nat) (r : Ran) (hs : s ≤ F) (h : (runM F r).S.steps ≤ r.S.steps + s) : asked F r = asked s r := by
  obtain ⟨k, rfl⟩ : ∃ k, F = s + k := ⟨F - s, by omega⟩
  rw [asked_add]
  suffices asked k (runM s r) = 0 by omega
  by_cases hk : k = 0
  · subst hk; rfl
  by_cases he : (runM s r).S.ended = 0
  · exfalso
    -- not ended behind s steps: every step counts
    have hall : ∀ (n : Nat) (q : Ran), (runM n q).S.ended = 0 → (runM n q).S.steps = q.S.steps + n := by
      intro n
      induction n with
      | zero => intro q _; simp [runM]
      | succ n ih =>
        intro q hq
        by_cases h0 : q.S.ended = 0
        · rw [run_next _ _ h0] at hq ⊢
          rw [ih _ hq, (step_keeps q.m q.S q.inp q.out h0).1]
          omega
        · rw [run_still _ _ h0] at hq; exact absurd hq h0
    have h1 := hall s r he
    rw [run_add] at h
    have h2 := (run_counts k (runM s r)).2.2.2 (by omega) he
    omega
  · cases k with
    | zero => rfl
    | succ k => unfold asked; rw [if_pos he]
/-- Ahead of the run's last step no machine has ended. -/
theorem run_lives (F j : Nat) (r : Ran) (h0 : r.S.ended = 0) (hj : (j : Int) < (runM F r).S.steps - r.S.steps) (hF : j ≤ F) : (runM j r).S.ended = 0 ∧ (runM j r).S.steps = r.S.steps + j := by
  have hall : ∀ (n : Nat) (q : Ran), (runM n q).S.ended = 0 → (runM n q).S.steps = q.S.steps + n := by
    intro n
    induction n with
    | zero => intro q _; simp [runM]
    | succ n ih =>
      intro q hq
      by_cases h0 : q.S.ended = 0
      · rw [run_next _ _ h0] at hq ⊢
        rw [ih _ hq, (step_keeps q.m q.S q.inp q.out h0).1]
        omega
      · rw [run_still _ _ h0] at hq; exact absurd hq h0
  by_cases he : (runM j r).S.ended = 0
  · exact ⟨he, hall j r he⟩
  · exfalso
    have e : runM F r = runM j r := by
      rw [show F = j + (F - j) by omega, run_add, run_still _ _ he]
    rw [e] at hj
    have := (run_counts j r).1
    omega
theorem start_more (bs : List Int) (code entry : Int) (inp t : List Int) : startR bs code entry (inp ++ t) = (startR bs code entry inp).more t := rfl
end Go.Proofs.YtejhnlljddjicaaDoor.Ma
