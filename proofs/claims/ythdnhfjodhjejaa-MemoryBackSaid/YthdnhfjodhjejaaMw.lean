/- What the heads of the statements on package memory answer: true. No condition. -/
import Derived.Test.YthdnhfjodhjejaaA3
import Derived.Deep.DeepMust
import Derived.Deep.RegionHeld3
import Derived.Test.YthdnhfjodhjejaaMn
import Derived.Test.YthdnhfjodhjejaaA2
import Derived.Test.YthdnhfjodhjejaaPMex5
namespace Go.Proofs.Ythdnhfjodhjejaa.Ma
open Go.RowKit Go.Proofs.Ythdnhfjodhjejaa.PMe Go.Proofs.YthdnhfjodhjejaaW.PrintWords Go.Proofs.YthdnhfjodhjejaaW.PrintLast Go.Proofs.YthdnhfjodhjejaaW.PrintMore
set_option linter.unusedVariables false
set_option linter.unusedSimpArgs false
variable {w w' : World} {m mm : Nat} {last : Int} {L : List Rec}
/-- A memory that lies in blocks newer than a world. -/
structure Own (w W : World) (m mm : Nat) (last : Int) (L : List Rec) : Prop where
  pm : PM W m mm last L
  below : Below w.heap.size w W
  new : ∀ i ∈ foot m mm L, w.heap.size ≤ i
theorem Own.grown {W W1 : World} (h : Own w W m mm last L) (k : Below W.heap.size W W1) : Own w W1 m mm last L := ⟨h.pm.below k, pm_chain h.below k, h.new⟩
theorem Own.did {W W1 : World} {last' : Int} {L' : List Rec} (h : Own w W m mm last L) (d : Did W W1 m mm L last' L') : Own w W1 m mm last' L' :=
  ⟨d.pm, h.below.trans (d.ext.below_of h.below.size h.new), fun i hi => (d.new i hi).elim (h.new i) (fun h' => Nat.le_trans h.below.size h')⟩
theorem Make_did (h : PM w m mm last L) (n a : Int) (hb : ¬ (n < 1 ∨ 16384 < n ∨ pow2 a = false)) (hf : L.length < 4096) (hlast : last < 9223372036854775807) : Calls Try.prog 48 #[.pointer (some ⟨m, 0, none⟩), .int .i64 n, .int .i64 a] w fun e w' => ∃ b g bo, e = .returned (.tuple #[.int .i64 (last + 1), .int .i64 0]) ∧ Did w w' m mm L (last + 1) (L ++ [⟨last + 1, b, g, a, List.replicate n.toNat zC, bo⟩]) := by
  refine (Make_ok h n a hb hf hlast).mono ?_
  rintro e w' ⟨r, h1, h2, h3, h4, h5, h6, h7, h8⟩
  obtain ⟨id, b, g, al, cs, bo⟩ := r
  simp only at h4 h5 h6 h7 h8
  subst h4 h5 h6
  refine ⟨b, g, bo, h1, h2, h3.mono ?_, ?_⟩
  · rintro i (rfl | rfl) <;> simp [foot]
  · intro i hi
    simp only [foot, List.flatMap_append, List.mem_cons, List.mem_append] at hi ⊢
    rcases hi with h | h | h | h
    · exact .inl (.inl h)
    · exact .inl (.inr (.inl h))
    · exact .inl (.inr (.inr h))
    · simp at h; right; omega
/-! What each call of heads answers. -/
theorem hd0 (bb bg : Nat) (bo : Nat) : loadF [⟨1, bb, bg, 4, List.replicate 8 zC, bo⟩] ⟨2, 0, 1⟩ 4 false = (⟨0, 0, 0⟩, 3) := by kernel_rfl
theorem hd1 (bb bg : Nat) (bo : Nat) : storeF [⟨1, bb, bg, 4, List.replicate 8 zC, bo⟩] ⟨2, 0, 1⟩ 4 ⟨1, 258, 0⟩ = (0, [⟨1, bb, bg, 4, put (List.replicate 8 zC) 0 ((bytesL 258 4).map cellN), bo⟩]) := by kernel_rfl
theorem hd2 (bb bg : Nat) (bo : Nat) : loadF [⟨1, bb, bg, 4, put (List.replicate 8 zC) 0 ((bytesL 258 4).map cellN), bo⟩] ⟨2, 1, 1⟩ 1 false = (⟨1, 1, 0⟩, 0) := by kernel_rfl
theorem hd3 (bb bg : Nat) (bo : Nat) : loadF [⟨1, bb, bg, 4, put (List.replicate 8 zC) 0 ((bytesL 258 4).map cellN), bo⟩] ⟨2, 2, 1⟩ 4 false = (⟨0, 0, 0⟩, 3) := by kernel_rfl
theorem hd4 (bb bg : Nat) (bo : Nat) : storeF [⟨1, bb, bg, 4, put (List.replicate 8 zC) 0 ((bytesL 258 4).map cellN), bo⟩] ⟨2, 4, 1⟩ 4 ⟨2, 0, 1⟩ = (0, [⟨1, bb, bg, 4, put (put (List.replicate 8 zC) 0 ((bytesL 258 4).map cellN)) 4 (partsC ⟨2, 0, 1⟩), bo⟩]) := by kernel_rfl
theorem hd5 (bb bg : Nat) (bo : Nat) : copyF [⟨1, bb, bg, 4, put (put (List.replicate 8 zC) 0 ((bytesL 258 4).map cellN)) 4 (partsC ⟨2, 0, 1⟩), bo⟩] ⟨2, 0, 1⟩ ⟨2, 4, 1⟩ 4 4 = (0, [⟨1, bb, bg, 4, put (put (put (List.replicate 8 zC) 0 ((bytesL 258 4).map cellN)) 4 (partsC ⟨2, 0, 1⟩)) 0 (sub (put (put (List.replicate 8 zC) 0 ((bytesL 258 4).map cellN)) 4 (partsC ⟨2, 0, 1⟩)) 4 4), bo⟩]) := by kernel_rfl
theorem hd6 (bb bg : Nat) (bo : Nat) : loadF [⟨1, bb, bg, 4, put (put (put (List.replicate 8 zC) 0 ((bytesL 258 4).map cellN)) 4 (partsC ⟨2, 0, 1⟩)) 0 (sub (put (put (List.replicate 8 zC) 0 ((bytesL 258 4).map cellN)) 4 (partsC ⟨2, 0, 1⟩)) 4 4), bo⟩] ⟨2, 0, 1⟩ 4 false = (⟨2, 0, 1⟩, 0) := by kernel_rfl
theorem hd7 (bb bg : Nat) (bo : Nat) : loadF [⟨1, bb, bg, 4, put (put (put (List.replicate 8 zC) 0 ((bytesL 258 4).map cellN)) 4 (partsC ⟨2, 0, 1⟩)) 0 (sub (put (put (List.replicate 8 zC) 0 ((bytesL 258 4).map cellN)) 4 (partsC ⟨2, 0, 1⟩)) 4 4), bo⟩] ⟨2, 0, 1⟩ 1 false = (⟨0, 0, 0⟩, 3) := by kernel_rfl
theorem hd8 (bb bg : Nat) (bo : Nat) : binF [⟨1, bb, bg, 4, put (put (put (List.replicate 8 zC) 0 ((bytesL 258 4).map cellN)) 4 (partsC ⟨2, 0, 1⟩)) 0 (sub (put (put (List.replicate 8 zC) 0 ((bytesL 258 4).map cellN)) 4 (partsC ⟨2, 0, 1⟩)) 4 4), bo⟩] 1 ⟨2, 0, 1⟩ ⟨1, 8, 0⟩ = (⟨2, 8, 1⟩, 0) := by kernel_rfl
theorem hd9 (bb bg : Nat) (bo : Nat) : binF [⟨1, bb, bg, 4, put (put (put (List.replicate 8 zC) 0 ((bytesL 258 4).map cellN)) 4 (partsC ⟨2, 0, 1⟩)) 0 (sub (put (put (List.replicate 8 zC) 0 ((bytesL 258 4).map cellN)) 4 (partsC ⟨2, 0, 1⟩)) 4 4), bo⟩] 1 ⟨2, 0, 1⟩ ⟨1, 9, 0⟩ = (⟨0, 0, 0⟩, 3) := by kernel_rfl
theorem hd10 (bb bg : Nat) (bo : Nat) : binF [⟨1, bb, bg, 4, put (put (put (List.replicate 8 zC) 0 ((bytesL 258 4).map cellN)) 4 (partsC ⟨2, 0, 1⟩)) 0 (sub (put (put (List.replicate 8 zC) 0 ((bytesL 258 4).map cellN)) 4 (partsC ⟨2, 0, 1⟩)) 4 4), bo⟩] 14 ⟨2, 0, 1⟩ ⟨1, 0, 0⟩ = (⟨1, 0, 0⟩, 0) := by kernel_rfl
set_option maxHeartbeats 40000000 in
set_option maxRecDepth 100000 in
theorem heads_calls (w : World) : Calls Try.prog 17 #[] w fun e w' => e = .returned (.bool true) ∧ Below w.heap.size w w' := by
  have hu51 := Try.underlying51
  go_enter Try.func17, Try.ntmps17
  go_wp2_with (fail)
  go_at_call 22
  refine New_calls.mono ?_
  rintro e W1 ⟨m, mm, rfl, hm, hmm, pm, hb⟩
  have O := Aside0.mk (show Own w W1 m mm 0 [] from ⟨pm, hb, by simp [foot]; exact ⟨hm, hmm⟩⟩)
  clear hm hmm pm hb
  go_wp2_with (fail)
  go_at_call 48
  refine (Make_did O.out.pm 8 4 (by decide) (by decide) (by decide)).mono ?_
  rintro e W2 ⟨bb, bg, bo, rfl, d⟩
  replace O := Aside0.mk (O.out.did d)
  simp only [Int.zero_add, List.nil_append, show Int.toNat 8 = 8 from rfl] at O ⊢
  clear d
  go_wp2_with (first | (go_at_call 49; refine (mortiselaw11_ptr.calls _ _ 2 _ _ _ rfl).mono ?_; rintro e WX ⟨rfl, hB1⟩; have hBc := pm_chain (w := W2) (by (repeat (first | (with_reducible exact Below.refl _ _) | (with_reducible assumption) | with_reducible apply below_alloc | with_reducible apply pw_below_drewN | with_reducible apply below_drew1))) hB1; clear hB1) | (go_at_call 18; refine (mortiseref11_Num.calls _ 1 _ 0 _ rfl).mono ?_; rintro e WX ⟨rfl, hB1⟩; have hBc := pm_chain (w := W2) (by (repeat (first | (with_reducible exact Below.refl _ _) | (with_reducible assumption) | with_reducible apply below_alloc | with_reducible apply pw_below_drewN | with_reducible apply below_drew1))) hB1; clear hB1))
  go_at_call 25
  refine (Load_calls (O.out.grown (show Below W2.heap.size W2 _ by (first | assumption | (repeat (first | (with_reducible exact Below.refl _ _) | (with_reducible assumption) | with_reducible apply below_alloc | with_reducible apply pw_below_drewN | with_reducible apply below_drew1))))).pm ⟨2, 0, 1⟩ 4 false (by decide) (by decide)).mono ?_
  rintro e W3 ⟨rfl, hB1⟩
  rw [hd0]
  simp only [V3.enc]
  have hBn := pm_chain (w := W2) (by (first | assumption | (repeat (first | (with_reducible exact Below.refl _ _) | (with_reducible assumption) | with_reducible apply below_alloc | with_reducible apply pw_below_drewN | with_reducible apply below_drew1)))) hB1
  replace O := Aside0.mk (O.out.grown hBn)
  clear hB1 hBn
  try clear hBc
  try clear hBc
  try clear hBc
  go_wp2_with (fail)
  have hBn : Below W3.heap.size W3 (W3.alloc (.cells #[.int .i64 0, .int .u32 0, .int .i64 0] 51)) := by (repeat (first | (with_reducible exact Below.refl _ _) | (with_reducible assumption) | with_reducible apply below_alloc | with_reducible apply pw_below_drewN | with_reducible apply below_drew1))
  replace O := Aside0.mk (O.out.grown hBn)
  clear hBn
  generalize (W3.alloc (.cells #[.int .i64 0, .int .u32 0, .int .i64 0] 51)) = W4 at O ⊢
  go_wp2_with (first | (go_at_call 49; refine (mortiselaw11_ptr.calls _ _ 2 _ _ _ rfl).mono ?_; rintro e WX ⟨rfl, hB1⟩; have hBc := pm_chain (w := W4) (by (repeat (first | (with_reducible exact Below.refl _ _) | (with_reducible assumption) | with_reducible apply below_alloc | with_reducible apply pw_below_drewN | with_reducible apply below_drew1))) hB1; clear hB1) | (go_at_call 18; refine (mortiseref11_Num.calls _ 1 _ 0 _ rfl).mono ?_; rintro e WX ⟨rfl, hB1⟩; have hBc := pm_chain (w := W4) (by (repeat (first | (with_reducible exact Below.refl _ _) | (with_reducible assumption) | with_reducible apply below_alloc | with_reducible apply pw_below_drewN | with_reducible apply below_drew1))) hB1; clear hB1))
  go_at_call 24
  refine (Store_calls (O.out.grown (show Below W4.heap.size W4 _ by (first | assumption | (repeat (first | (with_reducible exact Below.refl _ _) | (with_reducible assumption) | with_reducible apply below_alloc | with_reducible apply pw_below_drewN | with_reducible apply below_drew1))))).pm ⟨2, 0, 1⟩ 4 ⟨1, 258, 0⟩ (by decide) (by decide) (by decide) (by decide)).mono ?_
  rintro e W5 ⟨rfl, d⟩
  rw [hd1] at d ⊢
  simp only at d ⊢
  have hBn := (show Below W4.heap.size W4 _ by (first | assumption | (repeat (first | (with_reducible exact Below.refl _ _) | (with_reducible assumption) | with_reducible apply below_alloc | with_reducible apply pw_below_drewN | with_reducible apply below_drew1))))
  replace O := Aside0.mk ((O.out.grown hBn).did d)
  clear d hBn
  try clear hBc
  try clear hBc
  try clear hBc
  go_wp2_with (first | (go_at_call 49; refine (mortiselaw11_ptr.calls _ _ 2 _ _ _ rfl).mono ?_; rintro e WX ⟨rfl, hB1⟩; have hBc := pm_chain (w := W5) (by (repeat (first | (with_reducible exact Below.refl _ _) | (with_reducible assumption) | with_reducible apply below_alloc | with_reducible apply pw_below_drewN | with_reducible apply below_drew1))) hB1; clear hB1) | (go_at_call 18; refine (mortiseref11_Num.calls _ 1 _ 0 _ rfl).mono ?_; rintro e WX ⟨rfl, hB1⟩; have hBc := pm_chain (w := W5) (by (repeat (first | (with_reducible exact Below.refl _ _) | (with_reducible assumption) | with_reducible apply below_alloc | with_reducible apply pw_below_drewN | with_reducible apply below_drew1))) hB1; clear hB1))
  go_at_call 25
  refine (Load_calls (O.out.grown (show Below W5.heap.size W5 _ by (first | assumption | (repeat (first | (with_reducible exact Below.refl _ _) | (with_reducible assumption) | with_reducible apply below_alloc | with_reducible apply pw_below_drewN | with_reducible apply below_drew1))))).pm ⟨2, 1, 1⟩ 1 false (by decide) (by decide)).mono ?_
  rintro e W6 ⟨rfl, hB1⟩
  rw [hd2]
  simp only [V3.enc]
  have hBn := pm_chain (w := W5) (by (first | assumption | (repeat (first | (with_reducible exact Below.refl _ _) | (with_reducible assumption) | with_reducible apply below_alloc | with_reducible apply pw_below_drewN | with_reducible apply below_drew1)))) hB1
  replace O := Aside0.mk (O.out.grown hBn)
  clear hB1 hBn
  try clear hBc
  try clear hBc
  try clear hBc
  go_wp2_with (fail)
  have hBn : Below W6.heap.size W6 (W6.alloc (.cells #[.int .i64 1, .int .u32 1, .int .i64 0] 51)) := by (repeat (first | (with_reducible exact Below.refl _ _) | (with_reducible assumption) | with_reducible apply below_alloc | with_reducible apply pw_below_drewN | with_reducible apply below_drew1))
  have Ng7 := Aside0.mk (show W6.heap.size ∉ foot m mm [⟨1, bb, bg, 4, put (List.replicate 8 zC) 0 ((bytesL 258 4).map cellN), bo⟩] from fun h => Nat.lt_irrefl _ (O.out.pm.foot_lt _ h))
  replace O := Aside0.mk (O.out.grown hBn)
  have Rg7 := Aside0.mk (show (W6.alloc (.cells #[.int .i64 1, .int .u32 1, .int .i64 0] 51)).heap[W6.heap.size]? = some (.cells #[.int .i64 1, .int .u32 1, .int .i64 0] 51 (0, 0)) from heap_at _ _ _ rfl)
  clear hBn
  generalize (W6.alloc (.cells #[.int .i64 1, .int .u32 1, .int .i64 0] 51)) = W7 at O Rg7 ⊢
  generalize W6.heap.size = g7 at Rg7 Ng7 ⊢
  go_wp2_with (first | (go_at_call 49; refine (mortiselaw11_ptr.calls _ _ 2 _ _ _ rfl).mono ?_; rintro e WX ⟨rfl, hB1⟩; have hBc := pm_chain (w := W7) (by (repeat (first | (with_reducible exact Below.refl _ _) | (with_reducible assumption) | with_reducible apply below_alloc | with_reducible apply pw_below_drewN | with_reducible apply below_drew1))) hB1; clear hB1) | (go_at_call 18; refine (mortiseref11_Num.calls _ 1 _ 0 _ rfl).mono ?_; rintro e WX ⟨rfl, hB1⟩; have hBc := pm_chain (w := W7) (by (repeat (first | (with_reducible exact Below.refl _ _) | (with_reducible assumption) | with_reducible apply below_alloc | with_reducible apply pw_below_drewN | with_reducible apply below_drew1))) hB1; clear hB1))
  go_at_call 25
  refine (Load_calls (O.out.grown (show Below W7.heap.size W7 _ by (first | assumption | (repeat (first | (with_reducible exact Below.refl _ _) | (with_reducible assumption) | with_reducible apply below_alloc | with_reducible apply pw_below_drewN | with_reducible apply below_drew1))))).pm ⟨2, 2, 1⟩ 4 false (by decide) (by decide)).mono ?_
  rintro e W8 ⟨rfl, hB1⟩
  rw [hd3]
  simp only [V3.enc]
  have hBn := pm_chain (w := W7) (by (first | assumption | (repeat (first | (with_reducible exact Below.refl _ _) | (with_reducible assumption) | with_reducible apply below_alloc | with_reducible apply pw_below_drewN | with_reducible apply below_drew1)))) hB1
  replace O := Aside0.mk (O.out.grown hBn)
  replace Rg7 := Aside0.mk (blk_below Rg7.out hBn)
  clear hB1 hBn
  try clear hBc
  try clear hBc
  try clear hBc
  go_wp2_with (fail)
  have hBn : Below W8.heap.size W8 (W8.alloc (.cells #[.int .i64 0, .int .u32 0, .int .i64 0] 51)) := by (repeat (first | (with_reducible exact Below.refl _ _) | (with_reducible assumption) | with_reducible apply below_alloc | with_reducible apply pw_below_drewN | with_reducible apply below_drew1))
  replace O := Aside0.mk (O.out.grown hBn)
  replace Rg7 := Aside0.mk (blk_below Rg7.out hBn)
  clear hBn
  generalize (W8.alloc (.cells #[.int .i64 0, .int .u32 0, .int .i64 0] 51)) = W9 at O Rg7 ⊢
  go_wp2_with (first | (go_at_call 49; refine (mortiselaw11_ptr.calls _ _ 2 _ _ _ rfl).mono ?_; rintro e WX ⟨rfl, hB1⟩; have hBc := pm_chain (w := W9) (by (repeat (first | (with_reducible exact Below.refl _ _) | (with_reducible assumption) | with_reducible apply below_alloc | with_reducible apply pw_below_drewN | with_reducible apply below_drew1))) hB1; clear hB1) | (go_at_call 18; refine (mortiseref11_Num.calls _ 1 _ 0 _ rfl).mono ?_; rintro e WX ⟨rfl, hB1⟩; have hBc := pm_chain (w := W9) (by (repeat (first | (with_reducible exact Below.refl _ _) | (with_reducible assumption) | with_reducible apply below_alloc | with_reducible apply pw_below_drewN | with_reducible apply below_drew1))) hB1; clear hB1))
  go_at_call 24
  refine (Store_calls (O.out.grown (show Below W9.heap.size W9 _ by (first | assumption | (repeat (first | (with_reducible exact Below.refl _ _) | (with_reducible assumption) | with_reducible apply below_alloc | with_reducible apply pw_below_drewN | with_reducible apply below_drew1))))).pm ⟨2, 4, 1⟩ 4 ⟨2, 0, 1⟩ (by decide) (by decide) (by decide) (by decide)).mono ?_
  rintro e W10 ⟨rfl, d⟩
  rw [hd4] at d ⊢
  simp only at d ⊢
  have hBn := (show Below W9.heap.size W9 _ by (first | assumption | (repeat (first | (with_reducible exact Below.refl _ _) | (with_reducible assumption) | with_reducible apply below_alloc | with_reducible apply pw_below_drewN | with_reducible apply below_drew1))))
  replace Rg7 := Aside0.mk (d.ext.at (blk_below Rg7.out hBn) Ng7.out)
  replace O := Aside0.mk ((O.out.grown hBn).did d)
  clear d hBn
  replace Ng7 : Aside0 (g7 ∉ foot m mm [⟨1, bb, bg, 4, put (put (List.replicate 8 zC) 0 ((bytesL 258 4).map cellN)) 4 (partsC ⟨2, 0, 1⟩), bo⟩]) := Ng7
  try clear hBc
  try clear hBc
  try clear hBc
  go_wp2_with (first | (go_at_call 49; refine (mortiselaw11_ptr.calls _ _ 2 _ _ _ rfl).mono ?_; rintro e WX ⟨rfl, hB1⟩; have hBc := pm_chain (w := W10) (by (repeat (first | (with_reducible exact Below.refl _ _) | (with_reducible assumption) | with_reducible apply below_alloc | with_reducible apply pw_below_drewN | with_reducible apply below_drew1))) hB1; clear hB1) | (go_at_call 18; refine (mortiseref11_Num.calls _ 1 _ 0 _ rfl).mono ?_; rintro e WX ⟨rfl, hB1⟩; have hBc := pm_chain (w := W10) (by (repeat (first | (with_reducible exact Below.refl _ _) | (with_reducible assumption) | with_reducible apply below_alloc | with_reducible apply pw_below_drewN | with_reducible apply below_drew1))) hB1; clear hB1))
  go_at_call 20
  refine (Copy_go (O.out.grown (show Below W10.heap.size W10 _ by (first | assumption | (repeat (first | (with_reducible exact Below.refl _ _) | (with_reducible assumption) | with_reducible apply below_alloc | with_reducible apply pw_below_drewN | with_reducible apply below_drew1))))).pm ⟨2, 0, 1⟩ ⟨2, 4, 1⟩ 4 4 (by decide) (by decide) (by decide) (by decide) (by decide) (by decide) rfl 0 [⟨1, bb, bg, 4, put (put (put (List.replicate 8 zC) 0 ((bytesL 258 4).map cellN)) 4 (partsC ⟨2, 0, 1⟩)) 0 (sub (put (put (List.replicate 8 zC) 0 ((bytesL 258 4).map cellN)) 4 (partsC ⟨2, 0, 1⟩)) 4 4), bo⟩] ⟨hd5 _ _ _⟩).mono ?_
  rintro e W11 ⟨rfl, d⟩
  have hBn := (show Below W10.heap.size W10 _ by (first | assumption | (repeat (first | (with_reducible exact Below.refl _ _) | (with_reducible assumption) | with_reducible apply below_alloc | with_reducible apply pw_below_drewN | with_reducible apply below_drew1))))
  replace Rg7 := Aside0.mk (d.ext.at (blk_below Rg7.out hBn) Ng7.out)
  replace O := Aside0.mk ((O.out.grown hBn).did d)
  clear d hBn
  replace Ng7 : Aside0 (g7 ∉ foot m mm [⟨1, bb, bg, 4, put (put (put (List.replicate 8 zC) 0 ((bytesL 258 4).map cellN)) 4 (partsC ⟨2, 0, 1⟩)) 0 (sub (put (put (List.replicate 8 zC) 0 ((bytesL 258 4).map cellN)) 4 (partsC ⟨2, 0, 1⟩)) 4 4), bo⟩]) := Ng7
  try clear hBc
  try clear hBc
  try clear hBc
  go_wp2_with (first | (go_at_call 49; refine (mortiselaw11_ptr.calls _ _ 2 _ _ _ rfl).mono ?_; rintro e WX ⟨rfl, hB1⟩; have hBc := pm_chain (w := W11) (by (repeat (first | (with_reducible exact Below.refl _ _) | (with_reducible assumption) | with_reducible apply below_alloc | with_reducible apply pw_below_drewN | with_reducible apply below_drew1))) hB1; clear hB1) | (go_at_call 18; refine (mortiseref11_Num.calls _ 1 _ 0 _ rfl).mono ?_; rintro e WX ⟨rfl, hB1⟩; have hBc := pm_chain (w := W11) (by (repeat (first | (with_reducible exact Below.refl _ _) | (with_reducible assumption) | with_reducible apply below_alloc | with_reducible apply pw_below_drewN | with_reducible apply below_drew1))) hB1; clear hB1))
  go_at_call 25
  refine (Load_calls (O.out.grown (show Below W11.heap.size W11 _ by (first | assumption | (repeat (first | (with_reducible exact Below.refl _ _) | (with_reducible assumption) | with_reducible apply below_alloc | with_reducible apply pw_below_drewN | with_reducible apply below_drew1))))).pm ⟨2, 0, 1⟩ 4 false (by decide) (by decide)).mono ?_
  rintro e W12 ⟨rfl, hB1⟩
  rw [hd6]
  simp only [V3.enc]
  have hBn := pm_chain (w := W11) (by (first | assumption | (repeat (first | (with_reducible exact Below.refl _ _) | (with_reducible assumption) | with_reducible apply below_alloc | with_reducible apply pw_below_drewN | with_reducible apply below_drew1)))) hB1
  replace O := Aside0.mk (O.out.grown hBn)
  replace Rg7 := Aside0.mk (blk_below Rg7.out hBn)
  clear hB1 hBn
  try clear hBc
  try clear hBc
  try clear hBc
  go_wp2_with (fail)
  have hBn : Below W12.heap.size W12 (W12.alloc (.cells #[.int .i64 2, .int .u32 0, .int .i64 1] 51)) := by (repeat (first | (with_reducible exact Below.refl _ _) | (with_reducible assumption) | with_reducible apply below_alloc | with_reducible apply pw_below_drewN | with_reducible apply below_drew1))
  have Ng13 := Aside0.mk (show W12.heap.size ∉ foot m mm [⟨1, bb, bg, 4, put (put (put (List.replicate 8 zC) 0 ((bytesL 258 4).map cellN)) 4 (partsC ⟨2, 0, 1⟩)) 0 (sub (put (put (List.replicate 8 zC) 0 ((bytesL 258 4).map cellN)) 4 (partsC ⟨2, 0, 1⟩)) 4 4), bo⟩] from fun h => Nat.lt_irrefl _ (O.out.pm.foot_lt _ h))
  replace O := Aside0.mk (O.out.grown hBn)
  replace Rg7 := Aside0.mk (blk_below Rg7.out hBn)
  have Rg13 := Aside0.mk (show (W12.alloc (.cells #[.int .i64 2, .int .u32 0, .int .i64 1] 51)).heap[W12.heap.size]? = some (.cells #[.int .i64 2, .int .u32 0, .int .i64 1] 51 (0, 0)) from heap_at _ _ _ rfl)
  clear hBn
  generalize (W12.alloc (.cells #[.int .i64 2, .int .u32 0, .int .i64 1] 51)) = W13 at O Rg7 Rg13 ⊢
  generalize W12.heap.size = g13 at Rg13 Ng13 ⊢
  go_wp2_with (first | (go_at_call 49; refine (mortiselaw11_ptr.calls _ _ 2 _ _ _ rfl).mono ?_; rintro e WX ⟨rfl, hB1⟩; have hBc := pm_chain (w := W13) (by (repeat (first | (with_reducible exact Below.refl _ _) | (with_reducible assumption) | with_reducible apply below_alloc | with_reducible apply pw_below_drewN | with_reducible apply below_drew1))) hB1; clear hB1) | (go_at_call 18; refine (mortiseref11_Num.calls _ 1 _ 0 _ rfl).mono ?_; rintro e WX ⟨rfl, hB1⟩; have hBc := pm_chain (w := W13) (by (repeat (first | (with_reducible exact Below.refl _ _) | (with_reducible assumption) | with_reducible apply below_alloc | with_reducible apply pw_below_drewN | with_reducible apply below_drew1))) hB1; clear hB1))
  go_at_call 25
  refine (Load_calls (O.out.grown (show Below W13.heap.size W13 _ by (first | assumption | (repeat (first | (with_reducible exact Below.refl _ _) | (with_reducible assumption) | with_reducible apply below_alloc | with_reducible apply pw_below_drewN | with_reducible apply below_drew1))))).pm ⟨2, 0, 1⟩ 1 false (by decide) (by decide)).mono ?_
  rintro e W14 ⟨rfl, hB1⟩
  rw [hd7]
  simp only [V3.enc]
  have hBn := pm_chain (w := W13) (by (first | assumption | (repeat (first | (with_reducible exact Below.refl _ _) | (with_reducible assumption) | with_reducible apply below_alloc | with_reducible apply pw_below_drewN | with_reducible apply below_drew1)))) hB1
  replace O := Aside0.mk (O.out.grown hBn)
  replace Rg7 := Aside0.mk (blk_below Rg7.out hBn)
  replace Rg13 := Aside0.mk (blk_below Rg13.out hBn)
  clear hB1 hBn
  try clear hBc
  try clear hBc
  try clear hBc
  go_wp2_with (fail)
  have hBn : Below W14.heap.size W14 (W14.alloc (.cells #[.int .i64 0, .int .u32 0, .int .i64 0] 51)) := by (repeat (first | (with_reducible exact Below.refl _ _) | (with_reducible assumption) | with_reducible apply below_alloc | with_reducible apply pw_below_drewN | with_reducible apply below_drew1))
  replace O := Aside0.mk (O.out.grown hBn)
  replace Rg7 := Aside0.mk (blk_below Rg7.out hBn)
  replace Rg13 := Aside0.mk (blk_below Rg13.out hBn)
  clear hBn
  generalize (W14.alloc (.cells #[.int .i64 0, .int .u32 0, .int .i64 0] 51)) = W15 at O Rg7 Rg13 ⊢
  go_wp2_with (first | (go_at_call 49; refine (mortiselaw11_ptr.calls _ _ 2 _ _ _ rfl).mono ?_; rintro e WX ⟨rfl, hB1⟩; have hBc := pm_chain (w := W15) (by (repeat (first | (with_reducible exact Below.refl _ _) | (with_reducible assumption) | with_reducible apply below_alloc | with_reducible apply pw_below_drewN | with_reducible apply below_drew1))) hB1; clear hB1) | (go_at_call 18; refine (mortiseref11_Num.calls _ 1 _ 0 _ rfl).mono ?_; rintro e WX ⟨rfl, hB1⟩; have hBc := pm_chain (w := W15) (by (repeat (first | (with_reducible exact Below.refl _ _) | (with_reducible assumption) | with_reducible apply below_alloc | with_reducible apply pw_below_drewN | with_reducible apply below_drew1))) hB1; clear hB1))
  go_at_call 16
  refine (Bin_calls (O.out.grown (show Below W15.heap.size W15 _ by (first | assumption | (repeat (first | (with_reducible exact Below.refl _ _) | (with_reducible assumption) | with_reducible apply below_alloc | with_reducible apply pw_below_drewN | with_reducible apply below_drew1))))).pm 1 ⟨2, 0, 1⟩ ⟨1, 8, 0⟩ (.tuple #[V3.enc ⟨2, 8, 1⟩, .int .i64 0]) ⟨by rw [hd8]; rfl⟩ ⟨by decide⟩).mono ?_
  rintro e W16 ⟨rfl, hB1⟩
  simp only [V3.enc]
  have hBn := pm_chain (w := W15) (by (first | assumption | (repeat (first | (with_reducible exact Below.refl _ _) | (with_reducible assumption) | with_reducible apply below_alloc | with_reducible apply pw_below_drewN | with_reducible apply below_drew1)))) hB1
  replace O := Aside0.mk (O.out.grown hBn)
  replace Rg7 := Aside0.mk (blk_below Rg7.out hBn)
  replace Rg13 := Aside0.mk (blk_below Rg13.out hBn)
  clear hB1 hBn
  try clear hBc
  try clear hBc
  try clear hBc
  go_wp2_with (fail)
  have hBn : Below W16.heap.size W16 (W16.alloc (.cells #[.int .i64 2, .int .u32 8, .int .i64 1] 51)) := by (repeat (first | (with_reducible exact Below.refl _ _) | (with_reducible assumption) | with_reducible apply below_alloc | with_reducible apply pw_below_drewN | with_reducible apply below_drew1))
  have Ng17 := Aside0.mk (show W16.heap.size ∉ foot m mm [⟨1, bb, bg, 4, put (put (put (List.replicate 8 zC) 0 ((bytesL 258 4).map cellN)) 4 (partsC ⟨2, 0, 1⟩)) 0 (sub (put (put (List.replicate 8 zC) 0 ((bytesL 258 4).map cellN)) 4 (partsC ⟨2, 0, 1⟩)) 4 4), bo⟩] from fun h => Nat.lt_irrefl _ (O.out.pm.foot_lt _ h))
  replace O := Aside0.mk (O.out.grown hBn)
  replace Rg7 := Aside0.mk (blk_below Rg7.out hBn)
  replace Rg13 := Aside0.mk (blk_below Rg13.out hBn)
  have Rg17 := Aside0.mk (show (W16.alloc (.cells #[.int .i64 2, .int .u32 8, .int .i64 1] 51)).heap[W16.heap.size]? = some (.cells #[.int .i64 2, .int .u32 8, .int .i64 1] 51 (0, 0)) from heap_at _ _ _ rfl)
  clear hBn
  generalize (W16.alloc (.cells #[.int .i64 2, .int .u32 8, .int .i64 1] 51)) = W17 at O Rg7 Rg13 Rg17 ⊢
  generalize W16.heap.size = g17 at Rg17 Ng17 ⊢
  go_wp2_with (first | (go_at_call 49; refine (mortiselaw11_ptr.calls _ _ 2 _ _ _ rfl).mono ?_; rintro e WX ⟨rfl, hB1⟩; have hBc := pm_chain (w := W17) (by (repeat (first | (with_reducible exact Below.refl _ _) | (with_reducible assumption) | with_reducible apply below_alloc | with_reducible apply pw_below_drewN | with_reducible apply below_drew1))) hB1; clear hB1) | (go_at_call 18; refine (mortiseref11_Num.calls _ 1 _ 0 _ rfl).mono ?_; rintro e WX ⟨rfl, hB1⟩; have hBc := pm_chain (w := W17) (by (repeat (first | (with_reducible exact Below.refl _ _) | (with_reducible assumption) | with_reducible apply below_alloc | with_reducible apply pw_below_drewN | with_reducible apply below_drew1))) hB1; clear hB1))
  go_at_call 16
  refine (Bin_calls (O.out.grown (show Below W17.heap.size W17 _ by (first | assumption | (repeat (first | (with_reducible exact Below.refl _ _) | (with_reducible assumption) | with_reducible apply below_alloc | with_reducible apply pw_below_drewN | with_reducible apply below_drew1))))).pm 1 ⟨2, 0, 1⟩ ⟨1, 9, 0⟩ (.tuple #[V3.enc ⟨0, 0, 0⟩, .int .i64 3]) ⟨by rw [hd9]; rfl⟩ ⟨by decide⟩).mono ?_
  rintro e W18 ⟨rfl, hB1⟩
  simp only [V3.enc]
  have hBn := pm_chain (w := W17) (by (first | assumption | (repeat (first | (with_reducible exact Below.refl _ _) | (with_reducible assumption) | with_reducible apply below_alloc | with_reducible apply pw_below_drewN | with_reducible apply below_drew1)))) hB1
  replace O := Aside0.mk (O.out.grown hBn)
  replace Rg7 := Aside0.mk (blk_below Rg7.out hBn)
  replace Rg13 := Aside0.mk (blk_below Rg13.out hBn)
  replace Rg17 := Aside0.mk (blk_below Rg17.out hBn)
  clear hB1 hBn
  try clear hBc
  try clear hBc
  try clear hBc
  go_wp2_with (fail)
  have hBn : Below W18.heap.size W18 (W18.alloc (.cells #[.int .i64 0, .int .u32 0, .int .i64 0] 51)) := by (repeat (first | (with_reducible exact Below.refl _ _) | (with_reducible assumption) | with_reducible apply below_alloc | with_reducible apply pw_below_drewN | with_reducible apply below_drew1))
  replace O := Aside0.mk (O.out.grown hBn)
  replace Rg7 := Aside0.mk (blk_below Rg7.out hBn)
  replace Rg13 := Aside0.mk (blk_below Rg13.out hBn)
  replace Rg17 := Aside0.mk (blk_below Rg17.out hBn)
  clear hBn
  generalize (W18.alloc (.cells #[.int .i64 0, .int .u32 0, .int .i64 0] 51)) = W19 at O Rg7 Rg13 Rg17 ⊢
  go_wp2_with (first | (go_at_call 49; refine (mortiselaw11_ptr.calls _ _ 2 _ _ _ rfl).mono ?_; rintro e WX ⟨rfl, hB1⟩; have hBc := pm_chain (w := W19) (by (repeat (first | (with_reducible exact Below.refl _ _) | (with_reducible assumption) | with_reducible apply below_alloc | with_reducible apply pw_below_drewN | with_reducible apply below_drew1))) hB1; clear hB1) | (go_at_call 18; refine (mortiseref11_Num.calls _ 1 _ 0 _ rfl).mono ?_; rintro e WX ⟨rfl, hB1⟩; have hBc := pm_chain (w := W19) (by (repeat (first | (with_reducible exact Below.refl _ _) | (with_reducible assumption) | with_reducible apply below_alloc | with_reducible apply pw_below_drewN | with_reducible apply below_drew1))) hB1; clear hB1))
  go_at_call 16
  refine (Bin_calls (O.out.grown (show Below W19.heap.size W19 _ by (first | assumption | (repeat (first | (with_reducible exact Below.refl _ _) | (with_reducible assumption) | with_reducible apply below_alloc | with_reducible apply pw_below_drewN | with_reducible apply below_drew1))))).pm 14 ⟨2, 0, 1⟩ ⟨1, 0, 0⟩ (.tuple #[V3.enc ⟨1, 0, 0⟩, .int .i64 0]) ⟨by rw [hd10]; rfl⟩ ⟨by decide⟩).mono ?_
  rintro e W20 ⟨rfl, hB1⟩
  simp only [V3.enc]
  have hBn := pm_chain (w := W19) (by (first | assumption | (repeat (first | (with_reducible exact Below.refl _ _) | (with_reducible assumption) | with_reducible apply below_alloc | with_reducible apply pw_below_drewN | with_reducible apply below_drew1)))) hB1
  replace O := Aside0.mk (O.out.grown hBn)
  replace Rg7 := Aside0.mk (blk_below Rg7.out hBn)
  replace Rg13 := Aside0.mk (blk_below Rg13.out hBn)
  replace Rg17 := Aside0.mk (blk_below Rg17.out hBn)
  clear hB1 hBn
  try clear hBc
  try clear hBc
  try clear hBc
  obtain ⟨⟨kg70, kg71, kg72⟩, _⟩ := know3 Rg7.out
  obtain ⟨⟨kg130, kg131, kg132⟩, _⟩ := know3 Rg13.out
  obtain ⟨⟨kg170, kg171, kg172⟩, _⟩ := know3 Rg17.out
  go_wp2_with (fail)
  clear kg70 kg71 kg72 kg130 kg131 kg132 kg170 kg171 kg172
  have hBn : Below W20.heap.size W20 (W20.alloc (.cells #[.int .i64 1, .int .u32 0, .int .i64 0] 51)) := by (repeat (first | (with_reducible exact Below.refl _ _) | (with_reducible assumption) | with_reducible apply below_alloc | with_reducible apply pw_below_drewN | with_reducible apply below_drew1))
  have Ng21 := Aside0.mk (show W20.heap.size ∉ foot m mm [⟨1, bb, bg, 4, put (put (put (List.replicate 8 zC) 0 ((bytesL 258 4).map cellN)) 4 (partsC ⟨2, 0, 1⟩)) 0 (sub (put (put (List.replicate 8 zC) 0 ((bytesL 258 4).map cellN)) 4 (partsC ⟨2, 0, 1⟩)) 4 4), bo⟩] from fun h => Nat.lt_irrefl _ (O.out.pm.foot_lt _ h))
  replace O := Aside0.mk (O.out.grown hBn)
  replace Rg7 := Aside0.mk (blk_below Rg7.out hBn)
  replace Rg13 := Aside0.mk (blk_below Rg13.out hBn)
  replace Rg17 := Aside0.mk (blk_below Rg17.out hBn)
  have Rg21 := Aside0.mk (show (W20.alloc (.cells #[.int .i64 1, .int .u32 0, .int .i64 0] 51)).heap[W20.heap.size]? = some (.cells #[.int .i64 1, .int .u32 0, .int .i64 0] 51 (0, 0)) from heap_at _ _ _ rfl)
  clear hBn
  generalize (W20.alloc (.cells #[.int .i64 1, .int .u32 0, .int .i64 0] 51)) = W21 at O Rg7 Rg13 Rg17 Rg21 ⊢
  generalize W20.heap.size = g21 at Rg21 Ng21 ⊢
  obtain ⟨⟨kg70, kg71, kg72⟩, _⟩ := know3 Rg7.out
  obtain ⟨⟨kg130, kg131, kg132⟩, _⟩ := know3 Rg13.out
  obtain ⟨⟨kg170, kg171, kg172⟩, _⟩ := know3 Rg17.out
  obtain ⟨⟨kg210, kg211, kg212⟩, _⟩ := know3 Rg21.out
  simp only [List.append_eq, List.cons_append, List.nil_append]
  go_region_held3 (fun w' => (w'.cell? ⟨g7, 0, none⟩ = some (.int .i64 1) ∧ w'.cell? ⟨g7, 1, none⟩ = some (.int .u32 1) ∧ w'.cell? ⟨g7, 2, none⟩ = some (.int .i64 0)) ∧ (w'.cell? ⟨g13, 0, none⟩ = some (.int .i64 2) ∧ w'.cell? ⟨g13, 1, none⟩ = some (.int .u32 0) ∧ w'.cell? ⟨g13, 2, none⟩ = some (.int .i64 1)) ∧ (w'.cell? ⟨g17, 0, none⟩ = some (.int .i64 2) ∧ w'.cell? ⟨g17, 1, none⟩ = some (.int .u32 8) ∧ w'.cell? ⟨g17, 2, none⟩ = some (.int .i64 1)) ∧ (w'.cell? ⟨g21, 0, none⟩ = some (.int .i64 1) ∧ w'.cell? ⟨g21, 1, none⟩ = some (.int .u32 0) ∧ w'.cell? ⟨g21, 2, none⟩ = some (.int .i64 0))) (exact ⟨⟨pw_cell_below (by (repeat (first | (with_reducible exact Below.refl _ _) | (with_reducible assumption) | with_reducible apply below_alloc | with_reducible apply pw_below_drewN | with_reducible apply below_drew1)); done) kg70, pw_cell_below (by (repeat (first | (with_reducible exact Below.refl _ _) | (with_reducible assumption) | with_reducible apply below_alloc | with_reducible apply pw_below_drewN | with_reducible apply below_drew1)); done) kg71, pw_cell_below (by (repeat (first | (with_reducible exact Below.refl _ _) | (with_reducible assumption) | with_reducible apply below_alloc | with_reducible apply pw_below_drewN | with_reducible apply below_drew1)); done) kg72⟩, ⟨pw_cell_below (by (repeat (first | (with_reducible exact Below.refl _ _) | (with_reducible assumption) | with_reducible apply below_alloc | with_reducible apply pw_below_drewN | with_reducible apply below_drew1)); done) kg130, pw_cell_below (by (repeat (first | (with_reducible exact Below.refl _ _) | (with_reducible assumption) | with_reducible apply below_alloc | with_reducible apply pw_below_drewN | with_reducible apply below_drew1)); done) kg131, pw_cell_below (by (repeat (first | (with_reducible exact Below.refl _ _) | (with_reducible assumption) | with_reducible apply below_alloc | with_reducible apply pw_below_drewN | with_reducible apply below_drew1)); done) kg132⟩, ⟨pw_cell_below (by (repeat (first | (with_reducible exact Below.refl _ _) | (with_reducible assumption) | with_reducible apply below_alloc | with_reducible apply pw_below_drewN | with_reducible apply below_drew1)); done) kg170, pw_cell_below (by (repeat (first | (with_reducible exact Below.refl _ _) | (with_reducible assumption) | with_reducible apply below_alloc | with_reducible apply pw_below_drewN | with_reducible apply below_drew1)); done) kg171, pw_cell_below (by (repeat (first | (with_reducible exact Below.refl _ _) | (with_reducible assumption) | with_reducible apply below_alloc | with_reducible apply pw_below_drewN | with_reducible apply below_drew1)); done) kg172⟩, ⟨pw_cell_below (by (repeat (first | (with_reducible exact Below.refl _ _) | (with_reducible assumption) | with_reducible apply below_alloc | with_reducible apply pw_below_drewN | with_reducible apply below_drew1)); done) kg210, pw_cell_below (by (repeat (first | (with_reducible exact Below.refl _ _) | (with_reducible assumption) | with_reducible apply below_alloc | with_reducible apply pw_below_drewN | with_reducible apply below_drew1)); done) kg211, pw_cell_below (by (repeat (first | (with_reducible exact Below.refl _ _) | (with_reducible assumption) | with_reducible apply below_alloc | with_reducible apply pw_below_drewN | with_reducible apply below_drew1)); done) kg212⟩⟩) (first | (go_at_call 18; refine (mortiseref11_Num.calls _ 1 _ 0 _ rfl).mono ?_; rintro e WX ⟨rfl, hB1⟩; have hBc := pm_chain (w := W21) (by (repeat (first | (with_reducible exact Below.refl _ _) | (with_reducible assumption) | with_reducible apply below_alloc | with_reducible apply pw_below_drewN | with_reducible apply below_drew1))) hB1; clear hB1) | (go_at_call 49; refine (mortiselaw11_ptr.calls _ _ 2 _ _ _ rfl).mono ?_; rintro e WX ⟨rfl, hB1⟩; have hBc := pm_chain (w := W21) (by (repeat (first | (with_reducible exact Below.refl _ _) | (with_reducible assumption) | with_reducible apply below_alloc | with_reducible apply pw_below_drewN | with_reducible apply below_drew1))) hB1; clear hB1))
  all_goals (go_wp2_with (fail))
  all_goals go_ret
  all_goals exact ⟨rfl, (O.out.grown (by (repeat (first | (with_reducible exact Below.refl _ _) | (with_reducible assumption) | with_reducible apply below_alloc | with_reducible apply pw_below_drewN | with_reducible apply below_drew1)))).below⟩
end Go.Proofs.Ythdnhfjodhjejaa.Ma
