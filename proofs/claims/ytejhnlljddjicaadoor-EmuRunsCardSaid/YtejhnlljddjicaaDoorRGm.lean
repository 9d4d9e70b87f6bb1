/- The document's Decode answers what the machine's does. No condition beyond those each theorem names. And more of the kind: 4 texts in one. -/
import Derived.Test.YtejhnlljddjicaaDoorRGk
import Derived.Test.YtejhnlljddjicaaDoorRGl
namespace Go.Proofs.YtejhnlljddjicaaDoor.Ma
open Go.RowKit Go.Proofs.YtejhnlljddjicaaDoor.PEm Go.Proofs.YtejhnlljddjicaaDoorW.PrintWords Go.Proofs.YtejhnlljddjicaaDoorW.PrintLast Go.Proofs.YtejhnlljddjicaaDoorW.PrintMore Go.Proofs.YtejhnlljddjicaaDoor.La
set_option linter.unusedVariables false
set_option linter.unusedSimpArgs false
variable {w w' : World} {c pg : Nat} {ps ps' : Pages} {S S' : Cpu} {inp out inp' out' : List Int}
theorem ref_form_all : ∀ j : Fin 4, ∀ n : Fin 256, mortiseref20_Form.f (17 + j.val) (n.val : Int) = enc_Form.f 20 (n.val : Int) := by decide +kernel
theorem ref_form (k : Nat) (hk : 17 ≤ k ∧ k ≤ 20) (op : Int) (hop : 0 ≤ op ∧ op < 256) : mortiseref20_Form.f k op = enc_Form.f 20 op := by
  have h := ref_form_all ⟨k - 17, by omega⟩ ⟨op.toNat, by omega⟩
  have e1 : 17 + (k - 17) = k := by omega
  have e2 : ((op.toNat : Nat) : Int) = op := Int.toNat_of_nonneg hop.1
  simp only [e1, e2] at h
  exact h
theorem or0 (x : Int) (h : 0 ≤ x ∧ x < 4294967296) : bits .or .u32 x 0 = x := by
  rw [or_bv, show bvOf 0 = 0#32 from rfl, BitVec.or_zero, back_of x h.1 h.2]
theorem or00 (x y : Int) : bits .or .u32 (bits .or .u32 x y) 0 = bits .or .u32 x y := or0 _ (bits_range .or _ _ (.inr (.inl rfl)))
def rightB (f a b d imm : Int) : Prop :=
  (0 ≤ a ∧ a ≤ 15) ∧ (0 ≤ b ∧ b ≤ 15) ∧ (0 ≤ d ∧ d ≤ 15) ∧
  ((f = 1 ∧ imm = 0) ∨ (f = 2 ∧ d = 0 ∧ -32768 ≤ imm ∧ imm ≤ 32767) ∨ (f = 3 ∧ b = 0 ∧ d = 0 ∧ -32768 ≤ imm ∧ imm ≤ 32767) ∨ (f = 4 ∧ b = 0 ∧ d = 0 ∧ 0 ≤ imm ∧ imm ≤ 65535) ∨
   (f = 5 ∧ a = 0 ∧ b = 0 ∧ d = 0 ∧ -8388608 ≤ imm ∧ imm ≤ 8388607) ∨ (f = 6 ∧ a = 0 ∧ b = 0 ∧ d = 0 ∧ 0 ≤ imm ∧ imm ≤ 16777212 ∧ imm % 4 = 0) ∨ (f = 7 ∧ b = 0 ∧ d = 0 ∧ imm = 0))
theorem ref_reg (a : Int) (h : 0 ≤ a ∧ a ≤ 15) : mortiseref20_reg.f a = some true := by
  unfold mortiseref20_reg.f
  rw [if_pos (by omega)]
  simp [h.2]
theorem ref_within (a l u : Int) (h : l ≤ a ∧ a ≤ u) : mortiseref20_within.f a l u = some true := by
  unfold mortiseref20_within.f
  rw [if_pos (by omega)]
  simp [h.2]
theorem ref_right (k : Nat) (hk : 18 ≤ k ∧ k ≤ 20) (op a b d imm f : Int) (hop : 0 ≤ op ∧ op < 256) (hf : enc_Form.f 20 op = some f) (h : rightB f a b d imm) : mortiseref20_Right.f k op a b d imm = some true := by
  obtain ⟨ha, hb, hd, hr⟩ := h
  unfold mortiseref20_Right.f
  rw [ref_reg a ha, ref_reg b hb, ref_reg d hd]
  simp only [Option.bind_some, if_true, Bool.not_true]
  obtain ⟨j, rfl⟩ : ∃ j, k = j + 1 := ⟨k - 1, by omega⟩
  rw [mortiseref20_Right.j0]
  rw [ref_form j (by omega) op hop, hf]
  simp only [Option.bind_some, Bool.false_eq_true, if_false]
  rcases hr with ⟨rfl, rfl⟩ | ⟨rfl, rfl, h1⟩ | ⟨rfl, rfl, rfl, h1⟩ | ⟨rfl, rfl, rfl, h1⟩ | ⟨rfl, rfl, rfl, rfl, h1⟩ | ⟨rfl, rfl, rfl, rfl, h1, h2, h3⟩ | ⟨rfl, rfl, rfl, rfl⟩
  · rfl
  · simp [ref_within imm _ _ h1]
  · simp [ref_within imm _ _ h1]
  · simp [ref_within imm _ _ h1]
  · simp [ref_within imm _ _ h1]
  · simp [ref_within imm _ _ ⟨h1, h2⟩, Int.tmod_eq_emod_of_nonneg h1, h3]
  · rfl
theorem ref_wrong6 (k : Nat) (hk : 18 ≤ k ∧ k ≤ 20) (op imm : Int) (hop : 0 ≤ op ∧ op < 256) (hf : enc_Form.f 20 op = some 6) (h : 0 ≤ imm ∧ imm ≤ 16777215 ∧ imm % 4 ≠ 0) : mortiseref20_Right.f k op 0 0 0 imm = some false := by
  unfold mortiseref20_Right.f
  rw [ref_reg 0 (by decide)]
  simp only [Option.bind_some, if_true, Bool.not_true]
  obtain ⟨j, rfl⟩ : ∃ j, k = j + 1 := ⟨k - 1, by omega⟩
  rw [mortiseref20_Right.j0]
  rw [ref_form j (by omega) op hop, hf]
  by_cases h5 : imm ≤ 16777212
  · simp [ref_within imm 0 16777212 ⟨h.1, h5⟩, Int.tmod_eq_emod_of_nonneg h.1, h.2.2]
  · have e : mortiseref20_within.f imm 0 16777212 = some false := by
      unfold mortiseref20_within.f
      rw [if_pos h.1]
      simp; omega
    simp [e]
theorem ref_enc (k : Nat) (hk : 18 ≤ k ∧ k ≤ 20) (op a b d imm f : Int) (hop : 0 ≤ op ∧ op < 256) (hf : enc_Form.f 20 op = some f) (h : rightB f a b d imm) : mortiseref20_Encode.f k op a b d imm = some (encW (decide (f = 5 ∨ f = 6)) op a b d imm, 0) := by
  have hb := h
  obtain ⟨ha, hb1, hd, hr⟩ := hb
  unfold mortiseref20_Encode.f
  rw [ref_right k hk op a b d imm f hop hf h, ref_form k (by omega) op hop, hf]
  simp only [Option.bind_some, if_true]
  obtain ⟨j, rfl⟩ : ∃ j, k = j + 1 := ⟨k - 1, by omega⟩
  simp only [mortiseref20_Encode.j0, refOf]
  have eo : op % 4294967296 = op := by omega
  have e8 : ∀ x : Int, shl .u32 x 8 = x * 256 % 4294967296 := fun x => by rw [shl32 x 8 (by decide)]; rfl
  have e12 : ∀ x : Int, shl .u32 x 12 = x * 4096 % 4294967296 := fun x => by rw [shl32 x 12 (by decide)]; rfl
  have e16 : ∀ x : Int, shl .u32 x 16 = x * 65536 % 4294967296 := fun x => by rw [shl32 x 16 (by decide)]; rfl
  have z : (0 : Int) % 4294967296 * 256 % 4294967296 = 0 := by decide
  have z2 : (0 : Int) % 4294967296 * 4096 % 4294967296 = 0 := by decide
  have z3 : (0 : Int) % 4294967296 * 65536 % 4294967296 = 0 := by decide
  unfold encW
  simp only [e8, e12, e16, eo, Option.bind_some]
  have o0 := or0 op (by omega)
  rcases hr with ⟨rfl, rfl⟩ | ⟨rfl, rfl, h1⟩ | ⟨rfl, rfl, rfl, h1⟩ | ⟨rfl, rfl, rfl, h1⟩ | ⟨rfl, rfl, rfl, rfl, h1⟩ | ⟨rfl, rfl, rfl, rfl, h1, h2, h3⟩ | ⟨rfl, rfl, rfl, rfl⟩
  · simp [or00, e16]
  all_goals simp [o0, or00, e8, e16]
theorem ref_wrong_b (k : Nat) (hk : 18 ≤ k ∧ k ≤ 20) (op a b imm f : Int) (hop : 0 ≤ op ∧ op < 256) (hf : enc_Form.f 20 op = some f) (h3 : f = 3 ∨ f = 4 ∨ f = 7) (ha : 0 ≤ a ∧ a ≤ 15) (hb : 0 ≤ b ∧ b ≤ 15) (hn : b ≠ 0) : mortiseref20_Right.f k op a b 0 imm = some false := by
  unfold mortiseref20_Right.f
  rw [ref_reg a ha, ref_reg b hb, ref_reg 0 (by decide)]
  simp only [Option.bind_some, if_true, Bool.not_true]
  obtain ⟨j, rfl⟩ : ∃ j, k = j + 1 := ⟨k - 1, by omega⟩
  rw [mortiseref20_Right.j0]
  rw [ref_form j (by omega) op hop, hf]
  rcases h3 with rfl | rfl | rfl <;> simp [hn]
theorem ref_wrong_7 (k : Nat) (hk : 18 ≤ k ∧ k ≤ 20) (op a imm : Int) (hop : 0 ≤ op ∧ op < 256) (hf : enc_Form.f 20 op = some 7) (ha : 0 ≤ a ∧ a ≤ 15) (hn : imm ≠ 0) : mortiseref20_Right.f k op a 0 0 imm = some false := by
  unfold mortiseref20_Right.f
  rw [ref_reg a ha, ref_reg 0 (by decide)]
  simp only [Option.bind_some, if_true, Bool.not_true]
  obtain ⟨j, rfl⟩ : ∃ j, k = j + 1 := ⟨k - 1, by omega⟩
  rw [mortiseref20_Right.j0]
  rw [ref_form j (by omega) op hop, hf]
  simp [hn]
theorem ref_enc_no (k : Nat) (op a b d imm : Int) (h : mortiseref20_Right.f k op a b d imm = some false) : mortiseref20_Encode.f k op a b d imm = some (0, 200) := by
  unfold mortiseref20_Encode.f
  rw [h]; rfl
theorem encW_sum (op a b imm : Int) (hop : 0 ≤ op ∧ op < 256) (ha : 0 ≤ a ∧ a ≤ 15) (hb : 0 ≤ b ∧ b ≤ 15) : encW false op a b 0 imm = op + 256 * a + 4096 * b + 65536 * (imm % 65536) := by
  unfold encW
  rw [shl32 _ 8 (by decide), shl32 _ 12 (by decide), shl32 _ 16 (by decide), if_neg (by decide), shl32 _ 16 (by decide)]
  have p8 : (2 : Int) ^ (8 : Int).toNat = 256 := by decide
  have p12 : (2 : Int) ^ (12 : Int).toNat = 4096 := by decide
  have p16 : (2 : Int) ^ (16 : Int).toNat = 65536 := by decide
  rw [p8, p12, p16]
  rw [show a % 4294967296 * 256 % 4294967296 = 256 * a by omega, show b % 4294967296 * 4096 % 4294967296 = 4096 * b by omega, show (0 : Int) % 4294967296 * 65536 % 4294967296 = 0 by decide, show imm % 4294967296 * 65536 % 4294967296 = 65536 * (imm % 65536) by omega, or00]
  rw [or_low 8 op (256 * a) (by omega) (by omega), or_low 12 (op + 256 * a) (4096 * b) (by omega) (by omega), or_low 16 (op + 256 * a + 4096 * b) (65536 * (imm % 65536)) (by omega) (by omega)]
theorem ne_of_sum {a b v : Int} (s : a = b) (h : b ≠ v) : ¬ a = v := by rw [s]; exact h
end Go.Proofs.YtejhnlljddjicaaDoor.Ma
namespace Go.Proofs.YtejhnlljddjicaaDoor.Ma
open Go.RowKit Go.Proofs.YtejhnlljddjicaaDoor.PEm Go.Proofs.YtejhnlljddjicaaDoorW.PrintWords Go.Proofs.YtejhnlljddjicaaDoorW.PrintLast Go.Proofs.YtejhnlljddjicaaDoorW.PrintMore Go.Proofs.YtejhnlljddjicaaDoor.La
set_option linter.unusedVariables false
set_option linter.unusedSimpArgs false
variable {w w' : World} {c pg : Nat} {ps ps' : Pages} {S S' : Cpu} {inp out inp' out' : List Int}
/-- How Decode ends. -/
def DecEnd (v a b d imm r1 r2 : Int) (e : Ending) : Prop := ((r2 = 0 ∧ r1 = v) → e = .returned (.tuple #[.agg #[.int .i64 (v % 256), .int .i64 a, .int .i64 b, .int .i64 d, .int .i64 imm], .int .i64 0])) ∧ (¬ (r2 = 0 ∧ r1 = v) → e = .returned (.tuple #[.agg #[.int .i64 0, .int .i64 0, .int .i64 0, .int .i64 0, .int .i64 0], .int .i64 200]))
set_option maxHeartbeats 4000000 in
set_option maxRecDepth 100000 in
theorem xdecode (w : World) (v : Int) (hv : 0 ≤ v ∧ v < 4294967296) (f : Int) (hf : enc_Form.f 20 (v % 256) = some f) (a b d imm r1 r2 : Int)
    (hg : (f = 5 ∧ a = 0 ∧ b = 0 ∧ d = 0 ∧ imm = wrap32 v / 256) ∨ (f = 6 ∧ a = 0 ∧ b = 0 ∧ d = 0 ∧ imm = v / 256) ∨ (f = 4 ∧ a = v / 256 % 16 ∧ b = v / 4096 % 16 ∧ d = 0 ∧ imm = v / 65536) ∨ (f = 1 ∧ a = v / 256 % 16 ∧ b = v / 4096 % 16 ∧ d = v / 65536 % 16 ∧ imm = 0) ∨ ((f = 2 ∨ f = 3 ∨ f = 7) ∧ a = v / 256 % 16 ∧ b = v / 4096 % 16 ∧ d = 0 ∧ imm = wrap32 v / 65536))
    (hE : mortiseref20_Encode.f 20 (v % 256) a b d imm = some (r1, r2)) :
    Calls Tryd.prog 50 #[.int .u32 v] w fun e w' => DecEnd v a b d imm r1 r2 e ∧ Below w.heap.size w w' := by
  have eA := and255 v hv.1 hv.2
  have e1 := and15 (v / 256) (by omega) (by omega)
  have e2 := and15 (v / 4096) (by omega) (by omega)
  have e3 := and15 (v / 65536) (by omega) (by omega)
  have w1 : IntKind.i64.wrap (v % 256) = v % 256 := IntWalk.i64_in _ (by omega)
  have w2 : IntKind.i64.wrap (v / 256 % 16) = v / 256 % 16 := IntWalk.i64_in _ (by omega)
  have w3 : IntKind.i64.wrap (v / 4096 % 16) = v / 4096 % 16 := IntWalk.i64_in _ (by omega)
  have w4 : IntKind.i64.wrap (v / 65536 % 16) = v / 65536 % 16 := IntWalk.i64_in _ (by omega)
  have w5 : IntKind.i64.wrap (v / 256) = v / 256 := IntWalk.i64_in _ (by omega)
  have w6 : IntKind.i64.wrap (v / 65536) = v / 65536 := IntWalk.i64_in _ (by omega)
  have w0 : -2147483648 ≤ wrap32 v ∧ wrap32 v ≤ 2147483647 := by unfold wrap32; omega
  have w7 : IntKind.i64.wrap (wrap32 v / 256) = wrap32 v / 256 := IntWalk.i64_in _ (by omega)
  have w8 : IntKind.i64.wrap (wrap32 v / 65536) = wrap32 v / 65536 := IntWalk.i64_in _ (by omega)
  have HF := Aside0.mk (show mortiseref20_Form.f 20 (v % 256) = some f by rw [ref_form 20 (by decide) (v % 256) (by omega)]; exact hf)
  have HE := Aside0.mk hE
  have HV := Aside0.mk hv
  have BB := Aside0.mk (show Below w.heap.size w ((w.alloc (.cells #[.int .i64 0, .int .i64 0, .int .i64 0, .int .i64 0, .int .i64 0] 67)).alloc (.cells #[.int .i64 (v % 256), .int .i64 0, .int .i64 0, .int .i64 0, .int .i64 0] 67)) from below_alloc (below_alloc (Below.refl _ _) _) _)
  have R2 := Aside0.mk (show ((w.alloc (.cells #[.int .i64 0, .int .i64 0, .int .i64 0, .int .i64 0, .int .i64 0] 67)).alloc (.cells #[.int .i64 (v % 256), .int .i64 0, .int .i64 0, .int .i64 0, .int .i64 0] 67)).heap[w.heap.size]? = some (.cells #[.int .i64 0, .int .i64 0, .int .i64 0, .int .i64 0, .int .i64 0] 67 (0, 0)) from blk_alloc (heap_at _ _ _ rfl) _)
  have R4 := Aside0.mk (show ((w.alloc (.cells #[.int .i64 0, .int .i64 0, .int .i64 0, .int .i64 0, .int .i64 0] 67)).alloc (.cells #[.int .i64 (v % 256), .int .i64 0, .int .i64 0, .int .i64 0, .int .i64 0] 67)).heap[w.heap.size + 1]? = some (.cells #[.int .i64 (v % 256), .int .i64 0, .int .i64 0, .int .i64 0, .int .i64 0] 67 (0, 0)) from heap_at _ _ _ (by simp))
  have G24 := Aside0.mk (show w.heap.size ≠ w.heap.size + 1 ∧ w.heap.size ≤ w.heap.size + 1 by omega)
  have HG := Aside0.mk hg
  clear hf hE hv w0 hg
  go_enter Tryd.func50, Tryd.ntmps50
  go_upto_region 2 with (fail)
  generalize ((w.alloc (.cells #[.int .i64 0, .int .i64 0, .int .i64 0, .int .i64 0, .int .i64 0] 67)).alloc (.cells #[.int .i64 (v % 256), .int .i64 0, .int .i64 0, .int .i64 0, .int .i64 0] 67)) = W0 at BB R2 R4 ⊢
  generalize hg4 : w.heap.size + 1 = g4 at R4 G24 ⊢
  generalize hg2 : w.heap.size = g2 at R2 G24 ⊢
  have HG2 := Aside0.mk hg2
  clear hg2 hg4
  have c0 := (blk_cell R4.out 0).trans rfl
  go_upto_block 0 with (first | (go_at_call 70; refine (mortiseref20_Form.calls 20 (v % 256) f _ HF.out).mono ?_; rintro e Y ⟨rfl, hb7⟩; have HBY := Aside0.mk hb7; clear hb7))
  have R2 := Aside0.mk (blk_below R2.out HBY.out)
  have R4 := Aside0.mk (blk_below R4.out HBY.out)
  have BB := Aside0.mk (pm_chain BB.out HBY.out)
  clear HBY c0
  have HW4 := Aside0.mk (show w.heap.size ≤ g4 by have := HG2.out; have := G24.out.2; omega)
  generalize Y = W1 at R2 R4 BB ⊢
  go_cut [] (fun wc => Aside0 (wc.heap[g4]? = some (.cells #[.int .i64 (v % 256), .int .i64 a, .int .i64 b, .int .i64 d, .int .i64 imm] 67 (0, 0))) ∧ Aside0 (wc.heap[g2]? = some (.cells #[.int .i64 0, .int .i64 0, .int .i64 0, .int .i64 0, .int .i64 0] 67 (0, 0))) ∧ Aside0 (Below w.heap.size w wc))
  case first =>
    rcases HG.out with ⟨rfl, rfl, rfl, rfl, rfl⟩ | ⟨rfl, rfl, rfl, rfl, rfl⟩ | ⟨rfl, rfl, rfl, rfl, rfl⟩ | ⟨rfl, rfl, rfl, rfl, rfl⟩ | ⟨hff, rfl, rfl, rfl, rfl⟩
    · have c4 := (blk_cell R4.out 4).trans rfl
      have f4 := blk_frozen R4.out 4
      clear w1 w2 w3 w4 w5 w6 w8 e1 e2 e3 eA
      go_wp2_with (fail)
      all_goals go_meet
      all_goals exact ⟨⟨blk_set R4.out 4 _⟩, ⟨blk_far R2.out (p := ⟨g4, 4, none⟩) G24.out.1 _⟩, ⟨BB.out.setCell (p := ⟨g4, 4, none⟩) HW4.out _⟩⟩
    · have c4 := (blk_cell R4.out 4).trans rfl
      have f4 := blk_frozen R4.out 4
      clear w1 w2 w3 w4 w6 w7 w8 e1 e2 e3 eA
      go_wp2_with (fail)
      all_goals go_meet
      all_goals exact ⟨⟨blk_set R4.out 4 _⟩, ⟨blk_far R2.out (p := ⟨g4, 4, none⟩) G24.out.1 _⟩, ⟨BB.out.setCell (p := ⟨g4, 4, none⟩) HW4.out _⟩⟩
    · clear w5 w7
      have c1 := (blk_cell R4.out 1).trans rfl
      have c2 := (blk_cell R4.out 2).trans rfl
      have c4 := (blk_cell R4.out 4).trans rfl
      have f1 := blk_frozen R4.out 1
      have f2 := blk_frozen R4.out 2
      have f4 := blk_frozen R4.out 4
      go_upto_region 6 with (fail)
      have R4n := Aside0.mk (show (((W1.setCell ⟨g4, 1, none⟩ (.int .i64 (v / 256 % 16))).setCell ⟨g4, 2, none⟩ (.int .i64 (v / 4096 % 16))).setCell ⟨g4, 4, none⟩ (.int .i64 (wrap32 v / 65536))).heap[g4]? = some (.cells #[.int .i64 (v % 256), .int .i64 (v / 256 % 16), .int .i64 (v / 4096 % 16), .int .i64 0, .int .i64 (wrap32 v / 65536)] 67 (0, 0)) from (blk_set (blk_set (blk_set R4.out 1 _) 2 _) 4 _))
      have R2n := Aside0.mk (show (((W1.setCell ⟨g4, 1, none⟩ (.int .i64 (v / 256 % 16))).setCell ⟨g4, 2, none⟩ (.int .i64 (v / 4096 % 16))).setCell ⟨g4, 4, none⟩ (.int .i64 (wrap32 v / 65536))).heap[g2]? = some (.cells #[.int .i64 0, .int .i64 0, .int .i64 0, .int .i64 0, .int .i64 0] 67 (0, 0)) from (blk_far (blk_far (blk_far R2.out (p := ⟨g4, 1, none⟩) G24.out.1 _) (p := ⟨g4, 2, none⟩) G24.out.1 _) (p := ⟨g4, 4, none⟩) G24.out.1 _))
      have BBn := Aside0.mk (show Below w.heap.size w (((W1.setCell ⟨g4, 1, none⟩ (.int .i64 (v / 256 % 16))).setCell ⟨g4, 2, none⟩ (.int .i64 (v / 4096 % 16))).setCell ⟨g4, 4, none⟩ (.int .i64 (wrap32 v / 65536))) from (((BB.out.setCell (p := ⟨g4, 1, none⟩) HW4.out _).setCell (p := ⟨g4, 2, none⟩) HW4.out _).setCell (p := ⟨g4, 4, none⟩) HW4.out _))
      clear R4 R2 BB
      have R4 := R4n
      have R2 := R2n
      have BB := BBn
      clear R4n R2n BBn
      generalize (((W1.setCell ⟨g4, 1, none⟩ (.int .i64 (v / 256 % 16))).setCell ⟨g4, 2, none⟩ (.int .i64 (v / 4096 % 16))).setCell ⟨g4, 4, none⟩ (.int .i64 (wrap32 v / 65536))) = W2 at R4 R2 BB ⊢
      clear c1 c2 c4 f1 f2 f4
      have c0 := (blk_cell R4.out 0).trans rfl
      go_upto_region 7 with (first | (go_at_call 70; refine (mortiseref20_Form.calls 20 (v % 256) 4 _ HF.out).mono ?_; rintro e Y2 ⟨rfl, hb7⟩; have HBY := Aside0.mk hb7; clear hb7))
      have R4n := Aside0.mk (blk_below R4.out HBY.out)
      have R2n := Aside0.mk (blk_below R2.out HBY.out)
      have BBn := Aside0.mk (pm_chain BB.out HBY.out)
      clear R4 R2 BB HBY c0
      have R4 := R4n
      have R2 := R2n
      have BB := BBn
      clear R4n R2n BBn
      have c4 := (blk_cell R4.out 4).trans rfl
      have f4 := blk_frozen R4.out 4
      go_upto_region 8 with (fail)
      have R4n := Aside0.mk (show (Y2.setCell ⟨g4, 4, none⟩ (.int .i64 (v / 65536))).heap[g4]? = some (.cells #[.int .i64 (v % 256), .int .i64 (v / 256 % 16), .int .i64 (v / 4096 % 16), .int .i64 0, .int .i64 (v / 65536)] 67 (0, 0)) from (blk_set R4.out 4 _))
      have R2n := Aside0.mk (show (Y2.setCell ⟨g4, 4, none⟩ (.int .i64 (v / 65536))).heap[g2]? = some (.cells #[.int .i64 0, .int .i64 0, .int .i64 0, .int .i64 0, .int .i64 0] 67 (0, 0)) from (blk_far R2.out (p := ⟨g4, 4, none⟩) G24.out.1 _))
      have BBn := Aside0.mk (show Below w.heap.size w (Y2.setCell ⟨g4, 4, none⟩ (.int .i64 (v / 65536))) from (BB.out.setCell (p := ⟨g4, 4, none⟩) HW4.out _))
      clear R4 R2 BB
      have R4 := R4n
      have R2 := R2n
      have BB := BBn
      clear R4n R2n BBn
      generalize (Y2.setCell ⟨g4, 4, none⟩ (.int .i64 (v / 65536))) = W3 at R4 R2 BB ⊢
      clear c4 f4
      have c0 := (blk_cell R4.out 0).trans rfl
      go_wp2_with (first | (go_at_call 70; refine (mortiseref20_Form.calls 20 (v % 256) 4 _ HF.out).mono ?_; rintro e Y3 ⟨rfl, hb7⟩; have HBY := Aside0.mk hb7; clear hb7))
      all_goals go_meet
      all_goals exact ⟨⟨blk_below R4.out HBY.out⟩, ⟨blk_below R2.out HBY.out⟩, ⟨pm_chain BB.out HBY.out⟩⟩
    · clear w5 w7
      have c1 := (blk_cell R4.out 1).trans rfl
      have c2 := (blk_cell R4.out 2).trans rfl
      have c4 := (blk_cell R4.out 4).trans rfl
      have f1 := blk_frozen R4.out 1
      have f2 := blk_frozen R4.out 2
      have f4 := blk_frozen R4.out 4
      go_upto_region 6 with (fail)
      have R4n := Aside0.mk (show (((W1.setCell ⟨g4, 1, none⟩ (.int .i64 (v / 256 % 16))).setCell ⟨g4, 2, none⟩ (.int .i64 (v / 4096 % 16))).setCell ⟨g4, 4, none⟩ (.int .i64 (wrap32 v / 65536))).heap[g4]? = some (.cells #[.int .i64 (v % 256), .int .i64 (v / 256 % 16), .int .i64 (v / 4096 % 16), .int .i64 0, .int .i64 (wrap32 v / 65536)] 67 (0, 0)) from (blk_set (blk_set (blk_set R4.out 1 _) 2 _) 4 _))
      have R2n := Aside0.mk (show (((W1.setCell ⟨g4, 1, none⟩ (.int .i64 (v / 256 % 16))).setCell ⟨g4, 2, none⟩ (.int .i64 (v / 4096 % 16))).setCell ⟨g4, 4, none⟩ (.int .i64 (wrap32 v / 65536))).heap[g2]? = some (.cells #[.int .i64 0, .int .i64 0, .int .i64 0, .int .i64 0, .int .i64 0] 67 (0, 0)) from (blk_far (blk_far (blk_far R2.out (p := ⟨g4, 1, none⟩) G24.out.1 _) (p := ⟨g4, 2, none⟩) G24.out.1 _) (p := ⟨g4, 4, none⟩) G24.out.1 _))
      have BBn := Aside0.mk (show Below w.heap.size w (((W1.setCell ⟨g4, 1, none⟩ (.int .i64 (v / 256 % 16))).setCell ⟨g4, 2, none⟩ (.int .i64 (v / 4096 % 16))).setCell ⟨g4, 4, none⟩ (.int .i64 (wrap32 v / 65536))) from (((BB.out.setCell (p := ⟨g4, 1, none⟩) HW4.out _).setCell (p := ⟨g4, 2, none⟩) HW4.out _).setCell (p := ⟨g4, 4, none⟩) HW4.out _))
      clear R4 R2 BB
      have R4 := R4n
      have R2 := R2n
      have BB := BBn
      clear R4n R2n BBn
      generalize (((W1.setCell ⟨g4, 1, none⟩ (.int .i64 (v / 256 % 16))).setCell ⟨g4, 2, none⟩ (.int .i64 (v / 4096 % 16))).setCell ⟨g4, 4, none⟩ (.int .i64 (wrap32 v / 65536))) = W2 at R4 R2 BB ⊢
      clear c1 c2 c4 f1 f2 f4
      have c0 := (blk_cell R4.out 0).trans rfl
      go_upto_region 8 with (first | (go_at_call 70; refine (mortiseref20_Form.calls 20 (v % 256) 1 _ HF.out).mono ?_; rintro e Y2 ⟨rfl, hb7⟩; have HBY := Aside0.mk hb7; clear hb7))
      have R4n := Aside0.mk (blk_below R4.out HBY.out)
      have R2n := Aside0.mk (blk_below R2.out HBY.out)
      have BBn := Aside0.mk (pm_chain BB.out HBY.out)
      clear R4 R2 BB HBY c0
      have R4 := R4n
      have R2 := R2n
      have BB := BBn
      clear R4n R2n BBn
      have c0 := (blk_cell R4.out 0).trans rfl
      go_upto_region 9 with (first | (go_at_call 70; refine (mortiseref20_Form.calls 20 (v % 256) 1 _ HF.out).mono ?_; rintro e Y3 ⟨rfl, hb7⟩; have HBY := Aside0.mk hb7; clear hb7))
      have R4n := Aside0.mk (blk_below R4.out HBY.out)
      have R2n := Aside0.mk (blk_below R2.out HBY.out)
      have BBn := Aside0.mk (pm_chain BB.out HBY.out)
      clear R4 R2 BB HBY c0
      have R4 := R4n
      have R2 := R2n
      have BB := BBn
      clear R4n R2n BBn
      have c3 := (blk_cell R4.out 3).trans rfl
      have c4 := (blk_cell R4.out 4).trans rfl
      have f3 := blk_frozen R4.out 3
      have f4 := blk_frozen R4.out 4
      go_wp2_with (fail)
      all_goals go_meet
      all_goals exact ⟨⟨(blk_set (blk_set R4.out 3 _) 4 _)⟩, ⟨(blk_far (blk_far R2.out (p := ⟨g4, 3, none⟩) G24.out.1 _) (p := ⟨g4, 4, none⟩) G24.out.1 _)⟩, ⟨((BB.out.setCell (p := ⟨g4, 3, none⟩) HW4.out _).setCell (p := ⟨g4, 4, none⟩) HW4.out _)⟩⟩
    · clear w5 w7
      have q5 : ¬ f = 5 := by omega
      have q6 : ¬ f = 6 := by omega
      have q0 : ¬ f = 0 := by omega
      have q4 : ¬ f = 4 := by omega
      have q1 : ¬ f = 1 := by omega
      clear hff
      have c1 := (blk_cell R4.out 1).trans rfl
      have c2 := (blk_cell R4.out 2).trans rfl
      have c4 := (blk_cell R4.out 4).trans rfl
      have f1 := blk_frozen R4.out 1
      have f2 := blk_frozen R4.out 2
      have f4 := blk_frozen R4.out 4
      go_upto_region 6 with (fail)
      have R4n := Aside0.mk (show (((W1.setCell ⟨g4, 1, none⟩ (.int .i64 (v / 256 % 16))).setCell ⟨g4, 2, none⟩ (.int .i64 (v / 4096 % 16))).setCell ⟨g4, 4, none⟩ (.int .i64 (wrap32 v / 65536))).heap[g4]? = some (.cells #[.int .i64 (v % 256), .int .i64 (v / 256 % 16), .int .i64 (v / 4096 % 16), .int .i64 0, .int .i64 (wrap32 v / 65536)] 67 (0, 0)) from (blk_set (blk_set (blk_set R4.out 1 _) 2 _) 4 _))
      have R2n := Aside0.mk (show (((W1.setCell ⟨g4, 1, none⟩ (.int .i64 (v / 256 % 16))).setCell ⟨g4, 2, none⟩ (.int .i64 (v / 4096 % 16))).setCell ⟨g4, 4, none⟩ (.int .i64 (wrap32 v / 65536))).heap[g2]? = some (.cells #[.int .i64 0, .int .i64 0, .int .i64 0, .int .i64 0, .int .i64 0] 67 (0, 0)) from (blk_far (blk_far (blk_far R2.out (p := ⟨g4, 1, none⟩) G24.out.1 _) (p := ⟨g4, 2, none⟩) G24.out.1 _) (p := ⟨g4, 4, none⟩) G24.out.1 _))
      have BBn := Aside0.mk (show Below w.heap.size w (((W1.setCell ⟨g4, 1, none⟩ (.int .i64 (v / 256 % 16))).setCell ⟨g4, 2, none⟩ (.int .i64 (v / 4096 % 16))).setCell ⟨g4, 4, none⟩ (.int .i64 (wrap32 v / 65536))) from (((BB.out.setCell (p := ⟨g4, 1, none⟩) HW4.out _).setCell (p := ⟨g4, 2, none⟩) HW4.out _).setCell (p := ⟨g4, 4, none⟩) HW4.out _))
      clear R4 R2 BB
      have R4 := R4n
      have R2 := R2n
      have BB := BBn
      clear R4n R2n BBn
      generalize (((W1.setCell ⟨g4, 1, none⟩ (.int .i64 (v / 256 % 16))).setCell ⟨g4, 2, none⟩ (.int .i64 (v / 4096 % 16))).setCell ⟨g4, 4, none⟩ (.int .i64 (wrap32 v / 65536))) = W2 at R4 R2 BB ⊢
      clear c1 c2 c4 f1 f2 f4
      have c0 := (blk_cell R4.out 0).trans rfl
      go_upto_region 8 with (first | (go_at_call 70; refine (mortiseref20_Form.calls 20 (v % 256) f _ HF.out).mono ?_; rintro e Y2 ⟨rfl, hb7⟩; have HBY := Aside0.mk hb7; clear hb7))
      have R4n := Aside0.mk (blk_below R4.out HBY.out)
      have R2n := Aside0.mk (blk_below R2.out HBY.out)
      have BBn := Aside0.mk (pm_chain BB.out HBY.out)
      clear R4 R2 BB HBY c0
      have R4 := R4n
      have R2 := R2n
      have BB := BBn
      clear R4n R2n BBn
      have c0 := (blk_cell R4.out 0).trans rfl
      go_wp2_with (first | (go_at_call 70; refine (mortiseref20_Form.calls 20 (v % 256) f _ HF.out).mono ?_; rintro e Y3 ⟨rfl, hb7⟩; have HBY := Aside0.mk hb7; clear hb7))
      all_goals go_meet
      all_goals exact ⟨⟨blk_below R4.out HBY.out⟩, ⟨blk_below R2.out HBY.out⟩, ⟨pm_chain BB.out HBY.out⟩⟩
  case rest =>
    obtain ⟨R4, R2, BB⟩ := hcut
    clear w1 w2 w3 w4 w5 w6 w7 w8 e1 e2 e3 eA
    have c0 := (blk_cell R4.out 0).trans rfl
    have c1 := (blk_cell R4.out 1).trans rfl
    have c2 := (blk_cell R4.out 2).trans rfl
    have c3 := (blk_cell R4.out 3).trans rfl
    have c4 := (blk_cell R4.out 4).trans rfl
    go_upto_region 18 with (first | (go_at_call 57; refine (mortiseref20_Encode.calls 20 _ _ _ _ _ _ _ _ HE.out).mono ?_; rintro e Y ⟨rfl, hb7⟩; have HBY := Aside0.mk hb7; clear hb7))
    have S4 := Aside0.mk (blk_below R4.out HBY.out)
    have S2 := Aside0.mk (blk_below R2.out HBY.out)
    have BY := Aside0.mk (pm_chain BB.out HBY.out)
    have HWG := Aside0.mk (show w.heap.size ≤ g2 by have := HG2.out; omega)
    clear c0 c1 c2 c3 c4
    have d0 := (blk_cell S4.out 0).trans rfl
    have d1 := (blk_cell S4.out 1).trans rfl
    have d2 := (blk_cell S4.out 2).trans rfl
    have d3 := (blk_cell S4.out 3).trans rfl
    have d4 := (blk_cell S4.out 4).trans rfl
    by_cases hr : r2 = 0 ∧ r1 = v
    · have HR := Aside0.mk hr
      obtain ⟨rfl, rfl⟩ := hr
      go_wp2_with (first | (refine wpList_store_row rfl 67 _ _ rfl g2 _ rfl rfl 67 _ S2.out (by as_aux_lemma => kernel_rfl) (by as_aux_lemma => kernel_rfl) (by as_aux_lemma => kernel_rfl) ?_))
      (try simp only [Exit.inBlock, Exit.then])
      refine bodyPost_ret (results_cell2 (p := 2) (q := 3) (ty := 67) rfl _ _ _ _ ⟨g2, 0, none⟩ _ _ (by rfl) (run_loadVar_row _ g2 67 67 _ (0, 0) _ (setRow_heap _ _ _ _ _ _ S2.out) Tryd.underlying67 (by rfl) (by kernel_rfl)) (by rfl)) rfl ?_
      exact ⟨⟨fun _ => rfl, fun h => absurd ⟨rfl, rfl⟩ h⟩, below_setRow BY.out HWG.out _⟩
    · have HR := Aside0.mk hr
      clear hr
      by_cases h2 : r2 = 0
      · have h1 : ¬ r1 = v := fun h => HR.out ⟨h2, h⟩
        subst h2
        go_wp2_with (first | (refine wpList_store_row rfl 67 _ _ rfl g2 _ rfl rfl 67 _ S2.out (by as_aux_lemma => kernel_rfl) (by as_aux_lemma => kernel_rfl) (by as_aux_lemma => kernel_rfl) ?_))
        (try simp only [Exit.inBlock, Exit.then])
        refine bodyPost_ret (results_cell2 (p := 2) (q := 3) (ty := 67) rfl _ _ _ _ ⟨g2, 0, none⟩ _ _ (by rfl) (run_loadVar_row _ g2 67 67 _ (0, 0) _ (setRow_heap _ _ _ _ _ _ S2.out) Tryd.underlying67 (by rfl) (by kernel_rfl)) (by rfl)) rfl ?_
        exact ⟨⟨fun h => absurd h.2 h1, fun _ => rfl⟩, below_setRow BY.out HWG.out _⟩
      · clear HE
        go_wp2_with (first | (refine wpList_store_row rfl 67 _ _ rfl g2 _ rfl rfl 67 _ S2.out (by as_aux_lemma => kernel_rfl) (by as_aux_lemma => kernel_rfl) (by as_aux_lemma => kernel_rfl) ?_))
        (try simp only [Exit.inBlock, Exit.then])
        refine bodyPost_ret (results_cell2 (p := 2) (q := 3) (ty := 67) rfl _ _ _ _ ⟨g2, 0, none⟩ _ _ (by rfl) (run_loadVar_row _ g2 67 67 _ (0, 0) _ (setRow_heap _ _ _ _ _ _ S2.out) Tryd.underlying67 (by rfl) (by kernel_rfl)) (by rfl)) rfl ?_
        exact ⟨⟨fun h => absurd h.1 h2, fun _ => rfl⟩, below_setRow BY.out HWG.out _⟩
set_option maxHeartbeats 4000000 in
set_option maxRecDepth 100000 in
theorem xdecode_0 (w : World) (v : Int) (hv : 0 ≤ v ∧ v < 4294967296) (hf : enc_Form.f 20 (v % 256) = some 0) :
    Calls Tryd.prog 50 #[.int .u32 v] w fun e w' => e = .returned (.tuple #[.agg #[.int .i64 0, .int .i64 0, .int .i64 0, .int .i64 0, .int .i64 0], .int .i64 200]) ∧ Below w.heap.size w w' := by
  have eA := and255 v hv.1 hv.2
  have w1 : IntKind.i64.wrap (v % 256) = v % 256 := IntWalk.i64_in _ (by omega)
  have HF := Aside0.mk (show mortiseref20_Form.f 20 (v % 256) = some 0 by rw [ref_form 20 (by decide) (v % 256) (by omega)]; exact hf)
  have BB := Aside0.mk (show Below w.heap.size w ((w.alloc (.cells #[.int .i64 0, .int .i64 0, .int .i64 0, .int .i64 0, .int .i64 0] 67)).alloc (.cells #[.int .i64 (v % 256), .int .i64 0, .int .i64 0, .int .i64 0, .int .i64 0] 67)) from below_alloc (below_alloc (Below.refl _ _) _) _)
  have R2 := Aside0.mk (show ((w.alloc (.cells #[.int .i64 0, .int .i64 0, .int .i64 0, .int .i64 0, .int .i64 0] 67)).alloc (.cells #[.int .i64 (v % 256), .int .i64 0, .int .i64 0, .int .i64 0, .int .i64 0] 67)).heap[w.heap.size]? = some (.cells #[.int .i64 0, .int .i64 0, .int .i64 0, .int .i64 0, .int .i64 0] 67 (0, 0)) from blk_alloc (heap_at _ _ _ rfl) _)
  have R4 := Aside0.mk (show ((w.alloc (.cells #[.int .i64 0, .int .i64 0, .int .i64 0, .int .i64 0, .int .i64 0] 67)).alloc (.cells #[.int .i64 (v % 256), .int .i64 0, .int .i64 0, .int .i64 0, .int .i64 0] 67)).heap[w.heap.size + 1]? = some (.cells #[.int .i64 (v % 256), .int .i64 0, .int .i64 0, .int .i64 0, .int .i64 0] 67 (0, 0)) from heap_at _ _ _ (by simp))
  clear hf hv
  go_enter Tryd.func50, Tryd.ntmps50
  go_upto_region 2 with (fail)
  generalize ((w.alloc (.cells #[.int .i64 0, .int .i64 0, .int .i64 0, .int .i64 0, .int .i64 0] 67)).alloc (.cells #[.int .i64 (v % 256), .int .i64 0, .int .i64 0, .int .i64 0, .int .i64 0] 67)) = W0 at BB R2 R4 ⊢
  generalize hg4 : w.heap.size + 1 = g4 at R4 ⊢
  generalize hg2 : w.heap.size = g2 at R2 ⊢
  have HG2 := Aside0.mk hg2
  clear hg2 hg4
  have c0 := (blk_cell R4.out 0).trans rfl
  go_upto_block 0 with (first | (go_at_call 70; refine (mortiseref20_Form.calls 20 (v % 256) 0 _ HF.out).mono ?_; rintro e Y ⟨rfl, hb7⟩; have HBY := Aside0.mk hb7; clear hb7))
  have S2 := Aside0.mk (blk_below R2.out HBY.out)
  have BY := Aside0.mk (pm_chain BB.out HBY.out)
  clear c0
  go_wp2_with (first | (refine wpList_store_row rfl 67 _ _ rfl g2 _ rfl rfl 67 _ S2.out (by as_aux_lemma => kernel_rfl) (by as_aux_lemma => kernel_rfl) (by as_aux_lemma => kernel_rfl) ?_))
  (try simp only [Exit.inBlock, Exit.then])
  refine bodyPost_ret (results_cell2 (p := 2) (q := 3) (ty := 67) rfl _ _ _ _ ⟨g2, 0, none⟩ _ _ (by rfl) (run_loadVar_row _ g2 67 67 _ (0, 0) _ (setRow_heap _ _ _ _ _ _ S2.out) Tryd.underlying67 (by rfl) (by kernel_rfl)) (by rfl)) rfl ?_
  exact ⟨rfl, below_setRow BY.out (by have := HG2.out; omega) _⟩
theorem xdec_go {w : World} {v a b d imm r1 : Int} {x : I5} (h : Calls Tryd.prog 50 #[.int .u32 v] w fun e w' => DecEnd v a b d imm r1 0 e ∧ Below w.heap.size w w') (hd : decF v = if r1 = v then some x else none) (hx : x.enc = .agg #[.int .i64 (v % 256), .int .i64 a, .int .i64 b, .int .i64 d, .int .i64 imm]) :
    Calls Tryd.prog 50 #[.int .u32 v] w fun e w' => e = .returned (.tuple #[match decF v with | none => .agg #[.int .i64 0, .int .i64 0, .int .i64 0, .int .i64 0, .int .i64 0] | some x => x.enc, .int .i64 (if (decF v).isSome then 0 else 200)]) ∧ Below w.heap.size w w' := by
  refine h.mono ?_
  rintro e w' ⟨h1, h2⟩
  refine ⟨?_, h2⟩
  by_cases he : r1 = v
  · rw [if_pos he] at hd
    rw [h1.1 ⟨rfl, he⟩, hd]
    simp [hx]
  · rw [if_neg he] at hd
    rw [h1.2 (fun q => he q.2), hd]
    rfl
theorem xdec_no {w : World} {v a b d imm : Int} (h : Calls Tryd.prog 50 #[.int .u32 v] w fun e w' => DecEnd v a b d imm 0 200 e ∧ Below w.heap.size w w') (hd : decF v = none) :
    Calls Tryd.prog 50 #[.int .u32 v] w fun e w' => e = .returned (.tuple #[match decF v with | none => .agg #[.int .i64 0, .int .i64 0, .int .i64 0, .int .i64 0, .int .i64 0] | some x => x.enc, .int .i64 (if (decF v).isSome then 0 else 200)]) ∧ Below w.heap.size w w' := by
  refine h.mono ?_
  rintro e w' ⟨h1, h2⟩
  refine ⟨?_, h2⟩
  rw [h1.2 (fun q => absurd q.1 (by decide)), hd]
  rfl
theorem xdec_all (w : World) (v : Int) (hv : 0 ≤ v ∧ v < 4294967296) : Calls Tryd.prog 50 #[.int .u32 v] w fun e w' => e = .returned (.tuple #[match decF v with | none => .agg #[.int .i64 0, .int .i64 0, .int .i64 0, .int .i64 0, .int .i64 0] | some x => x.enc, .int .i64 (if (decF v).isSome then 0 else 200)]) ∧ Below w.heap.size w w' := by
  have ea : ((v / 256 % 16).toNat : Int) = v / 256 % 16 := Int.toNat_of_nonneg (by omega)
  have eb : ((v / 4096 % 16).toNat : Int) = v / 4096 % 16 := Int.toNat_of_nonneg (by omega)
  have ed : ((v / 65536 % 16).toNat : Int) = v / 65536 % 16 := Int.toNat_of_nonneg (by omega)
  have w0 : -2147483648 ≤ wrap32 v ∧ wrap32 v ≤ 2147483647 := by unfold wrap32; omega
  have hop : 0 ≤ v % 256 ∧ v % 256 < 256 := by omega
  obtain h0 | ⟨h1, k1⟩ | ⟨h2, k2⟩ | ⟨h3, k3⟩ | ⟨h4, k4⟩ | ⟨h5, k5⟩ | ⟨h6, k6⟩ | ⟨h7, k7⟩ := form_cases (v % 256)
  · refine (xdecode_0 w v hv h0).mono ?_
    rintro e w' ⟨rfl, hb⟩
    rw [dec_is0 v h0]
    exact ⟨rfl, hb⟩
  · exact xdec_go (xdecode w v hv 1 h1 _ _ _ _ _ _ (.inr (.inr (.inr (.inl ⟨rfl, rfl, rfl, rfl, rfl⟩)))) (ref_enc 20 (by decide) (v % 256) (v / 256 % 16) (v / 4096 % 16) (v / 65536 % 16) 0 1 hop h1 ⟨by omega, by omega, by omega, by omega⟩)) (dec_is1 v hv h1) (by simp [I5.enc, ea, eb, ed])
  · exact xdec_go (xdecode w v hv 2 h2 _ _ _ _ _ _ (.inr (.inr (.inr (.inr ⟨.inl rfl, rfl, rfl, rfl, rfl⟩)))) (ref_enc 20 (by decide) (v % 256) (v / 256 % 16) (v / 4096 % 16) 0 (wrap32 v / 65536) 2 hop h2 ⟨by omega, by omega, by omega, by omega⟩)) (dec_is2 v hv h2) (by simp [I5.enc, ea, eb])
  · by_cases hb : v / 4096 % 16 = 0
    · exact xdec_go (xdecode w v hv 3 h3 _ _ _ _ _ _ (.inr (.inr (.inr (.inr ⟨.inr (.inl rfl), rfl, hb.symm, rfl, rfl⟩)))) (ref_enc 20 (by decide) (v % 256) (v / 256 % 16) 0 0 (wrap32 v / 65536) 3 hop h3 ⟨by omega, by omega, by omega, by omega⟩)) (dec_is3 v hv h3) (by simp [I5.enc, ea])
    · have s := encW_sum (v % 256) (v / 256 % 16) 0 (wrap32 v / 65536) hop (by omega) (by decide)
      exact xdec_no (xdecode w v hv 3 h3 _ _ _ _ _ _ (.inr (.inr (.inr (.inr ⟨.inr (.inl rfl), rfl, rfl, rfl, rfl⟩)))) (ref_enc_no 20 _ _ _ _ _ (ref_wrong_b 20 (by decide) (v % 256) (v / 256 % 16) (v / 4096 % 16) (wrap32 v / 65536) 3 hop h3 (by decide) (by omega) (by omega) hb))) (by rw [dec_is3 v hv h3, if_neg (ne_of_sum s (by omega))])
  · by_cases hb : v / 4096 % 16 = 0
    · exact xdec_go (xdecode w v hv 4 h4 _ _ _ _ _ _ (.inr (.inr (.inl ⟨rfl, rfl, hb.symm, rfl, rfl⟩))) (ref_enc 20 (by decide) (v % 256) (v / 256 % 16) 0 0 (v / 65536) 4 hop h4 ⟨by omega, by omega, by omega, by omega⟩)) (dec_is4 v hv h4) (by simp [I5.enc, ea])
    · have s := encW_sum (v % 256) (v / 256 % 16) 0 (v / 65536) hop (by omega) (by decide)
      exact xdec_no (xdecode w v hv 4 h4 _ _ _ _ _ _ (.inr (.inr (.inl ⟨rfl, rfl, rfl, rfl, rfl⟩))) (ref_enc_no 20 _ _ _ _ _ (ref_wrong_b 20 (by decide) (v % 256) (v / 256 % 16) (v / 4096 % 16) (v / 65536) 4 hop h4 (by decide) (by omega) (by omega) hb))) (by rw [dec_is4 v hv h4, if_neg (ne_of_sum s (by omega))])
  · exact xdec_go (xdecode w v hv 5 h5 _ _ _ _ _ _ (.inl ⟨rfl, rfl, rfl, rfl, rfl⟩) (ref_enc 20 (by decide) (v % 256) 0 0 0 (wrap32 v / 256) 5 hop h5 ⟨by omega, by omega, by omega, by omega⟩)) (dec_is5 v hv h5) (by simp [I5.enc])
  · by_cases hq : v / 256 % 4 = 0
    · exact xdec_go (xdecode w v hv 6 h6 _ _ _ _ _ _ (.inr (.inl ⟨rfl, rfl, rfl, rfl, rfl⟩)) (ref_enc 20 (by decide) (v % 256) 0 0 0 (v / 256) 6 hop h6 ⟨by omega, by omega, by omega, by omega⟩)) ((dec_is6 v hv h6).trans (if_neg (by omega))) (by simp [I5.enc])
    · exact xdec_no (xdecode w v hv 6 h6 _ _ _ _ _ _ (.inr (.inl ⟨rfl, rfl, rfl, rfl, rfl⟩)) (ref_enc_no 20 _ _ _ _ _ (ref_wrong6 20 (by decide) (v % 256) (v / 256) hop h6 ⟨by omega, by omega, hq⟩))) ((dec_is6 v hv h6).trans (if_pos hq))
  · by_cases hb : v / 4096 % 16 = 0
    · by_cases hi : wrap32 v / 65536 = 0
      · exact xdec_go (xdecode w v hv 7 h7 _ _ _ _ _ _ (.inr (.inr (.inr (.inr ⟨.inr (.inr rfl), rfl, hb.symm, rfl, hi.symm⟩)))) (ref_enc 20 (by decide) (v % 256) (v / 256 % 16) 0 0 0 7 hop h7 ⟨by omega, by omega, by omega, by omega⟩)) (dec_is7 v hv h7) (by simp [I5.enc, ea])
      · have s := encW_sum (v % 256) (v / 256 % 16) 0 0 hop (by omega) (by decide)
        have hx : v / 65536 ≠ 0 := by unfold wrap32 at hi; omega
        exact xdec_no (xdecode w v hv 7 h7 _ _ _ _ _ _ (.inr (.inr (.inr (.inr ⟨.inr (.inr rfl), rfl, hb.symm, rfl, rfl⟩)))) (ref_enc_no 20 _ _ _ _ _ (ref_wrong_7 20 (by decide) (v % 256) (v / 256 % 16) (wrap32 v / 65536) hop h7 (by omega) hi))) (by rw [dec_is7 v hv h7, if_neg (ne_of_sum s (by omega))])
    · have s := encW_sum (v % 256) (v / 256 % 16) 0 0 hop (by omega) (by decide)
      exact xdec_no (xdecode w v hv 7 h7 _ _ _ _ _ _ (.inr (.inr (.inr (.inr ⟨.inr (.inr rfl), rfl, rfl, rfl, rfl⟩)))) (ref_enc_no 20 _ _ _ _ _ (ref_wrong_b 20 (by decide) (v % 256) (v / 256 % 16) (v / 4096 % 16) (wrap32 v / 65536) 7 hop h7 (by decide) (by omega) (by omega) hb))) (by rw [dec_is7 v hv h7, if_neg (ne_of_sum s (by omega))])
end Go.Proofs.YtejhnlljddjicaaDoor.Ma
namespace Go.Proofs.YtejhnlljddjicaaDoor.Ma
open Go.RowKit Go.Proofs.YtejhnlljddjicaaDoor.PEm Go.Proofs.YtejhnlljddjicaaDoorW.PrintWords Go.Proofs.YtejhnlljddjicaaDoorW.PrintLast Go.Proofs.YtejhnlljddjicaaDoorW.PrintMore Go.Proofs.YtejhnlljddjicaaDoor.La
set_option linter.unusedVariables false
set_option linter.unusedSimpArgs false
variable {fx : Value × Int} {w w' : World} {c pg : Nat} {ps ps' : Pages} {S S' : Cpu} {inp out inp' out' : List Int}
def xbinS (S : Cpu) (op : Int) (a : Nat) (x y : Int) : Cpu := if (binP op x y).2 then reckF S op a x y else { S with ended := 2, exit := 0 }
set_option maxHeartbeats 4000000 in
set_option maxRecDepth 100000 in
theorem xbin_calls (h : XM w c pg fx ps S inp out) (op : Int) (a : Nat) (ha : a < 16) (x y : Int) (hx : 0 ≤ x ∧ x < 4294967296) (hy : 0 ≤ y ∧ y < 4294967296) :
    Calls Tryd.prog 53 #[.pointer (some ⟨c, 0, none⟩), .int .i64 op, .int .i64 a, .int .u32 x, .int .u32 y] w fun e w' => e = .returned (.tuple #[]) ∧ XDid w w' c pg fx ps S ps (xbinS S op a x y) inp out := by
  obtain ⟨hf2, ⟨r, ok⟩, hf⟩ := bin_eq op x y hx.1 hx.2 hy.1 hy.2
  have hr := bin_in op x y hx.1 hx.2 hy.1 hy.2
  have hb : binP op x y = (r, ok) := by unfold binP; rw [hf]; rfl
  rw [hf] at hf2
  unfold xbinS reckF
  rw [hb] at hr ⊢
  simp only at hr ⊢
  have HF := Aside0.mk hf2
  have H := Aside0.mk h
  have HR := Aside0.mk hr
  have ha0 : (a : Int) < 16 := by omega
  obtain ⟨v, hv⟩ : ∃ v, S.regs[a]? = some v := ⟨_, List.getElem?_eq_getElem (by rw [h.nreg]; exact ha)⟩
  have k := h.kr hv
  have fz := h.fz (6 + a)
  clear h hf hf2 hb hr hx hy hv
  cases ok
  · go_enter Tryd.func53, Tryd.ntmps53
    go_wp2_with (first | (go_at_call 71; refine (mortiseref01_Bin.calls 30 _ _ _ _ _ _ HF.out).mono ?_; rintro e Y ⟨rfl, hb7⟩; have BB := Aside0.mk (dn0_below hb7); clear hb7) | (go_at_call 69; refine (xend_calls (H.out.below BB.out) 2 0).mono ?_; rintro e w' ⟨rfl, hd⟩; have D := Aside0.mk (XDid.pre BB.out hd); clear hd))
    (try simp only [Exit.inBlock, Exit.then])
    refine bodyPost_ret (results_none rfl _ _ _) rfl ?_
    exact ⟨rfl, D.out⟩
  · go_enter Tryd.func53, Tryd.ntmps53
    go_wp2_with (first | (go_at_call 71; refine (mortiseref01_Bin.calls 30 _ _ _ _ _ _ HF.out).mono ?_; rintro e Y ⟨rfl, hb7⟩; have BB := Aside0.mk (dn0_below hb7); have H2 := Aside0.mk (H.out.below BB.out); have k := pw_cell_below BB.out k; have fz := H2.out.fz (6 + a); clear hb7))
    go_end0
    exact ⟨rfl, XDid.pre BB.out (H2.out.set_reg a ha r HR.out.1 HR.out.2)⟩
theorem rvalue_mem (ps : Pages) (a : Nat) (n : Int) (sg : Bool) (hn : n = 1 ∨ n = 2 ∨ n = 4) : mortiseref01_Value.f 20 (memL ps a n.toNat) sg = some (wordF ps a n sg, 0) := by
  rcases hn with rfl | rfl | rfl
  · exact rvalue1 _ sg
  · exact rvalue2 _ _ sg
  · exact rvalue4 _ _ _ _ sg
theorem memL_snoc (ps : Pages) (a j : Nat) : memL ps a (j + 1) = memL ps a j ++ [byteAt ps (a + j)] := by
  unfold memL; rw [List.range_succ]; simp
set_option maxHeartbeats 4000000 in
set_option maxRecDepth 100000 in
theorem xread_yes (h : XM w c pg fx ps S inp out) (i n : Int) (sg : Bool) (hi : 0 ≤ i ∧ i < 4294967296) (hn : n = 1 ∨ n = 2 ∨ n = 4) (hm : mayF S.code i n false = 0) :
    Calls Tryd.prog 54 #[.pointer (some ⟨c, 0, none⟩), .int .u32 i, .int .i64 n, .bool sg] w fun e w' => e = .returned (.tuple #[.int .u32 (wordF ps i.toNat n sg), .bool true]) ∧ XDid w w' c pg fx ps S ps S inp out := by
  have HN := Aside0.mk hn
  have HI := Aside0.mk hi
  have H := Aside0.mk h
  have hrg : 4096 ≤ i ∧ i ≤ 8388608 - n := by
    unfold mayF at hm
    split at hm
    · cases hm
    · split at hm
      · cases hm
      · omega
  have HRG := Aside0.mk hrg
  have HM := Aside0.mk (show XM w c pg fx ps S inp out → Calls Tryd.prog 72 #[.pointer (some ⟨c, 0, none⟩), .int .u32 i, .int .i64 n, .bool false] w fun e w' => e = .returned (.bool true) ∧ XDid w w' c pg fx ps S ps S inp out from fun h => by
    have q := xmay_calls h i n false hi hn
    rw [hm] at q
    exact q)
  have hi64 : IntKind.i64.wrap i = i := IntWalk.i64_in _ (by omega)
  obtain ⟨N, hN⟩ : ∃ N : Nat, n = N := ⟨n.toNat, by omega⟩
  subst hN
  have HV := Aside0.mk (rvalue_mem ps i.toNat (N : Int) sg hn)
  rw [Int.toNat_natCast] at HV
  clear h hn hi hm hrg
  go_enter Tryd.func54, Tryd.ntmps54
  go_wp2_with (first | (go_at_call 72; refine (HM.out H.out).mono ?_; rintro e W1 ⟨rfl, hd⟩; have D := Aside0.mk hd; clear hd))
  go_loopg [10, 11] N (fun kq v10 v11 wr => ∃ j : Nat, j + kq = N ∧ v11 = .int .i64 (j : Int) ∧ Aside0 (Kd.R (Kd.int .u8) 5 wr W1.heap.size (fun _ => True) v10 (memL ps i.toNat j)) ∧ Aside0 (Below W1.heap.size W1 wr))
  case atStart => exact ⟨0, by omega, rfl, ⟨Kd.R_nil _ _ _ _ _⟩, ⟨Below.refl _ _⟩⟩
  case round =>
    obtain ⟨j, hj, rfl, HR, HB⟩ := hrel
    have HJ := Aside0.mk hj
    have HE := Aside0.mk (D.out.em.below HB.out)
    by_cases hlt : j < N
    · have HL := Aside0.mk hlt
      have hlt2 : (j : Int) < (N : Int) := by omega
      have hw1 : IntKind.i64.wrap ((j : Int) + 1) = ((j + 1 : Nat) : Int) := by rw [IntWalk.i64_in _ (by have := HN.out; omega)]; omega
      have hw2 : IntKind.i64.wrap (i + (j : Int)) = i + (j : Int) := IntWalk.i64_in _ (by have := HN.out; have := HI.out; omega)
      have HT := Aside0.mk (show (i + (j : Int)).toNat = i.toNat + j by have := HI.out; omega)
      have HS := Aside0.mk (memL_snoc ps i.toNat j)
      clear hj hlt
      go_wp2_with (first | (go_at_call 49; refine (xbyteAt_calls HE.out (i + (j : Int)) (by have := HRG.out; omega) (by have := HRG.out; have := HL.out; omega)).mono ?_; rintro e w' ⟨rfl, rfl⟩; rw [HT.out]; obtain ⟨b, hb⟩ : ∃ b, byteAt ps (i.toNat + j) = b := ⟨_, rfl⟩; rw [hb] at HS ⊢; clear hb) | ((with_reducible refine gate_builtin (b := .append) (xs := #[.tmp 24, .tmp 31]) rfl ?_); at_builtin; refine Kd.R_append (Kd.int .u8) (w0 := W1) W1.heap.size rfl (.tmp 24) (.tmp 31) 22 5 (.int .u8 0) 1 rfl Tryd.underlying22 inf5 rfl (by decide) (by omega) u10 (memL ps i.toNat j) b [.int .u8 b] (fun _ => True) (fun _ => False) rfl rfl ?aP (fun _ hk => hk.elim) ?aF ?aO ?aB ?aS ?aL ?_; (case aP => exact rfl); (case aB => exact (by (repeat (first | (with_reducible first | exact HB.out | apply below_alloc | apply pw_below_drewN | apply below_drew1) | exact HB.out)))); (case aF => exact (fun _ _ => trivial)); (case aO => exact (by (with_reducible repeat (first | apply Kd.R_alloc | apply Kd.R_drewN | apply Kd.R_drew)); exact HR.out)); (case aS => exact (below_size (by repeat (first | (with_reducible first | exact HB.out | apply below_alloc | apply pw_below_drewN | apply below_drew1) | exact HB.out)))); (case aL => (have := HN.out; have := HL.out; simp [memL]; omega)); intro v192 w12 ho hb2 hg hat; rw [← HS.out] at ho; have N0 := Aside0.mk hb2; have N1 := Aside0.mk ho; clear ho hb2 hg hat))
      go_roundg (N - (j + 1))
      case measure => have := HJ.out; have := HL.out; omega
      case rel => exact ⟨j + 1, by have := HJ.out; have := HL.out; omega, by simp, N1, N0⟩
    · have hjn : j = N := by omega
      have hlt2 : ¬ (j : Int) < (N : Int) := by omega
      subst hjn
      obtain ⟨A, k, rfl⟩ := Kd.R_slice HR.out
      have rd := Kd.R_reads' HR.out
      have RC := Aside0.mk (show Kd.C (Kd.int .u8) wr A (memL ps i.toNat j).length (memL ps i.toNat j) from rd.2.2)
      have RK := Aside0.mk rd.2.1
      clear hj hlt rd
      go_wp2_with (first | (go_at_call 73; refine (mortiseref01_Value.calls 20 A k (memL ps i.toNat j) sg _ _ _ RC.out RK.out HV.out).mono ?_; rintro e Y ⟨rfl, hb7⟩; have BB := Aside0.mk (dn0_below hb7); clear hb7))
      go_ret2
      exact ⟨rfl, D.out.then_below (pm_chain HB.out BB.out)⟩
set_option maxHeartbeats 4000000 in
set_option maxRecDepth 100000 in
theorem xread_no (h : XM w c pg fx ps S inp out) (i n : Int) (sg : Bool) (hi : 0 ≤ i ∧ i < 4294967296) (hn : n = 1 ∨ n = 2 ∨ n = 4) (hm : mayF S.code i n false ≠ 0) :
    Calls Tryd.prog 54 #[.pointer (some ⟨c, 0, none⟩), .int .u32 i, .int .i64 n, .bool sg] w fun e w' => e = .returned (.tuple #[.int .u32 0, .bool false]) ∧ XDid w w' c pg fx ps S ps { S with ended := 6, exit := mayF S.code i n false } inp out := by
  have HM := Aside0.mk (show Calls Tryd.prog 72 #[.pointer (some ⟨c, 0, none⟩), .int .u32 i, .int .i64 n, .bool false] w fun e w' => e = .returned (.bool false) ∧ XDid w w' c pg fx ps S ps { S with ended := 6, exit := mayF S.code i n false } inp out by
    have q := xmay_calls h i n false hi hn
    unfold mayS at q
    rw [if_neg hm, decide_eq_false hm] at q
    exact q)
  clear h hi hn hm
  go_enter Tryd.func54, Tryd.ntmps54
  go_wp2_with (first | (go_at_call 72; refine HM.out.mono ?_; rintro e W1 ⟨rfl, hd⟩; have D := Aside0.mk hd; clear hd))
  go_ret2
  exact ⟨rfl, D.out⟩
set_option maxHeartbeats 4000000 in
set_option maxRecDepth 100000 in
theorem xwrite_no (h : XM w c pg fx ps S inp out) (i n v : Int) (hi : 0 ≤ i ∧ i < 4294967296) (hn : n = 1 ∨ n = 2 ∨ n = 4) (hm : mayF S.code i n true ≠ 0) :
    Calls Tryd.prog 55 #[.pointer (some ⟨c, 0, none⟩), .int .u32 i, .int .i64 n, .int .u32 v] w fun e w' => e = .returned (.tuple #[]) ∧ XDid w w' c pg fx ps S ps { S with ended := 6, exit := mayF S.code i n true } inp out := by
  have HM := Aside0.mk (show Calls Tryd.prog 72 #[.pointer (some ⟨c, 0, none⟩), .int .u32 i, .int .i64 n, .bool true] w fun e w' => e = .returned (.bool false) ∧ XDid w w' c pg fx ps S ps { S with ended := 6, exit := mayF S.code i n true } inp out by
    have q := xmay_calls h i n true hi hn
    unfold mayS at q
    rw [if_neg hm, decide_eq_false hm] at q
    exact q)
  clear h hi hn hm
  go_enter Tryd.func55, Tryd.ntmps55
  go_wp2_with (first | (go_at_call 72; refine HM.out.mono ?_; rintro e W1 ⟨rfl, hd⟩; have D := Aside0.mk hd; clear hd))
  (try simp only [Exit.inBlock, Exit.then])
  refine bodyPost_ret (results_none rfl _ _ _) rfl ?_
  exact ⟨rfl, D.out⟩
set_option maxHeartbeats 4000000 in
set_option maxRecDepth 100000 in
theorem xwrite_yes (h : XM w c pg fx ps S inp out) (i n v : Int) (hi : 0 ≤ i ∧ i < 4294967296) (hn : n = 1 ∨ n = 2 ∨ n = 4) (hv : 0 ≤ v ∧ v < 4294967296) (hm : mayF S.code i n true = 0) :
    Calls Tryd.prog 55 #[.pointer (some ⟨c, 0, none⟩), .int .u32 i, .int .i64 n, .int .u32 v] w fun e w' => e = .returned (.tuple #[]) ∧ ∃ ps', XDid w w' c pg fx ps S ps' S inp out ∧ byteAt ps' = putF (byteAt ps) i.toNat n.toNat v := by
  have HN := Aside0.mk hn
  have HI := Aside0.mk hi
  have HVV := Aside0.mk hv
  have H := Aside0.mk h
  have hrg : 4096 ≤ i ∧ i ≤ 8388608 - n := by
    unfold mayF at hm
    split at hm
    · cases hm
    · split at hm
      · cases hm
      · omega
  have HRG := Aside0.mk hrg
  have HM := Aside0.mk (show XM w c pg fx ps S inp out → Calls Tryd.prog 72 #[.pointer (some ⟨c, 0, none⟩), .int .u32 i, .int .i64 n, .bool true] w fun e w' => e = .returned (.bool true) ∧ XDid w w' c pg fx ps S ps S inp out from fun h => by
    have q := xmay_calls h i n true hi hn
    rw [hm] at q
    exact q)
  have hi64 : IntKind.i64.wrap i = i := IntWalk.i64_in _ (by omega)
  obtain ⟨N, hN⟩ : ∃ N : Nat, n = N := ⟨n.toNat, by omega⟩
  subst hN
  rw [Int.toNat_natCast]
  clear h hn hi hm hrg hv
  go_enter Tryd.func55, Tryd.ntmps55
  go_wp2_with (first | (go_at_call 72; refine (HM.out H.out).mono ?_; rintro e W1 ⟨rfl, hd⟩; have D := Aside0.mk hd; clear hd))
  go_loopg [8] N (fun kq v8 wr => ∃ (j : Nat) (psj : Pages), j + kq = N ∧ v8 = .int .i64 (j : Int) ∧ Aside0 (XDid w wr c pg fx ps S psj S inp out) ∧ Aside0 (byteAt psj = putF (byteAt ps) i.toNat j v))
  case atStart => exact ⟨0, ps, by omega, rfl, ⟨D.out⟩, ⟨by funext q; unfold putF; rw [if_neg (by omega)]⟩⟩
  case round =>
    obtain ⟨j, psj, hj, rfl, HD, HP⟩ := hrel
    have HJ := Aside0.mk hj
    by_cases hlt : j < N
    · have HL := Aside0.mk hlt
      have hlt2 : (j : Int) < (N : Int) := by omega
      have hw1 : IntKind.i64.wrap ((j : Int) + 1) = ((j + 1 : Nat) : Int) := by rw [IntWalk.i64_in _ (by have := HN.out; omega)]; omega
      have hw2 : IntKind.i64.wrap (i + (j : Int)) = i + (j : Int) := IntWalk.i64_in _ (by have := HN.out; have := HI.out; omega)
      have hw3 : IntKind.i64.wrap (8 * (j : Int)) = 8 * (j : Int) := IntWalk.i64_in _ (by have := HN.out; omega)
      have hw4 : IntKind.u64.wrap (8 * (j : Int)) = 8 * (j : Int) := by rw [wrap_u64]; have := HN.out; omega
      have HT := Aside0.mk (show (i + (j : Int)).toNat = i.toNat + j by have := HI.out; omega)
      obtain ⟨b, hsh⟩ : ∃ b, v / 2 ^ min (8 * j) 32 = b := ⟨_, rfl⟩
      have HB := Aside0.mk (show v / 2 ^ (8 * j) = b by rw [← hsh, Nat.min_eq_left (by have := HN.out; omega)])
      have hj0 : 0 ≤ 8 * (j : Int) := by omega
      clear hj hlt
      go_wp2_with (first | (go_at_call 74; refine (xset_calls HD.out.em (i + (j : Int)) (by have := HRG.out; omega) (by have := HRG.out; have := HL.out; omega) (b % 256) (by omega)).mono ?_; rintro e Y ⟨rfl, ps2, hd2, hb2⟩; have D2 := Aside0.mk (HD.out.trans hd2); have E2 := Aside0.mk hb2; clear hd2 hb2))
      go_roundg (N - (j + 1))
      case measure => have := HJ.out; have := HL.out; omega
      case rel =>
        refine ⟨j + 1, ps2, by have := HJ.out; have := HL.out; omega, by simp, D2, ⟨?_⟩⟩
        funext q
        rw [E2.out, HT.out, HP.out, ← HB.out]
        exact (putF_next _ _ _ _ _).symm
    · have hjn : j = N := by omega
      have hlt2 : ¬ (j : Int) < (N : Int) := by omega
      subst hjn
      clear hj hlt
      go_wp2_with (fail)
      go_end0
      exact ⟨rfl, psj, HD.out, HP.out⟩
end Go.Proofs.YtejhnlljddjicaaDoor.Ma
namespace Go.Proofs.YtejhnlljddjicaaDoor.Ma
open Go.RowKit Go.Proofs.YtejhnlljddjicaaDoor.PEm Go.Proofs.YtejhnlljddjicaaDoorW.PrintWords Go.Proofs.YtejhnlljddjicaaDoorW.PrintLast Go.Proofs.YtejhnlljddjicaaDoorW.PrintMore Go.Proofs.YtejhnlljddjicaaDoor.La
set_option linter.unusedVariables false
set_option linter.unusedSimpArgs false
variable {fx : Value × Int} {w w' : World} {c pg : Nat} {ps ps' : Pages} {S S' : Cpu} {inp out inp' out' : List Int}
theorem setRow_same {W : World} {g : Nat} {cs : Array Value} {ty : TypeId} {fr : Nat × Nat} (h : W.heap[g]? = some (.cells cs ty fr)) : W.setRow g cs = W := by
  obtain ⟨hg, he⟩ := Array.getElem?_eq_some_iff.1 h
  have e : (W.setRow g cs).heap = W.heap := by
    apply Array.ext_getElem?
    intro i
    by_cases e : i = g
    · subst e; rw [setRow_heap W _ _ cs ty fr h, h]
    · rw [setRow_other W g i cs e]
  show { W with heap := (W.setRow g cs).heap } = W
  rw [e]
/-- What the document's fetch answers. -/
def insV (o : Option I5) : Value := .tuple #[match o with | none => .agg #[.int .i64 0, .int .i64 0, .int .i64 0, .int .i64 0, .int .i64 0] | some x => x.enc, .bool o.isSome]
set_option maxHeartbeats 4000000 in
set_option maxRecDepth 100000 in
theorem xfetch_trap (h : XM w c pg fx ps S inp out) (hz : S.pc % 4 ≠ 0 ∨ S.pc < 4096 ∨ S.pc > 4096 + S.code - 4) :
    Calls Tryd.prog 32 #[.pointer (some ⟨c, 0, none⟩)] w fun e w' => e = .returned (insV none) ∧ XDid w w' c pg fx ps S ps { S with ended := 6, exit := 3 } inp out := by
  have HT := Aside0.mk (Int.tmod_eq_emod_of_nonneg (b := 4) h.pcIn.1)
  have H := Aside0.mk h
  have HP := Aside0.mk h.pcIn
  have HC := Aside0.mk h.codeIn
  have R2 := Aside0.mk (show (w.alloc (.cells #[.int .i64 0, .int .i64 0, .int .i64 0, .int .i64 0, .int .i64 0] 67 (0, 0))).heap[w.heap.size]? = some (.cells #[.int .i64 0, .int .i64 0, .int .i64 0, .int .i64 0, .int .i64 0] 67 (0, 0)) from heap_at _ _ _ rfl)
  have BB := Aside0.mk (show Below w.heap.size w (w.alloc (.cells #[.int .i64 0, .int .i64 0, .int .i64 0, .int .i64 0, .int .i64 0] 67 (0, 0))) from below_alloc (Below.refl _ _) _)
  have EW := Aside0.mk (h.below BB.out)
  have c5 := EW.out.kpc
  have c1 := EW.out.k1
  have HZ := Aside0.mk hz
  clear hz
  obtain ⟨pc, hpc⟩ : ∃ pc, S.pc = pc := ⟨_, rfl⟩
  obtain ⟨code, hco⟩ : ∃ code, S.code = code := ⟨_, rfl⟩
  rw [hpc] at HT HP HZ c5
  rw [hco] at HC HZ c1
  clear hpc hco
  clear h
  go_enter Tryd.func32, Tryd.ntmps32
  go_upto_region 1 with (fail)
  generalize (w.alloc (.cells #[.int .i64 0, .int .i64 0, .int .i64 0, .int .i64 0, .int .i64 0] 67 (0, 0))) = W0 at R2 BB EW c5 c1 ⊢
  generalize hg2 : w.heap.size = g2 at R2 ⊢
  have hm := HT.out
  have hz := HZ.out
  have hp0 := HP.out.1
  have hp1 := HP.out.2
  have hc0 := HC.out.1
  have hc1 := HC.out.2
  have q : pc % 4 ≠ 0 ∨ (pc % 4 = 0 ∧ pc < 4096) ∨ (pc % 4 = 0 ∧ ¬ pc < 4096 ∧ pc > 4096 + code - 4) := by omega
  clear hz
  rcases q with q | ⟨q1, q2⟩ | ⟨q1, q2, q3⟩
  all_goals (go_wp2_with (first | (go_at_call 48; refine (xtrap_calls EW.out 3).mono ?_; rintro e Y ⟨rfl, hd⟩; have D := Aside0.mk (XDid.pre BB.out hd); have R2 := Aside0.mk (hd.ext.at R2.out (fun hi => absurd (H.out.foot_lt _ hi) (by omega))); clear hd) | (refine wpList_store_row rfl 67 _ _ rfl g2 _ rfl rfl 67 _ R2.out (by as_aux_lemma => kernel_rfl) (by as_aux_lemma => kernel_rfl) (by as_aux_lemma => kernel_rfl) ?_)))
  all_goals (try simp only [Exit.inBlock, Exit.then])
  all_goals (
    rw [setRow_same R2.out]
    refine bodyPost_ret (results_cell2 (p := 2) (q := 3) (ty := 67) rfl _ _ _ _ ⟨g2, 0, none⟩ _ _ (by rfl) (run_loadVar_row _ g2 67 67 _ (0, 0) _ R2.out Tryd.underlying67 (by rfl) (by kernel_rfl)) (by rfl)) rfl ?_
    exact ⟨rfl, D.out⟩)
/-- The word of the bytes put together so far. -/
def accW (ps : Pages) (a : Nat) : Nat → Int
  | 0 => 0
  | j + 1 => bits .or .u32 (accW ps a j) (byteAt ps (a + j) % 4294967296 * 2 ^ (8 * j) % 4294967296)
theorem accW_four (ps : Pages) (a : Nat) : accW ps a 4 = wordF ps a 4 false := by
  unfold wordF lowv
  rw [if_neg (by decide), if_neg (by decide), if_pos rfl]
  unfold val4 val2 val1
  rw [shl32 _ 0 (by decide), shl32 _ 8 (by decide), shl32 _ 16 (by decide), shl32 _ 24 (by decide)]
  rfl
set_option maxHeartbeats 4000000 in
set_option maxRecDepth 100000 in
theorem xfetch_b (h : XM w c pg fx ps S inp out) (hz : ¬ (S.pc % 4 ≠ 0 ∨ S.pc < 4096 ∨ S.pc > 4096 + S.code - 4)) {o : Option I5} (ho : decF (wordF ps S.pc.toNat 4 false) = o) :
    Calls Tryd.prog 32 #[.pointer (some ⟨c, 0, none⟩)] w fun e w' => e = .returned (insV o) ∧ XDid w w' c pg fx ps S ps (if o.isSome then S else { S with ended := 6, exit := 3 }) inp out := by
  have HT := Aside0.mk (Int.tmod_eq_emod_of_nonneg (b := 4) h.pcIn.1)
  have H := Aside0.mk h
  have HP := Aside0.mk h.pcIn
  have HC := Aside0.mk h.codeIn
  have R2 := Aside0.mk (show (w.alloc (.cells #[.int .i64 0, .int .i64 0, .int .i64 0, .int .i64 0, .int .i64 0] 67 (0, 0))).heap[w.heap.size]? = some (.cells #[.int .i64 0, .int .i64 0, .int .i64 0, .int .i64 0, .int .i64 0] 67 (0, 0)) from heap_at _ _ _ rfl)
  have BB := Aside0.mk (show Below w.heap.size w (w.alloc (.cells #[.int .i64 0, .int .i64 0, .int .i64 0, .int .i64 0, .int .i64 0] 67 (0, 0))) from below_alloc (Below.refl _ _) _)
  have EW := Aside0.mk (h.below BB.out)
  have c5 := EW.out.kpc
  have c1 := EW.out.k1
  have HZ := Aside0.mk hz
  have HO := Aside0.mk ho
  clear hz ho
  obtain ⟨pc, hpc⟩ : ∃ pc, S.pc = pc := ⟨_, rfl⟩
  obtain ⟨code, hco⟩ : ∃ code, S.code = code := ⟨_, rfl⟩
  rw [hpc] at HT HP HZ HO c5
  rw [hco] at HC HZ c1
  clear hpc hco
  clear h
  go_enter Tryd.func32, Tryd.ntmps32
  go_upto_region 1 with (fail)
  generalize (w.alloc (.cells #[.int .i64 0, .int .i64 0, .int .i64 0, .int .i64 0, .int .i64 0] 67 (0, 0))) = W0 at R2 BB EW c5 c1 ⊢
  generalize hg2 : w.heap.size = g2 at R2 ⊢
  have hm := HT.out
  have hz := HZ.out
  have hp0 := HP.out.1
  have hp1 := HP.out.2
  have hc0 := HC.out.1
  have hc1 := HC.out.2
  have q1 : pc % 4 = 0 := by omega
  have q2 : ¬ pc < 4096 := by omega
  have q3 : ¬ pc > 4096 + code - 4 := by omega
  clear hz
  go_wp2_with (fail)
  have PC0 := Aside0.mk (show 4096 ≤ pc ∧ pc + 4 ≤ 8388608 by omega)
  clear q1 q2 q3 hm hp0 hp1 hc0 hc1 c5 c1
  go_loopg [5, 6] 4 (fun kq v5 v6 wr => ∃ (j : Nat), j + kq = 4 ∧ v5 = .int .u32 (accW ps pc.toNat j) ∧ v6 = .int .i64 (j : Int) ∧ Aside0 (Below W0.heap.size W0 wr))
  case atStart => exact ⟨0, by omega, rfl, rfl, ⟨Below.refl _ _⟩⟩
  case round =>
    obtain ⟨j, hj, rfl, rfl, HB⟩ := hrel
    have HJ := Aside0.mk hj
    have HE := Aside0.mk (EW.out.below HB.out)
    by_cases hlt : j < 4
    · have HL := Aside0.mk hlt
      have hlt2 : (j : Int) < 4 := by omega
      have hw1 : IntKind.i64.wrap ((j : Int) + 1) = ((j + 1 : Nat) : Int) := by rw [IntWalk.i64_in _ (by omega)]; omega
      have hw2 : IntKind.i64.wrap (pc + (j : Int)) = pc + (j : Int) := IntWalk.i64_in _ (by have := PC0.out; omega)
      have hw3 : IntKind.i64.wrap (8 * (j : Int)) = 8 * (j : Int) := IntWalk.i64_in _ (by omega)
      have hw4 : IntKind.u64.wrap (8 * (j : Int)) = 8 * (j : Int) := by rw [wrap_u64]; omega
      have HTN := Aside0.mk (show (pc + (j : Int)).toNat = pc.toNat + j by have := PC0.out; omega)
      clear hj hlt
      go_wp2_with (first | (go_at_call 49; refine (xbyteAt_calls HE.out (pc + (j : Int)) (by have := PC0.out; omega) (by have := PC0.out; have := HL.out; omega)).mono ?_; rintro e w' ⟨rfl, rfl⟩; rw [HTN.out]; obtain ⟨b, hb⟩ : ∃ b, byteAt ps (pc.toNat + j) = b := ⟨_, rfl⟩; have HBB := Aside0.mk hb; rw [hb]; clear hb; obtain ⟨acc, hac⟩ : ∃ acc, accW ps pc.toNat j = acc := ⟨_, rfl⟩; have HAC := Aside0.mk hac; rw [hac]; clear hac))
      go_roundg (4 - (j + 1))
      case measure => have := HL.out; have := HJ.out; omega
      case rel => exact ⟨j + 1, by have := HL.out; have := HJ.out; omega, by rw [← HAC.out, ← HBB.out]; rfl, by simp, HB⟩
    · have hjn : j = 4 := by omega
      subst hjn
      have hlt2 : ¬ ((4 : Nat) : Int) < 4 := by omega
      have hA4 := accW_four ps pc.toNat
      obtain ⟨v, hv⟩ : ∃ v, wordF ps pc.toNat 4 false = v := ⟨_, rfl⟩
      have HV := Aside0.mk (show 0 ≤ v ∧ v < 4294967296 by rw [← hv, ← hA4]; exact bits_range .or _ _ (.inr (.inl rfl)))
      have HDE := HO.out
      rw [hv] at hA4 HDE
      have HD := Aside0.mk HDE
      clear HDE hj hlt
      rw [hA4]
      clear hA4 hv
      have R2w := Aside0.mk (blk_below R2.out HB.out)
      have BW := Aside0.mk (pm_chain BB.out HB.out)
      cases o with
      | none =>
        have RDC := Aside0.mk (show ∀ W, Calls Tryd.prog 50 #[.int .u32 v] W fun e w' => e = .returned (.tuple #[.agg #[.int .i64 0, .int .i64 0, .int .i64 0, .int .i64 0, .int .i64 0], .int .i64 200]) ∧ Below W.heap.size W w' from fun W => by have q := xdec_all W v HV.out; rw [HD.out] at q; exact q)
        go_upto_region 11 with (first | (go_at_call 50; refine (RDC.out _).mono ?_; rintro e Z1 ⟨rfl, hb7⟩; have BZ := Aside0.mk hb7; clear hb7) | (refine wpList_store_row rfl 67 _ _ rfl Z1.heap.size _ rfl rfl 67 _ (heap_alloc_last Z1 _) (by as_aux_lemma => kernel_rfl) (by as_aux_lemma => kernel_rfl) (by as_aux_lemma => kernel_rfl) ?_; rw [World.setRow_alloc_new]))
        have R2z := Aside0.mk (blk_alloc (blk_below R2w.out BZ.out) (.cells #[.int .i64 0, .int .i64 0, .int .i64 0, .int .i64 0, .int .i64 0] 67))
        have BY := Aside0.mk (below_alloc (pm_chain BW.out BZ.out) (.cells #[.int .i64 0, .int .i64 0, .int .i64 0, .int .i64 0, .int .i64 0] 67))
        have EZ := Aside0.mk (H.out.below BY.out)
        generalize Z1.alloc (.cells #[.int .i64 0, .int .i64 0, .int .i64 0, .int .i64 0, .int .i64 0] 67) = Z2 at R2z BY EZ ⊢
        go_wp2_with (first | (go_at_call 48; refine (xtrap_calls EZ.out 3).mono ?_; rintro e Y ⟨rfl, hd⟩; have D := Aside0.mk (XDid.pre BY.out hd); have R2y := Aside0.mk (hd.ext.at R2z.out (fun hi => absurd (H.out.foot_lt _ hi) (by omega))); clear hd) | (refine wpList_store_row rfl 67 _ _ rfl g2 _ rfl rfl 67 _ R2y.out (by as_aux_lemma => kernel_rfl) (by as_aux_lemma => kernel_rfl) (by as_aux_lemma => kernel_rfl) ?_))
        (try simp only [Exit.inBlock, Exit.then])
        rw [setRow_same R2y.out]
        refine bodyPost_ret (results_cell2 (p := 2) (q := 3) (ty := 67) rfl _ _ _ _ ⟨g2, 0, none⟩ _ _ (by rfl) (run_loadVar_row _ g2 67 67 _ (0, 0) _ R2y.out Tryd.underlying67 (by rfl) (by kernel_rfl)) (by rfl)) rfl ?_
        exact ⟨rfl, D.out⟩
      | some x =>
        obtain ⟨op, a, b, d, imm⟩ := x
        have RDC := Aside0.mk (show ∀ W, Calls Tryd.prog 50 #[.int .u32 v] W fun e w' => e = .returned (.tuple #[.agg #[.int .i64 op, .int .i64 a, .int .i64 b, .int .i64 d, .int .i64 imm], .int .i64 0]) ∧ Below W.heap.size W w' from fun W => by have q := xdec_all W v HV.out; rw [HD.out] at q; exact q)
        go_upto_region 11 with (first | (go_at_call 50; refine (RDC.out _).mono ?_; rintro e Z1 ⟨rfl, hb7⟩; have BZ := Aside0.mk hb7; clear hb7) | (refine wpList_store_row rfl 67 _ _ rfl Z1.heap.size _ rfl rfl 67 _ (heap_alloc_last Z1 _) (by as_aux_lemma => kernel_rfl) (by as_aux_lemma => kernel_rfl) (by as_aux_lemma => kernel_rfl) ?_; rw [World.setRow_alloc_new]))
        have R7 := Aside0.mk (show (Z1.alloc (.cells #[.int .i64 op, .int .i64 a, .int .i64 b, .int .i64 d, .int .i64 imm] 67)).heap[Z1.heap.size]? = some (.cells #[.int .i64 op, .int .i64 a, .int .i64 b, .int .i64 d, .int .i64 imm] 67 (0, 0)) from heap_at _ _ _ rfl)
        have R2z := Aside0.mk (blk_alloc (blk_below R2w.out BZ.out) (.cells #[.int .i64 op, .int .i64 a, .int .i64 b, .int .i64 d, .int .i64 imm] 67))
        have BY := Aside0.mk (below_alloc (pm_chain BW.out BZ.out) (.cells #[.int .i64 op, .int .i64 a, .int .i64 b, .int .i64 d, .int .i64 imm] 67))
        generalize Z1.alloc (.cells #[.int .i64 op, .int .i64 a, .int .i64 b, .int .i64 d, .int .i64 imm] 67) = Z2 at R7 R2z BY ⊢
        generalize Z1.heap.size = g7 at R7 ⊢
        have d0 := (blk_cell R7.out 0).trans rfl
        have d1 := (blk_cell R7.out 1).trans rfl
        have d2 := (blk_cell R7.out 2).trans rfl
        have d3 := (blk_cell R7.out 3).trans rfl
        have d4 := (blk_cell R7.out 4).trans rfl
        go_wp2_with (first | (refine wpList_store_row rfl 67 _ _ rfl g2 _ rfl rfl 67 _ R2z.out (by as_aux_lemma => kernel_rfl) (by as_aux_lemma => kernel_rfl) (by as_aux_lemma => kernel_rfl) ?_))
        (try simp only [Exit.inBlock, Exit.then])
        refine bodyPost_ret (results_cell2 (p := 2) (q := 3) (ty := 67) rfl _ _ _ _ ⟨g2, 0, none⟩ _ _ (by rfl) (run_loadVar_row _ g2 67 67 _ (0, 0) _ (setRow_heap _ _ _ _ _ _ R2z.out) Tryd.underlying67 (by rfl) (by kernel_rfl)) (by rfl)) rfl ?_
        subst hg2
        exact ⟨rfl, XDid.same H.out (below_setRow BY.out (Nat.le_refl _) _)⟩
end Go.Proofs.YtejhnlljddjicaaDoor.Ma
