/- do: the operations on registers and the accesses. No condition beyond those each theorem names. And more of the kind: 6 texts in one. -/
import Derived.Test.YtejhnlljddjicaaDoorVGc
import Derived.Test.YtejhnlljddjicaaDoorVPEmx3
import Derived.Deep.RegionLaw
namespace Go.Proofs.YtejhnlljddjicaaDoor.Ma
open Go.RowKit Go.Proofs.YtejhnlljddjicaaDoor.PEm Go.Proofs.YtejhnlljddjicaaDoorW.PrintWords Go.Proofs.YtejhnlljddjicaaDoorW.PrintLast Go.Proofs.YtejhnlljddjicaaDoorW.PrintMore Go.Proofs.YtejhnlljddjicaaDoor.La
set_option linter.unusedVariables false
set_option linter.unusedSimpArgs false
variable {w w' : World} {c pg : Nat} {ps ps' : Pages} {S S' : Cpu} {inp out inp' out' : List Int}
theorem reg_get (h : EM w c pg ps S inp out) {a : Nat} (ha : a < 16) : S.regs[a]? = some (regV S a) := by
  unfold regV; rw [List.getElem?_eq_getElem (by rw [h.nreg]; exact ha)]; rfl
theorem reg_in (h : EM w c pg ps S inp out) {a : Nat} (ha : a < 16) : 0 ≤ regV S a ∧ regV S a < 4294967296 := h.regIn _ (List.mem_of_getElem? (reg_get h ha))
theorem idx16 {a : Nat} (h : a < 16) : (a : Int) < 16 := by omega
theorem below_dN (W : World) (n : Nat) : Below W.heap.size W (W.drewN n) := ⟨rfl, rfl, rfl, Nat.le_refl _, fun _ _ => rfl⟩
theorem did_of {e : Value} {T : Cpu} {m : Nat → Int} {i o : List Int} (D : Did w w' c pg ps S ps' T i o) (hm : ∀ k, byteAt ps' k = m k) : (Ran.mk e T m i o).did w w' c pg ps S := ⟨T.inV, T.outV, ps', D, hm⟩
set_option maxHeartbeats 4000000 in
set_option maxRecDepth 100000 in
theorem do_rrr (h : EM w c pg ps S inp out) (x : I5) (hop : 1 ≤ x.op ∧ x.op ≤ 19) (ha : x.a < 16) (hb : x.b < 16) (hd : x.c < 16) (hi : -8388608 ≤ x.imm ∧ x.imm ≤ 16777216) :
    Calls Tryd.prog 29 #[.pointer (some ⟨c, 0, none⟩), x.enc] w fun e w' => e = .returned (doF ps S x inp out).err ∧ (doF ps S x inp out).did w w' c pg ps S := by
  obtain ⟨op, a, b, d, imm⟩ := x
  unfold I5.enc
  simp only at hop ha hb hd hi ⊢
  rw [show doF ps S ⟨op, a, b, d, imm⟩ inp out = ⟨if (binP op (regV S b) (regV S d)).2 then .nilIface else stopV 2 0, reckF S op a (regV S b) (regV S d), byteAt ps, inp, out⟩ by unfold doF; simp only; rw [if_pos hop]]
  have HF := Aside0.mk (form1 op hop)
  have ib := idx16 hb
  have id := idx16 hd
  clear hop
  have H := Aside0.mk h
  have HI := Aside0.mk hi
  have HA := Aside0.mk ha
  have HBB := Aside0.mk hb
  have HDD := Aside0.mk hd
  have B0 := Aside0.mk (show Below w.heap.size w (w.alloc (.cells #[.int .i64 op, .int .i64 a, .int .i64 b, .int .i64 d, .int .i64 imm] 67)) from below_alloc (Below.refl _ _) _)
  have HB := Aside0.mk (h.below B0.out)
  have R5 := Aside0.mk (show (w.alloc (.cells #[.int .i64 op, .int .i64 a, .int .i64 b, .int .i64 d, .int .i64 imm] 67)).heap[w.heap.size]? = some (.cells #[.int .i64 op, .int .i64 a, .int .i64 b, .int .i64 d, .int .i64 imm] 67 (0, 0)) from heap_at _ _ _ rfl)
  have NG := Aside0.mk (show w.heap.size ∉ foot c pg ps S from fun hh => absurd (h.foot_lt _ hh) (by omega))
  have HS := Aside0.mk (show w.heap.size ≤ w.heap.size from Nat.le_refl _)
  clear h hi ha hb hd
  go_enter Tryd.func29, Tryd.ntmps29
  go_upto_region 2 with (fail)
  generalize (w.alloc (.cells #[.int .i64 op, .int .i64 a, .int .i64 b, .int .i64 d, .int .i64 imm] 67)) = W0 at HB R5 B0 ⊢
  generalize hg5 : w.heap.size = g5 at R5 NG HS ⊢
  clear hg5
  have c0 := (blk_cell R5.out 0).trans rfl
  go_wp2_with (first | (go_at_call 38; refine (enc_Form.calls 20 _ _ _ HF.out).mono ?_; rintro e w' ⟨rfl, ⟨nd, rfl⟩⟩; have D0 := Aside0.mk (below_dN W0 nd); have EW := Aside0.mk (HB.out.below D0.out); have R6 := Aside0.mk (blk_below R5.out D0.out); have BB := Aside0.mk (pm_chain B0.out D0.out); clear c0 R5 HB B0 D0; generalize W0.drewN nd = W1 at EW R6 BB ⊢; have c0 := (blk_cell R6.out 0).trans rfl; have c1 := (blk_cell R6.out 1).trans rfl; have c2 := (blk_cell R6.out 2).trans rfl; have c3 := (blk_cell R6.out 3).trans rfl; have kb := EW.out.kr (reg_get EW.out HBB.out); have kd := EW.out.kr (reg_get EW.out HDD.out)))
  refine wp_region_still_tail 17 (by kernel_rfl) (by kernel_rfl) ?_
  simp only [List.take_succ_cons, List.take_zero, List.drop_succ_cons, List.drop_zero]
  repeat (with_reducible refine wpStill_step (fun K hK => ?_); go_simp; with_reducible refine hK _ ?_; clear hK K)
  with_reducible refine wpStill_nil ?_
  change wpList _ _ _ _ _ W1.drew
  go_wp2_with (first | (go_at_call 39; refine (reckon_calls (EW.out.below (by (repeat (first | (with_reducible exact Below.refl _ _) | (with_reducible assumption) | with_reducible apply below_alloc | with_reducible apply pw_below_drewN | with_reducible apply below_drew1)))) op a HA.out _ _ (reg_in EW.out HBB.out) (reg_in EW.out HDD.out) (bin_in op _ _ (reg_in EW.out HBB.out).1 (reg_in EW.out HBB.out).2 (reg_in EW.out HDD.out).1 (reg_in EW.out HDD.out).2)).mono ?_; rintro e w' ⟨rfl, hd⟩))
  all_goals go_ret
  all_goals exact ⟨rfl, did_of (Did.pre (pm_chain BB.out (Below.refl _ _).drew) hd) fun _ => rfl⟩
set_option maxHeartbeats 4000000 in
set_option maxRecDepth 100000 in
theorem do_rri (h : EM w c pg ps S inp out) (x : I5) (hop : 33 ≤ x.op ∧ x.op ≤ 51) (ha : x.a < 16) (hb : x.b < 16) (hd : x.c < 16) (hi : -8388608 ≤ x.imm ∧ x.imm ≤ 16777216) :
    Calls Tryd.prog 29 #[.pointer (some ⟨c, 0, none⟩), x.enc] w fun e w' => e = .returned (doF ps S x inp out).err ∧ (doF ps S x inp out).did w w' c pg ps S := by
  obtain ⟨op, a, b, d, imm⟩ := x
  unfold I5.enc
  simp only at hop ha hb hd hi ⊢
  rw [show doF ps S ⟨op, a, b, d, imm⟩ inp out = ⟨if (binP (op - 32) (regV S b) (imm % 4294967296)).2 then .nilIface else stopV 2 0, reckF S (op - 32) a (regV S b) (imm % 4294967296), byteAt ps, inp, out⟩ by unfold doF; simp only; rw [if_neg (by omega), if_pos hop]]
  have HF := Aside0.mk (form2 op (.inl hop))
  have ib := idx16 hb
  have h64 : op < 64 := by omega
  have hw : IntKind.i64.wrap (op - 32) = op - 32 := IntWalk.i64_in _ (by omega)
  have HX := Aside0.mk (show 0 ≤ imm % 4294967296 ∧ imm % 4294967296 < 4294967296 by omega)
  clear hop
  have H := Aside0.mk h
  have HI := Aside0.mk hi
  have HA := Aside0.mk ha
  have HBB := Aside0.mk hb
  have HDD := Aside0.mk hd
  have B0 := Aside0.mk (show Below w.heap.size w (w.alloc (.cells #[.int .i64 op, .int .i64 a, .int .i64 b, .int .i64 d, .int .i64 imm] 67)) from below_alloc (Below.refl _ _) _)
  have HB := Aside0.mk (h.below B0.out)
  have R5 := Aside0.mk (show (w.alloc (.cells #[.int .i64 op, .int .i64 a, .int .i64 b, .int .i64 d, .int .i64 imm] 67)).heap[w.heap.size]? = some (.cells #[.int .i64 op, .int .i64 a, .int .i64 b, .int .i64 d, .int .i64 imm] 67 (0, 0)) from heap_at _ _ _ rfl)
  have NG := Aside0.mk (show w.heap.size ∉ foot c pg ps S from fun hh => absurd (h.foot_lt _ hh) (by omega))
  have HS := Aside0.mk (show w.heap.size ≤ w.heap.size from Nat.le_refl _)
  clear h hi ha hb hd
  go_enter Tryd.func29, Tryd.ntmps29
  go_upto_region 2 with (fail)
  generalize (w.alloc (.cells #[.int .i64 op, .int .i64 a, .int .i64 b, .int .i64 d, .int .i64 imm] 67)) = W0 at HB R5 B0 ⊢
  generalize hg5 : w.heap.size = g5 at R5 NG HS ⊢
  clear hg5
  have c0 := (blk_cell R5.out 0).trans rfl
  go_wp2_with (first | (go_at_call 38; refine (enc_Form.calls 20 _ _ _ HF.out).mono ?_; rintro e w' ⟨rfl, ⟨nd, rfl⟩⟩; have D0 := Aside0.mk (below_dN W0 nd); have EW := Aside0.mk (HB.out.below D0.out); have R6 := Aside0.mk (blk_below R5.out D0.out); have BB := Aside0.mk (pm_chain B0.out D0.out); clear c0 R5 HB B0 D0; generalize W0.drewN nd = W1 at EW R6 BB ⊢; have c0 := (blk_cell R6.out 0).trans rfl; have c1 := (blk_cell R6.out 1).trans rfl; have c2 := (blk_cell R6.out 2).trans rfl; have c4 := (blk_cell R6.out 4).trans rfl; have kb := EW.out.kr (reg_get EW.out HBB.out)))
  refine wp_region_still_tail 15 (by kernel_rfl) (by kernel_rfl) ?_
  simp only [List.take_succ_cons, List.take_zero, List.drop_succ_cons, List.drop_zero]
  repeat (with_reducible refine wpStill_step (fun K hK => ?_); go_simp; with_reducible refine hK _ ?_; clear hK K)
  with_reducible refine wpStill_step (fun K hK => ?_)
  go_simp
  refine ⟨_, Of_still _ _, hK _ ?_⟩
  clear hK K
  repeat (with_reducible refine wpStill_step (fun K hK => ?_); go_simp; with_reducible refine hK _ ?_; clear hK K)
  with_reducible refine wpStill_nil ?_
  change wpList _ _ _ _ _ W1.drew
  go_wp2_with (first | (go_at_call 39; refine (reckon_calls (EW.out.below (by (repeat (first | (with_reducible exact Below.refl _ _) | (with_reducible assumption) | with_reducible apply below_alloc | with_reducible apply pw_below_drewN | with_reducible apply below_drew1)))) (op - 32) a HA.out _ _ (reg_in EW.out HBB.out) HX.out (bin_in (op - 32) _ _ (reg_in EW.out HBB.out).1 (reg_in EW.out HBB.out).2 HX.out.1 HX.out.2)).mono ?_; rintro e w' ⟨rfl, hd⟩))
  all_goals go_ret
  all_goals exact ⟨rfl, did_of (Did.pre (pm_chain BB.out (Below.refl _ _).drew) hd) fun _ => rfl⟩
set_option maxHeartbeats 4000000 in
set_option maxRecDepth 100000 in
theorem do_acc (h : EM w c pg ps S inp out) (x : I5) (hop : (80 ≤ x.op ∧ x.op ≤ 84) ∨ (88 ≤ x.op ∧ x.op ≤ 90)) (ha : x.a < 16) (hb : x.b < 16) (hd : x.c < 16) (hi : -8388608 ≤ x.imm ∧ x.imm ≤ 16777216) :
    Calls Tryd.prog 29 #[.pointer (some ⟨c, 0, none⟩), x.enc] w fun e w' => e = .returned (doF ps S x inp out).err ∧ (doF ps S x inp out).did w w' c pg ps S := by
  obtain ⟨op, a, b, d, imm⟩ := x
  unfold I5.enc
  simp only at hop ha hb hd hi ⊢
  rw [show doF ps S ⟨op, a, b, d, imm⟩ inp out = ⟨errT (accE S ⟨op, a, b, d, imm⟩), accC ps S ⟨op, a, b, d, imm⟩, accM ps S ⟨op, a, b, d, imm⟩, inp, out⟩ by unfold doF; simp only; rw [if_neg (by omega), if_neg (by omega), if_pos hop]]
  have HF := Aside0.mk (form2 op (.inr hop))
  have h64 : ¬ op < 64 := by omega
  have HO := Aside0.mk (show op = 80 ∨ op = 81 ∨ op = 82 ∨ op = 83 ∨ op = 84 ∨ op = 88 ∨ op = 89 ∨ op = 90 by omega)
  clear hop
  have H := Aside0.mk h
  have HI := Aside0.mk hi
  have HA := Aside0.mk ha
  have HBB := Aside0.mk hb
  have HDD := Aside0.mk hd
  have B0 := Aside0.mk (show Below w.heap.size w (w.alloc (.cells #[.int .i64 op, .int .i64 a, .int .i64 b, .int .i64 d, .int .i64 imm] 67)) from below_alloc (Below.refl _ _) _)
  have HB := Aside0.mk (h.below B0.out)
  have R5 := Aside0.mk (show (w.alloc (.cells #[.int .i64 op, .int .i64 a, .int .i64 b, .int .i64 d, .int .i64 imm] 67)).heap[w.heap.size]? = some (.cells #[.int .i64 op, .int .i64 a, .int .i64 b, .int .i64 d, .int .i64 imm] 67 (0, 0)) from heap_at _ _ _ rfl)
  have NG := Aside0.mk (show w.heap.size ∉ foot c pg ps S from fun hh => absurd (h.foot_lt _ hh) (by omega))
  have HS := Aside0.mk (show w.heap.size ≤ w.heap.size from Nat.le_refl _)
  clear h hi ha hb hd
  go_enter Tryd.func29, Tryd.ntmps29
  go_upto_region 2 with (fail)
  generalize (w.alloc (.cells #[.int .i64 op, .int .i64 a, .int .i64 b, .int .i64 d, .int .i64 imm] 67)) = W0 at HB R5 B0 ⊢
  generalize hg5 : w.heap.size = g5 at R5 NG HS ⊢
  clear hg5
  have c0 := (blk_cell R5.out 0).trans rfl
  go_wp2_with (first | (go_at_call 38; refine (enc_Form.calls 20 _ _ _ HF.out).mono ?_; rintro e w' ⟨rfl, ⟨nd, rfl⟩⟩; have D0 := Aside0.mk (below_dN W0 nd); have EW := Aside0.mk (HB.out.below D0.out); have R6 := Aside0.mk (blk_below R5.out D0.out); have BB := Aside0.mk (pm_chain B0.out D0.out); clear c0 R5 HB B0 D0; generalize W0.drewN nd = W1 at EW R6 BB ⊢; have c0 := (blk_cell R6.out 0).trans rfl; have c1 := (blk_cell R6.out 1).trans rfl; have c2 := (blk_cell R6.out 2).trans rfl; have c3 := (blk_cell R6.out 3).trans rfl; have c4 := (blk_cell R6.out 4).trans rfl))
  go_wp2_with (first | (go_at_call 41; refine (access_calls (EW.out.below (by (repeat (first | (with_reducible exact Below.refl _ _) | (with_reducible assumption) | with_reducible apply below_alloc | with_reducible apply pw_below_drewN | with_reducible apply below_drew1)))) ⟨op, a, b, d, imm⟩ HO.out HA.out HBB.out HI.out).mono ?_; rintro e w' ⟨ps2, rfl, hd, hm⟩))
  all_goals go_ret
  all_goals exact ⟨rfl, did_of (Did.pre BB.out hd) hm⟩
end Go.Proofs.YtejhnlljddjicaaDoor.Ma
namespace Go.Proofs.YtejhnlljddjicaaDoor.Ma
open Go.RowKit Go.Proofs.YtejhnlljddjicaaDoor.PEm Go.Proofs.YtejhnlljddjicaaDoorW.PrintWords Go.Proofs.YtejhnlljddjicaaDoorW.PrintLast Go.Proofs.YtejhnlljddjicaaDoorW.PrintMore Go.Proofs.YtejhnlljddjicaaDoor.La
set_option linter.unusedVariables false
set_option linter.unusedSimpArgs false
variable {w w' : World} {c pg : Nat} {ps ps' : Pages} {S S' : Cpu} {inp out inp' out' : List Int}
theorem or_in (x y : Int) : 0 ≤ bits .or .u32 x y ∧ bits .or .u32 x y < 4294967296 := or_range x y
set_option maxHeartbeats 4000000 in
set_option maxRecDepth 100000 in
theorem do_64 (h : EM w c pg ps S inp out) (x : I5) (hop : x.op = 64) (ha : x.a < 16) (hb : x.b < 16) (hd : x.c < 16) (hi : -8388608 ≤ x.imm ∧ x.imm ≤ 16777216) :
    Calls Tryd.prog 29 #[.pointer (some ⟨c, 0, none⟩), x.enc] w fun e w' => e = .returned (doF ps S x inp out).err ∧ (doF ps S x inp out).did w w' c pg ps S := by
  obtain ⟨op, a, b, d, imm⟩ := x
  unfold I5.enc
  simp only at hop ha hb hd hi ⊢
  subst hop
  rw [show doF ps S ⟨64, a, b, d, imm⟩ inp out = ⟨.nilIface, setR S a (imm % 4294967296), byteAt ps, inp, out⟩ from rfl]
  have ia := idx16 ha
  have HF := Aside0.mk (show enc_Form.f 20 64 = some 3 by rfl)
  have H := Aside0.mk h
  have HI := Aside0.mk hi
  have HA := Aside0.mk ha
  have HBB := Aside0.mk hb
  have HDD := Aside0.mk hd
  have B0 := Aside0.mk (show Below w.heap.size w (w.alloc (.cells #[.int .i64 64, .int .i64 a, .int .i64 b, .int .i64 d, .int .i64 imm] 67)) from below_alloc (Below.refl _ _) _)
  have HB := Aside0.mk (h.below B0.out)
  have R5 := Aside0.mk (show (w.alloc (.cells #[.int .i64 64, .int .i64 a, .int .i64 b, .int .i64 d, .int .i64 imm] 67)).heap[w.heap.size]? = some (.cells #[.int .i64 64, .int .i64 a, .int .i64 b, .int .i64 d, .int .i64 imm] 67 (0, 0)) from heap_at _ _ _ rfl)
  have NG := Aside0.mk (show w.heap.size ∉ foot c pg ps S from fun hh => absurd (h.foot_lt _ hh) (by omega))
  have HS := Aside0.mk (show w.heap.size ≤ w.heap.size from Nat.le_refl _)
  clear h hi ha hb hd
  go_enter Tryd.func29, Tryd.ntmps29
  go_upto_region 2 with (fail)
  generalize (w.alloc (.cells #[.int .i64 64, .int .i64 a, .int .i64 b, .int .i64 d, .int .i64 imm] 67)) = W0 at HB R5 B0 ⊢
  generalize hg5 : w.heap.size = g5 at R5 NG HS ⊢
  clear hg5
  have c0 := (blk_cell R5.out 0).trans rfl
  go_wp2_with (first | (go_at_call 38; refine (enc_Form.calls 20 _ _ _ HF.out).mono ?_; rintro e w' ⟨rfl, ⟨nd, rfl⟩⟩; have D0 := Aside0.mk (below_dN W0 nd); have EW := Aside0.mk (HB.out.below D0.out); have R6 := Aside0.mk (blk_below R5.out D0.out); have BB := Aside0.mk (pm_chain B0.out D0.out); clear c0 R5 HB B0 D0; generalize W0.drewN nd = W1 at EW R6 BB ⊢; have c0 := (blk_cell R6.out 0).trans rfl; have c1 := (blk_cell R6.out 1).trans rfl; have c4 := (blk_cell R6.out 4).trans rfl; have ka := EW.out.kr (reg_get EW.out HA.out); have fa := EW.out.fz (3 + a)))
  refine wp_region_still_tail 8 (by kernel_rfl) (by kernel_rfl) ?_
  simp only [List.take_succ_cons, List.take_zero, List.drop_succ_cons, List.drop_zero]
  repeat (with_reducible refine wpStill_step (fun K hK => ?_); go_simp; with_reducible refine hK _ ?_; clear hK K)
  with_reducible refine wpStill_step (fun K hK => ?_)
  go_simp
  refine ⟨_, Of_still _ _, hK _ ?_⟩
  clear hK K
  repeat (with_reducible refine wpStill_step (fun K hK => ?_); go_simp; with_reducible refine hK _ ?_; clear hK K)
  with_reducible refine wpStill_nil ?_
  change wpList _ _ _ _ _ W1.drew
  all_goals go_wp2_with (fail)
  all_goals go_ret
  all_goals exact ⟨rfl, did_of (Did.pre (pm_chain BB.out (Below.refl _ _).drew) ((EW.out.below (Below.refl _ _).drew).set_reg a HA.out _ (by omega) (by omega))) fun _ => rfl⟩
set_option maxHeartbeats 4000000 in
set_option maxRecDepth 100000 in
theorem do_65 (h : EM w c pg ps S inp out) (x : I5) (hop : x.op = 65) (ha : x.a < 16) (hb : x.b < 16) (hd : x.c < 16) (hi : -8388608 ≤ x.imm ∧ x.imm ≤ 16777216) :
    Calls Tryd.prog 29 #[.pointer (some ⟨c, 0, none⟩), x.enc] w fun e w' => e = .returned (doF ps S x inp out).err ∧ (doF ps S x inp out).did w w' c pg ps S := by
  obtain ⟨op, a, b, d, imm⟩ := x
  unfold I5.enc
  simp only at hop ha hb hd hi ⊢
  subst hop
  rw [show doF ps S ⟨65, a, b, d, imm⟩ inp out = ⟨.nilIface, setR S a (bits .or .u32 (bits .and .u32 (regV S a) 65535) (shl .u32 (imm % 4294967296) 16)), byteAt ps, inp, out⟩ from rfl]
  have ia := idx16 ha
  have hw : IntKind.u32.wrap imm = imm % 4294967296 := IntKind.wrap_u32 _
  have HF := Aside0.mk (show enc_Form.f 20 65 = some 4 by rfl)
  have H := Aside0.mk h
  have HI := Aside0.mk hi
  have HA := Aside0.mk ha
  have HBB := Aside0.mk hb
  have HDD := Aside0.mk hd
  have B0 := Aside0.mk (show Below w.heap.size w (w.alloc (.cells #[.int .i64 65, .int .i64 a, .int .i64 b, .int .i64 d, .int .i64 imm] 67)) from below_alloc (Below.refl _ _) _)
  have HB := Aside0.mk (h.below B0.out)
  have R5 := Aside0.mk (show (w.alloc (.cells #[.int .i64 65, .int .i64 a, .int .i64 b, .int .i64 d, .int .i64 imm] 67)).heap[w.heap.size]? = some (.cells #[.int .i64 65, .int .i64 a, .int .i64 b, .int .i64 d, .int .i64 imm] 67 (0, 0)) from heap_at _ _ _ rfl)
  have NG := Aside0.mk (show w.heap.size ∉ foot c pg ps S from fun hh => absurd (h.foot_lt _ hh) (by omega))
  have HS := Aside0.mk (show w.heap.size ≤ w.heap.size from Nat.le_refl _)
  clear h hi ha hb hd
  go_enter Tryd.func29, Tryd.ntmps29
  go_upto_region 2 with (fail)
  generalize (w.alloc (.cells #[.int .i64 65, .int .i64 a, .int .i64 b, .int .i64 d, .int .i64 imm] 67)) = W0 at HB R5 B0 ⊢
  generalize hg5 : w.heap.size = g5 at R5 NG HS ⊢
  clear hg5
  have c0 := (blk_cell R5.out 0).trans rfl
  go_wp2_with (first | (go_at_call 38; refine (enc_Form.calls 20 _ _ _ HF.out).mono ?_; rintro e w' ⟨rfl, ⟨nd, rfl⟩⟩; have D0 := Aside0.mk (below_dN W0 nd); have EW := Aside0.mk (HB.out.below D0.out); have R6 := Aside0.mk (blk_below R5.out D0.out); have BB := Aside0.mk (pm_chain B0.out D0.out); clear c0 R5 HB B0 D0; generalize W0.drewN nd = W1 at EW R6 BB ⊢; have c0 := (blk_cell R6.out 0).trans rfl; have c1 := (blk_cell R6.out 1).trans rfl; have c4 := (blk_cell R6.out 4).trans rfl; have ka := EW.out.kr (reg_get EW.out HA.out); have fa := EW.out.fz (3 + a)))
  refine wp_region_still_tail 17 (by kernel_rfl) (by kernel_rfl) ?_
  simp only [List.take_succ_cons, List.take_zero, List.drop_succ_cons, List.drop_zero]
  repeat (with_reducible refine wpStill_step (fun K hK => ?_); go_simp; with_reducible refine hK _ ?_; clear hK K)
  with_reducible refine wpStill_nil ?_
  change wpList _ _ _ _ _ W1.drew
  all_goals go_wp2_with (fail)
  all_goals go_ret
  all_goals exact ⟨rfl, did_of (Did.pre (pm_chain BB.out (Below.refl _ _).drew) ((EW.out.below (Below.refl _ _).drew).set_reg a HA.out _ (or_in _ _).1 (or_in _ _).2)) fun _ => rfl⟩
set_option maxHeartbeats 4000000 in
set_option maxRecDepth 100000 in
theorem do_96 (h : EM w c pg ps S inp out) (x : I5) (hop : x.op = 96) (ha : x.a < 16) (hb : x.b < 16) (hd : x.c < 16) (hi : -8388608 ≤ x.imm ∧ x.imm ≤ 8388607) :
    Calls Tryd.prog 29 #[.pointer (some ⟨c, 0, none⟩), x.enc] w fun e w' => e = .returned (doF ps S x inp out).err ∧ (doF ps S x inp out).did w w' c pg ps S := by
  obtain ⟨op, a, b, d, imm⟩ := x
  unfold I5.enc
  simp only at hop ha hb hd hi ⊢
  subst hop
  rw [show doF ps S ⟨96, a, b, d, imm⟩ inp out = ⟨.nilIface, { S with pc := jumpF S.pc imm }, byteAt ps, inp, out⟩ from rfl]
  have HF := Aside0.mk (show enc_Form.f 20 96 = some 5 by rfl)
  have H := Aside0.mk h
  have HI := Aside0.mk hi
  have HA := Aside0.mk ha
  have HBB := Aside0.mk hb
  have HDD := Aside0.mk hd
  have B0 := Aside0.mk (show Below w.heap.size w (w.alloc (.cells #[.int .i64 96, .int .i64 a, .int .i64 b, .int .i64 d, .int .i64 imm] 67)) from below_alloc (Below.refl _ _) _)
  have HB := Aside0.mk (h.below B0.out)
  have R5 := Aside0.mk (show (w.alloc (.cells #[.int .i64 96, .int .i64 a, .int .i64 b, .int .i64 d, .int .i64 imm] 67)).heap[w.heap.size]? = some (.cells #[.int .i64 96, .int .i64 a, .int .i64 b, .int .i64 d, .int .i64 imm] 67 (0, 0)) from heap_at _ _ _ rfl)
  have NG := Aside0.mk (show w.heap.size ∉ foot c pg ps S from fun hh => absurd (h.foot_lt _ hh) (by omega))
  have HS := Aside0.mk (show w.heap.size ≤ w.heap.size from Nat.le_refl _)
  clear h hi ha hb hd
  go_enter Tryd.func29, Tryd.ntmps29
  go_upto_region 2 with (fail)
  generalize (w.alloc (.cells #[.int .i64 96, .int .i64 a, .int .i64 b, .int .i64 d, .int .i64 imm] 67)) = W0 at HB R5 B0 ⊢
  generalize hg5 : w.heap.size = g5 at R5 NG HS ⊢
  clear hg5
  have c0 := (blk_cell R5.out 0).trans rfl
  go_wp2_with (first | (go_at_call 38; refine (enc_Form.calls 20 _ _ _ HF.out).mono ?_; rintro e w' ⟨rfl, ⟨nd, rfl⟩⟩; have D0 := Aside0.mk (below_dN W0 nd); have EW := Aside0.mk (HB.out.below D0.out); have R6 := Aside0.mk (blk_below R5.out D0.out); have BB := Aside0.mk (pm_chain B0.out D0.out); clear c0 R5 HB B0 D0; generalize W0.drewN nd = W1 at EW R6 BB ⊢; have c0 := (blk_cell R6.out 0).trans rfl; have c4 := (blk_cell R6.out 4).trans rfl))
  go_wp2_with (first | (go_at_call 42; refine (jump_calls (EW.out.below (by (repeat (first | (with_reducible exact Below.refl _ _) | (with_reducible assumption) | with_reducible apply below_alloc | with_reducible apply pw_below_drewN | with_reducible apply below_drew1)))) imm HI.out).mono ?_; rintro e w' ⟨rfl, hd⟩))
  all_goals go_ret
  all_goals exact ⟨rfl, did_of (Did.pre BB.out hd) fun _ => rfl⟩
set_option maxHeartbeats 4000000 in
set_option maxRecDepth 100000 in
theorem do_100 (h : EM w c pg ps S inp out) (x : I5) (hop : x.op = 100) (ha : x.a < 16) (hb : x.b < 16) (hd : x.c < 16) (hi : -8388608 ≤ x.imm ∧ x.imm ≤ 16777216) :
    Calls Tryd.prog 29 #[.pointer (some ⟨c, 0, none⟩), x.enc] w fun e w' => e = .returned (doF ps S x inp out).err ∧ (doF ps S x inp out).did w w' c pg ps S := by
  obtain ⟨op, a, b, d, imm⟩ := x
  unfold I5.enc
  simp only at hop ha hb hd hi ⊢
  subst hop
  rw [show doF ps S ⟨100, a, b, d, imm⟩ inp out = ⟨.nilIface, { S with pc := regV S a }, byteAt ps, inp, out⟩ from rfl]
  have ia := idx16 ha
  have HF := Aside0.mk (show enc_Form.f 20 100 = some 7 by rfl)
  have H := Aside0.mk h
  have HI := Aside0.mk hi
  have HA := Aside0.mk ha
  have HBB := Aside0.mk hb
  have HDD := Aside0.mk hd
  have B0 := Aside0.mk (show Below w.heap.size w (w.alloc (.cells #[.int .i64 100, .int .i64 a, .int .i64 b, .int .i64 d, .int .i64 imm] 67)) from below_alloc (Below.refl _ _) _)
  have HB := Aside0.mk (h.below B0.out)
  have R5 := Aside0.mk (show (w.alloc (.cells #[.int .i64 100, .int .i64 a, .int .i64 b, .int .i64 d, .int .i64 imm] 67)).heap[w.heap.size]? = some (.cells #[.int .i64 100, .int .i64 a, .int .i64 b, .int .i64 d, .int .i64 imm] 67 (0, 0)) from heap_at _ _ _ rfl)
  have NG := Aside0.mk (show w.heap.size ∉ foot c pg ps S from fun hh => absurd (h.foot_lt _ hh) (by omega))
  have HS := Aside0.mk (show w.heap.size ≤ w.heap.size from Nat.le_refl _)
  clear h hi ha hb hd
  go_enter Tryd.func29, Tryd.ntmps29
  go_upto_region 2 with (fail)
  generalize (w.alloc (.cells #[.int .i64 100, .int .i64 a, .int .i64 b, .int .i64 d, .int .i64 imm] 67)) = W0 at HB R5 B0 ⊢
  generalize hg5 : w.heap.size = g5 at R5 NG HS ⊢
  clear hg5
  have c0 := (blk_cell R5.out 0).trans rfl
  go_wp2_with (first | (go_at_call 38; refine (enc_Form.calls 20 _ _ _ HF.out).mono ?_; rintro e w' ⟨rfl, ⟨nd, rfl⟩⟩; have D0 := Aside0.mk (below_dN W0 nd); have EW := Aside0.mk (HB.out.below D0.out); have R6 := Aside0.mk (blk_below R5.out D0.out); have BB := Aside0.mk (pm_chain B0.out D0.out); clear c0 R5 HB B0 D0; generalize W0.drewN nd = W1 at EW R6 BB ⊢; have c0 := (blk_cell R6.out 0).trans rfl; have c1 := (blk_cell R6.out 1).trans rfl; have ka := EW.out.kr (reg_get EW.out HA.out); have k2 := EW.out.k2; have f2 := EW.out.fz 2))
  refine wp_region_still_tail 10 (by kernel_rfl) (by kernel_rfl) ?_
  simp only [List.take_succ_cons, List.take_zero, List.drop_succ_cons, List.drop_zero]
  repeat (with_reducible refine wpStill_step (fun K hK => ?_); go_simp; with_reducible refine hK _ ?_; clear hK K)
  with_reducible refine wpStill_nil ?_
  change wpList _ _ _ _ _ W1.drew
  all_goals go_wp2_with (fail)
  all_goals go_ret
  all_goals exact ⟨rfl, did_of (Did.pre (pm_chain BB.out (Below.refl _ _).drew) ((EW.out.below (Below.refl _ _).drew).set_pc _ (reg_in EW.out HA.out).1 (reg_in EW.out HA.out).2)) fun _ => rfl⟩
end Go.Proofs.YtejhnlljddjicaaDoor.Ma
namespace Go.Proofs.YtejhnlljddjicaaDoor.Ma
open Go.RowKit Go.Proofs.YtejhnlljddjicaaDoor.PEm Go.Proofs.YtejhnlljddjicaaDoorW.PrintWords Go.Proofs.YtejhnlljddjicaaDoorW.PrintLast Go.Proofs.YtejhnlljddjicaaDoorW.PrintMore Go.Proofs.YtejhnlljddjicaaDoor.La
set_option linter.unusedVariables false
set_option linter.unusedSimpArgs false
variable {w w' : World} {c pg : Nat} {ps ps' : Pages} {S S' : Cpu} {inp out inp' out' : List Int}
set_option maxHeartbeats 4000000 in
set_option maxRecDepth 100000 in
theorem do_97z (h : EM w c pg ps S inp out) (x : I5) (hop : x.op = 97) (ha : x.a < 16) (hb : x.b < 16) (hd : x.c < 16) (hi : -8388608 ≤ x.imm ∧ x.imm ≤ 8388607) (hz : regV S x.a = 0) :
    Calls Tryd.prog 29 #[.pointer (some ⟨c, 0, none⟩), x.enc] w fun e w' => e = .returned (doF ps S x inp out).err ∧ (doF ps S x inp out).did w w' c pg ps S := by
  obtain ⟨op, a, b, d, imm⟩ := x
  unfold I5.enc
  simp only at hop ha hb hd hi ⊢
  subst hop
  have hz : regV S a = 0 := hz
  rw [show doF ps S ⟨97, a, b, d, imm⟩ inp out = ⟨.nilIface, { S with pc := jumpF S.pc imm }, byteAt ps, inp, out⟩ by rw [show doF ps S ⟨97, a, b, d, imm⟩ inp out = ⟨.nilIface, if regV S a = 0 then { S with pc := jumpF S.pc imm } else S, byteAt ps, inp, out⟩ from rfl]; first | rw [if_pos hz] | rw [if_neg hz]]
  have ia := idx16 ha
  have HZ := Aside0.mk hz
  clear hz
  have HF := Aside0.mk (show enc_Form.f 20 97 = some 3 by rfl)
  have H := Aside0.mk h
  have HI := Aside0.mk hi
  have HA := Aside0.mk ha
  have HBB := Aside0.mk hb
  have HDD := Aside0.mk hd
  have B0 := Aside0.mk (show Below w.heap.size w (w.alloc (.cells #[.int .i64 97, .int .i64 a, .int .i64 b, .int .i64 d, .int .i64 imm] 67)) from below_alloc (Below.refl _ _) _)
  have HB := Aside0.mk (h.below B0.out)
  have R5 := Aside0.mk (show (w.alloc (.cells #[.int .i64 97, .int .i64 a, .int .i64 b, .int .i64 d, .int .i64 imm] 67)).heap[w.heap.size]? = some (.cells #[.int .i64 97, .int .i64 a, .int .i64 b, .int .i64 d, .int .i64 imm] 67 (0, 0)) from heap_at _ _ _ rfl)
  have NG := Aside0.mk (show w.heap.size ∉ foot c pg ps S from fun hh => absurd (h.foot_lt _ hh) (by omega))
  have HS := Aside0.mk (show w.heap.size ≤ w.heap.size from Nat.le_refl _)
  clear h hi ha hb hd
  go_enter Tryd.func29, Tryd.ntmps29
  go_upto_region 2 with (fail)
  generalize (w.alloc (.cells #[.int .i64 97, .int .i64 a, .int .i64 b, .int .i64 d, .int .i64 imm] 67)) = W0 at HB R5 B0 ⊢
  generalize hg5 : w.heap.size = g5 at R5 NG HS ⊢
  clear hg5
  have c0 := (blk_cell R5.out 0).trans rfl
  go_wp2_with (first | (go_at_call 38; refine (enc_Form.calls 20 _ _ _ HF.out).mono ?_; rintro e w' ⟨rfl, ⟨nd, rfl⟩⟩; have D0 := Aside0.mk (below_dN W0 nd); have EW := Aside0.mk (HB.out.below D0.out); have R6 := Aside0.mk (blk_below R5.out D0.out); have BB := Aside0.mk (pm_chain B0.out D0.out); clear c0 R5 HB B0 D0; generalize W0.drewN nd = W1 at EW R6 BB ⊢; have c0 := (blk_cell R6.out 0).trans rfl; have c1 := (blk_cell R6.out 1).trans rfl; have c4 := (blk_cell R6.out 4).trans rfl; have ka := EW.out.kr (reg_get EW.out HA.out); have hz := HZ.out; try rw [hz] at ka))
  refine wp_region_still_tail 10 (by kernel_rfl) (by kernel_rfl) ?_
  simp only [List.take_succ_cons, List.take_zero, List.drop_succ_cons, List.drop_zero]
  repeat (with_reducible refine wpStill_step (fun K hK => ?_); go_simp; with_reducible refine hK _ ?_; clear hK K)
  with_reducible refine wpStill_nil ?_
  change wpList _ _ _ _ _ W1.drew
  go_wp2_with (first | (go_at_call 42; refine (jump_calls (EW.out.below (by (repeat (first | (with_reducible exact Below.refl _ _) | (with_reducible assumption) | with_reducible apply below_alloc | with_reducible apply pw_below_drewN | with_reducible apply below_drew1)))) imm HI.out).mono ?_; rintro e w' ⟨rfl, hd⟩))
  all_goals go_ret
  all_goals exact ⟨rfl, did_of (Did.pre (pm_chain BB.out (Below.refl _ _).drew) hd) fun _ => rfl⟩
set_option maxHeartbeats 4000000 in
set_option maxRecDepth 100000 in
theorem do_97n (h : EM w c pg ps S inp out) (x : I5) (hop : x.op = 97) (ha : x.a < 16) (hb : x.b < 16) (hd : x.c < 16) (hi : -8388608 ≤ x.imm ∧ x.imm ≤ 8388607) (hz : ¬ regV S x.a = 0) :
    Calls Tryd.prog 29 #[.pointer (some ⟨c, 0, none⟩), x.enc] w fun e w' => e = .returned (doF ps S x inp out).err ∧ (doF ps S x inp out).did w w' c pg ps S := by
  obtain ⟨op, a, b, d, imm⟩ := x
  unfold I5.enc
  simp only at hop ha hb hd hi ⊢
  subst hop
  have hz : ¬ regV S a = 0 := hz
  rw [show doF ps S ⟨97, a, b, d, imm⟩ inp out = ⟨.nilIface, S, byteAt ps, inp, out⟩ by rw [show doF ps S ⟨97, a, b, d, imm⟩ inp out = ⟨.nilIface, if regV S a = 0 then { S with pc := jumpF S.pc imm } else S, byteAt ps, inp, out⟩ from rfl]; first | rw [if_pos hz] | rw [if_neg hz]]
  have ia := idx16 ha
  have HZ := Aside0.mk hz
  clear hz
  have HF := Aside0.mk (show enc_Form.f 20 97 = some 3 by rfl)
  have H := Aside0.mk h
  have HI := Aside0.mk hi
  have HA := Aside0.mk ha
  have HBB := Aside0.mk hb
  have HDD := Aside0.mk hd
  have B0 := Aside0.mk (show Below w.heap.size w (w.alloc (.cells #[.int .i64 97, .int .i64 a, .int .i64 b, .int .i64 d, .int .i64 imm] 67)) from below_alloc (Below.refl _ _) _)
  have HB := Aside0.mk (h.below B0.out)
  have R5 := Aside0.mk (show (w.alloc (.cells #[.int .i64 97, .int .i64 a, .int .i64 b, .int .i64 d, .int .i64 imm] 67)).heap[w.heap.size]? = some (.cells #[.int .i64 97, .int .i64 a, .int .i64 b, .int .i64 d, .int .i64 imm] 67 (0, 0)) from heap_at _ _ _ rfl)
  have NG := Aside0.mk (show w.heap.size ∉ foot c pg ps S from fun hh => absurd (h.foot_lt _ hh) (by omega))
  have HS := Aside0.mk (show w.heap.size ≤ w.heap.size from Nat.le_refl _)
  clear h hi ha hb hd
  go_enter Tryd.func29, Tryd.ntmps29
  go_upto_region 2 with (fail)
  generalize (w.alloc (.cells #[.int .i64 97, .int .i64 a, .int .i64 b, .int .i64 d, .int .i64 imm] 67)) = W0 at HB R5 B0 ⊢
  generalize hg5 : w.heap.size = g5 at R5 NG HS ⊢
  clear hg5
  have c0 := (blk_cell R5.out 0).trans rfl
  go_wp2_with (first | (go_at_call 38; refine (enc_Form.calls 20 _ _ _ HF.out).mono ?_; rintro e w' ⟨rfl, ⟨nd, rfl⟩⟩; have D0 := Aside0.mk (below_dN W0 nd); have EW := Aside0.mk (HB.out.below D0.out); have R6 := Aside0.mk (blk_below R5.out D0.out); have BB := Aside0.mk (pm_chain B0.out D0.out); clear c0 R5 HB B0 D0; generalize W0.drewN nd = W1 at EW R6 BB ⊢; have c0 := (blk_cell R6.out 0).trans rfl; have c1 := (blk_cell R6.out 1).trans rfl; have c4 := (blk_cell R6.out 4).trans rfl; have ka := EW.out.kr (reg_get EW.out HA.out); have hz := HZ.out; try rw [hz] at ka))
  refine wp_region_still_tail 10 (by kernel_rfl) (by kernel_rfl) ?_
  simp only [List.take_succ_cons, List.take_zero, List.drop_succ_cons, List.drop_zero]
  repeat (with_reducible refine wpStill_step (fun K hK => ?_); go_simp; with_reducible refine hK _ ?_; clear hK K)
  with_reducible refine wpStill_nil ?_
  change wpList _ _ _ _ _ W1.drew
  go_wp2_with (fail)
  all_goals go_ret
  all_goals exact ⟨rfl, did_of (Did.same H.out (pm_chain BB.out (Below.refl _ _).drew)) fun _ => rfl⟩
set_option maxHeartbeats 4000000 in
set_option maxRecDepth 100000 in
theorem do_98z (h : EM w c pg ps S inp out) (x : I5) (hop : x.op = 98) (ha : x.a < 16) (hb : x.b < 16) (hd : x.c < 16) (hi : -8388608 ≤ x.imm ∧ x.imm ≤ 8388607) (hz : regV S x.a = 0) :
    Calls Tryd.prog 29 #[.pointer (some ⟨c, 0, none⟩), x.enc] w fun e w' => e = .returned (doF ps S x inp out).err ∧ (doF ps S x inp out).did w w' c pg ps S := by
  obtain ⟨op, a, b, d, imm⟩ := x
  unfold I5.enc
  simp only at hop ha hb hd hi ⊢
  subst hop
  have hz : regV S a = 0 := hz
  rw [show doF ps S ⟨98, a, b, d, imm⟩ inp out = ⟨.nilIface, S, byteAt ps, inp, out⟩ by rw [show doF ps S ⟨98, a, b, d, imm⟩ inp out = ⟨.nilIface, if regV S a = 0 then S else { S with pc := jumpF S.pc imm }, byteAt ps, inp, out⟩ from rfl]; first | rw [if_pos hz] | rw [if_neg hz]]
  have ia := idx16 ha
  have HZ := Aside0.mk hz
  clear hz
  have HF := Aside0.mk (show enc_Form.f 20 98 = some 3 by rfl)
  have H := Aside0.mk h
  have HI := Aside0.mk hi
  have HA := Aside0.mk ha
  have HBB := Aside0.mk hb
  have HDD := Aside0.mk hd
  have B0 := Aside0.mk (show Below w.heap.size w (w.alloc (.cells #[.int .i64 98, .int .i64 a, .int .i64 b, .int .i64 d, .int .i64 imm] 67)) from below_alloc (Below.refl _ _) _)
  have HB := Aside0.mk (h.below B0.out)
  have R5 := Aside0.mk (show (w.alloc (.cells #[.int .i64 98, .int .i64 a, .int .i64 b, .int .i64 d, .int .i64 imm] 67)).heap[w.heap.size]? = some (.cells #[.int .i64 98, .int .i64 a, .int .i64 b, .int .i64 d, .int .i64 imm] 67 (0, 0)) from heap_at _ _ _ rfl)
  have NG := Aside0.mk (show w.heap.size ∉ foot c pg ps S from fun hh => absurd (h.foot_lt _ hh) (by omega))
  have HS := Aside0.mk (show w.heap.size ≤ w.heap.size from Nat.le_refl _)
  clear h hi ha hb hd
  go_enter Tryd.func29, Tryd.ntmps29
  go_upto_region 2 with (fail)
  generalize (w.alloc (.cells #[.int .i64 98, .int .i64 a, .int .i64 b, .int .i64 d, .int .i64 imm] 67)) = W0 at HB R5 B0 ⊢
  generalize hg5 : w.heap.size = g5 at R5 NG HS ⊢
  clear hg5
  have c0 := (blk_cell R5.out 0).trans rfl
  go_wp2_with (first | (go_at_call 38; refine (enc_Form.calls 20 _ _ _ HF.out).mono ?_; rintro e w' ⟨rfl, ⟨nd, rfl⟩⟩; have D0 := Aside0.mk (below_dN W0 nd); have EW := Aside0.mk (HB.out.below D0.out); have R6 := Aside0.mk (blk_below R5.out D0.out); have BB := Aside0.mk (pm_chain B0.out D0.out); clear c0 R5 HB B0 D0; generalize W0.drewN nd = W1 at EW R6 BB ⊢; have c0 := (blk_cell R6.out 0).trans rfl; have c1 := (blk_cell R6.out 1).trans rfl; have c4 := (blk_cell R6.out 4).trans rfl; have ka := EW.out.kr (reg_get EW.out HA.out); have hz := HZ.out; try rw [hz] at ka))
  refine wp_region_still_tail 10 (by kernel_rfl) (by kernel_rfl) ?_
  simp only [List.take_succ_cons, List.take_zero, List.drop_succ_cons, List.drop_zero]
  repeat (with_reducible refine wpStill_step (fun K hK => ?_); go_simp; with_reducible refine hK _ ?_; clear hK K)
  with_reducible refine wpStill_nil ?_
  change wpList _ _ _ _ _ W1.drew
  go_wp2_with (fail)
  all_goals go_ret
  all_goals exact ⟨rfl, did_of (Did.same H.out (pm_chain BB.out (Below.refl _ _).drew)) fun _ => rfl⟩
set_option maxHeartbeats 4000000 in
set_option maxRecDepth 100000 in
theorem do_98n (h : EM w c pg ps S inp out) (x : I5) (hop : x.op = 98) (ha : x.a < 16) (hb : x.b < 16) (hd : x.c < 16) (hi : -8388608 ≤ x.imm ∧ x.imm ≤ 8388607) (hz : ¬ regV S x.a = 0) :
    Calls Tryd.prog 29 #[.pointer (some ⟨c, 0, none⟩), x.enc] w fun e w' => e = .returned (doF ps S x inp out).err ∧ (doF ps S x inp out).did w w' c pg ps S := by
  obtain ⟨op, a, b, d, imm⟩ := x
  unfold I5.enc
  simp only at hop ha hb hd hi ⊢
  subst hop
  have hz : ¬ regV S a = 0 := hz
  rw [show doF ps S ⟨98, a, b, d, imm⟩ inp out = ⟨.nilIface, { S with pc := jumpF S.pc imm }, byteAt ps, inp, out⟩ by rw [show doF ps S ⟨98, a, b, d, imm⟩ inp out = ⟨.nilIface, if regV S a = 0 then S else { S with pc := jumpF S.pc imm }, byteAt ps, inp, out⟩ from rfl]; first | rw [if_pos hz] | rw [if_neg hz]]
  have ia := idx16 ha
  have HZ := Aside0.mk hz
  clear hz
  have HF := Aside0.mk (show enc_Form.f 20 98 = some 3 by rfl)
  have H := Aside0.mk h
  have HI := Aside0.mk hi
  have HA := Aside0.mk ha
  have HBB := Aside0.mk hb
  have HDD := Aside0.mk hd
  have B0 := Aside0.mk (show Below w.heap.size w (w.alloc (.cells #[.int .i64 98, .int .i64 a, .int .i64 b, .int .i64 d, .int .i64 imm] 67)) from below_alloc (Below.refl _ _) _)
  have HB := Aside0.mk (h.below B0.out)
  have R5 := Aside0.mk (show (w.alloc (.cells #[.int .i64 98, .int .i64 a, .int .i64 b, .int .i64 d, .int .i64 imm] 67)).heap[w.heap.size]? = some (.cells #[.int .i64 98, .int .i64 a, .int .i64 b, .int .i64 d, .int .i64 imm] 67 (0, 0)) from heap_at _ _ _ rfl)
  have NG := Aside0.mk (show w.heap.size ∉ foot c pg ps S from fun hh => absurd (h.foot_lt _ hh) (by omega))
  have HS := Aside0.mk (show w.heap.size ≤ w.heap.size from Nat.le_refl _)
  clear h hi ha hb hd
  go_enter Tryd.func29, Tryd.ntmps29
  go_upto_region 2 with (fail)
  generalize (w.alloc (.cells #[.int .i64 98, .int .i64 a, .int .i64 b, .int .i64 d, .int .i64 imm] 67)) = W0 at HB R5 B0 ⊢
  generalize hg5 : w.heap.size = g5 at R5 NG HS ⊢
  clear hg5
  have c0 := (blk_cell R5.out 0).trans rfl
  go_wp2_with (first | (go_at_call 38; refine (enc_Form.calls 20 _ _ _ HF.out).mono ?_; rintro e w' ⟨rfl, ⟨nd, rfl⟩⟩; have D0 := Aside0.mk (below_dN W0 nd); have EW := Aside0.mk (HB.out.below D0.out); have R6 := Aside0.mk (blk_below R5.out D0.out); have BB := Aside0.mk (pm_chain B0.out D0.out); clear c0 R5 HB B0 D0; generalize W0.drewN nd = W1 at EW R6 BB ⊢; have c0 := (blk_cell R6.out 0).trans rfl; have c1 := (blk_cell R6.out 1).trans rfl; have c4 := (blk_cell R6.out 4).trans rfl; have ka := EW.out.kr (reg_get EW.out HA.out); have hz := HZ.out; try rw [hz] at ka))
  refine wp_region_still_tail 10 (by kernel_rfl) (by kernel_rfl) ?_
  simp only [List.take_succ_cons, List.take_zero, List.drop_succ_cons, List.drop_zero]
  repeat (with_reducible refine wpStill_step (fun K hK => ?_); go_simp; with_reducible refine hK _ ?_; clear hK K)
  with_reducible refine wpStill_nil ?_
  change wpList _ _ _ _ _ W1.drew
  go_wp2_with (first | (go_at_call 42; refine (jump_calls (EW.out.below (by (repeat (first | (with_reducible exact Below.refl _ _) | (with_reducible assumption) | with_reducible apply below_alloc | with_reducible apply pw_below_drewN | with_reducible apply below_drew1)))) imm HI.out).mono ?_; rintro e w' ⟨rfl, hd⟩))
  all_goals first | (rename_i q; exfalso; revert q; simp [hz]; done) | skip
  all_goals go_ret
  all_goals exact ⟨rfl, did_of (Did.pre (pm_chain BB.out (Below.refl _ _).drew) hd) fun _ => rfl⟩
set_option maxHeartbeats 4000000 in
set_option maxRecDepth 100000 in
theorem do_99 (h : EM w c pg ps S inp out) (x : I5) (hop : x.op = 99) (ha : x.a < 16) (hb : x.b < 16) (hd : x.c < 16) (hi : -8388608 ≤ x.imm ∧ x.imm ≤ 8388607) :
    Calls Tryd.prog 29 #[.pointer (some ⟨c, 0, none⟩), x.enc] w fun e w' => e = .returned (doF ps S x inp out).err ∧ (doF ps S x inp out).did w w' c pg ps S := by
  obtain ⟨op, a, b, d, imm⟩ := x
  unfold I5.enc
  simp only at hop ha hb hd hi ⊢
  subst hop
  rw [show doF ps S ⟨99, a, b, d, imm⟩ inp out = ⟨.nilIface, { setR S 14 S.pc with pc := jumpF S.pc imm }, byteAt ps, inp, out⟩ from rfl]
  have HP := Aside0.mk h.pcIn
  have HF := Aside0.mk (show enc_Form.f 20 99 = some 5 by rfl)
  have H := Aside0.mk h
  have HI := Aside0.mk hi
  have HA := Aside0.mk ha
  have HBB := Aside0.mk hb
  have HDD := Aside0.mk hd
  have B0 := Aside0.mk (show Below w.heap.size w (w.alloc (.cells #[.int .i64 99, .int .i64 a, .int .i64 b, .int .i64 d, .int .i64 imm] 67)) from below_alloc (Below.refl _ _) _)
  have HB := Aside0.mk (h.below B0.out)
  have R5 := Aside0.mk (show (w.alloc (.cells #[.int .i64 99, .int .i64 a, .int .i64 b, .int .i64 d, .int .i64 imm] 67)).heap[w.heap.size]? = some (.cells #[.int .i64 99, .int .i64 a, .int .i64 b, .int .i64 d, .int .i64 imm] 67 (0, 0)) from heap_at _ _ _ rfl)
  have NG := Aside0.mk (show w.heap.size ∉ foot c pg ps S from fun hh => absurd (h.foot_lt _ hh) (by omega))
  have HS := Aside0.mk (show w.heap.size ≤ w.heap.size from Nat.le_refl _)
  clear h hi ha hb hd
  go_enter Tryd.func29, Tryd.ntmps29
  go_upto_region 2 with (fail)
  generalize (w.alloc (.cells #[.int .i64 99, .int .i64 a, .int .i64 b, .int .i64 d, .int .i64 imm] 67)) = W0 at HB R5 B0 ⊢
  generalize hg5 : w.heap.size = g5 at R5 NG HS ⊢
  clear hg5
  have c0 := (blk_cell R5.out 0).trans rfl
  go_wp2_with (first | (go_at_call 38; refine (enc_Form.calls 20 _ _ _ HF.out).mono ?_; rintro e w' ⟨rfl, ⟨nd, rfl⟩⟩; have D0 := Aside0.mk (below_dN W0 nd); have EW := Aside0.mk (HB.out.below D0.out); have R6 := Aside0.mk (blk_below R5.out D0.out); have BB := Aside0.mk (pm_chain B0.out D0.out); clear c0 R5 HB B0 D0; generalize W0.drewN nd = W1 at EW R6 BB ⊢; have c0 := (blk_cell R6.out 0).trans rfl; have c4 := (blk_cell R6.out 4).trans rfl; have k2 := EW.out.k2; have k14 := EW.out.kr (reg_get EW.out (a := 14) (by decide)); have fa := EW.out.fz (3 + 14)))
  refine wp_region_still_tail 7 (by kernel_rfl) (by kernel_rfl) ?_
  simp only [List.take_succ_cons, List.take_zero, List.drop_succ_cons, List.drop_zero]
  repeat (with_reducible refine wpStill_step (fun K hK => ?_); go_simp; with_reducible refine hK _ ?_; clear hK K)
  with_reducible refine wpStill_nil ?_
  change wpList _ _ _ _ _ W1.drew
  have EX := Aside0.mk ((EW.out.below (Below.refl _ _).drew).set_reg 14 (by decide) _ HP.out.1 HP.out.2)
  have c4' := far_cell (j := 3 + 14) (u := .int .u32 S.pc) c4 (show Below W1.heap.size W1 W1.drew from (Below.refl _ _).drew) (show ¬ c = g5 from fun e => NG.out (by rw [← e]; simp [foot]))
  go_wp2_with (first | (go_at_call 42; refine (jump_calls (EX.out.em) imm HI.out).mono ?_; rintro e w' ⟨rfl, hd⟩))
  all_goals go_ret
  all_goals exact ⟨rfl, did_of (Did.pre (pm_chain BB.out (Below.refl _ _).drew) (EX.out.trans hd)) fun _ => rfl⟩
end Go.Proofs.YtejhnlljddjicaaDoor.Ma
namespace Go.Proofs.YtejhnlljddjicaaDoor.Ma
open Go.RowKit Go.Proofs.YtejhnlljddjicaaDoor.PEm Go.Proofs.YtejhnlljddjicaaDoorW.PrintWords Go.Proofs.YtejhnlljddjicaaDoorW.PrintLast Go.Proofs.YtejhnlljddjicaaDoorW.PrintMore Go.Proofs.YtejhnlljddjicaaDoor.La
set_option linter.unusedVariables false
set_option linter.unusedSimpArgs false
variable {w w' : World} {c pg : Nat} {ps ps' : Pages} {S S' : Cpu} {inp out inp' out' : List Int}
theorem Int_still (a : Int) (w : World) : Calls Tryd.prog 43 #[.int .u32 a] w fun e w' => e = .returned (.int .i64 (wrap64 (wrap32 a))) ∧ w' = w := by
  go_enter Tryd.func43, Tryd.ntmps43
  go_wp2_with (fail)
  go_ret
  exact ⟨rfl, rfl⟩
set_option maxHeartbeats 4000000 in
set_option maxRecDepth 100000 in
theorem do_105 (h : EM w c pg ps S inp out) (x : I5) (hop : x.op = 105) (ha : x.a < 16) (hb : x.b < 16) (hd : x.c < 16) (hi : -8388608 ≤ x.imm ∧ x.imm ≤ 16777216) :
    Calls Tryd.prog 29 #[.pointer (some ⟨c, 0, none⟩), x.enc] w fun e w' => e = .returned (doF ps S x inp out).err ∧ (doF ps S x inp out).did w w' c pg ps S := by
  obtain ⟨op, a, b, d, imm⟩ := x
  unfold I5.enc
  simp only at hop ha hb hd hi ⊢
  subst hop
  rw [show doF ps S ⟨105, a, b, d, imm⟩ inp out = ⟨.nilIface, setR S 15 ((regV S 15 + imm % 4294967296) % 4294967296), byteAt ps, inp, out⟩ from rfl]
  have hw : IntKind.u32.wrap imm = imm % 4294967296 := IntKind.wrap_u32 _
  have HW1 := Aside0.mk (show IntKind.u32.wrap (regV S 15 + imm % 4294967296) = (regV S 15 + imm % 4294967296) % 4294967296 from IntKind.wrap_u32 _)
  rw [show (regV S 15 + imm % 4294967296) % 4294967296 = (regV S 15 + imm) % 4294967296 by omega]
  have HF := Aside0.mk (show enc_Form.f 20 105 = some 6 by rfl)
  have H := Aside0.mk h
  have HI := Aside0.mk hi
  have HA := Aside0.mk ha
  have HBB := Aside0.mk hb
  have HDD := Aside0.mk hd
  have B0 := Aside0.mk (show Below w.heap.size w (w.alloc (.cells #[.int .i64 105, .int .i64 a, .int .i64 b, .int .i64 d, .int .i64 imm] 67)) from below_alloc (Below.refl _ _) _)
  have HB := Aside0.mk (h.below B0.out)
  have R5 := Aside0.mk (show (w.alloc (.cells #[.int .i64 105, .int .i64 a, .int .i64 b, .int .i64 d, .int .i64 imm] 67)).heap[w.heap.size]? = some (.cells #[.int .i64 105, .int .i64 a, .int .i64 b, .int .i64 d, .int .i64 imm] 67 (0, 0)) from heap_at _ _ _ rfl)
  have NG := Aside0.mk (show w.heap.size ∉ foot c pg ps S from fun hh => absurd (h.foot_lt _ hh) (by omega))
  have HS := Aside0.mk (show w.heap.size ≤ w.heap.size from Nat.le_refl _)
  clear h hi ha hb hd
  go_enter Tryd.func29, Tryd.ntmps29
  go_upto_region 2 with (fail)
  generalize (w.alloc (.cells #[.int .i64 105, .int .i64 a, .int .i64 b, .int .i64 d, .int .i64 imm] 67)) = W0 at HB R5 B0 ⊢
  generalize hg5 : w.heap.size = g5 at R5 NG HS ⊢
  clear hg5
  have c0 := (blk_cell R5.out 0).trans rfl
  go_wp2_with (first | (go_at_call 38; refine (enc_Form.calls 20 _ _ _ HF.out).mono ?_; rintro e w' ⟨rfl, ⟨nd, rfl⟩⟩; have D0 := Aside0.mk (below_dN W0 nd); have EW := Aside0.mk (HB.out.below D0.out); have R6 := Aside0.mk (blk_below R5.out D0.out); have BB := Aside0.mk (pm_chain B0.out D0.out); clear c0 R5 HB B0 D0; generalize W0.drewN nd = W1 at EW R6 BB ⊢; have c0 := (blk_cell R6.out 0).trans rfl; have c4 := (blk_cell R6.out 4).trans rfl; have k15 := EW.out.kr (reg_get EW.out (a := 15) (by decide)); have fa := EW.out.fz (3 + 15); have hw1 := HW1.out))
  refine wp_region_still_tail 10 (by kernel_rfl) (by kernel_rfl) ?_
  simp only [List.take_succ_cons, List.take_zero, List.drop_succ_cons, List.drop_zero]
  repeat (with_reducible refine wpStill_step (fun K hK => ?_); go_simp; with_reducible refine hK _ ?_; clear hK K)
  with_reducible refine wpStill_nil ?_
  change wpList _ _ _ _ _ W1.drew
  all_goals go_wp2_with (fail)
  all_goals go_ret
  all_goals exact ⟨rfl, did_of (Did.pre BB.out ((EW.out.set_reg 15 (by decide) ((regV S 15 + imm) % 4294967296) (by first | omega | exact HR.out.1) (by first | omega | exact HR.out.2)).then_below (Below.refl _ _).drew)) fun _ => rfl⟩
set_option maxHeartbeats 4000000 in
set_option maxRecDepth 100000 in
theorem do_104a (h : EM w c pg ps S inp out) (x : I5) (hop : x.op = 104) (ha : x.a < 16) (hb : x.b < 16) (hd : x.c < 16) (hi : -8388608 ≤ x.imm ∧ x.imm ≤ 16777216) (hz : regV S 15 < x.imm % 4294967296) :
    Calls Tryd.prog 29 #[.pointer (some ⟨c, 0, none⟩), x.enc] w fun e w' => e = .returned (doF ps S x inp out).err ∧ (doF ps S x inp out).did w w' c pg ps S := by
  obtain ⟨op, a, b, d, imm⟩ := x
  unfold I5.enc
  simp only at hop ha hb hd hi ⊢
  subst hop
  have hz : regV S 15 < imm % 4294967296 := hz
  have hq := h.regIn _ (List.mem_of_getElem? (reg_get h (a := 15) (by decide)))
  rw [show doF ps S ⟨104, a, b, d, imm⟩ inp out = ⟨errT 4, S, byteAt ps, inp, out⟩ by rw [show doF ps S ⟨104, a, b, d, imm⟩ inp out = (if regV S 15 < imm % 4294967296 ∨ regV S 15 - imm % 4294967296 < 4194304 then ⟨errT 4, S, byteAt ps, inp, out⟩ else ⟨.nilIface, setR S 15 (regV S 15 - imm % 4294967296), byteAt ps, inp, out⟩) from rfl]; first | rw [if_pos (by omega)] | rw [if_neg (by omega)]]
  have hw : IntKind.u32.wrap imm = imm % 4294967296 := IntKind.wrap_u32 _
  have HV := Aside0.mk hq
  have HZ := Aside0.mk hz
  clear hz hq
  have HF := Aside0.mk (show enc_Form.f 20 104 = some 6 by rfl)
  have H := Aside0.mk h
  have HI := Aside0.mk hi
  have HA := Aside0.mk ha
  have HBB := Aside0.mk hb
  have HDD := Aside0.mk hd
  have B0 := Aside0.mk (show Below w.heap.size w (w.alloc (.cells #[.int .i64 104, .int .i64 a, .int .i64 b, .int .i64 d, .int .i64 imm] 67)) from below_alloc (Below.refl _ _) _)
  have HB := Aside0.mk (h.below B0.out)
  have R5 := Aside0.mk (show (w.alloc (.cells #[.int .i64 104, .int .i64 a, .int .i64 b, .int .i64 d, .int .i64 imm] 67)).heap[w.heap.size]? = some (.cells #[.int .i64 104, .int .i64 a, .int .i64 b, .int .i64 d, .int .i64 imm] 67 (0, 0)) from heap_at _ _ _ rfl)
  have NG := Aside0.mk (show w.heap.size ∉ foot c pg ps S from fun hh => absurd (h.foot_lt _ hh) (by omega))
  have HS := Aside0.mk (show w.heap.size ≤ w.heap.size from Nat.le_refl _)
  clear h hi ha hb hd
  go_enter Tryd.func29, Tryd.ntmps29
  go_upto_region 2 with (fail)
  generalize (w.alloc (.cells #[.int .i64 104, .int .i64 a, .int .i64 b, .int .i64 d, .int .i64 imm] 67)) = W0 at HB R5 B0 ⊢
  generalize hg5 : w.heap.size = g5 at R5 NG HS ⊢
  clear hg5
  have c0 := (blk_cell R5.out 0).trans rfl
  go_wp2_with (first | (go_at_call 38; refine (enc_Form.calls 20 _ _ _ HF.out).mono ?_; rintro e w' ⟨rfl, ⟨nd, rfl⟩⟩; have D0 := Aside0.mk (below_dN W0 nd); have EW := Aside0.mk (HB.out.below D0.out); have R6 := Aside0.mk (blk_below R5.out D0.out); have BB := Aside0.mk (pm_chain B0.out D0.out); clear c0 R5 HB B0 D0; generalize W0.drewN nd = W1 at EW R6 BB ⊢; have c0 := (blk_cell R6.out 0).trans rfl; have c4 := (blk_cell R6.out 4).trans rfl; have k15 := EW.out.kr (reg_get EW.out (a := 15) (by decide)); have fa := EW.out.fz (3 + 15); have hz := HZ.out))
  go_wp2_with (fail)
  all_goals go_ret
  all_goals exact ⟨rfl, did_of (Did.same H.out BB.out) fun _ => rfl⟩
set_option maxHeartbeats 4000000 in
set_option maxRecDepth 100000 in
theorem do_104b (h : EM w c pg ps S inp out) (x : I5) (hop : x.op = 104) (ha : x.a < 16) (hb : x.b < 16) (hd : x.c < 16) (hi : -8388608 ≤ x.imm ∧ x.imm ≤ 16777216) (hz : ¬ regV S 15 < x.imm % 4294967296 ∧ regV S 15 - x.imm % 4294967296 < 4194304) :
    Calls Tryd.prog 29 #[.pointer (some ⟨c, 0, none⟩), x.enc] w fun e w' => e = .returned (doF ps S x inp out).err ∧ (doF ps S x inp out).did w w' c pg ps S := by
  obtain ⟨op, a, b, d, imm⟩ := x
  unfold I5.enc
  simp only at hop ha hb hd hi ⊢
  subst hop
  have hz : ¬ regV S 15 < imm % 4294967296 ∧ regV S 15 - imm % 4294967296 < 4194304 := hz
  have hq := h.regIn _ (List.mem_of_getElem? (reg_get h (a := 15) (by decide)))
  rw [show doF ps S ⟨104, a, b, d, imm⟩ inp out = ⟨errT 4, S, byteAt ps, inp, out⟩ by rw [show doF ps S ⟨104, a, b, d, imm⟩ inp out = (if regV S 15 < imm % 4294967296 ∨ regV S 15 - imm % 4294967296 < 4194304 then ⟨errT 4, S, byteAt ps, inp, out⟩ else ⟨.nilIface, setR S 15 (regV S 15 - imm % 4294967296), byteAt ps, inp, out⟩) from rfl]; first | rw [if_pos (by omega)] | rw [if_neg (by omega)]]
  have hw : IntKind.u32.wrap imm = imm % 4294967296 := IntKind.wrap_u32 _
  have HV := Aside0.mk hq
  have HW1 := Aside0.mk (show IntKind.u32.wrap (regV S 15 - imm % 4294967296) = regV S 15 - imm % 4294967296 by rw [IntKind.wrap_u32]; omega)
  have HR := Aside0.mk (show 0 ≤ regV S 15 - imm % 4294967296 ∧ regV S 15 - imm % 4294967296 < 4294967296 by omega)
  have HZ := Aside0.mk hz
  clear hz hq
  have HF := Aside0.mk (show enc_Form.f 20 104 = some 6 by rfl)
  have H := Aside0.mk h
  have HI := Aside0.mk hi
  have HA := Aside0.mk ha
  have HBB := Aside0.mk hb
  have HDD := Aside0.mk hd
  have B0 := Aside0.mk (show Below w.heap.size w (w.alloc (.cells #[.int .i64 104, .int .i64 a, .int .i64 b, .int .i64 d, .int .i64 imm] 67)) from below_alloc (Below.refl _ _) _)
  have HB := Aside0.mk (h.below B0.out)
  have R5 := Aside0.mk (show (w.alloc (.cells #[.int .i64 104, .int .i64 a, .int .i64 b, .int .i64 d, .int .i64 imm] 67)).heap[w.heap.size]? = some (.cells #[.int .i64 104, .int .i64 a, .int .i64 b, .int .i64 d, .int .i64 imm] 67 (0, 0)) from heap_at _ _ _ rfl)
  have NG := Aside0.mk (show w.heap.size ∉ foot c pg ps S from fun hh => absurd (h.foot_lt _ hh) (by omega))
  have HS := Aside0.mk (show w.heap.size ≤ w.heap.size from Nat.le_refl _)
  clear h hi ha hb hd
  go_enter Tryd.func29, Tryd.ntmps29
  go_upto_region 2 with (fail)
  generalize (w.alloc (.cells #[.int .i64 104, .int .i64 a, .int .i64 b, .int .i64 d, .int .i64 imm] 67)) = W0 at HB R5 B0 ⊢
  generalize hg5 : w.heap.size = g5 at R5 NG HS ⊢
  clear hg5
  have c0 := (blk_cell R5.out 0).trans rfl
  go_wp2_with (first | (go_at_call 38; refine (enc_Form.calls 20 _ _ _ HF.out).mono ?_; rintro e w' ⟨rfl, ⟨nd, rfl⟩⟩; have D0 := Aside0.mk (below_dN W0 nd); have EW := Aside0.mk (HB.out.below D0.out); have R6 := Aside0.mk (blk_below R5.out D0.out); have BB := Aside0.mk (pm_chain B0.out D0.out); clear c0 R5 HB B0 D0; generalize W0.drewN nd = W1 at EW R6 BB ⊢; have c0 := (blk_cell R6.out 0).trans rfl; have c4 := (blk_cell R6.out 4).trans rfl; have k15 := EW.out.kr (reg_get EW.out (a := 15) (by decide)); have fa := EW.out.fz (3 + 15); have hz := HZ.out.1; have hy := HZ.out.2; have hw1 := HW1.out))
  go_wp2_with (fail)
  all_goals go_ret
  all_goals exact ⟨rfl, did_of (Did.same H.out BB.out) fun _ => rfl⟩
set_option maxHeartbeats 4000000 in
set_option maxRecDepth 100000 in
theorem do_104c (h : EM w c pg ps S inp out) (x : I5) (hop : x.op = 104) (ha : x.a < 16) (hb : x.b < 16) (hd : x.c < 16) (hi : -8388608 ≤ x.imm ∧ x.imm ≤ 16777216) (hz : ¬ regV S 15 < x.imm % 4294967296 ∧ ¬ regV S 15 - x.imm % 4294967296 < 4194304) :
    Calls Tryd.prog 29 #[.pointer (some ⟨c, 0, none⟩), x.enc] w fun e w' => e = .returned (doF ps S x inp out).err ∧ (doF ps S x inp out).did w w' c pg ps S := by
  obtain ⟨op, a, b, d, imm⟩ := x
  unfold I5.enc
  simp only at hop ha hb hd hi ⊢
  subst hop
  have hz : ¬ regV S 15 < imm % 4294967296 ∧ ¬ regV S 15 - imm % 4294967296 < 4194304 := hz
  have hq := h.regIn _ (List.mem_of_getElem? (reg_get h (a := 15) (by decide)))
  rw [show doF ps S ⟨104, a, b, d, imm⟩ inp out = ⟨.nilIface, setR S 15 (regV S 15 - imm % 4294967296), byteAt ps, inp, out⟩ by rw [show doF ps S ⟨104, a, b, d, imm⟩ inp out = (if regV S 15 < imm % 4294967296 ∨ regV S 15 - imm % 4294967296 < 4194304 then ⟨errT 4, S, byteAt ps, inp, out⟩ else ⟨.nilIface, setR S 15 (regV S 15 - imm % 4294967296), byteAt ps, inp, out⟩) from rfl]; first | rw [if_pos (by omega)] | rw [if_neg (by omega)]]
  have hw : IntKind.u32.wrap imm = imm % 4294967296 := IntKind.wrap_u32 _
  have HV := Aside0.mk hq
  have HW1 := Aside0.mk (show IntKind.u32.wrap (regV S 15 - imm % 4294967296) = regV S 15 - imm % 4294967296 by rw [IntKind.wrap_u32]; omega)
  have HR := Aside0.mk (show 0 ≤ regV S 15 - imm % 4294967296 ∧ regV S 15 - imm % 4294967296 < 4294967296 by omega)
  have HZ := Aside0.mk hz
  clear hz hq
  have HF := Aside0.mk (show enc_Form.f 20 104 = some 6 by rfl)
  have H := Aside0.mk h
  have HI := Aside0.mk hi
  have HA := Aside0.mk ha
  have HBB := Aside0.mk hb
  have HDD := Aside0.mk hd
  have B0 := Aside0.mk (show Below w.heap.size w (w.alloc (.cells #[.int .i64 104, .int .i64 a, .int .i64 b, .int .i64 d, .int .i64 imm] 67)) from below_alloc (Below.refl _ _) _)
  have HB := Aside0.mk (h.below B0.out)
  have R5 := Aside0.mk (show (w.alloc (.cells #[.int .i64 104, .int .i64 a, .int .i64 b, .int .i64 d, .int .i64 imm] 67)).heap[w.heap.size]? = some (.cells #[.int .i64 104, .int .i64 a, .int .i64 b, .int .i64 d, .int .i64 imm] 67 (0, 0)) from heap_at _ _ _ rfl)
  have NG := Aside0.mk (show w.heap.size ∉ foot c pg ps S from fun hh => absurd (h.foot_lt _ hh) (by omega))
  have HS := Aside0.mk (show w.heap.size ≤ w.heap.size from Nat.le_refl _)
  clear h hi ha hb hd
  go_enter Tryd.func29, Tryd.ntmps29
  go_upto_region 2 with (fail)
  generalize (w.alloc (.cells #[.int .i64 104, .int .i64 a, .int .i64 b, .int .i64 d, .int .i64 imm] 67)) = W0 at HB R5 B0 ⊢
  generalize hg5 : w.heap.size = g5 at R5 NG HS ⊢
  clear hg5
  have c0 := (blk_cell R5.out 0).trans rfl
  go_wp2_with (first | (go_at_call 38; refine (enc_Form.calls 20 _ _ _ HF.out).mono ?_; rintro e w' ⟨rfl, ⟨nd, rfl⟩⟩; have D0 := Aside0.mk (below_dN W0 nd); have EW := Aside0.mk (HB.out.below D0.out); have R6 := Aside0.mk (blk_below R5.out D0.out); have BB := Aside0.mk (pm_chain B0.out D0.out); clear c0 R5 HB B0 D0; generalize W0.drewN nd = W1 at EW R6 BB ⊢; have c0 := (blk_cell R6.out 0).trans rfl; have c4 := (blk_cell R6.out 4).trans rfl; have k15 := EW.out.kr (reg_get EW.out (a := 15) (by decide)); have fa := EW.out.fz (3 + 15); have hz := HZ.out.1; have hy := HZ.out.2; have hw1 := HW1.out))
  go_upto_region 29 with (fail)
  refine wp_region_still_tail 8 (by kernel_rfl) (by kernel_rfl) ?_
  simp only [List.take_succ_cons, List.take_zero, List.drop_succ_cons, List.drop_zero]
  repeat (with_reducible refine wpStill_step (fun K hK => ?_); go_simp; with_reducible refine hK _ ?_; clear hK K)
  with_reducible refine wpStill_nil ?_
  change wpList _ _ _ _ _ W1.drew
  all_goals go_wp2_with (fail)
  all_goals go_ret
  all_goals exact ⟨rfl, did_of (Did.pre BB.out ((EW.out.set_reg 15 (by decide) (regV S 15 - imm % 4294967296) (by first | omega | exact HR.out.1) (by first | omega | exact HR.out.2)).then_below (Below.refl _ _).drew)) fun _ => rfl⟩
set_option maxHeartbeats 4000000 in
set_option maxRecDepth 100000 in
theorem do_114 (h : EM w c pg ps S inp out) (x : I5) (hop : x.op = 114) (ha : x.a < 16) (hb : x.b < 16) (hd : x.c < 16) (hi : -8388608 ≤ x.imm ∧ x.imm ≤ 16777216) :
    Calls Tryd.prog 29 #[.pointer (some ⟨c, 0, none⟩), x.enc] w fun e w' => e = .returned (doF ps S x inp out).err ∧ (doF ps S x inp out).did w w' c pg ps S := by
  obtain ⟨op, a, b, d, imm⟩ := x
  unfold I5.enc
  simp only at hop ha hb hd hi ⊢
  subst hop
  rw [show doF ps S ⟨114, a, b, d, imm⟩ inp out = ⟨stopV 1 (wrap64 (wrap32 (regV S a))), S, byteAt ps, inp, out⟩ by
    rw [show doF ps S ⟨114, a, b, d, imm⟩ inp out = ⟨stopV 1 (if regV S a < 2147483648 then regV S a else regV S a - 4294967296), S, byteAt ps, inp, out⟩ from rfl, show wrap64 (wrap32 (regV S a)) = if regV S a < 2147483648 then regV S a else regV S a - 4294967296 by
      have := h.regIn _ (List.mem_of_getElem? (reg_get h ha)); unfold wrap64 wrap32; split <;> omega]]
  have ia := idx16 ha
  have HF := Aside0.mk (show enc_Form.f 20 114 = some 7 by rfl)
  have H := Aside0.mk h
  have HI := Aside0.mk hi
  have HA := Aside0.mk ha
  have HBB := Aside0.mk hb
  have HDD := Aside0.mk hd
  have B0 := Aside0.mk (show Below w.heap.size w (w.alloc (.cells #[.int .i64 114, .int .i64 a, .int .i64 b, .int .i64 d, .int .i64 imm] 67)) from below_alloc (Below.refl _ _) _)
  have HB := Aside0.mk (h.below B0.out)
  have R5 := Aside0.mk (show (w.alloc (.cells #[.int .i64 114, .int .i64 a, .int .i64 b, .int .i64 d, .int .i64 imm] 67)).heap[w.heap.size]? = some (.cells #[.int .i64 114, .int .i64 a, .int .i64 b, .int .i64 d, .int .i64 imm] 67 (0, 0)) from heap_at _ _ _ rfl)
  have NG := Aside0.mk (show w.heap.size ∉ foot c pg ps S from fun hh => absurd (h.foot_lt _ hh) (by omega))
  have HS := Aside0.mk (show w.heap.size ≤ w.heap.size from Nat.le_refl _)
  clear h hi ha hb hd
  go_enter Tryd.func29, Tryd.ntmps29
  go_upto_region 2 with (fail)
  generalize (w.alloc (.cells #[.int .i64 114, .int .i64 a, .int .i64 b, .int .i64 d, .int .i64 imm] 67)) = W0 at HB R5 B0 ⊢
  generalize hg5 : w.heap.size = g5 at R5 NG HS ⊢
  clear hg5
  have c0 := (blk_cell R5.out 0).trans rfl
  go_wp2_with (first | (go_at_call 38; refine (enc_Form.calls 20 _ _ _ HF.out).mono ?_; rintro e w' ⟨rfl, ⟨nd, rfl⟩⟩; have D0 := Aside0.mk (below_dN W0 nd); have EW := Aside0.mk (HB.out.below D0.out); have R6 := Aside0.mk (blk_below R5.out D0.out); have BB := Aside0.mk (pm_chain B0.out D0.out); clear c0 R5 HB B0 D0; generalize W0.drewN nd = W1 at EW R6 BB ⊢; have c0 := (blk_cell R6.out 0).trans rfl; have c1 := (blk_cell R6.out 1).trans rfl; have ka := EW.out.kr (reg_get EW.out HA.out)))
  refine wp_region_still_tail 9 (by kernel_rfl) (by kernel_rfl) ?_
  simp only [List.take_succ_cons, List.take_zero, List.drop_succ_cons, List.drop_zero]
  repeat (with_reducible refine wpStill_step (fun K hK => ?_); go_simp; with_reducible refine hK _ ?_; clear hK K)
  with_reducible refine wpStill_step (fun K hK => ?_)
  go_simp
  refine ⟨_, Int_still _ _, hK _ ?_⟩
  clear hK K
  repeat (with_reducible refine wpStill_step (fun K hK => ?_); go_simp; with_reducible refine hK _ ?_; clear hK K)
  with_reducible refine wpStill_nil ?_
  change wpList _ _ _ _ _ W1.drew
  go_wp2_with (fail)
  all_goals go_ret
  all_goals exact ⟨rfl, did_of (Did.same H.out (pm_chain BB.out (Below.refl _ _).drew)) fun _ => rfl⟩
end Go.Proofs.YtejhnlljddjicaaDoor.Ma
namespace Go.Proofs.YtejhnlljddjicaaDoor.Ma
open Go.RowKit Go.Proofs.YtejhnlljddjicaaDoor.PEm Go.Proofs.YtejhnlljddjicaaDoorW.PrintWords Go.Proofs.YtejhnlljddjicaaDoorW.PrintLast Go.Proofs.YtejhnlljddjicaaDoorW.PrintMore Go.Proofs.YtejhnlljddjicaaDoor.La
set_option linter.unusedVariables false
set_option linter.unusedSimpArgs false
variable {w w' : World} {c pg : Nat} {ps ps' : Pages} {S S' : Cpu} {inp out inp' out' : List Int}
set_option maxHeartbeats 4000000 in
set_option maxRecDepth 100000 in
theorem do_113n (h : EM w c pg ps S inp out) (x : I5) (hop : x.op = 113) (ha : x.a < 16) (hb : x.b < 16) (hd : x.c < 16) (hi : -8388608 ≤ x.imm ∧ x.imm ≤ 16777216) (hz : inp = []) :
    Calls Tryd.prog 29 #[.pointer (some ⟨c, 0, none⟩), x.enc] w fun e w' => e = .returned (doF ps S x inp out).err ∧ (doF ps S x inp out).did w w' c pg ps S := by
  obtain ⟨op, a, b, d, imm⟩ := x
  unfold I5.enc
  simp only at hop ha hb hd hi ⊢
  subst hop
  subst hz
  rw [show doF ps S ⟨113, a, b, d, imm⟩ [] out = ⟨.nilIface, setR S a 4294967295, byteAt ps, [], out⟩ from rfl]
  have ia := idx16 ha
  have HF := Aside0.mk (show enc_Form.f 20 113 = some 7 by rfl)
  have H := Aside0.mk h
  have HI := Aside0.mk hi
  have HA := Aside0.mk ha
  have HBB := Aside0.mk hb
  have HDD := Aside0.mk hd
  have B0 := Aside0.mk (show Below w.heap.size w (w.alloc (.cells #[.int .i64 113, .int .i64 a, .int .i64 b, .int .i64 d, .int .i64 imm] 67)) from below_alloc (Below.refl _ _) _)
  have HB := Aside0.mk (h.below B0.out)
  have R5 := Aside0.mk (show (w.alloc (.cells #[.int .i64 113, .int .i64 a, .int .i64 b, .int .i64 d, .int .i64 imm] 67)).heap[w.heap.size]? = some (.cells #[.int .i64 113, .int .i64 a, .int .i64 b, .int .i64 d, .int .i64 imm] 67 (0, 0)) from heap_at _ _ _ rfl)
  have NG := Aside0.mk (show w.heap.size ∉ foot c pg ps S from fun hh => absurd (h.foot_lt _ hh) (by omega))
  have HS := Aside0.mk (show w.heap.size ≤ w.heap.size from Nat.le_refl _)
  clear h hi ha hb hd
  go_enter Tryd.func29, Tryd.ntmps29
  go_upto_region 2 with (fail)
  generalize (w.alloc (.cells #[.int .i64 113, .int .i64 a, .int .i64 b, .int .i64 d, .int .i64 imm] 67)) = W0 at HB R5 B0 ⊢
  generalize hg5 : w.heap.size = g5 at R5 NG HS ⊢
  clear hg5
  have c0 := (blk_cell R5.out 0).trans rfl
  go_wp2_with (first | (go_at_call 38; refine (enc_Form.calls 20 _ _ _ HF.out).mono ?_; rintro e w' ⟨rfl, ⟨nd, rfl⟩⟩; have D0 := Aside0.mk (below_dN W0 nd); have EW := Aside0.mk (HB.out.below D0.out); have R6 := Aside0.mk (blk_below R5.out D0.out); have BB := Aside0.mk (pm_chain B0.out D0.out); clear c0 R5 HB B0 D0; generalize W0.drewN nd = W1 at EW R6 BB ⊢; have c0 := (blk_cell R6.out 0).trans rfl; have c1 := (blk_cell R6.out 1).trans rfl; have ka := EW.out.kr (reg_get EW.out HA.out); have fa := EW.out.fz (3 + a)))
  refine wp_region_still_tail 6 (by kernel_rfl) (by kernel_rfl) ?_
  simp only [List.take_succ_cons, List.take_zero, List.drop_succ_cons, List.drop_zero]
  repeat (with_reducible refine wpStill_step (fun K hK => ?_); go_simp; with_reducible refine hK _ ?_; clear hK K)
  with_reducible refine wpStill_step (fun K hK => ?_)
  go_simp
  refine ⟨_, Of_still _ _, hK _ ?_⟩
  clear hK K
  repeat (with_reducible refine wpStill_step (fun K hK => ?_); go_simp; with_reducible refine hK _ ?_; clear hK K)
  with_reducible refine wpStill_nil ?_
  change wpList _ _ _ _ _ W1.drew
  go_upto_region 36 with (fail)
  have EX := Aside0.mk ((EW.out.set_reg a HA.out 4294967295 (by decide) (by decide)).then_below (Below.refl _ _).drew)
  have hb : (W1.setCell ⟨c, 3 + a, none⟩ (.int .u32 4294967295)).drew.cell? ⟨g5, 1, none⟩ = some (.int .i64 a) := far_cell (j := 3 + a) (u := .int .u32 4294967295) c1 (Below.refl _ _) (show ¬ c = g5 from fun e => NG.out (by rw [← e]; simp [foot]))
  generalize (W1.setCell ⟨c, 3 + a, none⟩ (.int .u32 4294967295)).drew = W2 at EX hb ⊢
  clear c0 c1 fa ka
  obtain ⟨A, cap, eA, -⟩ := EX.out.em.inS
  have k20 : W2.cell? ⟨c, 20, none⟩ = some (.slice A 0 cap) := EX.out.em.k20.trans (congrArg some eA)
  clear eA
  all_goals go_wp2_with (fail)
  all_goals go_ret
  all_goals exact ⟨rfl, did_of (Did.pre BB.out EX.out) fun _ => rfl⟩
set_option maxHeartbeats 4000000 in
set_option maxRecDepth 100000 in
theorem do_113c (h : EM w c pg ps S inp out) (x : I5) (hop : x.op = 113) (ha : x.a < 16) (hb : x.b < 16) (hd : x.c < 16) (hi : -8388608 ≤ x.imm ∧ x.imm ≤ 16777216) {v : Int} {rest : List Int} (hz : inp = v :: rest) (hv : 0 ≤ v ∧ v < 256) :
    Calls Tryd.prog 29 #[.pointer (some ⟨c, 0, none⟩), x.enc] w fun e w' => e = .returned (doF ps S x inp out).err ∧ (doF ps S x inp out).did w w' c pg ps S := by
  obtain ⟨op, a, b, d, imm⟩ := x
  unfold I5.enc
  simp only at hop ha hb hd hi ⊢
  subst hop
  subst hz
  rw [show doF ps S ⟨113, a, b, d, imm⟩ (v :: rest) out = ⟨.nilIface, setR S a v, byteAt ps, rest, out⟩ from rfl]
  have ia := idx16 ha
  have HV := Aside0.mk (show 0 ≤ v ∧ v < 4294967296 by omega)
  clear hv
  have HF := Aside0.mk (show enc_Form.f 20 113 = some 7 by rfl)
  have H := Aside0.mk h
  have HI := Aside0.mk hi
  have HA := Aside0.mk ha
  have HBB := Aside0.mk hb
  have HDD := Aside0.mk hd
  have B0 := Aside0.mk (show Below w.heap.size w (w.alloc (.cells #[.int .i64 113, .int .i64 a, .int .i64 b, .int .i64 d, .int .i64 imm] 67)) from below_alloc (Below.refl _ _) _)
  have HB := Aside0.mk (h.below B0.out)
  have R5 := Aside0.mk (show (w.alloc (.cells #[.int .i64 113, .int .i64 a, .int .i64 b, .int .i64 d, .int .i64 imm] 67)).heap[w.heap.size]? = some (.cells #[.int .i64 113, .int .i64 a, .int .i64 b, .int .i64 d, .int .i64 imm] 67 (0, 0)) from heap_at _ _ _ rfl)
  have NG := Aside0.mk (show w.heap.size ∉ foot c pg ps S from fun hh => absurd (h.foot_lt _ hh) (by omega))
  have HS := Aside0.mk (show w.heap.size ≤ w.heap.size from Nat.le_refl _)
  clear h hi ha hb hd
  go_enter Tryd.func29, Tryd.ntmps29
  go_upto_region 2 with (fail)
  generalize (w.alloc (.cells #[.int .i64 113, .int .i64 a, .int .i64 b, .int .i64 d, .int .i64 imm] 67)) = W0 at HB R5 B0 ⊢
  generalize hg5 : w.heap.size = g5 at R5 NG HS ⊢
  clear hg5
  have c0 := (blk_cell R5.out 0).trans rfl
  go_wp2_with (first | (go_at_call 38; refine (enc_Form.calls 20 _ _ _ HF.out).mono ?_; rintro e w' ⟨rfl, ⟨nd, rfl⟩⟩; have D0 := Aside0.mk (below_dN W0 nd); have EW := Aside0.mk (HB.out.below D0.out); have R6 := Aside0.mk (blk_below R5.out D0.out); have BB := Aside0.mk (pm_chain B0.out D0.out); clear c0 R5 HB B0 D0; generalize W0.drewN nd = W1 at EW R6 BB ⊢; have c0 := (blk_cell R6.out 0).trans rfl; have c1 := (blk_cell R6.out 1).trans rfl; have ka := EW.out.kr (reg_get EW.out HA.out); have fa := EW.out.fz (3 + a)))
  refine wp_region_still_tail 6 (by kernel_rfl) (by kernel_rfl) ?_
  simp only [List.take_succ_cons, List.take_zero, List.drop_succ_cons, List.drop_zero]
  repeat (with_reducible refine wpStill_step (fun K hK => ?_); go_simp; with_reducible refine hK _ ?_; clear hK K)
  with_reducible refine wpStill_step (fun K hK => ?_)
  go_simp
  refine ⟨_, Of_still _ _, hK _ ?_⟩
  clear hK K
  repeat (with_reducible refine wpStill_step (fun K hK => ?_); go_simp; with_reducible refine hK _ ?_; clear hK K)
  with_reducible refine wpStill_nil ?_
  change wpList _ _ _ _ _ W1.drew
  go_upto_region 36 with (fail)
  have EX := Aside0.mk ((EW.out.set_reg a HA.out 4294967295 (by decide) (by decide)).then_below (Below.refl _ _).drew)
  have hb : (W1.setCell ⟨c, 3 + a, none⟩ (.int .u32 4294967295)).drew.cell? ⟨g5, 1, none⟩ = some (.int .i64 a) := far_cell (j := 3 + a) (u := .int .u32 4294967295) c1 (Below.refl _ _) (show ¬ c = g5 from fun e => NG.out (by rw [← e]; simp [foot]))
  generalize (W1.setCell ⟨c, 3 + a, none⟩ (.int .u32 4294967295)).drew = W2 at EX hb ⊢
  clear c0 c1 fa ka
  obtain ⟨ad, cap, A', eA, hc, -, -⟩ := EX.out.em.take_in
  have k20 : W2.cell? ⟨c, 20, none⟩ = some (.slice (some ad) (rest.length + 1) cap) := EX.out.em.k20.trans (congrArg some eA)
  have hl : ((0 : Nat) : Int) < ((rest.length + 1 : Nat) : Int) := by omega
  have hk := EX.out.em.kr (reg_get EX.out.em HA.out)
  have fa := EX.out.em.fz (3 + a)
  clear eA
  go_upto_region 37 with (fail)
  skip
  refine wp_region_still_tail 12 (by kernel_rfl) (by kernel_rfl) ?_
  simp only [List.take_succ_cons, List.take_zero, List.drop_succ_cons, List.drop_zero]
  repeat (with_reducible refine wpStill_step (fun K hK => ?_); go_simp; with_reducible refine hK _ ?_; clear hK K)
  with_reducible refine wpStill_nil ?_
  change wpList _ _ _ _ _ W2.drew
  go_upto_region 38 with (fail)
  rw [Int.emod_eq_of_lt HV.out.1 HV.out.2]
  have EY := Aside0.mk (EX.out.trans ((EX.out.em.set_reg a HA.out v HV.out.1 HV.out.2).then_below (Below.refl _ _).drew))
  generalize (W2.setCell ⟨c, 3 + a, none⟩ (.int .u32 v)).drew = W3 at EY ⊢
  clear hc hb hk fa k20 hl
  obtain ⟨ad2, cap2, A2, eA, -, hrun, D2⟩ := EY.out.em.take_in
  have DZ := Aside0.mk D2
  clear D2
  have k20 : W3.cell? ⟨c, 20, none⟩ = some (.slice (some ad2) (rest.length + 1) cap2) := EY.out.em.k20.trans (congrArg some eA)
  have f20 := EY.out.em.fz 20
  clear eA
  go_wp2_with (fail)
  all_goals go_ret
  all_goals refine ⟨rfl, .slice A2 rest.length (cap2 - 1), S.outV, ps, ?_, fun _ => rfl⟩
  all_goals (have q := Did.pre BB.out (EY.out.trans DZ.out); simpa [setR, List.set_set] using q)
end Go.Proofs.YtejhnlljddjicaaDoor.Ma
namespace Go.Proofs.YtejhnlljddjicaaDoor.Ma
open Go.RowKit Go.Proofs.YtejhnlljddjicaaDoor.PEm Go.Proofs.YtejhnlljddjicaaDoorW.PrintWords Go.Proofs.YtejhnlljddjicaaDoorW.PrintLast Go.Proofs.YtejhnlljddjicaaDoorW.PrintMore Go.Proofs.YtejhnlljddjicaaDoor.La
set_option linter.unusedVariables false
set_option linter.unusedSimpArgs false
variable {w w' : World} {c pg : Nat} {ps ps' : Pages} {S S' : Cpu} {inp out inp' out' : List Int}
theorem inf5 : (Tryd.prog.info? 5).map (fun i => (i.zero, i.size, i.bytes)) = some (some (.int .u8 0), 1, 1) := by kernel_rfl
theorem grown21 (h : EM w c pg ps S inp out) (hg : w.grownBy w' S.outV.ownBlock) : w'.cell? ⟨c, 21, none⟩ = some S.outV ∧ w'.frozen? ⟨c, 21, none⟩ = false := by
  have hh := blk_grown h.head hg (fun e => by
    have hn := h.nodup
    unfold foot at hn
    exact (List.nodup_cons.1 hn).1 (by simp [← e]))
  exact ⟨by rw [cpu_cell hh, cpu_at h.nreg]; rfl, cpu_froz hh 21⟩
set_option maxHeartbeats 4000000 in
set_option maxRecDepth 100000 in
theorem do_112 (h : EM w c pg ps S inp out) (x : I5) (hop : x.op = 112) (ha : x.a < 16) (hb : x.b < 16) (hd : x.c < 16) (hi : -8388608 ≤ x.imm ∧ x.imm ≤ 16777216) (hz : out.length + 1 ≤ 140737488355328) :
    Calls Tryd.prog 29 #[.pointer (some ⟨c, 0, none⟩), x.enc] w fun e w' => e = .returned (doF ps S x inp out).err ∧ (doF ps S x inp out).did w w' c pg ps S := by
  obtain ⟨op, a, b, d, imm⟩ := x
  unfold I5.enc
  simp only at hop ha hb hd hi ⊢
  subst hop
  rw [show doF ps S ⟨112, a, b, d, imm⟩ inp out = ⟨.nilIface, S, byteAt ps, inp, out ++ [regV S a % 256]⟩ from rfl]
  have ia := idx16 ha
  have HF := Aside0.mk (show enc_Form.f 20 112 = some 7 by rfl)
  have H := Aside0.mk h
  have HI := Aside0.mk hi
  have HA := Aside0.mk ha
  have HBB := Aside0.mk hb
  have HDD := Aside0.mk hd
  have B0 := Aside0.mk (show Below w.heap.size w (w.alloc (.cells #[.int .i64 112, .int .i64 a, .int .i64 b, .int .i64 d, .int .i64 imm] 67)) from below_alloc (Below.refl _ _) _)
  have HB := Aside0.mk (h.below B0.out)
  have R5 := Aside0.mk (show (w.alloc (.cells #[.int .i64 112, .int .i64 a, .int .i64 b, .int .i64 d, .int .i64 imm] 67)).heap[w.heap.size]? = some (.cells #[.int .i64 112, .int .i64 a, .int .i64 b, .int .i64 d, .int .i64 imm] 67 (0, 0)) from heap_at _ _ _ rfl)
  have NG := Aside0.mk (show w.heap.size ∉ foot c pg ps S from fun hh => absurd (h.foot_lt _ hh) (by omega))
  have HS := Aside0.mk (show w.heap.size ≤ w.heap.size from Nat.le_refl _)
  clear h hi ha hb hd
  go_enter Tryd.func29, Tryd.ntmps29
  go_upto_region 2 with (fail)
  generalize (w.alloc (.cells #[.int .i64 112, .int .i64 a, .int .i64 b, .int .i64 d, .int .i64 imm] 67)) = W0 at HB R5 B0 ⊢
  generalize hg5 : w.heap.size = g5 at R5 NG HS ⊢
  clear hg5
  have c0 := (blk_cell R5.out 0).trans rfl
  go_wp2_with (first | (go_at_call 38; refine (enc_Form.calls 20 _ _ _ HF.out).mono ?_; rintro e w' ⟨rfl, ⟨nd, rfl⟩⟩; have D0 := Aside0.mk (below_dN W0 nd); have EW := Aside0.mk (HB.out.below D0.out); have R6 := Aside0.mk (blk_below R5.out D0.out); have BB := Aside0.mk (pm_chain B0.out D0.out); clear c0 R5 HB B0 D0; generalize W0.drewN nd = W1 at EW R6 BB ⊢; have c0 := (blk_cell R6.out 0).trans rfl; have c1 := (blk_cell R6.out 1).trans rfl; have ka := EW.out.kr (reg_get EW.out HA.out); have k21 := EW.out.k21; have f21 := EW.out.fz 21))
  obtain ⟨base, HR⟩ := EW.out.outS
  have hHR := Aside0.mk (Kd.R_lower (Kd.R_drew HR) (Nat.zero_le base))
  have hBB := Aside0.mk (show Below 0 W1 W1.drew from (Below.refl _ _).drew)
  have hzz := Aside0.mk (show (out.length + 1) * 1 ≤ 140737488355328 by omega)
  have ED := Aside0.mk (EW.out.below (Below.refl _ _).drew)
  have in5 := Aside0.mk inf5
  clear HR hz
  have hw8 : IntKind.u8.wrap (regV S a) = regV S a % 256 := IntKind.wrap_u8 _
  have h21 : (W1.alloc (.cells #[.int .u8 (regV S a % 256)] 5)).cell? ⟨c, 21, none⟩ = some S.outV := pw_cell_below (below_alloc (Below.refl W1.heap.size W1) _) k21
  have hka : (W1.alloc (.cells #[.int .u8 (regV S a % 256)] 5)).cell? ⟨c, 3 + a, none⟩ = some (.int .u32 (regV S a)) := pw_cell_below (below_alloc (Below.refl W1.heap.size W1) _) ka
  have hc1 : (W1.alloc (.cells #[.int .u8 (regV S a % 256)] 5)).cell? ⟨g5, 1, none⟩ = some (.int .i64 a) := pw_cell_below (below_alloc (Below.refl W1.heap.size W1) _) c1
  clear c0
  go_region_law (refine Kd.R_append_step (Kd.int .u8) (w0 := W1) (W := W1.drew) 0 (by rfl) (.tmp 187) (.tmp 195) 22 5 (.int .u8 0) 1 (by rfl) Tryd.underlying22 in5.out rfl (by decide) (by decide) S.outV out (regV S a % 256) [.int .u8 (regV S a % 256)] (fun _ => True) (fun _ => False) (by simp [Act.eval, Act.put]) (by simp [Act.eval, Act.put]) rfl (fun _ hk => hk.elim) (fun _ _ => trivial) hHR.out hBB.out (Nat.zero_le _) hzz.out ?_; intro v1 w1 hR1 hB1 hG1 hat1; obtain ⟨A1, c1', hv1⟩ := Kd.R_slice hR1; subst hv1; obtain ⟨q21, z21⟩ := grown21 ED.out hG1; have DD := Aside0.mk (ED.out.grown hG1 hR1 hat1); clear hR1 hB1 hG1 hat1)
  all_goals go_wp2_with (fail)
  all_goals go_ret
  all_goals exact ⟨rfl, S.inV, .slice A1 (out.length + 1) c1', ps, Did.pre (pm_chain BB.out (Below.refl _ _).drew) (by simpa using DD.out), fun _ => rfl⟩
end Go.Proofs.YtejhnlljddjicaaDoor.Ma
