/- The document's machine: do, the operations on registers. No condition beyond those each theorem names. And more of the kind: 1 texts in one. -/
import Derived.Test.YtejhnlljddjicaaDoorRGm
namespace Go.Proofs.YtejhnlljddjicaaDoor.Ma
open Go.RowKit Go.Proofs.YtejhnlljddjicaaDoor.PEm Go.Proofs.YtejhnlljddjicaaDoorW.PrintWords Go.Proofs.YtejhnlljddjicaaDoorW.PrintLast Go.Proofs.YtejhnlljddjicaaDoorW.PrintMore Go.Proofs.YtejhnlljddjicaaDoor.La
set_option linter.unusedVariables false
set_option linter.unusedSimpArgs false
variable {fx : Value × Int} {w w' : World} {c pg : Nat} {ps ps' : Pages} {S S' : Cpu} {inp out inp' out' : List Int}
def Xdone (r : Ran) (w w' : World) (c pg : Nat) (fx : Value × Int) (ps : Pages) (S : Cpu) : Prop :=
  ∃ iv ov ps', XDid w w' c pg fx ps S ps' { r.S with inV := iv, outV := ov } r.inp r.out ∧ ∀ i, byteAt ps' i = r.m i
theorem xdone_of {e : Value} {T : Cpu} {m : Nat → Int} {i o : List Int} (D : XDid w w' c pg fx ps S ps' T i o) (hm : ∀ k, byteAt ps' k = m k) : Xdone ⟨e, T, m, i, o⟩ w w' c pg fx ps S := ⟨T.inV, T.outV, ps', D, hm⟩
theorem xreg_get (h : XM w c pg fx ps S inp out) {a : Nat} (ha : a < 16) : S.regs[a]? = some (regV S a) := by
  unfold regV; rw [List.getElem?_eq_getElem (by rw [h.nreg]; exact ha)]; rfl
theorem xreg_in (h : XM w c pg fx ps S inp out) {a : Nat} (ha : a < 16) : 0 ≤ regV S a ∧ regV S a < 4294967296 := h.regIn _ (List.mem_of_getElem? (xreg_get h ha))
theorem width_no (op : Int) (h : op < 80) : mortiseref21_width.f 20 op = some (0, false) := by
  have e : ∀ k : Int, 80 ≤ k → ¬ op = k := fun k hk => by omega
  have e2 : ∀ k : Int, 80 ≤ k → (op == k) = false := fun k hk => by simp; omega
  simp [mortiseref21_width.f, mortiseref21_width.j0, mortiseref21_width.j1, e]
theorem end_bin (S : Cpu) (op : Int) (a : Nat) (x y : Int) (m : Nat → Int) (i o : List Int) : endM ⟨if (binP op x y).2 then .nilIface else stopV 2 0, reckF S op a x y, m, i, o⟩ = ⟨if (binP op x y).2 then .nilIface else stopV 2 0, xbinS S op a x y, m, i, o⟩ := by
  unfold xbinS reckF
  cases (binP op x y).2 <;> rfl
set_option maxHeartbeats 4000000 in
set_option maxRecDepth 100000 in
theorem xdo_rrr (h : XM w c pg fx ps S inp out) (x : I5) (hop : 1 ≤ x.op ∧ x.op ≤ 19) (ha : x.a < 16) (hb : x.b < 16) (hd : x.c < 16) (hi : -8388608 ≤ x.imm ∧ x.imm ≤ 16777216) :
    Calls Tryd.prog 33 #[.pointer (some ⟨c, 0, none⟩), x.enc] w fun e w' => e = .returned (.tuple #[]) ∧ Xdone (endM (doM (byteAt ps) S x inp out)) w w' c pg fx ps S := by
  obtain ⟨op, a, b, d, imm⟩ := x
  unfold I5.enc
  simp only at hop ha hb hd hi ⊢
  rw [show doM (byteAt ps) S ⟨op, a, b, d, imm⟩ inp out = ⟨if (binP op (regV S b) (regV S d)).2 then .nilIface else stopV 2 0, reckF S op a (regV S b) (regV S d), byteAt ps, inp, out⟩ by unfold doM; simp only; rw [if_pos hop]]
  have HW := Aside0.mk (show mortiseref21_width.f 20 op = some (0, false) by exact width_no op (by omega))
  rw [end_bin]
  have hop2 := hop.2
  have ib := idx16 hb
  have id := idx16 hd
  clear hop
  obtain ⟨im, him⟩ : ∃ im, imm % 4294967296 = im := ⟨_, rfl⟩
  try rw [him]
  have HOF := Aside0.mk (show mortiseref01_Of.f imm = some im by rw [refOf, him])
  have HX := Aside0.mk (show 0 ≤ im ∧ im < 4294967296 by omega)
  have HIM := Aside0.mk him
  clear him
  have H := Aside0.mk h
  have HI := Aside0.mk hi
  have HA := Aside0.mk ha
  have HBB := Aside0.mk hb
  have HDD := Aside0.mk hd
  have B0 := Aside0.mk (show Below w.heap.size w (w.alloc (.cells #[.int .i64 op, .int .i64 a, .int .i64 b, .int .i64 d, .int .i64 imm] 67)) from below_alloc (Below.refl _ _) _)
  have R5 := Aside0.mk (show (w.alloc (.cells #[.int .i64 op, .int .i64 a, .int .i64 b, .int .i64 d, .int .i64 imm] 67)).heap[w.heap.size]? = some (.cells #[.int .i64 op, .int .i64 a, .int .i64 b, .int .i64 d, .int .i64 imm] 67 (0, 0)) from heap_at _ _ _ rfl)
  have NG := Aside0.mk (show w.heap.size ∉ foot c pg ps S from fun hh => absurd (h.foot_lt _ hh) (by omega))
  clear h hi ha hb hd
  go_enter Tryd.func33, Tryd.ntmps33
  go_upto_region 1 with (fail)
  generalize (w.alloc (.cells #[.int .i64 op, .int .i64 a, .int .i64 b, .int .i64 d, .int .i64 imm] 67)) = W0 at R5 B0 ⊢
  generalize hg3 : w.heap.size = g3 at R5 NG ⊢
  clear hg3
  have c0 := (blk_cell R5.out 0).trans rfl
  have c4 := (blk_cell R5.out 4).trans rfl
  go_upto_region 5 with (first | (go_at_call 51; refine (mortiseref01_Of.calls imm _ _ HOF.out).mono ?_; rintro e Y1 ⟨rfl, hd1⟩; have BY := Aside0.mk (dn0_below hd1); have c0 := (blk_cell (blk_below R5.out BY.out) 0).trans rfl; clear hd1) | (go_at_call 52; refine (mortiseref21_width.calls 20 op _ _ _ HW.out).mono ?_; rintro e Y2 ⟨rfl, hd2⟩; have BY2 := Aside0.mk (dn0_below hd2); clear hd2))
  have BB := Aside0.mk (pm_chain B0.out (pm_chain BY.out BY2.out))
  have R6 := Aside0.mk (blk_below (blk_below R5.out BY.out) BY2.out)
  have EW := Aside0.mk (H.out.below BB.out)
  clear c0 c4 BY BY2 R5 B0
  generalize Y2 = W1 at BB R6 EW ⊢
  have c0 := (blk_cell R6.out 0).trans rfl
  have c1 := (blk_cell R6.out 1).trans rfl
  have c2 := (blk_cell R6.out 2).trans rfl
  have c3 := (blk_cell R6.out 3).trans rfl
  have kb := EW.out.kr (xreg_get EW.out HBB.out)
  have kd := EW.out.kr (xreg_get EW.out HDD.out)
  go_wp2_with (fail)
  refine wp_region_still_tail 17 (by kernel_rfl) (by kernel_rfl) ?_
  simp only [List.take_succ_cons, List.take_zero, List.drop_succ_cons, List.drop_zero]
  repeat (with_reducible refine wpStill_step (fun K hK => ?_); go_simp; with_reducible refine hK _ ?_; clear hK K)
  with_reducible refine wpStill_nil ?_
  change wpList _ _ _ _ _ W1.drew
  go_wp2_with (first | (go_at_call 53; refine (xbin_calls (EW.out.below (by (repeat (first | (with_reducible exact Below.refl _ _) | (with_reducible assumption) | with_reducible apply below_alloc | with_reducible apply pw_below_drewN | with_reducible apply below_drew1)))) op a HA.out _ _ (xreg_in EW.out HBB.out) (xreg_in EW.out HDD.out)).mono ?_; rintro e Y ⟨rfl, hd⟩; have D := Aside0.mk (XDid.pre (pm_chain BB.out (Below.refl _ _).drew) hd); clear hd))
  all_goals go_end0
  all_goals exact ⟨rfl, xdone_of D.out fun _ => rfl⟩
set_option maxHeartbeats 4000000 in
set_option maxRecDepth 100000 in
theorem xdo_rri (h : XM w c pg fx ps S inp out) (x : I5) (hop : 33 ≤ x.op ∧ x.op ≤ 51) (ha : x.a < 16) (hb : x.b < 16) (hd : x.c < 16) (hi : -8388608 ≤ x.imm ∧ x.imm ≤ 16777216) :
    Calls Tryd.prog 33 #[.pointer (some ⟨c, 0, none⟩), x.enc] w fun e w' => e = .returned (.tuple #[]) ∧ Xdone (endM (doM (byteAt ps) S x inp out)) w w' c pg fx ps S := by
  obtain ⟨op, a, b, d, imm⟩ := x
  unfold I5.enc
  simp only at hop ha hb hd hi ⊢
  rw [show doM (byteAt ps) S ⟨op, a, b, d, imm⟩ inp out = ⟨if (binP (op - 32) (regV S b) (imm % 4294967296)).2 then .nilIface else stopV 2 0, reckF S (op - 32) a (regV S b) (imm % 4294967296), byteAt ps, inp, out⟩ by unfold doM; simp only; rw [if_neg (by omega), if_pos hop]]
  have HW := Aside0.mk (show mortiseref21_width.f 20 op = some (0, false) by exact width_no op (by omega))
  rw [end_bin]
  have hop2 := hop.2
  have hop1 : 19 < op := by omega
  have hw : IntKind.i64.wrap (op - 32) = op - 32 := IntWalk.i64_in _ (by omega)
  have ib := idx16 hb
  clear hop
  obtain ⟨im, him⟩ : ∃ im, imm % 4294967296 = im := ⟨_, rfl⟩
  try rw [him]
  have HOF := Aside0.mk (show mortiseref01_Of.f imm = some im by rw [refOf, him])
  have HX := Aside0.mk (show 0 ≤ im ∧ im < 4294967296 by omega)
  have HIM := Aside0.mk him
  clear him
  have H := Aside0.mk h
  have HI := Aside0.mk hi
  have HA := Aside0.mk ha
  have HBB := Aside0.mk hb
  have HDD := Aside0.mk hd
  have B0 := Aside0.mk (show Below w.heap.size w (w.alloc (.cells #[.int .i64 op, .int .i64 a, .int .i64 b, .int .i64 d, .int .i64 imm] 67)) from below_alloc (Below.refl _ _) _)
  have R5 := Aside0.mk (show (w.alloc (.cells #[.int .i64 op, .int .i64 a, .int .i64 b, .int .i64 d, .int .i64 imm] 67)).heap[w.heap.size]? = some (.cells #[.int .i64 op, .int .i64 a, .int .i64 b, .int .i64 d, .int .i64 imm] 67 (0, 0)) from heap_at _ _ _ rfl)
  have NG := Aside0.mk (show w.heap.size ∉ foot c pg ps S from fun hh => absurd (h.foot_lt _ hh) (by omega))
  clear h hi ha hb hd
  go_enter Tryd.func33, Tryd.ntmps33
  go_upto_region 1 with (fail)
  generalize (w.alloc (.cells #[.int .i64 op, .int .i64 a, .int .i64 b, .int .i64 d, .int .i64 imm] 67)) = W0 at R5 B0 ⊢
  generalize hg3 : w.heap.size = g3 at R5 NG ⊢
  clear hg3
  have c0 := (blk_cell R5.out 0).trans rfl
  have c4 := (blk_cell R5.out 4).trans rfl
  go_upto_region 5 with (first | (go_at_call 51; refine (mortiseref01_Of.calls imm _ _ HOF.out).mono ?_; rintro e Y1 ⟨rfl, hd1⟩; have BY := Aside0.mk (dn0_below hd1); have c0 := (blk_cell (blk_below R5.out BY.out) 0).trans rfl; clear hd1) | (go_at_call 52; refine (mortiseref21_width.calls 20 op _ _ _ HW.out).mono ?_; rintro e Y2 ⟨rfl, hd2⟩; have BY2 := Aside0.mk (dn0_below hd2); clear hd2))
  have BB := Aside0.mk (pm_chain B0.out (pm_chain BY.out BY2.out))
  have R6 := Aside0.mk (blk_below (blk_below R5.out BY.out) BY2.out)
  have EW := Aside0.mk (H.out.below BB.out)
  clear c0 c4 BY BY2 R5 B0
  generalize Y2 = W1 at BB R6 EW ⊢
  have c0 := (blk_cell R6.out 0).trans rfl
  have c1 := (blk_cell R6.out 1).trans rfl
  have c2 := (blk_cell R6.out 2).trans rfl
  have kb := EW.out.kr (xreg_get EW.out HBB.out)
  go_wp2_with (fail)
  refine wp_region_still_tail 13 (by kernel_rfl) (by kernel_rfl) ?_
  simp only [List.take_succ_cons, List.take_zero, List.drop_succ_cons, List.drop_zero]
  repeat (with_reducible refine wpStill_step (fun K hK => ?_); go_simp; with_reducible refine hK _ ?_; clear hK K)
  with_reducible refine wpStill_nil ?_
  change wpList _ _ _ _ _ W1.drew
  go_wp2_with (first | (go_at_call 53; refine (xbin_calls (EW.out.below (by (repeat (first | (with_reducible exact Below.refl _ _) | (with_reducible assumption) | with_reducible apply below_alloc | with_reducible apply pw_below_drewN | with_reducible apply below_drew1)))) (op - 32) a HA.out _ _ (xreg_in EW.out HBB.out) HX.out).mono ?_; rintro e Y ⟨rfl, hd⟩; have D := Aside0.mk (XDid.pre (pm_chain BB.out (Below.refl _ _).drew) hd); clear hd))
  all_goals go_end0
  all_goals exact ⟨rfl, xdone_of D.out fun _ => rfl⟩
theorem width_yes (op : Int) (h : (80 ≤ op ∧ op ≤ 84) ∨ (88 ≤ op ∧ op ≤ 90)) : mortiseref21_width.f 20 op = some (accN op, accS op) := by
  have e : op = 80 ∨ op = 81 ∨ op = 82 ∨ op = 83 ∨ op = 84 ∨ op = 88 ∨ op = 89 ∨ op = 90 := by omega
  rcases e with rfl | rfl | rfl | rfl | rfl | rfl | rfl | rfl <;> rfl
theorem accN_in (op : Int) : accN op = 1 ∨ accN op = 2 ∨ accN op = 4 := by unfold accN; split; exact .inl rfl; split; exact .inr (.inl rfl); exact .inr (.inr rfl)
theorem accL_yes (op : Int) (h : 80 ≤ op ∧ op ≤ 84) : accL op = true := by unfold accL; simp; omega
theorem accL_no (op : Int) (h : 88 ≤ op ∧ op ≤ 90) : accL op = false := by unfold accL; simp; omega
theorem end_err (n : Int) (S : Cpu) (m : Nat → Int) (i o : List Int) : endM ⟨errT n, S, m, i, o⟩ = ⟨errT n, if n = 0 then S else { S with ended := 6, exit := n }, m, i, o⟩ := by
  unfold errT
  split <;> rfl
set_option maxHeartbeats 4000000 in
set_option maxRecDepth 100000 in
theorem xdo_ld_yes (h : XM w c pg fx ps S inp out) (x : I5) (hop : 80 ≤ x.op ∧ x.op ≤ 84) (ha : x.a < 16) (hb : x.b < 16) (hd : x.c < 16) (hmay : mayF S.code (addrF S x) (accN x.op) false = 0) (hi : -8388608 ≤ x.imm ∧ x.imm ≤ 16777216) :
    Calls Tryd.prog 33 #[.pointer (some ⟨c, 0, none⟩), x.enc] w fun e w' => e = .returned (.tuple #[]) ∧ Xdone (endM (doM (byteAt ps) S x inp out)) w w' c pg fx ps S := by
  obtain ⟨op, a, b, d, imm⟩ := x
  unfold I5.enc
  simp only at hop ha hb hd hi hmay ⊢
  rw [show doM (byteAt ps) S ⟨op, a, b, d, imm⟩ inp out = ⟨errT (accE S ⟨op, a, b, d, imm⟩), accCM (byteAt ps) S ⟨op, a, b, d, imm⟩, accMM (byteAt ps) S ⟨op, a, b, d, imm⟩, inp, out⟩ by unfold doM; simp only; rw [if_neg (by omega), if_neg (by omega), if_pos (by omega)]]
  have HW := Aside0.mk (show mortiseref21_width.f 20 op = some (accN op, accS op) by exact width_yes op (.inl hop))
  have hL := accL_yes op hop
  have hop2 := hop.2
  have hop1 : 51 < op := by omega
  have hop0 : 19 < op := by omega
  clear hop
  rw [end_err]
  have eE : accE S ⟨op, a, b, d, imm⟩ = mayF S.code (addrF S ⟨op, a, b, d, imm⟩) (accN op) false := by unfold accE; simp only [hL, Bool.not_true]
  have eM : accMM (byteAt ps) S ⟨op, a, b, d, imm⟩ = byteAt ps := by funext i; unfold accMM; simp only [hL, if_true]
  have eC : accCM (byteAt ps) S ⟨op, a, b, d, imm⟩ = loadM (byteAt ps) S ⟨op, a, b, d, imm⟩ (accN op) (accS op) := by unfold accCM; simp only [hL, if_true]
  rw [eE, eM, eC]
  unfold loadM
  clear eE eM eC hL
  have ea : addrF S ⟨op, a, b, d, imm⟩ = (regV S b + imm % 4294967296) % 4294967296 := rfl
  rw [ea] at hmay ⊢
  clear ea
  rw [if_pos hmay, if_pos hmay]
  have HN := Aside0.mk (accN_in op)
  have hn0 : 0 < accN op := by have := HN.out; omega
  obtain ⟨n, hn⟩ : ∃ n, accN op = n := ⟨_, rfl⟩
  obtain ⟨sg, hsg⟩ : ∃ sg, accS op = sg := ⟨_, rfl⟩
  have HNE := Aside0.mk hn
  have HSG := Aside0.mk hsg
  rw [hn] at HN hn0
  rw [hn, hsg] at HW
  clear hn hsg
  have ib := idx16 hb
  have ia := idx16 ha
  have HMAY := Aside0.mk hmay
  rw [HNE.out] at HMAY
  try rw [HNE.out]
  try rw [HSG.out]
  clear hmay
  obtain ⟨im, him⟩ : ∃ im, imm % 4294967296 = im := ⟨_, rfl⟩
  rw [him] at HMAY
  try rw [him]
  have HOF := Aside0.mk (show mortiseref01_Of.f imm = some im by rw [refOf, him])
  have HX := Aside0.mk (show 0 ≤ im ∧ im < 4294967296 by omega)
  have HIM := Aside0.mk him
  clear him
  have H := Aside0.mk h
  have HI := Aside0.mk hi
  have HA := Aside0.mk ha
  have HBB := Aside0.mk hb
  have HDD := Aside0.mk hd
  have B0 := Aside0.mk (show Below w.heap.size w (w.alloc (.cells #[.int .i64 op, .int .i64 a, .int .i64 b, .int .i64 d, .int .i64 imm] 67)) from below_alloc (Below.refl _ _) _)
  have R5 := Aside0.mk (show (w.alloc (.cells #[.int .i64 op, .int .i64 a, .int .i64 b, .int .i64 d, .int .i64 imm] 67)).heap[w.heap.size]? = some (.cells #[.int .i64 op, .int .i64 a, .int .i64 b, .int .i64 d, .int .i64 imm] 67 (0, 0)) from heap_at _ _ _ rfl)
  have NG := Aside0.mk (show w.heap.size ∉ foot c pg ps S from fun hh => absurd (h.foot_lt _ hh) (by omega))
  clear h hi ha hb hd
  go_enter Tryd.func33, Tryd.ntmps33
  go_upto_region 1 with (fail)
  generalize (w.alloc (.cells #[.int .i64 op, .int .i64 a, .int .i64 b, .int .i64 d, .int .i64 imm] 67)) = W0 at R5 B0 ⊢
  generalize hg3 : w.heap.size = g3 at R5 NG ⊢
  clear hg3
  have c0 := (blk_cell R5.out 0).trans rfl
  have c4 := (blk_cell R5.out 4).trans rfl
  go_upto_region 5 with (first | (go_at_call 51; refine (mortiseref01_Of.calls imm _ _ HOF.out).mono ?_; rintro e Y1 ⟨rfl, hd1⟩; have BY := Aside0.mk (dn0_below hd1); have c0 := (blk_cell (blk_below R5.out BY.out) 0).trans rfl; clear hd1) | (go_at_call 52; refine (mortiseref21_width.calls 20 op _ _ _ HW.out).mono ?_; rintro e Y2 ⟨rfl, hd2⟩; have BY2 := Aside0.mk (dn0_below hd2); clear hd2))
  have BB := Aside0.mk (pm_chain B0.out (pm_chain BY.out BY2.out))
  have R6 := Aside0.mk (blk_below (blk_below R5.out BY.out) BY2.out)
  have EW := Aside0.mk (H.out.below BB.out)
  clear c0 c4 BY BY2 R5 B0
  generalize Y2 = W1 at BB R6 EW ⊢
  have c0 := (blk_cell R6.out 0).trans rfl
  have c1 := (blk_cell R6.out 1).trans rfl
  have c2 := (blk_cell R6.out 2).trans rfl
  have kb := EW.out.kr (xreg_get EW.out HBB.out)
  go_upto_region 10 with (fail)
  have HAT := Aside0.mk (show 0 ≤ (regV S b + im) % 4294967296 ∧ (regV S b + im) % 4294967296 < 4294967296 by omega)
  obtain ⟨rb, hrb⟩ : ∃ v, regV S b = v := ⟨_, rfl⟩
  rw [hrb] at kb HMAY HAT
  have HRB := Aside0.mk hrb
  clear hrb
  go_cut [8, 9] (fun v8 v9 wc => v8 = .int .u32 (wordF ps ((rb + im) % 4294967296).toNat n sg) ∧ v9 = .bool true ∧ Aside0 (XDid w wc c pg fx ps S ps S inp out) ∧ Aside0 (wc.heap[g3]? = some (.cells #[.int .i64 op, .int .i64 a, .int .i64 b, .int .i64 d, .int .i64 imm] 67 (0, 0))))
  case first =>
    go_region_held3 (fun w' => w'.cell? ⟨g3, 2, none⟩ = some (.int .i64 (b : Int)) ∧ w'.cell? ⟨c, 6 + b, none⟩ = some (.int .u32 rb)) (first | exact ⟨s0, s1⟩ | (refine ⟨pw_cell_below ?_ c2, pw_cell_below ?_ kb⟩ <;> exact (by (repeat (first | (with_reducible exact Below.refl _ _) | (with_reducible assumption) | with_reducible apply below_alloc | with_reducible apply pw_below_drewN | with_reducible apply below_drew1)))) | fail) (first | (go_at_call 54; refine (xread_yes (EW.out.below (by (repeat (first | (with_reducible exact Below.refl _ _) | (with_reducible assumption) | with_reducible apply below_alloc | with_reducible apply pw_below_drewN | with_reducible apply below_drew1)))) ((rb + im) % 4294967296) n sg HAT.out HN.out HMAY.out).mono ?_; rintro e Y ⟨rfl, hd⟩; have D := Aside0.mk (XDid.pre (pm_chain BB.out (Below.refl _ _).drew) hd); have D1 := Aside0.mk (XDid.pre (Below.refl _ _).drew hd); have R7 := Aside0.mk (D1.out.ext.at R6.out NG.out); have s0 := (blk_cell R7.out 2).trans rfl; have s1 := HRB.out ▸ D.out.em.kr (xreg_get D.out.em HBB.out); clear hd) | fail)
    all_goals go_wp2_with (fail)
    all_goals go_meet
    all_goals exact ⟨rfl, rfl, D, R7⟩
  case rest =>
    obtain ⟨rfl, rfl, D, R7⟩ := hcut
    clear c0 c1 c2 kb
    have c1 := (blk_cell R7.out 1).trans rfl
    have ka := D.out.em.kr (xreg_get D.out.em HA.out)
    have fa := D.out.em.fz (6 + a)
    obtain ⟨v, hv⟩ : ∃ v, wordF ps ((rb + im) % 4294967296).toNat n sg = v := ⟨_, rfl⟩
    have HV := Aside0.mk hv
    rw [hv]
    clear hv
    go_wp2_with (fail)
    refine wp_region_still_tail 6 (by kernel_rfl) (by kernel_rfl) ?_
    simp only [List.take_succ_cons, List.take_zero, List.drop_succ_cons, List.drop_zero]
    repeat (with_reducible refine wpStill_step (fun K hK => ?_); go_simp; with_reducible refine hK _ ?_; clear hK K)
    with_reducible refine wpStill_nil ?_
    change wpList _ _ _ _ _ wc.drew
    go_wp2_with (fail)
    all_goals go_end0
    all_goals (
      rw [HRB.out, show wordM (byteAt ps) ((rb + im) % 4294967296).toNat n sg = v from HV.out]
      have hr := wordF_range ps ((rb + im) % 4294967296).toNat n sg
      rw [HV.out] at hr
      exact ⟨rfl, xdone_of ((D.out.trans (D.out.em.set_reg a HA.out v hr.1 hr.2)).then_below (Below.refl _ _).drew) fun _ => rfl⟩)
set_option maxHeartbeats 4000000 in
set_option maxRecDepth 100000 in
theorem xdo_ld_no (h : XM w c pg fx ps S inp out) (x : I5) (hop : 80 ≤ x.op ∧ x.op ≤ 84) (ha : x.a < 16) (hb : x.b < 16) (hd : x.c < 16) (hmay : mayF S.code (addrF S x) (accN x.op) false ≠ 0) (hi : -8388608 ≤ x.imm ∧ x.imm ≤ 16777216) :
    Calls Tryd.prog 33 #[.pointer (some ⟨c, 0, none⟩), x.enc] w fun e w' => e = .returned (.tuple #[]) ∧ Xdone (endM (doM (byteAt ps) S x inp out)) w w' c pg fx ps S := by
  obtain ⟨op, a, b, d, imm⟩ := x
  unfold I5.enc
  simp only at hop ha hb hd hi hmay ⊢
  rw [show doM (byteAt ps) S ⟨op, a, b, d, imm⟩ inp out = ⟨errT (accE S ⟨op, a, b, d, imm⟩), accCM (byteAt ps) S ⟨op, a, b, d, imm⟩, accMM (byteAt ps) S ⟨op, a, b, d, imm⟩, inp, out⟩ by unfold doM; simp only; rw [if_neg (by omega), if_neg (by omega), if_pos (by omega)]]
  have HW := Aside0.mk (show mortiseref21_width.f 20 op = some (accN op, accS op) by exact width_yes op (.inl hop))
  have hL := accL_yes op hop
  have hop2 := hop.2
  have hop1 : 51 < op := by omega
  have hop0 : 19 < op := by omega
  clear hop
  rw [end_err]
  have eE : accE S ⟨op, a, b, d, imm⟩ = mayF S.code (addrF S ⟨op, a, b, d, imm⟩) (accN op) false := by unfold accE; simp only [hL, Bool.not_true]
  have eM : accMM (byteAt ps) S ⟨op, a, b, d, imm⟩ = byteAt ps := by funext i; unfold accMM; simp only [hL, if_true]
  have eC : accCM (byteAt ps) S ⟨op, a, b, d, imm⟩ = loadM (byteAt ps) S ⟨op, a, b, d, imm⟩ (accN op) (accS op) := by unfold accCM; simp only [hL, if_true]
  rw [eE, eM, eC]
  unfold loadM
  clear eE eM eC hL
  have ea : addrF S ⟨op, a, b, d, imm⟩ = (regV S b + imm % 4294967296) % 4294967296 := rfl
  rw [ea] at hmay ⊢
  clear ea
  rw [if_neg hmay, if_neg hmay]
  have HN := Aside0.mk (accN_in op)
  have hn0 : 0 < accN op := by have := HN.out; omega
  obtain ⟨n, hn⟩ : ∃ n, accN op = n := ⟨_, rfl⟩
  obtain ⟨sg, hsg⟩ : ∃ sg, accS op = sg := ⟨_, rfl⟩
  have HNE := Aside0.mk hn
  have HSG := Aside0.mk hsg
  rw [hn] at HN hn0
  rw [hn, hsg] at HW
  clear hn hsg
  have ib := idx16 hb
  have ia := idx16 ha
  have HMAY := Aside0.mk hmay
  rw [HNE.out] at HMAY
  try rw [HNE.out]
  try rw [HSG.out]
  clear hmay
  obtain ⟨im, him⟩ : ∃ im, imm % 4294967296 = im := ⟨_, rfl⟩
  rw [him] at HMAY
  try rw [him]
  have HOF := Aside0.mk (show mortiseref01_Of.f imm = some im by rw [refOf, him])
  have HX := Aside0.mk (show 0 ≤ im ∧ im < 4294967296 by omega)
  have HIM := Aside0.mk him
  clear him
  have H := Aside0.mk h
  have HI := Aside0.mk hi
  have HA := Aside0.mk ha
  have HBB := Aside0.mk hb
  have HDD := Aside0.mk hd
  have B0 := Aside0.mk (show Below w.heap.size w (w.alloc (.cells #[.int .i64 op, .int .i64 a, .int .i64 b, .int .i64 d, .int .i64 imm] 67)) from below_alloc (Below.refl _ _) _)
  have R5 := Aside0.mk (show (w.alloc (.cells #[.int .i64 op, .int .i64 a, .int .i64 b, .int .i64 d, .int .i64 imm] 67)).heap[w.heap.size]? = some (.cells #[.int .i64 op, .int .i64 a, .int .i64 b, .int .i64 d, .int .i64 imm] 67 (0, 0)) from heap_at _ _ _ rfl)
  have NG := Aside0.mk (show w.heap.size ∉ foot c pg ps S from fun hh => absurd (h.foot_lt _ hh) (by omega))
  clear h hi ha hb hd
  go_enter Tryd.func33, Tryd.ntmps33
  go_upto_region 1 with (fail)
  generalize (w.alloc (.cells #[.int .i64 op, .int .i64 a, .int .i64 b, .int .i64 d, .int .i64 imm] 67)) = W0 at R5 B0 ⊢
  generalize hg3 : w.heap.size = g3 at R5 NG ⊢
  clear hg3
  have c0 := (blk_cell R5.out 0).trans rfl
  have c4 := (blk_cell R5.out 4).trans rfl
  go_upto_region 5 with (first | (go_at_call 51; refine (mortiseref01_Of.calls imm _ _ HOF.out).mono ?_; rintro e Y1 ⟨rfl, hd1⟩; have BY := Aside0.mk (dn0_below hd1); have c0 := (blk_cell (blk_below R5.out BY.out) 0).trans rfl; clear hd1) | (go_at_call 52; refine (mortiseref21_width.calls 20 op _ _ _ HW.out).mono ?_; rintro e Y2 ⟨rfl, hd2⟩; have BY2 := Aside0.mk (dn0_below hd2); clear hd2))
  have BB := Aside0.mk (pm_chain B0.out (pm_chain BY.out BY2.out))
  have R6 := Aside0.mk (blk_below (blk_below R5.out BY.out) BY2.out)
  have EW := Aside0.mk (H.out.below BB.out)
  clear c0 c4 BY BY2 R5 B0
  generalize Y2 = W1 at BB R6 EW ⊢
  have c0 := (blk_cell R6.out 0).trans rfl
  have c1 := (blk_cell R6.out 1).trans rfl
  have c2 := (blk_cell R6.out 2).trans rfl
  have kb := EW.out.kr (xreg_get EW.out HBB.out)
  go_upto_region 10 with (fail)
  have HAT := Aside0.mk (show 0 ≤ (regV S b + im) % 4294967296 ∧ (regV S b + im) % 4294967296 < 4294967296 by omega)
  obtain ⟨rb, hrb⟩ : ∃ v, regV S b = v := ⟨_, rfl⟩
  rw [hrb] at kb HMAY HAT
  have HRB := Aside0.mk hrb
  clear hrb
  go_cut [8, 9] (fun v8 v9 wc => v8 = .int .u32 0 ∧ v9 = .bool false ∧ Aside0 (XDid w wc c pg fx ps S ps { S with ended := 6, exit := mayF S.code ((rb + im) % 4294967296) n false } inp out) ∧ Aside0 (wc.heap[g3]? = some (.cells #[.int .i64 op, .int .i64 a, .int .i64 b, .int .i64 d, .int .i64 imm] 67 (0, 0))))
  case first =>
    go_region_held3 (fun w' => w'.cell? ⟨g3, 2, none⟩ = some (.int .i64 (b : Int)) ∧ w'.cell? ⟨c, 6 + b, none⟩ = some (.int .u32 rb)) (first | exact ⟨s0, s1⟩ | (refine ⟨pw_cell_below ?_ c2, pw_cell_below ?_ kb⟩ <;> exact (by (repeat (first | (with_reducible exact Below.refl _ _) | (with_reducible assumption) | with_reducible apply below_alloc | with_reducible apply pw_below_drewN | with_reducible apply below_drew1)))) | fail) (first | (go_at_call 54; refine (xread_no (EW.out.below (by (repeat (first | (with_reducible exact Below.refl _ _) | (with_reducible assumption) | with_reducible apply below_alloc | with_reducible apply pw_below_drewN | with_reducible apply below_drew1)))) ((rb + im) % 4294967296) n sg HAT.out HN.out HMAY.out).mono ?_; rintro e Y ⟨rfl, hd⟩; have D := Aside0.mk (XDid.pre (pm_chain BB.out (Below.refl _ _).drew) hd); have D1 := Aside0.mk (XDid.pre (Below.refl _ _).drew hd); have R7 := Aside0.mk (D1.out.ext.at R6.out NG.out); have s0 := (blk_cell R7.out 2).trans rfl; have s1 := HRB.out ▸ D.out.em.kr (xreg_get D.out.em HBB.out); clear hd) | fail)
    all_goals go_wp2_with (fail)
    all_goals go_meet
    all_goals exact ⟨rfl, rfl, D, R7⟩
  case rest =>
    obtain ⟨rfl, rfl, D, R7⟩ := hcut
    go_wp2_with (fail)
    go_end0
    exact ⟨rfl, by rw [HRB.out]; exact xdone_of D.out fun _ => rfl⟩
set_option maxHeartbeats 4000000 in
set_option maxRecDepth 100000 in
theorem xdo_st_yes (h : XM w c pg fx ps S inp out) (x : I5) (hop : 88 ≤ x.op ∧ x.op ≤ 90) (ha : x.a < 16) (hb : x.b < 16) (hd : x.c < 16) (hmay : mayF S.code (addrF S x) (accN x.op) true = 0) (hi : -8388608 ≤ x.imm ∧ x.imm ≤ 16777216) :
    Calls Tryd.prog 33 #[.pointer (some ⟨c, 0, none⟩), x.enc] w fun e w' => e = .returned (.tuple #[]) ∧ Xdone (endM (doM (byteAt ps) S x inp out)) w w' c pg fx ps S := by
  obtain ⟨op, a, b, d, imm⟩ := x
  unfold I5.enc
  simp only at hop ha hb hd hi hmay ⊢
  rw [show doM (byteAt ps) S ⟨op, a, b, d, imm⟩ inp out = ⟨errT (accE S ⟨op, a, b, d, imm⟩), accCM (byteAt ps) S ⟨op, a, b, d, imm⟩, accMM (byteAt ps) S ⟨op, a, b, d, imm⟩, inp, out⟩ by unfold doM; simp only; rw [if_neg (by omega), if_neg (by omega), if_pos (by omega)]]
  have HW := Aside0.mk (show mortiseref21_width.f 20 op = some (accN op, accS op) by exact width_yes op (.inr hop))
  have hL := accL_no op hop
  have hop1 : 84 < op := by omega
  have hop2 : 51 < op := by omega
  have hop0 : 19 < op := by omega
  clear hop
  rw [end_err]
  have eE : accE S ⟨op, a, b, d, imm⟩ = mayF S.code (addrF S ⟨op, a, b, d, imm⟩) (accN op) true := by unfold accE; simp only [hL, Bool.not_false]
  have eM : accMM (byteAt ps) S ⟨op, a, b, d, imm⟩ = fun i => if mayF S.code (addrF S ⟨op, a, b, d, imm⟩) (accN op) true = 0 then putF (byteAt ps) (addrF S ⟨op, a, b, d, imm⟩).toNat (accN op).toNat (regV S a) i else byteAt ps i := by funext i; unfold accMM; rw [eE]; simp only [hL]; rfl
  have eC : accCM (byteAt ps) S ⟨op, a, b, d, imm⟩ = S := by unfold accCM; simp only [hL]; rfl
  rw [eE, eM, eC]
  clear eE eM eC hL
  have ea : addrF S ⟨op, a, b, d, imm⟩ = (regV S b + imm % 4294967296) % 4294967296 := rfl
  rw [ea] at hmay ⊢
  clear ea
  simp only [if_pos hmay]
  have HN := Aside0.mk (accN_in op)
  have hn0 : 0 < accN op := by have := HN.out; omega
  obtain ⟨n, hn⟩ : ∃ n, accN op = n := ⟨_, rfl⟩
  obtain ⟨sg, hsg⟩ : ∃ sg, accS op = sg := ⟨_, rfl⟩
  have HNE := Aside0.mk hn
  have HSG := Aside0.mk hsg
  rw [hn] at HN hn0
  rw [hn, hsg] at HW
  clear hn hsg
  have ib := idx16 hb
  have ia := idx16 ha
  have HMAY := Aside0.mk hmay
  rw [HNE.out] at HMAY
  try rw [HNE.out]
  clear hmay
  obtain ⟨im, him⟩ : ∃ im, imm % 4294967296 = im := ⟨_, rfl⟩
  rw [him] at HMAY
  try rw [him]
  have HOF := Aside0.mk (show mortiseref01_Of.f imm = some im by rw [refOf, him])
  have HX := Aside0.mk (show 0 ≤ im ∧ im < 4294967296 by omega)
  have HIM := Aside0.mk him
  clear him
  have H := Aside0.mk h
  have HI := Aside0.mk hi
  have HA := Aside0.mk ha
  have HBB := Aside0.mk hb
  have HDD := Aside0.mk hd
  have B0 := Aside0.mk (show Below w.heap.size w (w.alloc (.cells #[.int .i64 op, .int .i64 a, .int .i64 b, .int .i64 d, .int .i64 imm] 67)) from below_alloc (Below.refl _ _) _)
  have R5 := Aside0.mk (show (w.alloc (.cells #[.int .i64 op, .int .i64 a, .int .i64 b, .int .i64 d, .int .i64 imm] 67)).heap[w.heap.size]? = some (.cells #[.int .i64 op, .int .i64 a, .int .i64 b, .int .i64 d, .int .i64 imm] 67 (0, 0)) from heap_at _ _ _ rfl)
  have NG := Aside0.mk (show w.heap.size ∉ foot c pg ps S from fun hh => absurd (h.foot_lt _ hh) (by omega))
  clear h hi ha hb hd
  go_enter Tryd.func33, Tryd.ntmps33
  go_upto_region 1 with (fail)
  generalize (w.alloc (.cells #[.int .i64 op, .int .i64 a, .int .i64 b, .int .i64 d, .int .i64 imm] 67)) = W0 at R5 B0 ⊢
  generalize hg3 : w.heap.size = g3 at R5 NG ⊢
  clear hg3
  have c0 := (blk_cell R5.out 0).trans rfl
  have c4 := (blk_cell R5.out 4).trans rfl
  go_upto_region 5 with (first | (go_at_call 51; refine (mortiseref01_Of.calls imm _ _ HOF.out).mono ?_; rintro e Y1 ⟨rfl, hd1⟩; have BY := Aside0.mk (dn0_below hd1); have c0 := (blk_cell (blk_below R5.out BY.out) 0).trans rfl; clear hd1) | (go_at_call 52; refine (mortiseref21_width.calls 20 op _ _ _ HW.out).mono ?_; rintro e Y2 ⟨rfl, hd2⟩; have BY2 := Aside0.mk (dn0_below hd2); clear hd2))
  have BB := Aside0.mk (pm_chain B0.out (pm_chain BY.out BY2.out))
  have R6 := Aside0.mk (blk_below (blk_below R5.out BY.out) BY2.out)
  have EW := Aside0.mk (H.out.below BB.out)
  clear c0 c4 BY BY2 R5 B0
  generalize Y2 = W1 at BB R6 EW ⊢
  have c0 := (blk_cell R6.out 0).trans rfl
  have c1 := (blk_cell R6.out 1).trans rfl
  have c2 := (blk_cell R6.out 2).trans rfl
  have ka := EW.out.kr (xreg_get EW.out HA.out)
  have kb := EW.out.kr (xreg_get EW.out HBB.out)
  go_upto_region 14 with (fail)
  have HAT := Aside0.mk (show 0 ≤ (regV S b + im) % 4294967296 ∧ (regV S b + im) % 4294967296 < 4294967296 by omega)
  have HRA := Aside0.mk (xreg_in EW.out HA.out)
  refine wp_region_still_tail 16 (by kernel_rfl) (by kernel_rfl) ?_
  simp only [List.take_succ_cons, List.take_zero, List.drop_succ_cons, List.drop_zero]
  repeat (with_reducible refine wpStill_step (fun K hK => ?_); go_simp; with_reducible refine hK _ ?_; clear hK K)
  with_reducible refine wpStill_nil ?_
  change wpList _ _ _ _ _ W1.drew
  go_wp2_with (first | (go_at_call 55; refine (xwrite_yes (EW.out.below (by (repeat (first | (with_reducible exact Below.refl _ _) | (with_reducible assumption) | with_reducible apply below_alloc | with_reducible apply pw_below_drewN | with_reducible apply below_drew1)))) ((regV S b + im) % 4294967296) n (regV S a) HAT.out HN.out HRA.out HMAY.out).mono ?_; rintro e Y ⟨rfl, hd⟩; have HD := Aside0.mk hd; clear hd))
  all_goals go_end0
  all_goals (
    obtain ⟨ps2, D, M⟩ := HD.out
    exact ⟨rfl, xdone_of (XDid.pre (pm_chain BB.out (Below.refl _ _).drew) D) fun i => congrFun M i⟩)
set_option maxHeartbeats 4000000 in
set_option maxRecDepth 100000 in
theorem xdo_st_no (h : XM w c pg fx ps S inp out) (x : I5) (hop : 88 ≤ x.op ∧ x.op ≤ 90) (ha : x.a < 16) (hb : x.b < 16) (hd : x.c < 16) (hmay : mayF S.code (addrF S x) (accN x.op) true ≠ 0) (hi : -8388608 ≤ x.imm ∧ x.imm ≤ 16777216) :
    Calls Tryd.prog 33 #[.pointer (some ⟨c, 0, none⟩), x.enc] w fun e w' => e = .returned (.tuple #[]) ∧ Xdone (endM (doM (byteAt ps) S x inp out)) w w' c pg fx ps S := by
  obtain ⟨op, a, b, d, imm⟩ := x
  unfold I5.enc
  simp only at hop ha hb hd hi hmay ⊢
  rw [show doM (byteAt ps) S ⟨op, a, b, d, imm⟩ inp out = ⟨errT (accE S ⟨op, a, b, d, imm⟩), accCM (byteAt ps) S ⟨op, a, b, d, imm⟩, accMM (byteAt ps) S ⟨op, a, b, d, imm⟩, inp, out⟩ by unfold doM; simp only; rw [if_neg (by omega), if_neg (by omega), if_pos (by omega)]]
  have HW := Aside0.mk (show mortiseref21_width.f 20 op = some (accN op, accS op) by exact width_yes op (.inr hop))
  have hL := accL_no op hop
  have hop1 : 84 < op := by omega
  have hop2 : 51 < op := by omega
  have hop0 : 19 < op := by omega
  clear hop
  rw [end_err]
  have eE : accE S ⟨op, a, b, d, imm⟩ = mayF S.code (addrF S ⟨op, a, b, d, imm⟩) (accN op) true := by unfold accE; simp only [hL, Bool.not_false]
  have eM : accMM (byteAt ps) S ⟨op, a, b, d, imm⟩ = fun i => if mayF S.code (addrF S ⟨op, a, b, d, imm⟩) (accN op) true = 0 then putF (byteAt ps) (addrF S ⟨op, a, b, d, imm⟩).toNat (accN op).toNat (regV S a) i else byteAt ps i := by funext i; unfold accMM; rw [eE]; simp only [hL]; rfl
  have eC : accCM (byteAt ps) S ⟨op, a, b, d, imm⟩ = S := by unfold accCM; simp only [hL]; rfl
  rw [eE, eM, eC]
  clear eE eM eC hL
  have ea : addrF S ⟨op, a, b, d, imm⟩ = (regV S b + imm % 4294967296) % 4294967296 := rfl
  rw [ea] at hmay ⊢
  clear ea
  simp only [if_neg hmay]
  have HN := Aside0.mk (accN_in op)
  have hn0 : 0 < accN op := by have := HN.out; omega
  obtain ⟨n, hn⟩ : ∃ n, accN op = n := ⟨_, rfl⟩
  obtain ⟨sg, hsg⟩ : ∃ sg, accS op = sg := ⟨_, rfl⟩
  have HNE := Aside0.mk hn
  have HSG := Aside0.mk hsg
  rw [hn] at HN hn0
  rw [hn, hsg] at HW
  clear hn hsg
  have ib := idx16 hb
  have ia := idx16 ha
  have HMAY := Aside0.mk hmay
  rw [HNE.out] at HMAY
  try rw [HNE.out]
  clear hmay
  obtain ⟨im, him⟩ : ∃ im, imm % 4294967296 = im := ⟨_, rfl⟩
  rw [him] at HMAY
  try rw [him]
  have HOF := Aside0.mk (show mortiseref01_Of.f imm = some im by rw [refOf, him])
  have HX := Aside0.mk (show 0 ≤ im ∧ im < 4294967296 by omega)
  have HIM := Aside0.mk him
  clear him
  have H := Aside0.mk h
  have HI := Aside0.mk hi
  have HA := Aside0.mk ha
  have HBB := Aside0.mk hb
  have HDD := Aside0.mk hd
  have B0 := Aside0.mk (show Below w.heap.size w (w.alloc (.cells #[.int .i64 op, .int .i64 a, .int .i64 b, .int .i64 d, .int .i64 imm] 67)) from below_alloc (Below.refl _ _) _)
  have R5 := Aside0.mk (show (w.alloc (.cells #[.int .i64 op, .int .i64 a, .int .i64 b, .int .i64 d, .int .i64 imm] 67)).heap[w.heap.size]? = some (.cells #[.int .i64 op, .int .i64 a, .int .i64 b, .int .i64 d, .int .i64 imm] 67 (0, 0)) from heap_at _ _ _ rfl)
  have NG := Aside0.mk (show w.heap.size ∉ foot c pg ps S from fun hh => absurd (h.foot_lt _ hh) (by omega))
  clear h hi ha hb hd
  go_enter Tryd.func33, Tryd.ntmps33
  go_upto_region 1 with (fail)
  generalize (w.alloc (.cells #[.int .i64 op, .int .i64 a, .int .i64 b, .int .i64 d, .int .i64 imm] 67)) = W0 at R5 B0 ⊢
  generalize hg3 : w.heap.size = g3 at R5 NG ⊢
  clear hg3
  have c0 := (blk_cell R5.out 0).trans rfl
  have c4 := (blk_cell R5.out 4).trans rfl
  go_upto_region 5 with (first | (go_at_call 51; refine (mortiseref01_Of.calls imm _ _ HOF.out).mono ?_; rintro e Y1 ⟨rfl, hd1⟩; have BY := Aside0.mk (dn0_below hd1); have c0 := (blk_cell (blk_below R5.out BY.out) 0).trans rfl; clear hd1) | (go_at_call 52; refine (mortiseref21_width.calls 20 op _ _ _ HW.out).mono ?_; rintro e Y2 ⟨rfl, hd2⟩; have BY2 := Aside0.mk (dn0_below hd2); clear hd2))
  have BB := Aside0.mk (pm_chain B0.out (pm_chain BY.out BY2.out))
  have R6 := Aside0.mk (blk_below (blk_below R5.out BY.out) BY2.out)
  have EW := Aside0.mk (H.out.below BB.out)
  clear c0 c4 BY BY2 R5 B0
  generalize Y2 = W1 at BB R6 EW ⊢
  have c0 := (blk_cell R6.out 0).trans rfl
  have c1 := (blk_cell R6.out 1).trans rfl
  have c2 := (blk_cell R6.out 2).trans rfl
  have ka := EW.out.kr (xreg_get EW.out HA.out)
  have kb := EW.out.kr (xreg_get EW.out HBB.out)
  go_upto_region 14 with (fail)
  have HAT := Aside0.mk (show 0 ≤ (regV S b + im) % 4294967296 ∧ (regV S b + im) % 4294967296 < 4294967296 by omega)
  have HRA := Aside0.mk (xreg_in EW.out HA.out)
  refine wp_region_still_tail 16 (by kernel_rfl) (by kernel_rfl) ?_
  simp only [List.take_succ_cons, List.take_zero, List.drop_succ_cons, List.drop_zero]
  repeat (with_reducible refine wpStill_step (fun K hK => ?_); go_simp; with_reducible refine hK _ ?_; clear hK K)
  with_reducible refine wpStill_nil ?_
  change wpList _ _ _ _ _ W1.drew
  go_wp2_with (first | (go_at_call 55; refine (xwrite_no (EW.out.below (by (repeat (first | (with_reducible exact Below.refl _ _) | (with_reducible assumption) | with_reducible apply below_alloc | with_reducible apply pw_below_drewN | with_reducible apply below_drew1)))) ((regV S b + im) % 4294967296) n (regV S a) HAT.out HN.out HMAY.out).mono ?_; rintro e Y ⟨rfl, hd⟩; have HD := Aside0.mk hd; clear hd))
  all_goals go_end0
  all_goals exact ⟨rfl, xdone_of (XDid.pre (pm_chain BB.out (Below.refl _ _).drew) HD.out) fun _ => rfl⟩
end Go.Proofs.YtejhnlljddjicaaDoor.Ma
