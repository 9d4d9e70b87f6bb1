/- The document's machine: do, the operations on registers. No condition beyond those each theorem names. And more of the kind: 6 texts in one. -/
import Derived.Test.YtejhnlljddjicaaJGe
import Derived.Deep.RegionLaw
namespace Go.Proofs.Ytejhnlljddjicaa.Ma
open Go.RowKit Go.Proofs.Ytejhnlljddjicaa.PLk Go.Proofs.YtejhnlljddjicaaW.PrintWords Go.Proofs.YtejhnlljddjicaaW.PrintLast Go.Proofs.YtejhnlljddjicaaW.PrintMore Go.Proofs.Ytejhnlljddjicaa.La
set_option linter.unusedVariables false
set_option linter.unusedSimpArgs false
variable {fx : Value × Int} {w w' : World} {c pg : Nat} {ps ps' : Pages} {S S' : Cpu} {inp out inp' out' : List Int}
def Xdone (r : Ran) (w w' : World) (c pg : Nat) (fx : Value × Int) (ps : Pages) (S : Cpu) : Prop :=
 ∃ iv ov ps', XDid w w' c pg fx ps S ps' { r.S with inV := iv, outV := ov } r.inp r.out ∧ ∀ i, byteAt ps' i = r.m i
theorem xdone_of {e : Value} {T : Cpu} {m : Nat → Int} {i o : List Int} (D : XDid w w' c pg fx ps S ps' T i o) (hm : ∀ k, byteAt ps' k = m k) : Xdone ⟨e, T, m, i, o⟩ w w' c pg fx ps S := ⟨T.inV, T.outV, ps', D, hm⟩
theorem xreg_get (h : XM w c pg fx ps S inp out) {a : Nat} (ha : a < 16) : S.regs[a]? = some (regV S a) := by
 unfold regV; rw [List.getElem?_eq_getElem (by rw [h.nreg]; exact ha)]; rfl
theorem xreg_in (h : XM w c pg fx ps S inp out) {a : Nat} (ha : a < 16) : 0 ≤ regV S a ∧ regV S a < 4294967296 := h.regIn _ (List.mem_of_getElem? (xreg_get h ha))
theorem width_no (op : Int) (h : op < 80) : mortiseref21_width.f 20 op = some (0, false) := by
 have e : ∀ k : Int, 80 ≤ k → ¬ op = k := fun k hk => by omega
 have e2 : ∀ k : Int, 80 ≤ k → (op == k) = false := fun k hk => by simp; omega
 simp [mortiseref21_width.f, mortiseref21_width.j0, mortiseref21_width.j1, e]
theorem end_bin (S : Cpu) (op : Int) (a : Nat) (x y : Int) (m : Nat → Int) (i o : List Int) : endM ⟨if (binP op x y).2 then .nilIface else stopV 2 0, reckF S op a x y, m, i, o⟩ = ⟨if (binP op x y).2 then .nilIface else stopV 2 0, xbinS S op a x y, m, i, o⟩ := by
 unfold xbinS reckF
 cases (binP op x y).2 <;> rfl
set_option maxHeartbeats 4000000 in
set_option maxRecDepth 100000 in
theorem xdo_rrr (h : XM w c pg fx ps S inp out) (x : I5) (hop : 1 ≤ x.op ∧ x.op ≤ 19) (ha : x.a < 16) (hb : x.b < 16) (hd : x.c < 16) (hi : -8388608 ≤ x.imm ∧ x.imm ≤ 16777216) :
  Calls Try.prog 41 #[.pointer (some ⟨c, 0, none⟩), x.enc] w fun e w' => e = .returned (.tuple #[]) ∧ Xdone (endM (doM (byteAt ps) S x inp out)) w w' c pg fx ps S := by
 obtain ⟨op, a, b, d, imm⟩ := x
 unfold I5.enc
 simp only at hop ha hb hd hi ⊢
 rw [show doM (byteAt ps) S ⟨op, a, b, d, imm⟩ inp out = ⟨if (binP op (regV S b) (regV S d)).2 then .nilIface else stopV 2 0, reckF S op a (regV S b) (regV S d), byteAt ps, inp, out⟩ by unfold doM; simp only; rw [if_pos hop]]
 have HW := Aside0.mk (show mortiseref21_width.f 20 op = some (0, false) by exact width_no op (by omega))
 rw [end_bin]
 have hop2 := hop.2
 have ib := idx16 hb
 have id := idx16 hd
 clear hop
 obtain ⟨im, him⟩ : ∃ im, imm % 4294967296 = im := ⟨_, rfl⟩
 try rw [him]
 have HOF := Aside0.mk (show mortiseref01_Of.f imm = some im by rw [refOf, him])
 have HX := Aside0.mk (show 0 ≤ im ∧ im < 4294967296 by omega)
 have HIM := Aside0.mk him
 clear him
 have H := Aside0.mk h
 have HI := Aside0.mk hi
 have HA := Aside0.mk ha
 have HBB := Aside0.mk hb
 have HDD := Aside0.mk hd
 have B0 := Aside0.mk (show Below w.heap.size w (w.alloc (.cells #[.int .i64 op, .int .i64 a, .int .i64 b, .int .i64 d, .int .i64 imm] 36)) from below_alloc (Below.refl _ _) _)
 have R5 := Aside0.mk (show (w.alloc (.cells #[.int .i64 op, .int .i64 a, .int .i64 b, .int .i64 d, .int .i64 imm] 36)).heap[w.heap.size]? = some (.cells #[.int .i64 op, .int .i64 a, .int .i64 b, .int .i64 d, .int .i64 imm] 36 (0, 0)) from heap_at _ _ _ rfl)
 have NG := Aside0.mk (show w.heap.size ∉ foot c pg ps S from fun hh => absurd (h.foot_lt _ hh) (by omega))
 clear h hi ha hb hd
 go_enter Try.func41, Try.ntmps41
 go_upto_region 1 with (fail)
 generalize (w.alloc (.cells #[.int .i64 op, .int .i64 a, .int .i64 b, .int .i64 d, .int .i64 imm] 36)) = W0 at R5 B0 ⊢
 generalize hg3 : w.heap.size = g3 at R5 NG ⊢
 clear hg3
 have c0 := (blk_cell R5.out 0).trans rfl
 have c4 := (blk_cell R5.out 4).trans rfl
 go_upto_region 5 with (first | (go_at_call 32; refine (mortiseref01_Of.calls imm _ _ HOF.out).mono ?_; rintro e Y1 ⟨rfl, hd1⟩; have BY := Aside0.mk (dn0_below hd1); have c0 := (blk_cell (blk_below R5.out BY.out) 0).trans rfl; clear hd1) | (go_at_call 51; refine (mortiseref21_width.calls 20 op _ _ _ HW.out).mono ?_; rintro e Y2 ⟨rfl, hd2⟩; have BY2 := Aside0.mk (dn0_below hd2); clear hd2))
 have BB := Aside0.mk (pm_chain B0.out (pm_chain BY.out BY2.out))
 have R6 := Aside0.mk (blk_below (blk_below R5.out BY.out) BY2.out)
 have EW := Aside0.mk (H.out.below BB.out)
 clear c0 c4 BY BY2 R5 B0
 generalize Y2 = W1 at BB R6 EW ⊢
 have c0 := (blk_cell R6.out 0).trans rfl
 have c1 := (blk_cell R6.out 1).trans rfl
 have c2 := (blk_cell R6.out 2).trans rfl
 have c3 := (blk_cell R6.out 3).trans rfl
 have kb := EW.out.kr (xreg_get EW.out HBB.out)
 have kd := EW.out.kr (xreg_get EW.out HDD.out)
 go_wp2_with (fail)
 refine wp_region_still_tail 17 (by kernel_rfl) (by kernel_rfl) ?_
 simp only [List.take_succ_cons, List.take_zero, List.drop_succ_cons, List.drop_zero]
 repeat (with_reducible refine wpStill_step (fun K hK => ?_); go_simp; with_reducible refine hK _ ?_; clear hK K)
 with_reducible refine wpStill_nil ?_
 change wpList _ _ _ _ _ W1.drew
 go_wp2_with (first | (go_at_call 52; refine (xbin_calls (EW.out.below (by (repeat (first | (with_reducible exact Below.refl _ _) | (with_reducible assumption) | with_reducible apply below_alloc | with_reducible apply pw_below_drewN | with_reducible apply below_drew1)))) op a HA.out _ _ (xreg_in EW.out HBB.out) (xreg_in EW.out HDD.out)).mono ?_; rintro e Y ⟨rfl, hd⟩; have D := Aside0.mk (XDid.pre (pm_chain BB.out (Below.refl _ _).drew) hd); clear hd))
 all_goals go_end0
 all_goals exact ⟨rfl, xdone_of D.out fun _ => rfl⟩
set_option maxHeartbeats 4000000 in
set_option maxRecDepth 100000 in
theorem xdo_rri (h : XM w c pg fx ps S inp out) (x : I5) (hop : 33 ≤ x.op ∧ x.op ≤ 51) (ha : x.a < 16) (hb : x.b < 16) (hd : x.c < 16) (hi : -8388608 ≤ x.imm ∧ x.imm ≤ 16777216) :
  Calls Try.prog 41 #[.pointer (some ⟨c, 0, none⟩), x.enc] w fun e w' => e = .returned (.tuple #[]) ∧ Xdone (endM (doM (byteAt ps) S x inp out)) w w' c pg fx ps S := by
 obtain ⟨op, a, b, d, imm⟩ := x
 unfold I5.enc
 simp only at hop ha hb hd hi ⊢
 rw [show doM (byteAt ps) S ⟨op, a, b, d, imm⟩ inp out = ⟨if (binP (op - 32) (regV S b) (imm % 4294967296)).2 then .nilIface else stopV 2 0, reckF S (op - 32) a (regV S b) (imm % 4294967296), byteAt ps, inp, out⟩ by unfold doM; simp only; rw [if_neg (by omega), if_pos hop]]
 have HW := Aside0.mk (show mortiseref21_width.f 20 op = some (0, false) by exact width_no op (by omega))
 rw [end_bin]
 have hop2 := hop.2
 have hop1 : 19 < op := by omega
 have hw : IntKind.i64.wrap (op - 32) = op - 32 := IntWalk.i64_in _ (by omega)
 have ib := idx16 hb
 clear hop
 obtain ⟨im, him⟩ : ∃ im, imm % 4294967296 = im := ⟨_, rfl⟩
 try rw [him]
 have HOF := Aside0.mk (show mortiseref01_Of.f imm = some im by rw [refOf, him])
 have HX := Aside0.mk (show 0 ≤ im ∧ im < 4294967296 by omega)
 have HIM := Aside0.mk him
 clear him
 have H := Aside0.mk h
 have HI := Aside0.mk hi
 have HA := Aside0.mk ha
 have HBB := Aside0.mk hb
 have HDD := Aside0.mk hd
 have B0 := Aside0.mk (show Below w.heap.size w (w.alloc (.cells #[.int .i64 op, .int .i64 a, .int .i64 b, .int .i64 d, .int .i64 imm] 36)) from below_alloc (Below.refl _ _) _)
 have R5 := Aside0.mk (show (w.alloc (.cells #[.int .i64 op, .int .i64 a, .int .i64 b, .int .i64 d, .int .i64 imm] 36)).heap[w.heap.size]? = some (.cells #[.int .i64 op, .int .i64 a, .int .i64 b, .int .i64 d, .int .i64 imm] 36 (0, 0)) from heap_at _ _ _ rfl)
 have NG := Aside0.mk (show w.heap.size ∉ foot c pg ps S from fun hh => absurd (h.foot_lt _ hh) (by omega))
 clear h hi ha hb hd
 go_enter Try.func41, Try.ntmps41
 go_upto_region 1 with (fail)
 generalize (w.alloc (.cells #[.int .i64 op, .int .i64 a, .int .i64 b, .int .i64 d, .int .i64 imm] 36)) = W0 at R5 B0 ⊢
 generalize hg3 : w.heap.size = g3 at R5 NG ⊢
 clear hg3
 have c0 := (blk_cell R5.out 0).trans rfl
 have c4 := (blk_cell R5.out 4).trans rfl
 go_upto_region 5 with (first | (go_at_call 32; refine (mortiseref01_Of.calls imm _ _ HOF.out).mono ?_; rintro e Y1 ⟨rfl, hd1⟩; have BY := Aside0.mk (dn0_below hd1); have c0 := (blk_cell (blk_below R5.out BY.out) 0).trans rfl; clear hd1) | (go_at_call 51; refine (mortiseref21_width.calls 20 op _ _ _ HW.out).mono ?_; rintro e Y2 ⟨rfl, hd2⟩; have BY2 := Aside0.mk (dn0_below hd2); clear hd2))
 have BB := Aside0.mk (pm_chain B0.out (pm_chain BY.out BY2.out))
 have R6 := Aside0.mk (blk_below (blk_below R5.out BY.out) BY2.out)
 have EW := Aside0.mk (H.out.below BB.out)
 clear c0 c4 BY BY2 R5 B0
 generalize Y2 = W1 at BB R6 EW ⊢
 have c0 := (blk_cell R6.out 0).trans rfl
 have c1 := (blk_cell R6.out 1).trans rfl
 have c2 := (blk_cell R6.out 2).trans rfl
 have kb := EW.out.kr (xreg_get EW.out HBB.out)
 go_wp2_with (fail)
 refine wp_region_still_tail 13 (by kernel_rfl) (by kernel_rfl) ?_
 simp only [List.take_succ_cons, List.take_zero, List.drop_succ_cons, List.drop_zero]
 repeat (with_reducible refine wpStill_step (fun K hK => ?_); go_simp; with_reducible refine hK _ ?_; clear hK K)
 with_reducible refine wpStill_nil ?_
 change wpList _ _ _ _ _ W1.drew
 go_wp2_with (first | (go_at_call 52; refine (xbin_calls (EW.out.below (by (repeat (first | (with_reducible exact Below.refl _ _) | (with_reducible assumption) | with_reducible apply below_alloc | with_reducible apply pw_below_drewN | with_reducible apply below_drew1)))) (op - 32) a HA.out _ _ (xreg_in EW.out HBB.out) HX.out).mono ?_; rintro e Y ⟨rfl, hd⟩; have D := Aside0.mk (XDid.pre (pm_chain BB.out (Below.refl _ _).drew) hd); clear hd))
 all_goals go_end0
 all_goals exact ⟨rfl, xdone_of D.out fun _ => rfl⟩
theorem width_yes (op : Int) (h : (80 ≤ op ∧ op ≤ 84) ∨ (88 ≤ op ∧ op ≤ 90)) : mortiseref21_width.f 20 op = some (accN op, accS op) := by
 have e : op = 80 ∨ op = 81 ∨ op = 82 ∨ op = 83 ∨ op = 84 ∨ op = 88 ∨ op = 89 ∨ op = 90 := by omega
 rcases e with rfl | rfl | rfl | rfl | rfl | rfl | rfl | rfl <;> rfl
theorem accN_in (op : Int) : accN op = 1 ∨ accN op = 2 ∨ accN op = 4 := by unfold accN; split; exact .inl rfl; split; exact .inr (.inl rfl); exact .inr (.inr rfl)
theorem accL_yes (op : Int) (h : 80 ≤ op ∧ op ≤ 84) : accL op = true := by unfold accL; simp; omega
theorem accL_no (op : Int) (h : 88 ≤ op ∧ op ≤ 90) : accL op = false := by unfold accL; simp; omega
theorem end_err (n : Int) (S : Cpu) (m : Nat → Int) (i o : List Int) : endM ⟨errT n, S, m, i, o⟩ = ⟨errT n, if n = 0 then S else { S with ended := 6, exit := n }, m, i, o⟩ := by
 unfold errT
 split <;> rfl
set_option maxHeartbeats 4000000 in
set_option maxRecDepth 100000 in
theorem xdo_ld_yes (h : XM w c pg fx ps S inp out) (x : I5) (hop : 80 ≤ x.op ∧ x.op ≤ 84) (ha : x.a < 16) (hb : x.b < 16) (hd : x.c < 16) (hmay : mayF S.code (addrF S x) (accN x.op) false = 0) (hi : -8388608 ≤ x.imm ∧ x.imm ≤ 16777216) :
  Calls Try.prog 41 #[.pointer (some ⟨c, 0, none⟩), x.enc] w fun e w' => e = .returned (.tuple #[]) ∧ Xdone (endM (doM (byteAt ps) S x inp out)) w w' c pg fx ps S := by
 obtain ⟨op, a, b, d, imm⟩ := x
 unfold I5.enc
 simp only at hop ha hb hd hi hmay ⊢
 rw [show doM (byteAt ps) S ⟨op, a, b, d, imm⟩ inp out = ⟨errT (accE S ⟨op, a, b, d, imm⟩), accCM (byteAt ps) S ⟨op, a, b, d, imm⟩, accMM (byteAt ps) S ⟨op, a, b, d, imm⟩, inp, out⟩ by unfold doM; simp only; rw [if_neg (by omega), if_neg (by omega), if_pos (by omega)]]
 have HW := Aside0.mk (show mortiseref21_width.f 20 op = some (accN op, accS op) by exact width_yes op (.inl hop))
 have hL := accL_yes op hop
 have hop2 := hop.2
 have hop1 : 51 < op := by omega
 have hop0 : 19 < op := by omega
 clear hop
 rw [end_err]
 have eE : accE S ⟨op, a, b, d, imm⟩ = mayF S.code (addrF S ⟨op, a, b, d, imm⟩) (accN op) false := by unfold accE; simp only [hL, Bool.not_true]
 have eM : accMM (byteAt ps) S ⟨op, a, b, d, imm⟩ = byteAt ps := by funext i; unfold accMM; simp only [hL, if_true]
 have eC : accCM (byteAt ps) S ⟨op, a, b, d, imm⟩ = loadM (byteAt ps) S ⟨op, a, b, d, imm⟩ (accN op) (accS op) := by unfold accCM; simp only [hL, if_true]
 rw [eE, eM, eC]
 unfold loadM
 clear eE eM eC hL
 have ea : addrF S ⟨op, a, b, d, imm⟩ = (regV S b + imm % 4294967296) % 4294967296 := rfl
 rw [ea] at hmay ⊢
 clear ea
 rw [if_pos hmay, if_pos hmay]
 have HN := Aside0.mk (accN_in op)
 have hn0 : 0 < accN op := by have := HN.out; omega
 obtain ⟨n, hn⟩ : ∃ n, accN op = n := ⟨_, rfl⟩
 obtain ⟨sg, hsg⟩ : ∃ sg, accS op = sg := ⟨_, rfl⟩
 have HNE := Aside0.mk hn
 have HSG := Aside0.mk hsg
 rw [hn] at HN hn0
 rw [hn, hsg] at HW
 clear hn hsg
 have ib := idx16 hb
 have ia := idx16 ha
 have HMAY := Aside0.mk hmay
 rw [HNE.out] at HMAY
 try rw [HNE.out]
 try rw [HSG.out]
 clear hmay
 obtain ⟨im, him⟩ : ∃ im, imm % 4294967296 = im := ⟨_, rfl⟩
 rw [him] at HMAY
 try rw [him]
 have HOF := Aside0.mk (show mortiseref01_Of.f imm = some im by rw [refOf, him])
 have HX := Aside0.mk (show 0 ≤ im ∧ im < 4294967296 by omega)
 have HIM := Aside0.mk him
 clear him
 have H := Aside0.mk h
 have HI := Aside0.mk hi
 have HA := Aside0.mk ha
 have HBB := Aside0.mk hb
 have HDD := Aside0.mk hd
 have B0 := Aside0.mk (show Below w.heap.size w (w.alloc (.cells #[.int .i64 op, .int .i64 a, .int .i64 b, .int .i64 d, .int .i64 imm] 36)) from below_alloc (Below.refl _ _) _)
 have R5 := Aside0.mk (show (w.alloc (.cells #[.int .i64 op, .int .i64 a, .int .i64 b, .int .i64 d, .int .i64 imm] 36)).heap[w.heap.size]? = some (.cells #[.int .i64 op, .int .i64 a, .int .i64 b, .int .i64 d, .int .i64 imm] 36 (0, 0)) from heap_at _ _ _ rfl)
 have NG := Aside0.mk (show w.heap.size ∉ foot c pg ps S from fun hh => absurd (h.foot_lt _ hh) (by omega))
 clear h hi ha hb hd
 go_enter Try.func41, Try.ntmps41
 go_upto_region 1 with (fail)
 generalize (w.alloc (.cells #[.int .i64 op, .int .i64 a, .int .i64 b, .int .i64 d, .int .i64 imm] 36)) = W0 at R5 B0 ⊢
 generalize hg3 : w.heap.size = g3 at R5 NG ⊢
 clear hg3
 have c0 := (blk_cell R5.out 0).trans rfl
 have c4 := (blk_cell R5.out 4).trans rfl
 go_upto_region 5 with (first | (go_at_call 32; refine (mortiseref01_Of.calls imm _ _ HOF.out).mono ?_; rintro e Y1 ⟨rfl, hd1⟩; have BY := Aside0.mk (dn0_below hd1); have c0 := (blk_cell (blk_below R5.out BY.out) 0).trans rfl; clear hd1) | (go_at_call 51; refine (mortiseref21_width.calls 20 op _ _ _ HW.out).mono ?_; rintro e Y2 ⟨rfl, hd2⟩; have BY2 := Aside0.mk (dn0_below hd2); clear hd2))
 have BB := Aside0.mk (pm_chain B0.out (pm_chain BY.out BY2.out))
 have R6 := Aside0.mk (blk_below (blk_below R5.out BY.out) BY2.out)
 have EW := Aside0.mk (H.out.below BB.out)
 clear c0 c4 BY BY2 R5 B0
 generalize Y2 = W1 at BB R6 EW ⊢
 have c0 := (blk_cell R6.out 0).trans rfl
 have c1 := (blk_cell R6.out 1).trans rfl
 have c2 := (blk_cell R6.out 2).trans rfl
 have kb := EW.out.kr (xreg_get EW.out HBB.out)
 go_upto_region 10 with (fail)
 have HAT := Aside0.mk (show 0 ≤ (regV S b + im) % 4294967296 ∧ (regV S b + im) % 4294967296 < 4294967296 by omega)
 obtain ⟨rb, hrb⟩ : ∃ v, regV S b = v := ⟨_, rfl⟩
 rw [hrb] at kb HMAY HAT
 have HRB := Aside0.mk hrb
 clear hrb
 go_cut [8, 9] (fun v8 v9 wc => v8 = .int .u32 (wordF ps ((rb + im) % 4294967296).toNat n sg) ∧ v9 = .bool true ∧ Aside0 (XDid w wc c pg fx ps S ps S inp out) ∧ Aside0 (wc.heap[g3]? = some (.cells #[.int .i64 op, .int .i64 a, .int .i64 b, .int .i64 d, .int .i64 imm] 36 (0, 0))))
 case first =>
  go_region_held3 (fun w' => w'.cell? ⟨g3, 2, none⟩ = some (.int .i64 (b : Int)) ∧ w'.cell? ⟨c, 6 + b, none⟩ = some (.int .u32 rb)) (first | exact ⟨s0, s1⟩ | (refine ⟨pw_cell_below ?_ c2, pw_cell_below ?_ kb⟩ <;> exact (by (repeat (first | (with_reducible exact Below.refl _ _) | (with_reducible assumption) | with_reducible apply below_alloc | with_reducible apply pw_below_drewN | with_reducible apply below_drew1)))) | fail) (first | (go_at_call 53; refine (xread_yes (EW.out.below (by (repeat (first | (with_reducible exact Below.refl _ _) | (with_reducible assumption) | with_reducible apply below_alloc | with_reducible apply pw_below_drewN | with_reducible apply below_drew1)))) ((rb + im) % 4294967296) n sg HAT.out HN.out HMAY.out).mono ?_; rintro e Y ⟨rfl, hd⟩; have D := Aside0.mk (XDid.pre (pm_chain BB.out (Below.refl _ _).drew) hd); have D1 := Aside0.mk (XDid.pre (Below.refl _ _).drew hd); have R7 := Aside0.mk (D1.out.ext.at R6.out NG.out); have s0 := (blk_cell R7.out 2).trans rfl; have s1 := HRB.out ▸ D.out.em.kr (xreg_get D.out.em HBB.out); clear hd) | fail)
  all_goals go_wp2_with (fail)
  all_goals go_meet
  all_goals exact ⟨rfl, rfl, D, R7⟩
 case rest =>
  obtain ⟨rfl, rfl, D, R7⟩ := hcut
  clear c0 c1 c2 kb
  have c1 := (blk_cell R7.out 1).trans rfl
  have ka := D.out.em.kr (xreg_get D.out.em HA.out)
  have fa := D.out.em.fz (6 + a)
  obtain ⟨v, hv⟩ : ∃ v, wordF ps ((rb + im) % 4294967296).toNat n sg = v := ⟨_, rfl⟩
  have HV := Aside0.mk hv
  rw [hv]
  clear hv
  go_wp2_with (fail)
  refine wp_region_still_tail 6 (by kernel_rfl) (by kernel_rfl) ?_
  simp only [List.take_succ_cons, List.take_zero, List.drop_succ_cons, List.drop_zero]
  repeat (with_reducible refine wpStill_step (fun K hK => ?_); go_simp; with_reducible refine hK _ ?_; clear hK K)
  with_reducible refine wpStill_nil ?_
  change wpList _ _ _ _ _ wc.drew
  go_wp2_with (fail)
  all_goals go_end0
  all_goals (
   rw [HRB.out, show wordM (byteAt ps) ((rb + im) % 4294967296).toNat n sg = v from HV.out]
   have hr := wordF_range ps ((rb + im) % 4294967296).toNat n sg
   rw [HV.out] at hr
   exact ⟨rfl, xdone_of ((D.out.trans (D.out.em.set_reg a HA.out v hr.1 hr.2)).then_below (Below.refl _ _).drew) fun _ => rfl⟩)
set_option maxHeartbeats 4000000 in
set_option maxRecDepth 100000 in
theorem xdo_ld_no (h : XM w c pg fx ps S inp out) (x : I5) (hop : 80 ≤ x.op ∧ x.op ≤ 84) (ha : x.a < 16) (hb : x.b < 16) (hd : x.c < 16) (hmay : mayF S.code (addrF S x) (accN x.op) false ≠ 0) (hi : -8388608 ≤ x.imm ∧ x.imm ≤ 16777216) :
  Calls Try.prog 41 #[.pointer (some ⟨c, 0, none⟩), x.enc] w fun e w' => e = .returned (.tuple #[]) ∧ Xdone (endM (doM (byteAt ps) S x inp out)) w w' c pg fx ps S := by
 obtain ⟨op, a, b, d, imm⟩ := x
 unfold I5.enc
 simp only at hop ha hb hd hi hmay ⊢
 rw [show doM (byteAt ps) S ⟨op, a, b, d, imm⟩ inp out = ⟨errT (accE S ⟨op, a, b, d, imm⟩), accCM (byteAt ps) S ⟨op, a, b, d, imm⟩, accMM (byteAt ps) S ⟨op, a, b, d, imm⟩, inp, out⟩ by unfold doM; simp only; rw [if_neg (by omega), if_neg (by omega), if_pos (by omega)]]
 have HW := Aside0.mk (show mortiseref21_width.f 20 op = some (accN op, accS op) by exact width_yes op (.inl hop))
 have hL := accL_yes op hop
 have hop2 := hop.2
 have hop1 : 51 < op := by omega
 have hop0 : 19 < op := by omega
 clear hop
 rw [end_err]
 have eE : accE S ⟨op, a, b, d, imm⟩ = mayF S.code (addrF S ⟨op, a, b, d, imm⟩) (accN op) false := by unfold accE; simp only [hL, Bool.not_true]
 have eM : accMM (byteAt ps) S ⟨op, a, b, d, imm⟩ = byteAt ps := by funext i; unfold accMM; simp only [hL, if_true]
 have eC : accCM (byteAt ps) S ⟨op, a, b, d, imm⟩ = loadM (byteAt ps) S ⟨op, a, b, d, imm⟩ (accN op) (accS op) := by unfold accCM; simp only [hL, if_true]
 rw [eE, eM, eC]
 unfold loadM
 clear eE eM eC hL
 have ea : addrF S ⟨op, a, b, d, imm⟩ = (regV S b + imm % 4294967296) % 4294967296 := rfl
 rw [ea] at hmay ⊢
 clear ea
 rw [if_neg hmay, if_neg hmay]
 have HN := Aside0.mk (accN_in op)
 have hn0 : 0 < accN op := by have := HN.out; omega
 obtain ⟨n, hn⟩ : ∃ n, accN op = n := ⟨_, rfl⟩
 obtain ⟨sg, hsg⟩ : ∃ sg, accS op = sg := ⟨_, rfl⟩
 have HNE := Aside0.mk hn
 have HSG := Aside0.mk hsg
 rw [hn] at HN hn0
 rw [hn, hsg] at HW
 clear hn hsg
 have ib := idx16 hb
 have ia := idx16 ha
 have HMAY := Aside0.mk hmay
 rw [HNE.out] at HMAY
 try rw [HNE.out]
 try rw [HSG.out]
 clear hmay
 obtain ⟨im, him⟩ : ∃ im, imm % 4294967296 = im := ⟨_, rfl⟩
 rw [him] at HMAY
 try rw [him]
 have HOF := Aside0.mk (show mortiseref01_Of.f imm = some im by rw [refOf, him])
 have HX := Aside0.mk (show 0 ≤ im ∧ im < 4294967296 by omega)
 have HIM := Aside0.mk him
 clear him
 have H := Aside0.mk h
 have HI := Aside0.mk hi
 have HA := Aside0.mk ha
 have HBB := Aside0.mk hb
 have HDD := Aside0.mk hd
 have B0 := Aside0.mk (show Below w.heap.size w (w.alloc (.cells #[.int .i64 op, .int .i64 a, .int .i64 b, .int .i64 d, .int .i64 imm] 36)) from below_alloc (Below.refl _ _) _)
 have R5 := Aside0.mk (show (w.alloc (.cells #[.int .i64 op, .int .i64 a, .int .i64 b, .int .i64 d, .int .i64 imm] 36)).heap[w.heap.size]? = some (.cells #[.int .i64 op, .int .i64 a, .int .i64 b, .int .i64 d, .int .i64 imm] 36 (0, 0)) from heap_at _ _ _ rfl)
 have NG := Aside0.mk (show w.heap.size ∉ foot c pg ps S from fun hh => absurd (h.foot_lt _ hh) (by omega))
 clear h hi ha hb hd
 go_enter Try.func41, Try.ntmps41
 go_upto_region 1 with (fail)
 generalize (w.alloc (.cells #[.int .i64 op, .int .i64 a, .int .i64 b, .int .i64 d, .int .i64 imm] 36)) = W0 at R5 B0 ⊢
 generalize hg3 : w.heap.size = g3 at R5 NG ⊢
 clear hg3
 have c0 := (blk_cell R5.out 0).trans rfl
 have c4 := (blk_cell R5.out 4).trans rfl
 go_upto_region 5 with (first | (go_at_call 32; refine (mortiseref01_Of.calls imm _ _ HOF.out).mono ?_; rintro e Y1 ⟨rfl, hd1⟩; have BY := Aside0.mk (dn0_below hd1); have c0 := (blk_cell (blk_below R5.out BY.out) 0).trans rfl; clear hd1) | (go_at_call 51; refine (mortiseref21_width.calls 20 op _ _ _ HW.out).mono ?_; rintro e Y2 ⟨rfl, hd2⟩; have BY2 := Aside0.mk (dn0_below hd2); clear hd2))
 have BB := Aside0.mk (pm_chain B0.out (pm_chain BY.out BY2.out))
 have R6 := Aside0.mk (blk_below (blk_below R5.out BY.out) BY2.out)
 have EW := Aside0.mk (H.out.below BB.out)
 clear c0 c4 BY BY2 R5 B0
 generalize Y2 = W1 at BB R6 EW ⊢
 have c0 := (blk_cell R6.out 0).trans rfl
 have c1 := (blk_cell R6.out 1).trans rfl
 have c2 := (blk_cell R6.out 2).trans rfl
 have kb := EW.out.kr (xreg_get EW.out HBB.out)
 go_upto_region 10 with (fail)
 have HAT := Aside0.mk (show 0 ≤ (regV S b + im) % 4294967296 ∧ (regV S b + im) % 4294967296 < 4294967296 by omega)
 obtain ⟨rb, hrb⟩ : ∃ v, regV S b = v := ⟨_, rfl⟩
 rw [hrb] at kb HMAY HAT
 have HRB := Aside0.mk hrb
 clear hrb
 go_cut [8, 9] (fun v8 v9 wc => v8 = .int .u32 0 ∧ v9 = .bool false ∧ Aside0 (XDid w wc c pg fx ps S ps { S with ended := 6, exit := mayF S.code ((rb + im) % 4294967296) n false } inp out) ∧ Aside0 (wc.heap[g3]? = some (.cells #[.int .i64 op, .int .i64 a, .int .i64 b, .int .i64 d, .int .i64 imm] 36 (0, 0))))
 case first =>
  go_region_held3 (fun w' => w'.cell? ⟨g3, 2, none⟩ = some (.int .i64 (b : Int)) ∧ w'.cell? ⟨c, 6 + b, none⟩ = some (.int .u32 rb)) (first | exact ⟨s0, s1⟩ | (refine ⟨pw_cell_below ?_ c2, pw_cell_below ?_ kb⟩ <;> exact (by (repeat (first | (with_reducible exact Below.refl _ _) | (with_reducible assumption) | with_reducible apply below_alloc | with_reducible apply pw_below_drewN | with_reducible apply below_drew1)))) | fail) (first | (go_at_call 53; refine (xread_no (EW.out.below (by (repeat (first | (with_reducible exact Below.refl _ _) | (with_reducible assumption) | with_reducible apply below_alloc | with_reducible apply pw_below_drewN | with_reducible apply below_drew1)))) ((rb + im) % 4294967296) n sg HAT.out HN.out HMAY.out).mono ?_; rintro e Y ⟨rfl, hd⟩; have D := Aside0.mk (XDid.pre (pm_chain BB.out (Below.refl _ _).drew) hd); have D1 := Aside0.mk (XDid.pre (Below.refl _ _).drew hd); have R7 := Aside0.mk (D1.out.ext.at R6.out NG.out); have s0 := (blk_cell R7.out 2).trans rfl; have s1 := HRB.out ▸ D.out.em.kr (xreg_get D.out.em HBB.out); clear hd) | fail)
  all_goals go_wp2_with (fail)
  all_goals go_meet
  all_goals exact ⟨rfl, rfl, D, R7⟩
 case rest =>
  obtain ⟨rfl, rfl, D, R7⟩ := hcut
  go_wp2_with (fail)
  go_end0
  exact ⟨rfl, by rw [HRB.out]; exact xdone_of D.out fun _ => rfl⟩
set_option maxHeartbeats 4000000 in
set_option maxRecDepth 100000 in
theorem xdo_st_yes (h : XM w c pg fx ps S inp out) (x : I5) (hop : 88 ≤ x.op ∧ x.op ≤ 90) (ha : x.a < 16) (hb : x.b < 16) (hd : x.c < 16) (hmay : mayF S.code (addrF S x) (accN x.op) true = 0) (hi : -8388608 ≤ x.imm ∧ x.imm ≤ 16777216) :
  Calls Try.prog 41 #[.pointer (some ⟨c, 0, none⟩), x.enc] w fun e w' => e = .returned (.tuple #[]) ∧ Xdone (endM (doM (byteAt ps) S x inp out)) w w' c pg fx ps S := by
 obtain ⟨op, a, b, d, imm⟩ := x
 unfold I5.enc
 simp only at hop ha hb hd hi hmay ⊢
 rw [show doM (byteAt ps) S ⟨op, a, b, d, imm⟩ inp out = ⟨errT (accE S ⟨op, a, b, d, imm⟩), accCM (byteAt ps) S ⟨op, a, b, d, imm⟩, accMM (byteAt ps) S ⟨op, a, b, d, imm⟩, inp, out⟩ by unfold doM; simp only; rw [if_neg (by omega), if_neg (by omega), if_pos (by omega)]]
 have HW := Aside0.mk (show mortiseref21_width.f 20 op = some (accN op, accS op) by exact width_yes op (.inr hop))
 have hL := accL_no op hop
 have hop1 : 84 < op := by omega
 have hop2 : 51 < op := by omega
 have hop0 : 19 < op := by omega
 clear hop
 rw [end_err]
 have eE : accE S ⟨op, a, b, d, imm⟩ = mayF S.code (addrF S ⟨op, a, b, d, imm⟩) (accN op) true := by unfold accE; simp only [hL, Bool.not_false]
 have eM : accMM (byteAt ps) S ⟨op, a, b, d, imm⟩ = fun i => if mayF S.code (addrF S ⟨op, a, b, d, imm⟩) (accN op) true = 0 then putF (byteAt ps) (addrF S ⟨op, a, b, d, imm⟩).toNat (accN op).toNat (regV S a) i else byteAt ps i := by funext i; unfold accMM; rw [eE]; simp only [hL]; rfl
 have eC : accCM (byteAt ps) S ⟨op, a, b, d, imm⟩ = S := by unfold accCM; simp only [hL]; rfl
 rw [eE, eM, eC]
 clear eE eM eC hL
 have ea : addrF S ⟨op, a, b, d, imm⟩ = (regV S b + imm % 4294967296) % 4294967296 := rfl
 rw [ea] at hmay ⊢
 clear ea
 simp only [if_pos hmay]
 have HN := Aside0.mk (accN_in op)
 have hn0 : 0 < accN op := by have := HN.out; omega
 obtain ⟨n, hn⟩ : ∃ n, accN op = n := ⟨_, rfl⟩
 obtain ⟨sg, hsg⟩ : ∃ sg, accS op = sg := ⟨_, rfl⟩
 have HNE := Aside0.mk hn
 have HSG := Aside0.mk hsg
 rw [hn] at HN hn0
 rw [hn, hsg] at HW
 clear hn hsg
 have ib := idx16 hb
 have ia := idx16 ha
 have HMAY := Aside0.mk hmay
 rw [HNE.out] at HMAY
 try rw [HNE.out]
 clear hmay
 obtain ⟨im, him⟩ : ∃ im, imm % 4294967296 = im := ⟨_, rfl⟩
 rw [him] at HMAY
 try rw [him]
 have HOF := Aside0.mk (show mortiseref01_Of.f imm = some im by rw [refOf, him])
 have HX := Aside0.mk (show 0 ≤ im ∧ im < 4294967296 by omega)
 have HIM := Aside0.mk him
 clear him
 have H := Aside0.mk h
 have HI := Aside0.mk hi
 have HA := Aside0.mk ha
 have HBB := Aside0.mk hb
 have HDD := Aside0.mk hd
 have B0 := Aside0.mk (show Below w.heap.size w (w.alloc (.cells #[.int .i64 op, .int .i64 a, .int .i64 b, .int .i64 d, .int .i64 imm] 36)) from below_alloc (Below.refl _ _) _)
 have R5 := Aside0.mk (show (w.alloc (.cells #[.int .i64 op, .int .i64 a, .int .i64 b, .int .i64 d, .int .i64 imm] 36)).heap[w.heap.size]? = some (.cells #[.int .i64 op, .int .i64 a, .int .i64 b, .int .i64 d, .int .i64 imm] 36 (0, 0)) from heap_at _ _ _ rfl)
 have NG := Aside0.mk (show w.heap.size ∉ foot c pg ps S from fun hh => absurd (h.foot_lt _ hh) (by omega))
 clear h hi ha hb hd
 go_enter Try.func41, Try.ntmps41
 go_upto_region 1 with (fail)
 generalize (w.alloc (.cells #[.int .i64 op, .int .i64 a, .int .i64 b, .int .i64 d, .int .i64 imm] 36)) = W0 at R5 B0 ⊢
 generalize hg3 : w.heap.size = g3 at R5 NG ⊢
 clear hg3
 have c0 := (blk_cell R5.out 0).trans rfl
 have c4 := (blk_cell R5.out 4).trans rfl
 go_upto_region 5 with (first | (go_at_call 32; refine (mortiseref01_Of.calls imm _ _ HOF.out).mono ?_; rintro e Y1 ⟨rfl, hd1⟩; have BY := Aside0.mk (dn0_below hd1); have c0 := (blk_cell (blk_below R5.out BY.out) 0).trans rfl; clear hd1) | (go_at_call 51; refine (mortiseref21_width.calls 20 op _ _ _ HW.out).mono ?_; rintro e Y2 ⟨rfl, hd2⟩; have BY2 := Aside0.mk (dn0_below hd2); clear hd2))
 have BB := Aside0.mk (pm_chain B0.out (pm_chain BY.out BY2.out))
 have R6 := Aside0.mk (blk_below (blk_below R5.out BY.out) BY2.out)
 have EW := Aside0.mk (H.out.below BB.out)
 clear c0 c4 BY BY2 R5 B0
 generalize Y2 = W1 at BB R6 EW ⊢
 have c0 := (blk_cell R6.out 0).trans rfl
 have c1 := (blk_cell R6.out 1).trans rfl
 have c2 := (blk_cell R6.out 2).trans rfl
 have ka := EW.out.kr (xreg_get EW.out HA.out)
 have kb := EW.out.kr (xreg_get EW.out HBB.out)
 go_upto_region 14 with (fail)
 have HAT := Aside0.mk (show 0 ≤ (regV S b + im) % 4294967296 ∧ (regV S b + im) % 4294967296 < 4294967296 by omega)
 have HRA := Aside0.mk (xreg_in EW.out HA.out)
 refine wp_region_still_tail 16 (by kernel_rfl) (by kernel_rfl) ?_
 simp only [List.take_succ_cons, List.take_zero, List.drop_succ_cons, List.drop_zero]
 repeat (with_reducible refine wpStill_step (fun K hK => ?_); go_simp; with_reducible refine hK _ ?_; clear hK K)
 with_reducible refine wpStill_nil ?_
 change wpList _ _ _ _ _ W1.drew
 go_wp2_with (first | (go_at_call 54; refine (xwrite_yes (EW.out.below (by (repeat (first | (with_reducible exact Below.refl _ _) | (with_reducible assumption) | with_reducible apply below_alloc | with_reducible apply pw_below_drewN | with_reducible apply below_drew1)))) ((regV S b + im) % 4294967296) n (regV S a) HAT.out HN.out HRA.out HMAY.out).mono ?_; rintro e Y ⟨rfl, hd⟩; have HD := Aside0.mk hd; clear hd))
 all_goals go_end0
 all_goals (
  obtain ⟨ps2, D, M⟩ := HD.out
  exact ⟨rfl, xdone_of (XDid.pre (pm_chain BB.out (Below.refl _ _).drew) D) fun i => congrFun M i⟩)
set_option maxHeartbeats 4000000 in
set_option maxRecDepth 100000 in
theorem xdo_st_no (h : XM w c pg fx ps S inp out) (x : I5) (hop : 88 ≤ x.op ∧ x.op ≤ 90) (ha : x.a < 16) (hb : x.b < 16) (hd : x.c < 16) (hmay : mayF S.code (addrF S x) (accN x.op) true ≠ 0) (hi : -8388608 ≤ x.imm ∧ x.imm ≤ 16777216) :
  Calls Try.prog 41 #[.pointer (some ⟨c, 0, none⟩), x.enc] w fun e w' => e = .returned (.tuple #[]) ∧ Xdone (endM (doM (byteAt ps) S x inp out)) w w' c pg fx ps S := by
 obtain ⟨op, a, b, d, imm⟩ := x
 unfold I5.enc
 simp only at hop ha hb hd hi hmay ⊢
 rw [show doM (byteAt ps) S ⟨op, a, b, d, imm⟩ inp out = ⟨errT (accE S ⟨op, a, b, d, imm⟩), accCM (byteAt ps) S ⟨op, a, b, d, imm⟩, accMM (byteAt ps) S ⟨op, a, b, d, imm⟩, inp, out⟩ by unfold doM; simp only; rw [if_neg (by omega), if_neg (by omega), if_pos (by omega)]]
 have HW := Aside0.mk (show mortiseref21_width.f 20 op = some (accN op, accS op) by exact width_yes op (.inr hop))
 have hL := accL_no op hop
 have hop1 : 84 < op := by omega
 have hop2 : 51 < op := by omega
 have hop0 : 19 < op := by omega
 clear hop
 rw [end_err]
 have eE : accE S ⟨op, a, b, d, imm⟩ = mayF S.code (addrF S ⟨op, a, b, d, imm⟩) (accN op) true := by unfold accE; simp only [hL, Bool.not_false]
 have eM : accMM (byteAt ps) S ⟨op, a, b, d, imm⟩ = fun i => if mayF S.code (addrF S ⟨op, a, b, d, imm⟩) (accN op) true = 0 then putF (byteAt ps) (addrF S ⟨op, a, b, d, imm⟩).toNat (accN op).toNat (regV S a) i else byteAt ps i := by funext i; unfold accMM; rw [eE]; simp only [hL]; rfl
 have eC : accCM (byteAt ps) S ⟨op, a, b, d, imm⟩ = S := by unfold accCM; simp only [hL]; rfl
 rw [eE, eM, eC]
 clear eE eM eC hL
 have ea : addrF S ⟨op, a, b, d, imm⟩ = (regV S b + imm % 4294967296) % 4294967296 := rfl
 rw [ea] at hmay ⊢
 clear ea
 simp only [if_neg hmay]
 have HN := Aside0.mk (accN_in op)
 have hn0 : 0 < accN op := by have := HN.out; omega
 obtain ⟨n, hn⟩ : ∃ n, accN op = n := ⟨_, rfl⟩
 obtain ⟨sg, hsg⟩ : ∃ sg, accS op = sg := ⟨_, rfl⟩
 have HNE := Aside0.mk hn
 have HSG := Aside0.mk hsg
 rw [hn] at HN hn0
 rw [hn, hsg] at HW
 clear hn hsg
 have ib := idx16 hb
 have ia := idx16 ha
 have HMAY := Aside0.mk hmay
 rw [HNE.out] at HMAY
 try rw [HNE.out]
 clear hmay
 obtain ⟨im, him⟩ : ∃ im, imm % 4294967296 = im := ⟨_, rfl⟩
 rw [him] at HMAY
 try rw [him]
 have HOF := Aside0.mk (show mortiseref01_Of.f imm = some im by rw [refOf, him])
 have HX := Aside0.mk (show 0 ≤ im ∧ im < 4294967296 by omega)
 have HIM := Aside0.mk him
 clear him
 have H := Aside0.mk h
 have HI := Aside0.mk hi
 have HA := Aside0.mk ha
 have HBB := Aside0.mk hb
 have HDD := Aside0.mk hd
 have B0 := Aside0.mk (show Below w.heap.size w (w.alloc (.cells #[.int .i64 op, .int .i64 a, .int .i64 b, .int .i64 d, .int .i64 imm] 36)) from below_alloc (Below.refl _ _) _)
 have R5 := Aside0.mk (show (w.alloc (.cells #[.int .i64 op, .int .i64 a, .int .i64 b, .int .i64 d, .int .i64 imm] 36)).heap[w.heap.size]? = some (.cells #[.int .i64 op, .int .i64 a, .int .i64 b, .int .i64 d, .int .i64 imm] 36 (0, 0)) from heap_at _ _ _ rfl)
 have NG := Aside0.mk (show w.heap.size ∉ foot c pg ps S from fun hh => absurd (h.foot_lt _ hh) (by omega))
 clear h hi ha hb hd
 go_enter Try.func41, Try.ntmps41
 go_upto_region 1 with (fail)
 generalize (w.alloc (.cells #[.int .i64 op, .int .i64 a, .int .i64 b, .int .i64 d, .int .i64 imm] 36)) = W0 at R5 B0 ⊢
 generalize hg3 : w.heap.size = g3 at R5 NG ⊢
 clear hg3
 have c0 := (blk_cell R5.out 0).trans rfl
 have c4 := (blk_cell R5.out 4).trans rfl
 go_upto_region 5 with (first | (go_at_call 32; refine (mortiseref01_Of.calls imm _ _ HOF.out).mono ?_; rintro e Y1 ⟨rfl, hd1⟩; have BY := Aside0.mk (dn0_below hd1); have c0 := (blk_cell (blk_below R5.out BY.out) 0).trans rfl; clear hd1) | (go_at_call 51; refine (mortiseref21_width.calls 20 op _ _ _ HW.out).mono ?_; rintro e Y2 ⟨rfl, hd2⟩; have BY2 := Aside0.mk (dn0_below hd2); clear hd2))
 have BB := Aside0.mk (pm_chain B0.out (pm_chain BY.out BY2.out))
 have R6 := Aside0.mk (blk_below (blk_below R5.out BY.out) BY2.out)
 have EW := Aside0.mk (H.out.below BB.out)
 clear c0 c4 BY BY2 R5 B0
 generalize Y2 = W1 at BB R6 EW ⊢
 have c0 := (blk_cell R6.out 0).trans rfl
 have c1 := (blk_cell R6.out 1).trans rfl
 have c2 := (blk_cell R6.out 2).trans rfl
 have ka := EW.out.kr (xreg_get EW.out HA.out)
 have kb := EW.out.kr (xreg_get EW.out HBB.out)
 go_upto_region 14 with (fail)
 have HAT := Aside0.mk (show 0 ≤ (regV S b + im) % 4294967296 ∧ (regV S b + im) % 4294967296 < 4294967296 by omega)
 have HRA := Aside0.mk (xreg_in EW.out HA.out)
 refine wp_region_still_tail 16 (by kernel_rfl) (by kernel_rfl) ?_
 simp only [List.take_succ_cons, List.take_zero, List.drop_succ_cons, List.drop_zero]
 repeat (with_reducible refine wpStill_step (fun K hK => ?_); go_simp; with_reducible refine hK _ ?_; clear hK K)
 with_reducible refine wpStill_nil ?_
 change wpList _ _ _ _ _ W1.drew
 go_wp2_with (first | (go_at_call 54; refine (xwrite_no (EW.out.below (by (repeat (first | (with_reducible exact Below.refl _ _) | (with_reducible assumption) | with_reducible apply below_alloc | with_reducible apply pw_below_drewN | with_reducible apply below_drew1)))) ((regV S b + im) % 4294967296) n (regV S a) HAT.out HN.out HMAY.out).mono ?_; rintro e Y ⟨rfl, hd⟩; have HD := Aside0.mk hd; clear hd))
 all_goals go_end0
 all_goals exact ⟨rfl, xdone_of (XDid.pre (pm_chain BB.out (Below.refl _ _).drew) HD.out) fun _ => rfl⟩
end Go.Proofs.Ytejhnlljddjicaa.Ma
namespace Go.Proofs.Ytejhnlljddjicaa.Ma
open Go.RowKit Go.Proofs.Ytejhnlljddjicaa.PLk Go.Proofs.YtejhnlljddjicaaW.PrintWords Go.Proofs.YtejhnlljddjicaaW.PrintLast Go.Proofs.YtejhnlljddjicaaW.PrintMore Go.Proofs.Ytejhnlljddjicaa.La
set_option linter.unusedVariables false
set_option linter.unusedSimpArgs false
variable {fx : Value × Int} {w w' : World} {c pg : Nat} {ps ps' : Pages} {S S' : Cpu} {inp out inp' out' : List Int}
theorem xInt_still (a : Int) (h0 : 0 ≤ a) (h1 : a < 4294967296) (w : World) : Calls Try.prog 63 #[.int .u32 a] w fun e w' => e = .returned (.int .i64 (wrap32 a)) ∧ w' = w := by
 by_cases h : 2147483648 ≤ a
 ·have e : wrap32 a = a - 4294967296 := by unfold wrap32; omega
  rw [e]
  go_enter Try.func63, Try.ntmps63
  go_wp2
  go_ret
  exact ⟨rfl, rfl⟩
 ·have e : wrap32 a = a := by unfold wrap32; omega
  rw [e]
  go_enter Try.func63, Try.ntmps63
  go_wp2
  go_ret
  exact ⟨rfl, rfl⟩
set_option maxHeartbeats 4000000 in
set_option maxRecDepth 100000 in
theorem xother_64 (h : XM w c pg fx ps S inp out) (x : I5) (hop : x.op = 64) (ha : x.a < 16) (hb : x.b < 16) (hd : x.c < 16) (hi : -8388608 ≤ x.imm ∧ x.imm ≤ 16777216) (im : Int) (him : x.imm % 4294967296 = im) :
  Calls Try.prog 55 #[.pointer (some ⟨c, 0, none⟩), x.enc, .int .u32 im] w fun e w' => e = .returned (.tuple #[]) ∧ Xdone (endM (doM (byteAt ps) S x inp out)) w w' c pg fx ps S := by
 obtain ⟨op, a, b, d, imm⟩ := x
 unfold I5.enc
 simp only at hop ha hb hd hi him ⊢
 have HX := Aside0.mk (show 0 ≤ im ∧ im < 4294967296 by omega)
 subst hop
 rw [show endM (doM (byteAt ps) S ⟨64, a, b, d, imm⟩ inp out) = ⟨.nilIface, setR S a im, byteAt ps, inp, out⟩ by rw [show doM (byteAt ps) S ⟨64, a, b, d, imm⟩ inp out = ⟨.nilIface, setR S a (imm % 4294967296), byteAt ps, inp, out⟩ from rfl, him]; rfl]
 have HIM := Aside0.mk him
 clear him
 have H := Aside0.mk h
 have HI := Aside0.mk hi
 have HA := Aside0.mk ha
 have HBB := Aside0.mk hb
 have HDD := Aside0.mk hd
 have ia := idx16 ha
 have BB := Aside0.mk (show Below w.heap.size w (w.alloc (.cells #[.int .i64 64, .int .i64 a, .int .i64 b, .int .i64 d, .int .i64 imm] 36)) from below_alloc (Below.refl _ _) _)
 have R6 := Aside0.mk (show (w.alloc (.cells #[.int .i64 64, .int .i64 a, .int .i64 b, .int .i64 d, .int .i64 imm] 36)).heap[w.heap.size]? = some (.cells #[.int .i64 64, .int .i64 a, .int .i64 b, .int .i64 d, .int .i64 imm] 36 (0, 0)) from heap_at _ _ _ rfl)
 have NG := Aside0.mk (show w.heap.size ∉ foot c pg ps S from fun hh => absurd (h.foot_lt _ hh) (by omega))
 have EW := Aside0.mk (h.below BB.out)
 clear h hi ha hb hd
 go_enter Try.func55, Try.ntmps55
 go_upto_region 1 with (fail)
 generalize (w.alloc (.cells #[.int .i64 64, .int .i64 a, .int .i64 b, .int .i64 d, .int .i64 imm] 36)) = W1 at R6 BB EW ⊢
 generalize hg4 : w.heap.size = g4 at R6 NG ⊢
 clear hg4
 have c0 := (blk_cell R6.out 0).trans rfl
 go_upto_region 4 with (fail)
 have c1 := (blk_cell R6.out 1).trans rfl
 have ka := EW.out.kr (xreg_get EW.out HA.out)
 have fa := EW.out.fz (6 + a)
 refine wp_region_still_tail 6 (by kernel_rfl) (by kernel_rfl) ?_
 simp only [List.take_succ_cons, List.take_zero, List.drop_succ_cons, List.drop_zero]
 repeat (with_reducible refine wpStill_step (fun K hK => ?_); go_simp; with_reducible refine hK _ ?_; clear hK K)
 with_reducible refine wpStill_nil ?_
 change wpList _ _ _ _ _ W1.drew
 go_wp2_with (fail)
 all_goals go_end0
 all_goals exact ⟨rfl, xdone_of (XDid.pre BB.out ((EW.out.set_reg a HA.out im HX.out.1 HX.out.2).then_below (Below.refl _ _).drew)) fun _ => rfl⟩
set_option maxHeartbeats 4000000 in
set_option maxRecDepth 100000 in
theorem xother_65 (h : XM w c pg fx ps S inp out) (x : I5) (hop : x.op = 65) (ha : x.a < 16) (hb : x.b < 16) (hd : x.c < 16) (hi : -8388608 ≤ x.imm ∧ x.imm ≤ 16777216) (im : Int) (him : x.imm % 4294967296 = im) :
  Calls Try.prog 55 #[.pointer (some ⟨c, 0, none⟩), x.enc, .int .u32 im] w fun e w' => e = .returned (.tuple #[]) ∧ Xdone (endM (doM (byteAt ps) S x inp out)) w w' c pg fx ps S := by
 obtain ⟨op, a, b, d, imm⟩ := x
 unfold I5.enc
 simp only at hop ha hb hd hi him ⊢
 have HX := Aside0.mk (show 0 ≤ im ∧ im < 4294967296 by omega)
 subst hop
 obtain ⟨v, hv⟩ : ∃ v, bits .or .u32 (bits .and .u32 (regV S a) 65535) (IntKind.u32.wrap (im * 65536)) = v := ⟨_, rfl⟩
 have HVE := Aside0.mk hv
 have HV := Aside0.mk (show 0 ≤ v ∧ v < 4294967296 by rw [← hv]; exact bits_range .or _ _ (.inr (.inl rfl)))
 rw [show endM (doM (byteAt ps) S ⟨65, a, b, d, imm⟩ inp out) = ⟨.nilIface, setR S a v, byteAt ps, inp, out⟩ by rw [show doM (byteAt ps) S ⟨65, a, b, d, imm⟩ inp out = ⟨.nilIface, setR S a (bits .or .u32 (bits .and .u32 (regV S a) 65535) (shl .u32 (imm % 4294967296) 16)), byteAt ps, inp, out⟩ from rfl, him, shl32 _ 16 (by decide), show (2 : Int) ^ (16 : Int).toNat = 65536 by decide, ← IntKind.wrap_u32, hv]; rfl]
 have HIM := Aside0.mk him
 clear him
 have H := Aside0.mk h
 have HI := Aside0.mk hi
 have HA := Aside0.mk ha
 have HBB := Aside0.mk hb
 have HDD := Aside0.mk hd
 have ia := idx16 ha
 have BB := Aside0.mk (show Below w.heap.size w (w.alloc (.cells #[.int .i64 65, .int .i64 a, .int .i64 b, .int .i64 d, .int .i64 imm] 36)) from below_alloc (Below.refl _ _) _)
 have R6 := Aside0.mk (show (w.alloc (.cells #[.int .i64 65, .int .i64 a, .int .i64 b, .int .i64 d, .int .i64 imm] 36)).heap[w.heap.size]? = some (.cells #[.int .i64 65, .int .i64 a, .int .i64 b, .int .i64 d, .int .i64 imm] 36 (0, 0)) from heap_at _ _ _ rfl)
 have NG := Aside0.mk (show w.heap.size ∉ foot c pg ps S from fun hh => absurd (h.foot_lt _ hh) (by omega))
 have EW := Aside0.mk (h.below BB.out)
 clear h hi ha hb hd
 go_enter Try.func55, Try.ntmps55
 go_upto_region 1 with (fail)
 generalize (w.alloc (.cells #[.int .i64 65, .int .i64 a, .int .i64 b, .int .i64 d, .int .i64 imm] 36)) = W1 at R6 BB EW ⊢
 generalize hg4 : w.heap.size = g4 at R6 NG ⊢
 clear hg4
 have c0 := (blk_cell R6.out 0).trans rfl
 go_upto_region 6 with (fail)
 have c1 := (blk_cell R6.out 1).trans rfl
 have ka := EW.out.kr (xreg_get EW.out HA.out)
 have fa := EW.out.fz (6 + a)
 have hv := HVE.out
 refine wp_region_still_tail 15 (by kernel_rfl) (by kernel_rfl) ?_
 simp only [List.take_succ_cons, List.take_zero, List.drop_succ_cons, List.drop_zero]
 repeat (with_reducible refine wpStill_step (fun K hK => ?_); go_simp; with_reducible refine hK _ ?_; clear hK K)
 with_reducible refine wpStill_nil ?_
 change wpList _ _ _ _ _ W1.drew
 go_wp2_with (fail)
 all_goals go_end0
 all_goals exact ⟨rfl, xdone_of (XDid.pre BB.out ((EW.out.set_reg a HA.out v HV.out.1 HV.out.2).then_below (Below.refl _ _).drew)) fun _ => rfl⟩
set_option maxHeartbeats 4000000 in
set_option maxRecDepth 100000 in
theorem xother_96 (h : XM w c pg fx ps S inp out) (x : I5) (hop : x.op = 96) (ha : x.a < 16) (hb : x.b < 16) (hd : x.c < 16) (hi : -8388608 ≤ x.imm ∧ x.imm ≤ 16777216) (im : Int) (him : x.imm % 4294967296 = im) :
  Calls Try.prog 55 #[.pointer (some ⟨c, 0, none⟩), x.enc, .int .u32 im] w fun e w' => e = .returned (.tuple #[]) ∧ Xdone (endM (doM (byteAt ps) S x inp out)) w w' c pg fx ps S := by
 obtain ⟨op, a, b, d, imm⟩ := x
 unfold I5.enc
 simp only at hop ha hb hd hi him ⊢
 have HX := Aside0.mk (show 0 ≤ im ∧ im < 4294967296 by omega)
 subst hop
 rw [show endM (doM (byteAt ps) S ⟨96, a, b, d, imm⟩ inp out) = ⟨.nilIface, { S with pc := jumpF S.pc imm }, byteAt ps, inp, out⟩ by rfl]
 have HIM := Aside0.mk him
 clear him
 have H := Aside0.mk h
 have HI := Aside0.mk hi
 have HA := Aside0.mk ha
 have HBB := Aside0.mk hb
 have HDD := Aside0.mk hd
 have ia := idx16 ha
 have BB := Aside0.mk (show Below w.heap.size w (w.alloc (.cells #[.int .i64 96, .int .i64 a, .int .i64 b, .int .i64 d, .int .i64 imm] 36)) from below_alloc (Below.refl _ _) _)
 have R6 := Aside0.mk (show (w.alloc (.cells #[.int .i64 96, .int .i64 a, .int .i64 b, .int .i64 d, .int .i64 imm] 36)).heap[w.heap.size]? = some (.cells #[.int .i64 96, .int .i64 a, .int .i64 b, .int .i64 d, .int .i64 imm] 36 (0, 0)) from heap_at _ _ _ rfl)
 have NG := Aside0.mk (show w.heap.size ∉ foot c pg ps S from fun hh => absurd (h.foot_lt _ hh) (by omega))
 have EW := Aside0.mk (h.below BB.out)
 clear h hi ha hb hd
 go_enter Try.func55, Try.ntmps55
 go_upto_region 1 with (fail)
 generalize (w.alloc (.cells #[.int .i64 96, .int .i64 a, .int .i64 b, .int .i64 d, .int .i64 imm] 36)) = W1 at R6 BB EW ⊢
 generalize hg4 : w.heap.size = g4 at R6 NG ⊢
 clear hg4
 have c0 := (blk_cell R6.out 0).trans rfl
 go_upto_region 8 with (fail)
 have c4 := (blk_cell R6.out 4).trans rfl
 go_wp2_with (first | (go_at_call 62; refine (xjump_calls EW.out imm ⟨HI.out.1, HI.out.2⟩).mono ?_; rintro e Y ⟨rfl, hd⟩; have D := Aside0.mk hd; clear hd))
 go_end0
 exact ⟨rfl, xdone_of (XDid.pre BB.out D.out) fun _ => rfl⟩
set_option maxHeartbeats 4000000 in
set_option maxRecDepth 100000 in
theorem xother_97y (h : XM w c pg fx ps S inp out) (x : I5) (hop : x.op = 97) (ha : x.a < 16) (hb : x.b < 16) (hd : x.c < 16) (hi : -8388608 ≤ x.imm ∧ x.imm ≤ 16777216) (im : Int) (him : x.imm % 4294967296 = im) (hz : regV S x.a = 0) :
  Calls Try.prog 55 #[.pointer (some ⟨c, 0, none⟩), x.enc, .int .u32 im] w fun e w' => e = .returned (.tuple #[]) ∧ Xdone (endM (doM (byteAt ps) S x inp out)) w w' c pg fx ps S := by
 obtain ⟨op, a, b, d, imm⟩ := x
 unfold I5.enc
 simp only at hop ha hb hd hi him ⊢
 have HX := Aside0.mk (show 0 ≤ im ∧ im < 4294967296 by omega)
 subst hop
 have hz : regV S a = 0 := hz
 have HZ := Aside0.mk hz
 rw [show endM (doM (byteAt ps) S ⟨97, a, b, d, imm⟩ inp out) = ⟨.nilIface, { S with pc := jumpF S.pc imm }, byteAt ps, inp, out⟩ by rw [show doM (byteAt ps) S ⟨97, a, b, d, imm⟩ inp out = ⟨.nilIface, (if regV S a = 0 then { S with pc := jumpF S.pc imm } else S), byteAt ps, inp, out⟩ from rfl]; simp only [hz]; rfl]
 have HIM := Aside0.mk him
 clear him
 have H := Aside0.mk h
 have HI := Aside0.mk hi
 have HA := Aside0.mk ha
 have HBB := Aside0.mk hb
 have HDD := Aside0.mk hd
 have ia := idx16 ha
 have BB := Aside0.mk (show Below w.heap.size w (w.alloc (.cells #[.int .i64 97, .int .i64 a, .int .i64 b, .int .i64 d, .int .i64 imm] 36)) from below_alloc (Below.refl _ _) _)
 have R6 := Aside0.mk (show (w.alloc (.cells #[.int .i64 97, .int .i64 a, .int .i64 b, .int .i64 d, .int .i64 imm] 36)).heap[w.heap.size]? = some (.cells #[.int .i64 97, .int .i64 a, .int .i64 b, .int .i64 d, .int .i64 imm] 36 (0, 0)) from heap_at _ _ _ rfl)
 have NG := Aside0.mk (show w.heap.size ∉ foot c pg ps S from fun hh => absurd (h.foot_lt _ hh) (by omega))
 have EW := Aside0.mk (h.below BB.out)
 clear h hi ha hb hd
 go_enter Try.func55, Try.ntmps55
 go_upto_region 1 with (fail)
 generalize (w.alloc (.cells #[.int .i64 97, .int .i64 a, .int .i64 b, .int .i64 d, .int .i64 imm] 36)) = W1 at R6 BB EW ⊢
 generalize hg4 : w.heap.size = g4 at R6 NG ⊢
 clear hg4
 have c0 := (blk_cell R6.out 0).trans rfl
 go_upto_region 10 with (fail)
 have c1 := (blk_cell R6.out 1).trans rfl
 have c4 := (blk_cell R6.out 4).trans rfl
 have ka := EW.out.kr (xreg_get EW.out HA.out)
 have hz := HZ.out
 obtain ⟨rv, hrv⟩ : ∃ v, regV S a = v := ⟨_, rfl⟩
 rw [hrv] at ka hz
 clear hrv
 refine wp_region_still_tail 6 (by kernel_rfl) (by kernel_rfl) ?_
 simp only [List.take_succ_cons, List.take_zero, List.drop_succ_cons, List.drop_zero]
 repeat (with_reducible refine wpStill_step (fun K hK => ?_); go_simp; with_reducible refine hK _ ?_; clear hK K)
 with_reducible refine wpStill_nil ?_
 change wpList _ _ _ _ _ W1.drew
 have c4d : W1.drew.cell? ⟨g4, 4, none⟩ = some (.int .i64 imm) := pw_cell_below (Below.refl _ _).drew c4
 go_wp2_with (first | (go_at_call 62; refine (xjump_calls (EW.out.below (Below.refl _ _).drew) imm ⟨HI.out.1, HI.out.2⟩).mono ?_; rintro e Y ⟨rfl, hd⟩; have D := Aside0.mk hd; clear hd))
 all_goals go_end0
 all_goals exact ⟨rfl, xdone_of (XDid.pre BB.out (XDid.pre (Below.refl _ _).drew D.out)) fun _ => rfl⟩
set_option maxHeartbeats 4000000 in
set_option maxRecDepth 100000 in
theorem xother_97n (h : XM w c pg fx ps S inp out) (x : I5) (hop : x.op = 97) (ha : x.a < 16) (hb : x.b < 16) (hd : x.c < 16) (hi : -8388608 ≤ x.imm ∧ x.imm ≤ 16777216) (im : Int) (him : x.imm % 4294967296 = im) (hz : ¬ regV S x.a = 0) :
  Calls Try.prog 55 #[.pointer (some ⟨c, 0, none⟩), x.enc, .int .u32 im] w fun e w' => e = .returned (.tuple #[]) ∧ Xdone (endM (doM (byteAt ps) S x inp out)) w w' c pg fx ps S := by
 obtain ⟨op, a, b, d, imm⟩ := x
 unfold I5.enc
 simp only at hop ha hb hd hi him ⊢
 have HX := Aside0.mk (show 0 ≤ im ∧ im < 4294967296 by omega)
 subst hop
 have hz : ¬ regV S a = 0 := hz
 have HZ := Aside0.mk hz
 rw [show endM (doM (byteAt ps) S ⟨97, a, b, d, imm⟩ inp out) = ⟨.nilIface, S, byteAt ps, inp, out⟩ by rw [show doM (byteAt ps) S ⟨97, a, b, d, imm⟩ inp out = ⟨.nilIface, (if regV S a = 0 then { S with pc := jumpF S.pc imm } else S), byteAt ps, inp, out⟩ from rfl]; simp only [hz]; rfl]
 have HIM := Aside0.mk him
 clear him
 have H := Aside0.mk h
 have HI := Aside0.mk hi
 have HA := Aside0.mk ha
 have HBB := Aside0.mk hb
 have HDD := Aside0.mk hd
 have ia := idx16 ha
 have BB := Aside0.mk (show Below w.heap.size w (w.alloc (.cells #[.int .i64 97, .int .i64 a, .int .i64 b, .int .i64 d, .int .i64 imm] 36)) from below_alloc (Below.refl _ _) _)
 have R6 := Aside0.mk (show (w.alloc (.cells #[.int .i64 97, .int .i64 a, .int .i64 b, .int .i64 d, .int .i64 imm] 36)).heap[w.heap.size]? = some (.cells #[.int .i64 97, .int .i64 a, .int .i64 b, .int .i64 d, .int .i64 imm] 36 (0, 0)) from heap_at _ _ _ rfl)
 have NG := Aside0.mk (show w.heap.size ∉ foot c pg ps S from fun hh => absurd (h.foot_lt _ hh) (by omega))
 have EW := Aside0.mk (h.below BB.out)
 clear h hi ha hb hd
 go_enter Try.func55, Try.ntmps55
 go_upto_region 1 with (fail)
 generalize (w.alloc (.cells #[.int .i64 97, .int .i64 a, .int .i64 b, .int .i64 d, .int .i64 imm] 36)) = W1 at R6 BB EW ⊢
 generalize hg4 : w.heap.size = g4 at R6 NG ⊢
 clear hg4
 have c0 := (blk_cell R6.out 0).trans rfl
 go_upto_region 10 with (fail)
 have c1 := (blk_cell R6.out 1).trans rfl
 have c4 := (blk_cell R6.out 4).trans rfl
 have ka := EW.out.kr (xreg_get EW.out HA.out)
 have hz := HZ.out
 obtain ⟨rv, hrv⟩ : ∃ v, regV S a = v := ⟨_, rfl⟩
 rw [hrv] at ka hz
 clear hrv
 refine wp_region_still_tail 6 (by kernel_rfl) (by kernel_rfl) ?_
 simp only [List.take_succ_cons, List.take_zero, List.drop_succ_cons, List.drop_zero]
 repeat (with_reducible refine wpStill_step (fun K hK => ?_); go_simp; with_reducible refine hK _ ?_; clear hK K)
 with_reducible refine wpStill_nil ?_
 change wpList _ _ _ _ _ W1.drew
 have c4d : W1.drew.cell? ⟨g4, 4, none⟩ = some (.int .i64 imm) := pw_cell_below (Below.refl _ _).drew c4
 go_wp2_with (first | (go_at_call 62; refine (xjump_calls (EW.out.below (Below.refl _ _).drew) imm ⟨HI.out.1, HI.out.2⟩).mono ?_; rintro e Y ⟨rfl, hd⟩; have D := Aside0.mk hd; clear hd))
 all_goals go_end0
 all_goals exact ⟨rfl, xdone_of (XDid.pre BB.out (XDid.same EW.out (Below.refl _ _).drew)) fun _ => rfl⟩
set_option maxHeartbeats 4000000 in
set_option maxRecDepth 100000 in
theorem xother_98y (h : XM w c pg fx ps S inp out) (x : I5) (hop : x.op = 98) (ha : x.a < 16) (hb : x.b < 16) (hd : x.c < 16) (hi : -8388608 ≤ x.imm ∧ x.imm ≤ 16777216) (im : Int) (him : x.imm % 4294967296 = im) (hz : ¬ regV S x.a = 0) :
  Calls Try.prog 55 #[.pointer (some ⟨c, 0, none⟩), x.enc, .int .u32 im] w fun e w' => e = .returned (.tuple #[]) ∧ Xdone (endM (doM (byteAt ps) S x inp out)) w w' c pg fx ps S := by
 obtain ⟨op, a, b, d, imm⟩ := x
 unfold I5.enc
 simp only at hop ha hb hd hi him ⊢
 have HX := Aside0.mk (show 0 ≤ im ∧ im < 4294967296 by omega)
 subst hop
 have hz : ¬ regV S a = 0 := hz
 have HZ := Aside0.mk hz
 rw [show endM (doM (byteAt ps) S ⟨98, a, b, d, imm⟩ inp out) = ⟨.nilIface, { S with pc := jumpF S.pc imm }, byteAt ps, inp, out⟩ by rw [show doM (byteAt ps) S ⟨98, a, b, d, imm⟩ inp out = ⟨.nilIface, (if regV S a = 0 then S else { S with pc := jumpF S.pc imm }), byteAt ps, inp, out⟩ from rfl]; simp only [hz]; rfl]
 have HIM := Aside0.mk him
 clear him
 have H := Aside0.mk h
 have HI := Aside0.mk hi
 have HA := Aside0.mk ha
 have HBB := Aside0.mk hb
 have HDD := Aside0.mk hd
 have ia := idx16 ha
 have BB := Aside0.mk (show Below w.heap.size w (w.alloc (.cells #[.int .i64 98, .int .i64 a, .int .i64 b, .int .i64 d, .int .i64 imm] 36)) from below_alloc (Below.refl _ _) _)
 have R6 := Aside0.mk (show (w.alloc (.cells #[.int .i64 98, .int .i64 a, .int .i64 b, .int .i64 d, .int .i64 imm] 36)).heap[w.heap.size]? = some (.cells #[.int .i64 98, .int .i64 a, .int .i64 b, .int .i64 d, .int .i64 imm] 36 (0, 0)) from heap_at _ _ _ rfl)
 have NG := Aside0.mk (show w.heap.size ∉ foot c pg ps S from fun hh => absurd (h.foot_lt _ hh) (by omega))
 have EW := Aside0.mk (h.below BB.out)
 clear h hi ha hb hd
 go_enter Try.func55, Try.ntmps55
 go_upto_region 1 with (fail)
 generalize (w.alloc (.cells #[.int .i64 98, .int .i64 a, .int .i64 b, .int .i64 d, .int .i64 imm] 36)) = W1 at R6 BB EW ⊢
 generalize hg4 : w.heap.size = g4 at R6 NG ⊢
 clear hg4
 have c0 := (blk_cell R6.out 0).trans rfl
 go_upto_region 13 with (fail)
 have c1 := (blk_cell R6.out 1).trans rfl
 have c4 := (blk_cell R6.out 4).trans rfl
 have ka := EW.out.kr (xreg_get EW.out HA.out)
 have hz := HZ.out
 obtain ⟨rv, hrv⟩ : ∃ v, regV S a = v := ⟨_, rfl⟩
 rw [hrv] at ka hz
 clear hrv
 refine wp_region_still_tail 6 (by kernel_rfl) (by kernel_rfl) ?_
 simp only [List.take_succ_cons, List.take_zero, List.drop_succ_cons, List.drop_zero]
 repeat (with_reducible refine wpStill_step (fun K hK => ?_); go_simp; with_reducible refine hK _ ?_; clear hK K)
 with_reducible refine wpStill_nil ?_
 change wpList _ _ _ _ _ W1.drew
 have c4d : W1.drew.cell? ⟨g4, 4, none⟩ = some (.int .i64 imm) := pw_cell_below (Below.refl _ _).drew c4
 go_wp2_with (first | (go_at_call 62; refine (xjump_calls (EW.out.below (Below.refl _ _).drew) imm ⟨HI.out.1, HI.out.2⟩).mono ?_; rintro e Y ⟨rfl, hd⟩; have D := Aside0.mk hd; clear hd))
 all_goals go_end0
 all_goals exact ⟨rfl, xdone_of (XDid.pre BB.out (XDid.pre (Below.refl _ _).drew D.out)) fun _ => rfl⟩
set_option maxHeartbeats 4000000 in
set_option maxRecDepth 100000 in
theorem xother_98n (h : XM w c pg fx ps S inp out) (x : I5) (hop : x.op = 98) (ha : x.a < 16) (hb : x.b < 16) (hd : x.c < 16) (hi : -8388608 ≤ x.imm ∧ x.imm ≤ 16777216) (im : Int) (him : x.imm % 4294967296 = im) (hz : regV S x.a = 0) :
  Calls Try.prog 55 #[.pointer (some ⟨c, 0, none⟩), x.enc, .int .u32 im] w fun e w' => e = .returned (.tuple #[]) ∧ Xdone (endM (doM (byteAt ps) S x inp out)) w w' c pg fx ps S := by
 obtain ⟨op, a, b, d, imm⟩ := x
 unfold I5.enc
 simp only at hop ha hb hd hi him ⊢
 have HX := Aside0.mk (show 0 ≤ im ∧ im < 4294967296 by omega)
 subst hop
 have hz : regV S a = 0 := hz
 have HZ := Aside0.mk hz
 rw [show endM (doM (byteAt ps) S ⟨98, a, b, d, imm⟩ inp out) = ⟨.nilIface, S, byteAt ps, inp, out⟩ by rw [show doM (byteAt ps) S ⟨98, a, b, d, imm⟩ inp out = ⟨.nilIface, (if regV S a = 0 then S else { S with pc := jumpF S.pc imm }), byteAt ps, inp, out⟩ from rfl]; simp only [hz]; rfl]
 have HIM := Aside0.mk him
 clear him
 have H := Aside0.mk h
 have HI := Aside0.mk hi
 have HA := Aside0.mk ha
 have HBB := Aside0.mk hb
 have HDD := Aside0.mk hd
 have ia := idx16 ha
 have BB := Aside0.mk (show Below w.heap.size w (w.alloc (.cells #[.int .i64 98, .int .i64 a, .int .i64 b, .int .i64 d, .int .i64 imm] 36)) from below_alloc (Below.refl _ _) _)
 have R6 := Aside0.mk (show (w.alloc (.cells #[.int .i64 98, .int .i64 a, .int .i64 b, .int .i64 d, .int .i64 imm] 36)).heap[w.heap.size]? = some (.cells #[.int .i64 98, .int .i64 a, .int .i64 b, .int .i64 d, .int .i64 imm] 36 (0, 0)) from heap_at _ _ _ rfl)
 have NG := Aside0.mk (show w.heap.size ∉ foot c pg ps S from fun hh => absurd (h.foot_lt _ hh) (by omega))
 have EW := Aside0.mk (h.below BB.out)
 clear h hi ha hb hd
 go_enter Try.func55, Try.ntmps55
 go_upto_region 1 with (fail)
 generalize (w.alloc (.cells #[.int .i64 98, .int .i64 a, .int .i64 b, .int .i64 d, .int .i64 imm] 36)) = W1 at R6 BB EW ⊢
 generalize hg4 : w.heap.size = g4 at R6 NG ⊢
 clear hg4
 have c0 := (blk_cell R6.out 0).trans rfl
 go_upto_region 13 with (fail)
 have c1 := (blk_cell R6.out 1).trans rfl
 have c4 := (blk_cell R6.out 4).trans rfl
 have ka := EW.out.kr (xreg_get EW.out HA.out)
 have hz := HZ.out
 obtain ⟨rv, hrv⟩ : ∃ v, regV S a = v := ⟨_, rfl⟩
 rw [hrv] at ka hz
 clear hrv
 refine wp_region_still_tail 6 (by kernel_rfl) (by kernel_rfl) ?_
 simp only [List.take_succ_cons, List.take_zero, List.drop_succ_cons, List.drop_zero]
 repeat (with_reducible refine wpStill_step (fun K hK => ?_); go_simp; with_reducible refine hK _ ?_; clear hK K)
 with_reducible refine wpStill_nil ?_
 change wpList _ _ _ _ _ W1.drew
 have c4d : W1.drew.cell? ⟨g4, 4, none⟩ = some (.int .i64 imm) := pw_cell_below (Below.refl _ _).drew c4
 go_wp2_with (first | (go_at_call 62; refine (xjump_calls (EW.out.below (Below.refl _ _).drew) imm ⟨HI.out.1, HI.out.2⟩).mono ?_; rintro e Y ⟨rfl, hd⟩; have D := Aside0.mk hd; clear hd))
 all_goals go_end0
 all_goals exact ⟨rfl, xdone_of (XDid.pre BB.out (XDid.same EW.out (Below.refl _ _).drew)) fun _ => rfl⟩
set_option maxHeartbeats 4000000 in
set_option maxRecDepth 100000 in
theorem xother_99 (h : XM w c pg fx ps S inp out) (x : I5) (hop : x.op = 99) (ha : x.a < 16) (hb : x.b < 16) (hd : x.c < 16) (hi : -8388608 ≤ x.imm ∧ x.imm ≤ 16777216) (im : Int) (him : x.imm % 4294967296 = im) :
  Calls Try.prog 55 #[.pointer (some ⟨c, 0, none⟩), x.enc, .int .u32 im] w fun e w' => e = .returned (.tuple #[]) ∧ Xdone (endM (doM (byteAt ps) S x inp out)) w w' c pg fx ps S := by
 obtain ⟨op, a, b, d, imm⟩ := x
 unfold I5.enc
 simp only at hop ha hb hd hi him ⊢
 have HX := Aside0.mk (show 0 ≤ im ∧ im < 4294967296 by omega)
 subst hop
 rw [show endM (doM (byteAt ps) S ⟨99, a, b, d, imm⟩ inp out) = ⟨.nilIface, { setR S 14 S.pc with pc := jumpF S.pc imm }, byteAt ps, inp, out⟩ by rfl]
 have HIM := Aside0.mk him
 clear him
 have H := Aside0.mk h
 have HI := Aside0.mk hi
 have HA := Aside0.mk ha
 have HBB := Aside0.mk hb
 have HDD := Aside0.mk hd
 have ia := idx16 ha
 have BB := Aside0.mk (show Below w.heap.size w (w.alloc (.cells #[.int .i64 99, .int .i64 a, .int .i64 b, .int .i64 d, .int .i64 imm] 36)) from below_alloc (Below.refl _ _) _)
 have R6 := Aside0.mk (show (w.alloc (.cells #[.int .i64 99, .int .i64 a, .int .i64 b, .int .i64 d, .int .i64 imm] 36)).heap[w.heap.size]? = some (.cells #[.int .i64 99, .int .i64 a, .int .i64 b, .int .i64 d, .int .i64 imm] 36 (0, 0)) from heap_at _ _ _ rfl)
 have NG := Aside0.mk (show w.heap.size ∉ foot c pg ps S from fun hh => absurd (h.foot_lt _ hh) (by omega))
 have EW := Aside0.mk (h.below BB.out)
 clear h hi ha hb hd
 go_enter Try.func55, Try.ntmps55
 go_upto_region 1 with (fail)
 generalize (w.alloc (.cells #[.int .i64 99, .int .i64 a, .int .i64 b, .int .i64 d, .int .i64 imm] 36)) = W1 at R6 BB EW ⊢
 generalize hg4 : w.heap.size = g4 at R6 NG ⊢
 clear hg4
 have c0 := (blk_cell R6.out 0).trans rfl
 go_upto_region 16 with (fail)
 have c4 := (blk_cell R6.out 4).trans rfl
 have kpc := EW.out.kpc
 have k14 := EW.out.kr (xreg_get EW.out (a := 14) (by decide))
 have fa := EW.out.fz (6 + 14)
 refine wp_region_still_tail 8 (by kernel_rfl) (by kernel_rfl) ?_
 simp only [List.take_succ_cons, List.take_zero, List.drop_succ_cons, List.drop_zero]
 repeat (with_reducible refine wpStill_step (fun K hK => ?_); go_simp; with_reducible refine hK _ ?_; clear hK K)
 with_reducible refine wpStill_nil ?_
 change wpList _ _ _ _ _ W1.drew
 go_upto_region 17 with (fail)
 have EX := Aside0.mk ((EW.out.set_reg 14 (by decide) S.pc EW.out.pcIn.1 EW.out.pcIn.2).then_below (Below.refl _ _).drew)
 have hb : (W1.setCell ⟨c, 6 + 14, none⟩ (.int .u32 S.pc)).drew.cell? ⟨g4, 4, none⟩ = some (.int .i64 imm) := far_cell (j := 6 + 14) (u := .int .u32 S.pc) c4 (Below.refl _ _) (show ¬ c = g4 from fun e => NG.out (by rw [← e]; simp [foot]))
 generalize (W1.setCell ⟨c, 6 + 14, none⟩ (.int .u32 S.pc)).drew = W2 at EX hb ⊢
 clear c0 c4 kpc k14 fa
 go_wp2_with (first | (go_at_call 62; refine (xjump_calls EX.out.em imm ⟨HI.out.1, HI.out.2⟩).mono ?_; rintro e Y ⟨rfl, hd⟩; have D := Aside0.mk hd; clear hd))
 all_goals go_end0
 all_goals exact ⟨rfl, xdone_of (XDid.pre BB.out (EX.out.trans D.out)) fun _ => rfl⟩
set_option maxHeartbeats 4000000 in
set_option maxRecDepth 100000 in
theorem xother_100 (h : XM w c pg fx ps S inp out) (x : I5) (hop : x.op = 100) (ha : x.a < 16) (hb : x.b < 16) (hd : x.c < 16) (hi : -8388608 ≤ x.imm ∧ x.imm ≤ 16777216) (im : Int) (him : x.imm % 4294967296 = im) :
  Calls Try.prog 55 #[.pointer (some ⟨c, 0, none⟩), x.enc, .int .u32 im] w fun e w' => e = .returned (.tuple #[]) ∧ Xdone (endM (doM (byteAt ps) S x inp out)) w w' c pg fx ps S := by
 obtain ⟨op, a, b, d, imm⟩ := x
 unfold I5.enc
 simp only at hop ha hb hd hi him ⊢
 have HX := Aside0.mk (show 0 ≤ im ∧ im < 4294967296 by omega)
 subst hop
 rw [show endM (doM (byteAt ps) S ⟨100, a, b, d, imm⟩ inp out) = ⟨.nilIface, { S with pc := regV S a }, byteAt ps, inp, out⟩ by rfl]
 have HIM := Aside0.mk him
 clear him
 have H := Aside0.mk h
 have HI := Aside0.mk hi
 have HA := Aside0.mk ha
 have HBB := Aside0.mk hb
 have HDD := Aside0.mk hd
 have ia := idx16 ha
 have BB := Aside0.mk (show Below w.heap.size w (w.alloc (.cells #[.int .i64 100, .int .i64 a, .int .i64 b, .int .i64 d, .int .i64 imm] 36)) from below_alloc (Below.refl _ _) _)
 have R6 := Aside0.mk (show (w.alloc (.cells #[.int .i64 100, .int .i64 a, .int .i64 b, .int .i64 d, .int .i64 imm] 36)).heap[w.heap.size]? = some (.cells #[.int .i64 100, .int .i64 a, .int .i64 b, .int .i64 d, .int .i64 imm] 36 (0, 0)) from heap_at _ _ _ rfl)
 have NG := Aside0.mk (show w.heap.size ∉ foot c pg ps S from fun hh => absurd (h.foot_lt _ hh) (by omega))
 have EW := Aside0.mk (h.below BB.out)
 clear h hi ha hb hd
 go_enter Try.func55, Try.ntmps55
 go_upto_region 1 with (fail)
 generalize (w.alloc (.cells #[.int .i64 100, .int .i64 a, .int .i64 b, .int .i64 d, .int .i64 imm] 36)) = W1 at R6 BB EW ⊢
 generalize hg4 : w.heap.size = g4 at R6 NG ⊢
 clear hg4
 have c0 := (blk_cell R6.out 0).trans rfl
 go_upto_region 19 with (fail)
 have c1 := (blk_cell R6.out 1).trans rfl
 have ka := EW.out.kr (xreg_get EW.out HA.out)
 have kpc := EW.out.kpc
 have fp := EW.out.fz 5
 have HR := Aside0.mk (xreg_in EW.out HA.out)
 refine wp_region_still_tail 10 (by kernel_rfl) (by kernel_rfl) ?_
 simp only [List.take_succ_cons, List.take_zero, List.drop_succ_cons, List.drop_zero]
 repeat (with_reducible refine wpStill_step (fun K hK => ?_); go_simp; with_reducible refine hK _ ?_; clear hK K)
 with_reducible refine wpStill_nil ?_
 change wpList _ _ _ _ _ W1.drew
 go_wp2_with (fail)
 all_goals go_end0
 all_goals exact ⟨rfl, xdone_of (XDid.pre BB.out ((EW.out.set_pc (regV S a) HR.out.1 HR.out.2).then_below (Below.refl _ _).drew)) fun _ => rfl⟩
set_option maxHeartbeats 4000000 in
set_option maxRecDepth 100000 in
theorem xother_104a (h : XM w c pg fx ps S inp out) (x : I5) (hop : x.op = 104) (ha : x.a < 16) (hb : x.b < 16) (hd : x.c < 16) (hi : -8388608 ≤ x.imm ∧ x.imm ≤ 16777216) (im : Int) (him : x.imm % 4294967296 = im) (hz : regV S 15 < im) :
  Calls Try.prog 55 #[.pointer (some ⟨c, 0, none⟩), x.enc, .int .u32 im] w fun e w' => e = .returned (.tuple #[]) ∧ Xdone (endM (doM (byteAt ps) S x inp out)) w w' c pg fx ps S := by
 obtain ⟨op, a, b, d, imm⟩ := x
 unfold I5.enc
 simp only at hop ha hb hd hi him ⊢
 have HX := Aside0.mk (show 0 ≤ im ∧ im < 4294967296 by omega)
 subst hop
 have HZ := Aside0.mk hz
 rw [show endM (doM (byteAt ps) S ⟨104, a, b, d, imm⟩ inp out) = ⟨errT 4, { S with ended := 6, exit := 4 }, byteAt ps, inp, out⟩ by rw [show doM (byteAt ps) S ⟨104, a, b, d, imm⟩ inp out = (if regV S 15 < imm % 4294967296 ∨ regV S 15 - imm % 4294967296 < 4194304 then ⟨errT 4, S, byteAt ps, inp, out⟩ else ⟨.nilIface, setR S 15 (regV S 15 - imm % 4294967296), byteAt ps, inp, out⟩) from rfl, him]; rw [if_pos (.inl hz)]; rfl]
 have HIM := Aside0.mk him
 clear him
 have H := Aside0.mk h
 have HI := Aside0.mk hi
 have HA := Aside0.mk ha
 have HBB := Aside0.mk hb
 have HDD := Aside0.mk hd
 have ia := idx16 ha
 have BB := Aside0.mk (show Below w.heap.size w (w.alloc (.cells #[.int .i64 104, .int .i64 a, .int .i64 b, .int .i64 d, .int .i64 imm] 36)) from below_alloc (Below.refl _ _) _)
 have R6 := Aside0.mk (show (w.alloc (.cells #[.int .i64 104, .int .i64 a, .int .i64 b, .int .i64 d, .int .i64 imm] 36)).heap[w.heap.size]? = some (.cells #[.int .i64 104, .int .i64 a, .int .i64 b, .int .i64 d, .int .i64 imm] 36 (0, 0)) from heap_at _ _ _ rfl)
 have NG := Aside0.mk (show w.heap.size ∉ foot c pg ps S from fun hh => absurd (h.foot_lt _ hh) (by omega))
 have EW := Aside0.mk (h.below BB.out)
 clear h hi ha hb hd
 go_enter Try.func55, Try.ntmps55
 go_upto_region 1 with (fail)
 generalize (w.alloc (.cells #[.int .i64 104, .int .i64 a, .int .i64 b, .int .i64 d, .int .i64 imm] 36)) = W1 at R6 BB EW ⊢
 generalize hg4 : w.heap.size = g4 at R6 NG ⊢
 clear hg4
 have c0 := (blk_cell R6.out 0).trans rfl
 go_upto_region 21 with (fail)
 have hz := HZ.out
 have k15 := EW.out.kr (xreg_get EW.out (a := 15) (by decide))
 have fa := EW.out.fz (6 + 15)
 have HV := Aside0.mk (xreg_in EW.out (a := 15) (by decide))
 obtain ⟨r15, hr15⟩ : ∃ v, regV S 15 = v := ⟨_, rfl⟩
 have HR15 := Aside0.mk hr15
 rw [hr15] at k15 HV
 try rw [hr15] at hz
 clear hr15
 go_wp2_with (first | (go_at_call 49; refine (xtrap_calls EW.out 4).mono ?_; rintro e Y ⟨rfl, hd⟩; have D := Aside0.mk hd; clear hd))
 all_goals (try simp only [Exit.inBlock, Exit.then])
 all_goals refine bodyPost_ret (results_none rfl _ _ _) rfl ?_
 all_goals exact ⟨rfl, xdone_of (XDid.pre BB.out D.out) fun _ => rfl⟩
set_option maxHeartbeats 4000000 in
set_option maxRecDepth 100000 in
theorem xother_104b (h : XM w c pg fx ps S inp out) (x : I5) (hop : x.op = 104) (ha : x.a < 16) (hb : x.b < 16) (hd : x.c < 16) (hi : -8388608 ≤ x.imm ∧ x.imm ≤ 16777216) (im : Int) (him : x.imm % 4294967296 = im) (hz : ¬ regV S 15 < im ∧ regV S 15 - im < 4194304) :
  Calls Try.prog 55 #[.pointer (some ⟨c, 0, none⟩), x.enc, .int .u32 im] w fun e w' => e = .returned (.tuple #[]) ∧ Xdone (endM (doM (byteAt ps) S x inp out)) w w' c pg fx ps S := by
 obtain ⟨op, a, b, d, imm⟩ := x
 unfold I5.enc
 simp only at hop ha hb hd hi him ⊢
 have HX := Aside0.mk (show 0 ≤ im ∧ im < 4294967296 by omega)
 subst hop
 have HZ := Aside0.mk hz
 rw [show endM (doM (byteAt ps) S ⟨104, a, b, d, imm⟩ inp out) = ⟨errT 4, { S with ended := 6, exit := 4 }, byteAt ps, inp, out⟩ by rw [show doM (byteAt ps) S ⟨104, a, b, d, imm⟩ inp out = (if regV S 15 < imm % 4294967296 ∨ regV S 15 - imm % 4294967296 < 4194304 then ⟨errT 4, S, byteAt ps, inp, out⟩ else ⟨.nilIface, setR S 15 (regV S 15 - imm % 4294967296), byteAt ps, inp, out⟩) from rfl, him]; rw [if_pos (.inr hz.2)]; rfl]
 have HIM := Aside0.mk him
 clear him
 have H := Aside0.mk h
 have HI := Aside0.mk hi
 have HA := Aside0.mk ha
 have HBB := Aside0.mk hb
 have HDD := Aside0.mk hd
 have ia := idx16 ha
 have BB := Aside0.mk (show Below w.heap.size w (w.alloc (.cells #[.int .i64 104, .int .i64 a, .int .i64 b, .int .i64 d, .int .i64 imm] 36)) from below_alloc (Below.refl _ _) _)
 have R6 := Aside0.mk (show (w.alloc (.cells #[.int .i64 104, .int .i64 a, .int .i64 b, .int .i64 d, .int .i64 imm] 36)).heap[w.heap.size]? = some (.cells #[.int .i64 104, .int .i64 a, .int .i64 b, .int .i64 d, .int .i64 imm] 36 (0, 0)) from heap_at _ _ _ rfl)
 have NG := Aside0.mk (show w.heap.size ∉ foot c pg ps S from fun hh => absurd (h.foot_lt _ hh) (by omega))
 have EW := Aside0.mk (h.below BB.out)
 clear h hi ha hb hd
 go_enter Try.func55, Try.ntmps55
 go_upto_region 1 with (fail)
 generalize (w.alloc (.cells #[.int .i64 104, .int .i64 a, .int .i64 b, .int .i64 d, .int .i64 imm] 36)) = W1 at R6 BB EW ⊢
 generalize hg4 : w.heap.size = g4 at R6 NG ⊢
 clear hg4
 have c0 := (blk_cell R6.out 0).trans rfl
 go_upto_region 21 with (fail)
 have hz := HZ.out
 have k15 := EW.out.kr (xreg_get EW.out (a := 15) (by decide))
 have fa := EW.out.fz (6 + 15)
 have HV := Aside0.mk (xreg_in EW.out (a := 15) (by decide))
 obtain ⟨r15, hr15⟩ : ∃ v, regV S 15 = v := ⟨_, rfl⟩
 have HR15 := Aside0.mk hr15
 rw [hr15] at k15 HV
 try rw [hr15] at hz
 clear hr15
 obtain ⟨hz, hy⟩ := hz
 have hw1 : (r15 - im) % 4294967296 = r15 - im := by have := HV.out; have := HX.out; omega
 go_wp2_with (first | (go_at_call 49; refine (xtrap_calls EW.out 4).mono ?_; rintro e Y ⟨rfl, hd⟩; have D := Aside0.mk hd; clear hd))
 all_goals (try simp only [Exit.inBlock, Exit.then])
 all_goals refine bodyPost_ret (results_none rfl _ _ _) rfl ?_
 all_goals exact ⟨rfl, xdone_of (XDid.pre BB.out D.out) fun _ => rfl⟩
set_option maxHeartbeats 4000000 in
set_option maxRecDepth 100000 in
theorem xother_104c (h : XM w c pg fx ps S inp out) (x : I5) (hop : x.op = 104) (ha : x.a < 16) (hb : x.b < 16) (hd : x.c < 16) (hi : -8388608 ≤ x.imm ∧ x.imm ≤ 16777216) (im : Int) (him : x.imm % 4294967296 = im) (hz : ¬ regV S 15 < im ∧ ¬ regV S 15 - im < 4194304) :
  Calls Try.prog 55 #[.pointer (some ⟨c, 0, none⟩), x.enc, .int .u32 im] w fun e w' => e = .returned (.tuple #[]) ∧ Xdone (endM (doM (byteAt ps) S x inp out)) w w' c pg fx ps S := by
 obtain ⟨op, a, b, d, imm⟩ := x
 unfold I5.enc
 simp only at hop ha hb hd hi him ⊢
 have HX := Aside0.mk (show 0 ≤ im ∧ im < 4294967296 by omega)
 subst hop
 have HZ := Aside0.mk hz
 rw [show endM (doM (byteAt ps) S ⟨104, a, b, d, imm⟩ inp out) = ⟨.nilIface, setR S 15 (regV S 15 - im), byteAt ps, inp, out⟩ by rw [show doM (byteAt ps) S ⟨104, a, b, d, imm⟩ inp out = (if regV S 15 < imm % 4294967296 ∨ regV S 15 - imm % 4294967296 < 4194304 then ⟨errT 4, S, byteAt ps, inp, out⟩ else ⟨.nilIface, setR S 15 (regV S 15 - imm % 4294967296), byteAt ps, inp, out⟩) from rfl, him]; rw [if_neg (by omega)]; rfl]
 have HIM := Aside0.mk him
 clear him
 have H := Aside0.mk h
 have HI := Aside0.mk hi
 have HA := Aside0.mk ha
 have HBB := Aside0.mk hb
 have HDD := Aside0.mk hd
 have ia := idx16 ha
 have BB := Aside0.mk (show Below w.heap.size w (w.alloc (.cells #[.int .i64 104, .int .i64 a, .int .i64 b, .int .i64 d, .int .i64 imm] 36)) from below_alloc (Below.refl _ _) _)
 have R6 := Aside0.mk (show (w.alloc (.cells #[.int .i64 104, .int .i64 a, .int .i64 b, .int .i64 d, .int .i64 imm] 36)).heap[w.heap.size]? = some (.cells #[.int .i64 104, .int .i64 a, .int .i64 b, .int .i64 d, .int .i64 imm] 36 (0, 0)) from heap_at _ _ _ rfl)
 have NG := Aside0.mk (show w.heap.size ∉ foot c pg ps S from fun hh => absurd (h.foot_lt _ hh) (by omega))
 have EW := Aside0.mk (h.below BB.out)
 clear h hi ha hb hd
 go_enter Try.func55, Try.ntmps55
 go_upto_region 1 with (fail)
 generalize (w.alloc (.cells #[.int .i64 104, .int .i64 a, .int .i64 b, .int .i64 d, .int .i64 imm] 36)) = W1 at R6 BB EW ⊢
 generalize hg4 : w.heap.size = g4 at R6 NG ⊢
 clear hg4
 have c0 := (blk_cell R6.out 0).trans rfl
 go_upto_region 21 with (fail)
 have hz := HZ.out
 have k15 := EW.out.kr (xreg_get EW.out (a := 15) (by decide))
 have fa := EW.out.fz (6 + 15)
 have HV := Aside0.mk (xreg_in EW.out (a := 15) (by decide))
 obtain ⟨r15, hr15⟩ : ∃ v, regV S 15 = v := ⟨_, rfl⟩
 have HR15 := Aside0.mk hr15
 rw [hr15] at k15 HV
 try rw [hr15] at hz
 clear hr15
 obtain ⟨hz, hy⟩ := hz
 have HR := Aside0.mk (show 0 ≤ r15 - im ∧ r15 - im < 4294967296 by have := HV.out; have := HX.out; omega)
 have hw1 : (r15 - im) % 4294967296 = r15 - im := by have := HV.out; have := HX.out; omega
 go_upto_region 23 with (fail)
 refine wp_region_still_tail 9 (by kernel_rfl) (by kernel_rfl) ?_
 simp only [List.take_succ_cons, List.take_zero, List.drop_succ_cons, List.drop_zero]
 repeat (with_reducible refine wpStill_step (fun K hK => ?_); go_simp; with_reducible refine hK _ ?_; clear hK K)
 with_reducible refine wpStill_nil ?_
 change wpList _ _ _ _ _ W1.drew
 go_wp2_with (fail)
 all_goals go_end0
 all_goals (
  rw [HR15.out]
  exact ⟨rfl, xdone_of (XDid.pre BB.out ((EW.out.set_reg 15 (by decide) (r15 - im) HR.out.1 HR.out.2).then_below (Below.refl _ _).drew)) fun _ => rfl⟩)
set_option maxHeartbeats 4000000 in
set_option maxRecDepth 100000 in
theorem xother_105 (h : XM w c pg fx ps S inp out) (x : I5) (hop : x.op = 105) (ha : x.a < 16) (hb : x.b < 16) (hd : x.c < 16) (hi : -8388608 ≤ x.imm ∧ x.imm ≤ 16777216) (im : Int) (him : x.imm % 4294967296 = im) :
  Calls Try.prog 55 #[.pointer (some ⟨c, 0, none⟩), x.enc, .int .u32 im] w fun e w' => e = .returned (.tuple #[]) ∧ Xdone (endM (doM (byteAt ps) S x inp out)) w w' c pg fx ps S := by
 obtain ⟨op, a, b, d, imm⟩ := x
 unfold I5.enc
 simp only at hop ha hb hd hi him ⊢
 have HX := Aside0.mk (show 0 ≤ im ∧ im < 4294967296 by omega)
 subst hop
 rw [show endM (doM (byteAt ps) S ⟨105, a, b, d, imm⟩ inp out) = ⟨.nilIface, setR S 15 ((regV S 15 + im) % 4294967296), byteAt ps, inp, out⟩ by rw [show doM (byteAt ps) S ⟨105, a, b, d, imm⟩ inp out = ⟨.nilIface, setR S 15 ((regV S 15 + imm % 4294967296) % 4294967296), byteAt ps, inp, out⟩ from rfl, him]; rfl]
 have HIM := Aside0.mk him
 clear him
 have H := Aside0.mk h
 have HI := Aside0.mk hi
 have HA := Aside0.mk ha
 have HBB := Aside0.mk hb
 have HDD := Aside0.mk hd
 have ia := idx16 ha
 have BB := Aside0.mk (show Below w.heap.size w (w.alloc (.cells #[.int .i64 105, .int .i64 a, .int .i64 b, .int .i64 d, .int .i64 imm] 36)) from below_alloc (Below.refl _ _) _)
 have R6 := Aside0.mk (show (w.alloc (.cells #[.int .i64 105, .int .i64 a, .int .i64 b, .int .i64 d, .int .i64 imm] 36)).heap[w.heap.size]? = some (.cells #[.int .i64 105, .int .i64 a, .int .i64 b, .int .i64 d, .int .i64 imm] 36 (0, 0)) from heap_at _ _ _ rfl)
 have NG := Aside0.mk (show w.heap.size ∉ foot c pg ps S from fun hh => absurd (h.foot_lt _ hh) (by omega))
 have EW := Aside0.mk (h.below BB.out)
 clear h hi ha hb hd
 go_enter Try.func55, Try.ntmps55
 go_upto_region 1 with (fail)
 generalize (w.alloc (.cells #[.int .i64 105, .int .i64 a, .int .i64 b, .int .i64 d, .int .i64 imm] 36)) = W1 at R6 BB EW ⊢
 generalize hg4 : w.heap.size = g4 at R6 NG ⊢
 clear hg4
 have c0 := (blk_cell R6.out 0).trans rfl
 go_upto_region 25 with (fail)
 have k15 := EW.out.kr (xreg_get EW.out (a := 15) (by decide))
 have fa := EW.out.fz (6 + 15)
 have HV := Aside0.mk (xreg_in EW.out (a := 15) (by decide))
 obtain ⟨r15, hr15⟩ : ∃ v, regV S 15 = v := ⟨_, rfl⟩
 have HR15 := Aside0.mk hr15
 rw [hr15] at k15 HV
 clear hr15
 refine wp_region_still_tail 9 (by kernel_rfl) (by kernel_rfl) ?_
 simp only [List.take_succ_cons, List.take_zero, List.drop_succ_cons, List.drop_zero]
 repeat (with_reducible refine wpStill_step (fun K hK => ?_); go_simp; with_reducible refine hK _ ?_; clear hK K)
 with_reducible refine wpStill_nil ?_
 change wpList _ _ _ _ _ W1.drew
 go_wp2_with (fail)
 all_goals go_end0
 all_goals (
  rw [HR15.out]
  exact ⟨rfl, xdone_of (XDid.pre BB.out ((EW.out.set_reg 15 (by decide) ((r15 + im) % 4294967296) (by omega) (by omega)).then_below (Below.refl _ _).drew)) fun _ => rfl⟩)
set_option maxHeartbeats 4000000 in
set_option maxRecDepth 100000 in
theorem xother_114 (h : XM w c pg fx ps S inp out) (x : I5) (hop : x.op = 114) (ha : x.a < 16) (hb : x.b < 16) (hd : x.c < 16) (hi : -8388608 ≤ x.imm ∧ x.imm ≤ 16777216) (im : Int) (him : x.imm % 4294967296 = im) :
  Calls Try.prog 55 #[.pointer (some ⟨c, 0, none⟩), x.enc, .int .u32 im] w fun e w' => e = .returned (.tuple #[]) ∧ Xdone (endM (doM (byteAt ps) S x inp out)) w w' c pg fx ps S := by
 obtain ⟨op, a, b, d, imm⟩ := x
 unfold I5.enc
 simp only at hop ha hb hd hi him ⊢
 have HX := Aside0.mk (show 0 ≤ im ∧ im < 4294967296 by omega)
 subst hop
 have hw32 : (if regV S a < 2147483648 then regV S a else regV S a - 4294967296) = wrap32 (regV S a) := by
  have := h.regIn _ (List.mem_of_getElem? (xreg_get h ha)); unfold wrap32; split <;> omega
 rw [show endM (doM (byteAt ps) S ⟨114, a, b, d, imm⟩ inp out) = ⟨stopV 1 (wrap32 (regV S a)), { S with ended := 1, exit := wrap32 (regV S a) }, byteAt ps, inp, out⟩ by rw [show doM (byteAt ps) S ⟨114, a, b, d, imm⟩ inp out = ⟨stopV 1 (if regV S a < 2147483648 then regV S a else regV S a - 4294967296), S, byteAt ps, inp, out⟩ from rfl, hw32]; rfl]
 clear hw32
 have HIM := Aside0.mk him
 clear him
 have H := Aside0.mk h
 have HI := Aside0.mk hi
 have HA := Aside0.mk ha
 have HBB := Aside0.mk hb
 have HDD := Aside0.mk hd
 have ia := idx16 ha
 have BB := Aside0.mk (show Below w.heap.size w (w.alloc (.cells #[.int .i64 114, .int .i64 a, .int .i64 b, .int .i64 d, .int .i64 imm] 36)) from below_alloc (Below.refl _ _) _)
 have R6 := Aside0.mk (show (w.alloc (.cells #[.int .i64 114, .int .i64 a, .int .i64 b, .int .i64 d, .int .i64 imm] 36)).heap[w.heap.size]? = some (.cells #[.int .i64 114, .int .i64 a, .int .i64 b, .int .i64 d, .int .i64 imm] 36 (0, 0)) from heap_at _ _ _ rfl)
 have NG := Aside0.mk (show w.heap.size ∉ foot c pg ps S from fun hh => absurd (h.foot_lt _ hh) (by omega))
 have EW := Aside0.mk (h.below BB.out)
 clear h hi ha hb hd
 go_enter Try.func55, Try.ntmps55
 go_upto_region 1 with (fail)
 generalize (w.alloc (.cells #[.int .i64 114, .int .i64 a, .int .i64 b, .int .i64 d, .int .i64 imm] 36)) = W1 at R6 BB EW ⊢
 generalize hg4 : w.heap.size = g4 at R6 NG ⊢
 clear hg4
 have c0 := (blk_cell R6.out 0).trans rfl
 go_upto_region 34 with (fail)
 have c1 := (blk_cell R6.out 1).trans rfl
 have ka := EW.out.kr (xreg_get EW.out HA.out)
 have HR := Aside0.mk (xreg_in EW.out HA.out)
 refine wp_region_still_tail 8 (by kernel_rfl) (by kernel_rfl) ?_
 simp only [List.take_succ_cons, List.take_zero, List.drop_succ_cons, List.drop_zero]
 repeat (with_reducible refine wpStill_step (fun K hK => ?_); go_simp; with_reducible refine hK _ ?_; clear hK K)
 with_reducible refine wpStill_step (fun K hK => ?_)
 go_simp
 refine ⟨_, xInt_still _ HR.out.1 HR.out.2 _, hK _ ?_⟩
 clear hK K
 repeat (with_reducible refine wpStill_step (fun K hK => ?_); go_simp; with_reducible refine hK _ ?_; clear hK K)
 with_reducible refine wpStill_nil ?_
 change wpList _ _ _ _ _ W1.drew
 go_wp2_with (first | (go_at_call 58; refine (xend_calls (EW.out.below (Below.refl _ _).drew) 1 (wrap32 (regV S a))).mono ?_; rintro e Y ⟨rfl, hd⟩; have D := Aside0.mk (XDid.pre (Below.refl _ _).drew hd); clear hd))
 all_goals go_end0
 all_goals exact ⟨rfl, xdone_of (XDid.pre BB.out D.out) fun _ => rfl⟩
set_option maxHeartbeats 4000000 in
set_option maxRecDepth 100000 in
theorem xother_113n (h : XM w c pg fx ps S inp out) (x : I5) (hop : x.op = 113) (ha : x.a < 16) (hb : x.b < 16) (hd : x.c < 16) (hi : -8388608 ≤ x.imm ∧ x.imm ≤ 16777216) (im : Int) (him : x.imm % 4294967296 = im) (hz : inp = []) :
  Calls Try.prog 55 #[.pointer (some ⟨c, 0, none⟩), x.enc, .int .u32 im] w fun e w' => e = .returned (.tuple #[]) ∧ Xdone (endM (doM (byteAt ps) S x inp out)) w w' c pg fx ps S := by
 obtain ⟨op, a, b, d, imm⟩ := x
 unfold I5.enc
 simp only at hop ha hb hd hi him ⊢
 have HX := Aside0.mk (show 0 ≤ im ∧ im < 4294967296 by omega)
 subst hop
 subst hz
 rw [show endM (doM (byteAt ps) S ⟨113, a, b, d, imm⟩ [] out) = ⟨.nilIface, setR S a 4294967295, byteAt ps, [], out⟩ by rfl]
 have HIM := Aside0.mk him
 clear him
 have H := Aside0.mk h
 have HI := Aside0.mk hi
 have HA := Aside0.mk ha
 have HBB := Aside0.mk hb
 have HDD := Aside0.mk hd
 have ia := idx16 ha
 have BB := Aside0.mk (show Below w.heap.size w (w.alloc (.cells #[.int .i64 113, .int .i64 a, .int .i64 b, .int .i64 d, .int .i64 imm] 36)) from below_alloc (Below.refl _ _) _)
 have R6 := Aside0.mk (show (w.alloc (.cells #[.int .i64 113, .int .i64 a, .int .i64 b, .int .i64 d, .int .i64 imm] 36)).heap[w.heap.size]? = some (.cells #[.int .i64 113, .int .i64 a, .int .i64 b, .int .i64 d, .int .i64 imm] 36 (0, 0)) from heap_at _ _ _ rfl)
 have NG := Aside0.mk (show w.heap.size ∉ foot c pg ps S from fun hh => absurd (h.foot_lt _ hh) (by omega))
 have EW := Aside0.mk (h.below BB.out)
 clear h hi ha hb hd
 go_enter Try.func55, Try.ntmps55
 go_upto_region 1 with (fail)
 generalize (w.alloc (.cells #[.int .i64 113, .int .i64 a, .int .i64 b, .int .i64 d, .int .i64 imm] 36)) = W1 at R6 BB EW ⊢
 generalize hg4 : w.heap.size = g4 at R6 NG ⊢
 clear hg4
 have c0 := (blk_cell R6.out 0).trans rfl
 go_upto_region 29 with (fail)
 have c1 := (blk_cell R6.out 1).trans rfl
 have ka := EW.out.kr (xreg_get EW.out HA.out)
 have fa := EW.out.fz (6 + a)
 refine wp_region_still_tail 5 (by kernel_rfl) (by kernel_rfl) ?_
 simp only [List.take_succ_cons, List.take_zero, List.drop_succ_cons, List.drop_zero]
 repeat (with_reducible refine wpStill_step (fun K hK => ?_); go_simp; with_reducible refine hK _ ?_; clear hK K)
 with_reducible refine wpStill_nil ?_
 change wpList _ _ _ _ _ W1.drew
 go_upto_region 30 with (fail)
 have EX := Aside0.mk ((EW.out.set_reg a HA.out 4294967295 (by decide) (by decide)).then_below (Below.refl _ _).drew)
 have hb : (W1.setCell ⟨c, 6 + a, none⟩ (.int .u32 4294967295)).drew.cell? ⟨g4, 1, none⟩ = some (.int .i64 a) := far_cell (j := 6 + a) (u := .int .u32 4294967295) c1 (Below.refl _ _) (show ¬ c = g4 from fun e => NG.out (by rw [← e]; simp [foot]))
 generalize (W1.setCell ⟨c, 6 + a, none⟩ (.int .u32 4294967295)).drew = W2 at EX hb ⊢
 clear c0 c1 fa ka
 obtain ⟨A, cap, eA, -⟩ := EX.out.em.inS
 have k3 : W2.cell? ⟨c, 3, none⟩ = some (.slice A 0 cap) := EX.out.em.kin.trans (congrArg some eA)
 clear eA
 all_goals go_wp2_with (fail)
 all_goals go_end0
 all_goals exact ⟨rfl, xdone_of (XDid.pre BB.out EX.out) fun _ => rfl⟩
set_option maxHeartbeats 4000000 in
set_option maxRecDepth 100000 in
theorem xother_113c (h : XM w c pg fx ps S inp out) (x : I5) (hop : x.op = 113) (ha : x.a < 16) (hb : x.b < 16) (hd : x.c < 16) (hi : -8388608 ≤ x.imm ∧ x.imm ≤ 16777216) (im : Int) (him : x.imm % 4294967296 = im) {v : Int} {rest : List Int} (hz : inp = v :: rest) (hv : 0 ≤ v ∧ v < 256) :
  Calls Try.prog 55 #[.pointer (some ⟨c, 0, none⟩), x.enc, .int .u32 im] w fun e w' => e = .returned (.tuple #[]) ∧ Xdone (endM (doM (byteAt ps) S x inp out)) w w' c pg fx ps S := by
 obtain ⟨op, a, b, d, imm⟩ := x
 unfold I5.enc
 simp only at hop ha hb hd hi him ⊢
 have HX := Aside0.mk (show 0 ≤ im ∧ im < 4294967296 by omega)
 subst hop
 subst hz
 have HV := Aside0.mk (show 0 ≤ v ∧ v < 4294967296 by omega)
 clear hv
 rw [show endM (doM (byteAt ps) S ⟨113, a, b, d, imm⟩ (v :: rest) out) = ⟨.nilIface, setR S a v, byteAt ps, rest, out⟩ by rfl]
 have HIM := Aside0.mk him
 clear him
 have H := Aside0.mk h
 have HI := Aside0.mk hi
 have HA := Aside0.mk ha
 have HBB := Aside0.mk hb
 have HDD := Aside0.mk hd
 have ia := idx16 ha
 have BB := Aside0.mk (show Below w.heap.size w (w.alloc (.cells #[.int .i64 113, .int .i64 a, .int .i64 b, .int .i64 d, .int .i64 imm] 36)) from below_alloc (Below.refl _ _) _)
 have R6 := Aside0.mk (show (w.alloc (.cells #[.int .i64 113, .int .i64 a, .int .i64 b, .int .i64 d, .int .i64 imm] 36)).heap[w.heap.size]? = some (.cells #[.int .i64 113, .int .i64 a, .int .i64 b, .int .i64 d, .int .i64 imm] 36 (0, 0)) from heap_at _ _ _ rfl)
 have NG := Aside0.mk (show w.heap.size ∉ foot c pg ps S from fun hh => absurd (h.foot_lt _ hh) (by omega))
 have EW := Aside0.mk (h.below BB.out)
 clear h hi ha hb hd
 go_enter Try.func55, Try.ntmps55
 go_upto_region 1 with (fail)
 generalize (w.alloc (.cells #[.int .i64 113, .int .i64 a, .int .i64 b, .int .i64 d, .int .i64 imm] 36)) = W1 at R6 BB EW ⊢
 generalize hg4 : w.heap.size = g4 at R6 NG ⊢
 clear hg4
 have c0 := (blk_cell R6.out 0).trans rfl
 go_upto_region 29 with (fail)
 have c1 := (blk_cell R6.out 1).trans rfl
 have ka := EW.out.kr (xreg_get EW.out HA.out)
 have fa := EW.out.fz (6 + a)
 refine wp_region_still_tail 5 (by kernel_rfl) (by kernel_rfl) ?_
 simp only [List.take_succ_cons, List.take_zero, List.drop_succ_cons, List.drop_zero]
 repeat (with_reducible refine wpStill_step (fun K hK => ?_); go_simp; with_reducible refine hK _ ?_; clear hK K)
 with_reducible refine wpStill_nil ?_
 change wpList _ _ _ _ _ W1.drew
 go_upto_region 30 with (fail)
 have EX := Aside0.mk ((EW.out.set_reg a HA.out 4294967295 (by decide) (by decide)).then_below (Below.refl _ _).drew)
 have hb : (W1.setCell ⟨c, 6 + a, none⟩ (.int .u32 4294967295)).drew.cell? ⟨g4, 1, none⟩ = some (.int .i64 a) := far_cell (j := 6 + a) (u := .int .u32 4294967295) c1 (Below.refl _ _) (show ¬ c = g4 from fun e => NG.out (by rw [← e]; simp [foot]))
 generalize (W1.setCell ⟨c, 6 + a, none⟩ (.int .u32 4294967295)).drew = W2 at EX hb ⊢
 clear c0 c1 fa ka
 obtain ⟨ad, cap, A', eA, hc, -, -⟩ := EX.out.em.take_in
 have k3 : W2.cell? ⟨c, 3, none⟩ = some (.slice (some ad) (rest.length + 1) cap) := EX.out.em.kin.trans (congrArg some eA)
 have hl : ((0 : Nat) : Int) < ((rest.length + 1 : Nat) : Int) := by omega
 have hk := EX.out.em.kr (xreg_get EX.out.em HA.out)
 have fa := EX.out.em.fz (6 + a)
 clear eA
 go_upto_region 31 with (fail)
 skip
 refine wp_region_still_tail 12 (by kernel_rfl) (by kernel_rfl) ?_
 simp only [List.take_succ_cons, List.take_zero, List.drop_succ_cons, List.drop_zero]
 repeat (with_reducible refine wpStill_step (fun K hK => ?_); go_simp; with_reducible refine hK _ ?_; clear hK K)
 with_reducible refine wpStill_nil ?_
 change wpList _ _ _ _ _ W2.drew
 go_upto_region 32 with (fail)
 rw [Int.emod_eq_of_lt HV.out.1 HV.out.2]
 have EY := Aside0.mk (EX.out.trans ((EX.out.em.set_reg a HA.out v HV.out.1 HV.out.2).then_below (Below.refl _ _).drew))
 generalize (W2.setCell ⟨c, 6 + a, none⟩ (.int .u32 v)).drew = W3 at EY ⊢
 clear hc hb hk fa k3 hl
 obtain ⟨ad2, cap2, A2, eA, -, hrun, D2⟩ := EY.out.em.take_in
 have DZ := Aside0.mk D2
 clear D2
 have k3 : W3.cell? ⟨c, 3, none⟩ = some (.slice (some ad2) (rest.length + 1) cap2) := EY.out.em.kin.trans (congrArg some eA)
 have f3 := EY.out.em.fz 3
 clear eA
 go_wp2_with (fail)
 all_goals go_end0
 all_goals refine ⟨rfl, .slice A2 rest.length (cap2 - 1), S.outV, ps, ?_, fun _ => rfl⟩
 all_goals (have q := XDid.pre BB.out (EY.out.trans DZ.out); simpa [setR, List.set_set] using q)
theorem xgrown23 (h : XM w c pg fx ps S inp out) (hg : w.grownBy w' S.outV.ownBlock) : w'.cell? ⟨c, 23, none⟩ = some S.outV ∧ w'.frozen? ⟨c, 23, none⟩ = false := by
 have hh := blk_grown h.head hg (fun e => by
  have hn := h.nodup
  unfold foot at hn
  exact (List.nodup_cons.1 hn).1 (by simp [← e]))
 exact ⟨by rw [xcpu_cell hh, xcpu_at h.nreg]; rfl, xcpu_froz hh 23⟩
set_option maxHeartbeats 4000000 in
set_option maxRecDepth 100000 in
theorem xother_112 (h : XM w c pg fx ps S inp out) (x : I5) (hop : x.op = 112) (ha : x.a < 16) (hb : x.b < 16) (hd : x.c < 16) (hi : -8388608 ≤ x.imm ∧ x.imm ≤ 16777216) (im : Int) (him : x.imm % 4294967296 = im) (hz : out.length + 1 ≤ 140737488355328) :
  Calls Try.prog 55 #[.pointer (some ⟨c, 0, none⟩), x.enc, .int .u32 im] w fun e w' => e = .returned (.tuple #[]) ∧ Xdone (endM (doM (byteAt ps) S x inp out)) w w' c pg fx ps S := by
 obtain ⟨op, a, b, d, imm⟩ := x
 unfold I5.enc
 simp only at hop ha hb hd hi him ⊢
 have HX := Aside0.mk (show 0 ≤ im ∧ im < 4294967296 by omega)
 subst hop
 have HZZ := Aside0.mk (show (out.length + 1) * 1 ≤ 140737488355328 by omega)
 clear hz
 rw [show endM (doM (byteAt ps) S ⟨112, a, b, d, imm⟩ inp out) = ⟨.nilIface, S, byteAt ps, inp, out ++ [regV S a % 256]⟩ by rfl]
 have HIM := Aside0.mk him
 clear him
 have H := Aside0.mk h
 have HI := Aside0.mk hi
 have HA := Aside0.mk ha
 have HBB := Aside0.mk hb
 have HDD := Aside0.mk hd
 have ia := idx16 ha
 have BB := Aside0.mk (show Below w.heap.size w (w.alloc (.cells #[.int .i64 112, .int .i64 a, .int .i64 b, .int .i64 d, .int .i64 imm] 36)) from below_alloc (Below.refl _ _) _)
 have R6 := Aside0.mk (show (w.alloc (.cells #[.int .i64 112, .int .i64 a, .int .i64 b, .int .i64 d, .int .i64 imm] 36)).heap[w.heap.size]? = some (.cells #[.int .i64 112, .int .i64 a, .int .i64 b, .int .i64 d, .int .i64 imm] 36 (0, 0)) from heap_at _ _ _ rfl)
 have NG := Aside0.mk (show w.heap.size ∉ foot c pg ps S from fun hh => absurd (h.foot_lt _ hh) (by omega))
 have EW := Aside0.mk (h.below BB.out)
 clear h hi ha hb hd
 go_enter Try.func55, Try.ntmps55
 go_upto_region 1 with (fail)
 generalize (w.alloc (.cells #[.int .i64 112, .int .i64 a, .int .i64 b, .int .i64 d, .int .i64 imm] 36)) = W1 at R6 BB EW ⊢
 generalize hg4 : w.heap.size = g4 at R6 NG ⊢
 clear hg4
 have c0 := (blk_cell R6.out 0).trans rfl
 go_upto_region 27 with (fail)
 have c1 := (blk_cell R6.out 1).trans rfl
 have ka := EW.out.kr (xreg_get EW.out HA.out)
 have k23 := EW.out.kout
 have f23 := EW.out.fz 23
 obtain ⟨base, HR⟩ := EW.out.outS
 have hHR := Aside0.mk (Kd.R_lower (Kd.R_drew HR) (Nat.zero_le base))
 have hBB := Aside0.mk (show Below 0 W1 W1.drew from (Below.refl _ _).drew)
 have hzz := HZZ
 have ED := Aside0.mk (EW.out.below (Below.refl _ _).drew)
 have in5 := Aside0.mk inf5
 clear HR
 have hw8 : IntKind.u8.wrap (regV S a) = regV S a % 256 := IntKind.wrap_u8 _
 have h23 : (W1.alloc (.cells #[.int .u8 (regV S a % 256)] 5)).cell? ⟨c, 23, none⟩ = some S.outV := pw_cell_below (below_alloc (Below.refl W1.heap.size W1) _) k23
 have hka : (W1.alloc (.cells #[.int .u8 (regV S a % 256)] 5)).cell? ⟨c, 6 + a, none⟩ = some (.int .u32 (regV S a)) := pw_cell_below (below_alloc (Below.refl W1.heap.size W1) _) ka
 have hc1 : (W1.alloc (.cells #[.int .u8 (regV S a % 256)] 5)).cell? ⟨g4, 1, none⟩ = some (.int .i64 a) := pw_cell_below (below_alloc (Below.refl W1.heap.size W1) _) c1
 clear c0
 go_region_law (refine Kd.R_append_step (Kd.int .u8) (w0 := W1) (W := W1.drew) 0 (by rfl) (.tmp 141) (.tmp 149) 23 5 (.int .u8 0) 1 (by rfl) Try.underlying23 in5.out rfl (by decide) (by decide) S.outV out (regV S a % 256) [.int .u8 (regV S a % 256)] (fun _ => True) (fun _ => False) (by simp [Act.eval, Act.put]) (by simp [Act.eval, Act.put]) rfl (fun _ hk => hk.elim) (fun _ _ => trivial) hHR.out hBB.out (Nat.zero_le _) hzz.out ?_; intro v1 w1 hR1 hB1 hG1 hat1; obtain ⟨A1, c1', hv1⟩ := Kd.R_slice hR1; subst hv1; obtain ⟨q23, z23⟩ := xgrown23 ED.out hG1; have DD := Aside0.mk (ED.out.grown hG1 hR1 hat1); clear hR1 hB1 hG1 hat1)
 all_goals go_wp2_with (fail)
 all_goals go_end0
 all_goals exact ⟨rfl, S.inV, .slice A1 (out.length + 1) c1', ps, XDid.pre (pm_chain BB.out (Below.refl _ _).drew) (by simpa using DD.out), fun _ => rfl⟩
end Go.Proofs.Ytejhnlljddjicaa.Ma
namespace Go.Proofs.Ytejhnlljddjicaa.Ma
open Go.RowKit Go.Proofs.Ytejhnlljddjicaa.PLk Go.Proofs.YtejhnlljddjicaaW.PrintWords Go.Proofs.YtejhnlljddjicaaW.PrintLast Go.Proofs.YtejhnlljddjicaaW.PrintMore Go.Proofs.Ytejhnlljddjicaa.La
set_option linter.unusedVariables false
set_option linter.unusedSimpArgs false
variable {fx : Value × Int} {w w' : World} {c pg : Nat} {ps ps' : Pages} {S S' : Cpu} {inp out inp' out' : List Int}
set_option maxHeartbeats 4000000 in
set_option maxRecDepth 100000 in
theorem xother_calls (h : XM w c pg fx ps S inp out) (x : I5) (hx : (x.op = 64 ∨ x.op = 65 ∨ x.op = 96 ∨ x.op = 97 ∨ x.op = 98 ∨ x.op = 99 ∨ x.op = 100 ∨ x.op = 104 ∨ x.op = 105 ∨ x.op = 112 ∨ x.op = 113 ∨ x.op = 114)) (ha : x.a < 16) (hb : x.b < 16) (hd : x.c < 16) (hi : -8388608 ≤ x.imm ∧ x.imm ≤ 16777216) (im : Int) (him : x.imm % 4294967296 = im) (hin : ∀ v ∈ inp, 0 ≤ v ∧ v < 256) (hout : out.length + 1 ≤ 140737488355328) :
  Calls Try.prog 55 #[.pointer (some ⟨c, 0, none⟩), x.enc, .int .u32 im] w fun e w' => e = .returned (.tuple #[]) ∧ Xdone (endM (doM (byteAt ps) S x inp out)) w w' c pg fx ps S := by
 rcases hx with e | e | e | e | e | e | e | e | e | e | e | e
 ·exact xother_64 h x e ha hb hd hi im him
 ·exact xother_65 h x e ha hb hd hi im him
 ·exact xother_96 h x e ha hb hd hi im him
 ·by_cases z : regV S x.a = 0
  ·exact xother_97y h x e ha hb hd hi im him z
  ·exact xother_97n h x e ha hb hd hi im him z
 ·by_cases z : regV S x.a = 0
  ·exact xother_98n h x e ha hb hd hi im him z
  ·exact xother_98y h x e ha hb hd hi im him z
 ·exact xother_99 h x e ha hb hd hi im him
 ·exact xother_100 h x e ha hb hd hi im him
 ·by_cases z : regV S 15 < im
  ·exact xother_104a h x e ha hb hd hi im him z
  ·by_cases y : regV S 15 - im < 4194304
   ·exact xother_104b h x e ha hb hd hi im him ⟨z, y⟩
   ·exact xother_104c h x e ha hb hd hi im him ⟨z, y⟩
 ·exact xother_105 h x e ha hb hd hi im him
 ·exact xother_112 h x e ha hb hd hi im him hout
 ·cases inp with
  | nil => exact xother_113n h x e ha hb hd hi im him rfl
  | cons v rest => exact xother_113c h x e ha hb hd hi im him rfl (hin v List.mem_cons_self)
 ·exact xother_114 h x e ha hb hd hi im him
theorem width_oth (op : Int) (hx : op = 64 ∨ op = 65 ∨ op = 96 ∨ op = 97 ∨ op = 98 ∨ op = 99 ∨ op = 100 ∨ op = 104 ∨ op = 105 ∨ op = 112 ∨ op = 113 ∨ op = 114) : mortiseref21_width.f 20 op = some (0, false) := by
 rcases hx with rfl | rfl | rfl | rfl | rfl | rfl | rfl | rfl | rfl | rfl | rfl | rfl <;> rfl
set_option maxHeartbeats 4000000 in
set_option maxRecDepth 100000 in
theorem xdo_oth (h : XM w c pg fx ps S inp out) (x : I5) (hx : (x.op = 64 ∨ x.op = 65 ∨ x.op = 96 ∨ x.op = 97 ∨ x.op = 98 ∨ x.op = 99 ∨ x.op = 100 ∨ x.op = 104 ∨ x.op = 105 ∨ x.op = 112 ∨ x.op = 113 ∨ x.op = 114)) (ha : x.a < 16) (hb : x.b < 16) (hd : x.c < 16) (hi : -8388608 ≤ x.imm ∧ x.imm ≤ 16777216) (hin : ∀ v ∈ inp, 0 ≤ v ∧ v < 256) (hout : out.length + 1 ≤ 140737488355328) :
  Calls Try.prog 41 #[.pointer (some ⟨c, 0, none⟩), x.enc] w fun e w' => e = .returned (.tuple #[]) ∧ Xdone (endM (doM (byteAt ps) S x inp out)) w w' c pg fx ps S := by
 obtain ⟨im, him⟩ : ∃ im, x.imm % 4294967296 = im := ⟨_, rfl⟩
 have HOF := Aside0.mk (show mortiseref01_Of.f x.imm = some im by rw [refOf, him])
 have HW := Aside0.mk (width_oth x.op hx)
 have HC := Aside0.mk (fun (W : World) (hW : XM W c pg fx ps S inp out) => xother_calls hW x hx ha hb hd hi im him hin hout)
 have hop1 : 51 < x.op := by omega
 have hop0 : 19 < x.op := by omega
 have H := Aside0.mk h
 obtain ⟨r, hr⟩ : ∃ r, endM (doM (byteAt ps) S x inp out) = r := ⟨_, rfl⟩
 rw [hr] at HC ⊢
 clear hx ha hb hd hi hin hout hr him
 obtain ⟨op, a, b, d, imm⟩ := x
 unfold I5.enc at *
 simp only at HOF HW HC hop1 hop0 ⊢
 have B0 := Aside0.mk (show Below w.heap.size w (w.alloc (.cells #[.int .i64 op, .int .i64 a, .int .i64 b, .int .i64 d, .int .i64 imm] 36)) from below_alloc (Below.refl _ _) _)
 have R5 := Aside0.mk (show (w.alloc (.cells #[.int .i64 op, .int .i64 a, .int .i64 b, .int .i64 d, .int .i64 imm] 36)).heap[w.heap.size]? = some (.cells #[.int .i64 op, .int .i64 a, .int .i64 b, .int .i64 d, .int .i64 imm] 36 (0, 0)) from heap_at _ _ _ rfl)
 clear h
 go_enter Try.func41, Try.ntmps41
 go_upto_region 1 with (fail)
 generalize (w.alloc (.cells #[.int .i64 op, .int .i64 a, .int .i64 b, .int .i64 d, .int .i64 imm] 36)) = W0 at R5 B0 ⊢
 generalize hg3 : w.heap.size = g3 at R5 ⊢
 clear hg3
 have c0 := (blk_cell R5.out 0).trans rfl
 have c4 := (blk_cell R5.out 4).trans rfl
 go_upto_region 5 with (first | (go_at_call 32; refine (mortiseref01_Of.calls imm _ _ HOF.out).mono ?_; rintro e Y1 ⟨rfl, hd1⟩; have BY := Aside0.mk (dn0_below hd1); have c0 := (blk_cell (blk_below R5.out BY.out) 0).trans rfl; clear hd1) | (go_at_call 51; refine (mortiseref21_width.calls 20 op _ _ _ HW.out).mono ?_; rintro e Y2 ⟨rfl, hd2⟩; have BY2 := Aside0.mk (dn0_below hd2); clear hd2))
 have BB := Aside0.mk (pm_chain B0.out (pm_chain BY.out BY2.out))
 have R6 := Aside0.mk (blk_below (blk_below R5.out BY.out) BY2.out)
 have EW := Aside0.mk (H.out.below BB.out)
 clear c0 c4 BY BY2 R5 B0
 generalize Y2 = W1 at BB R6 EW ⊢
 have c0 := (blk_cell R6.out 0).trans rfl
 have c1 := (blk_cell R6.out 1).trans rfl
 have c2 := (blk_cell R6.out 2).trans rfl
 have c3 := (blk_cell R6.out 3).trans rfl
 have c4 := (blk_cell R6.out 4).trans rfl
 go_wp2_with (first | (go_at_call 55; refine (HC.out _ EW.out).mono ?_; rintro e Y ⟨rfl, hd⟩; have D := Aside0.mk hd; clear hd))
 go_end0
 obtain ⟨iv, ov, ps2, D2, M⟩ := D.out
 exact ⟨rfl, iv, ov, ps2, XDid.pre BB.out D2, M⟩
theorem xdo_calls (h : XM w c pg fx ps S inp out) (x : I5) (hx : Okay x) (hin : ∀ v ∈ inp, 0 ≤ v ∧ v < 256) (hout : out.length + 1 ≤ 140737488355328) :
  Calls Try.prog 41 #[.pointer (some ⟨c, 0, none⟩), x.enc] w fun e w' => e = .returned (.tuple #[]) ∧ Xdone (endM (doM (byteAt ps) S x inp out)) w w' c pg fx ps S := by
 rcases hx.op with e | e | e | e
 ·exact xdo_rrr h x e hx.a hx.b hx.c hx.imm
 ·exact xdo_rri h x e hx.a hx.b hx.c hx.imm
 ·rcases e with e | e
  ·by_cases m : mayF S.code (addrF S x) (accN x.op) false = 0
   ·exact xdo_ld_yes h x e hx.a hx.b hx.c m hx.imm
   ·exact xdo_ld_no h x e hx.a hx.b hx.c m hx.imm
  ·by_cases m : mayF S.code (addrF S x) (accN x.op) true = 0
   ·exact xdo_st_yes h x e hx.a hx.b hx.c m hx.imm
   ·exact xdo_st_no h x e hx.a hx.b hx.c m hx.imm
 ·exact xdo_oth h x e hx.a hx.b hx.c hx.imm hin hout
set_option maxHeartbeats 4000000 in
set_option maxRecDepth 100000 in
theorem xstep_ended (h : XM w c pg fx ps S inp out) (he : S.ended ≠ 0) : Calls Try.prog 28 #[.pointer (some ⟨c, 0, none⟩)] w fun e w' => e = .returned (.int .i64 S.ended) ∧ w' = w := by
 have k24 := h.kend
 clear h
 generalize S.ended = q at *
 go_enter Try.func28, Try.ntmps28
 go_wp2_with (fail)
 go_ret
 exact ⟨rfl, rfl⟩
set_option maxHeartbeats 4000000 in
set_option maxRecDepth 100000 in
theorem xstep_none (h : XM w c pg fx ps S inp out) (he : S.ended = 0) (hst : 0 ≤ S.steps ∧ S.steps < 4611686018427387904) (hf : fetchM (byteAt ps) S.code S.pc = none) :
  Calls Try.prog 28 #[.pointer (some ⟨c, 0, none⟩)] w fun e w' => e = .returned (.int .i64 6) ∧ XDid w w' c pg fx ps S ps { S with steps := S.steps + 1, ended := 6, exit := 3 } inp out := by
 have k24 := h.kend
 have k22 := h.kst
 have f22 := h.fz 22
 rw [he] at k24
 have hw1 : IntKind.i64.wrap (S.steps + 1) = S.steps + 1 := IntWalk.i64_in _ (by omega)
 have D1 := Aside0.mk (h.set_steps (S.steps + 1))
 have HF := Aside0.mk (show ∀ W, XM W c pg fx ps { S with steps := S.steps + 1 } inp out → Calls Try.prog 40 #[.pointer (some ⟨c, 0, none⟩)] W fun e w' => e = .returned (insV none) ∧ XDid W w' c pg fx ps { S with steps := S.steps + 1 } ps { S with steps := S.steps + 1, ended := 6, exit := 3 } inp out from fun W hW => by
  unfold fetchM at hf
  split at hf
  ·next hz => exact xfetch_trap hW hz
  ·next hz => exact xfetch_b hW hz hf)
 obtain ⟨st, hst2⟩ : ∃ st, S.steps = st := ⟨_, rfl⟩
 rw [hst2] at k22 hw1 D1 HF ⊢
 clear h he hst hf hst2
 go_enter Try.func28, Try.ntmps28
 go_upto_region 4 with (fail)
 generalize w.setCell ⟨c, 22, none⟩ (.int .i64 (st + 1)) = W1 at D1 ⊢
 clear k24 k22 f22 hw1
 go_upto_region 5 with (first | (go_at_call 40; refine (HF.out _ D1.out.em).mono ?_; rintro e Z1 ⟨rfl, hd⟩; have D2 := Aside0.mk (D1.out.trans hd); clear hd; unfold insV) | (refine wpList_store_row rfl 36 _ _ rfl Z1.heap.size _ rfl rfl 36 _ (heap_alloc_last Z1 _) (by as_aux_lemma => kernel_rfl) (by as_aux_lemma => kernel_rfl) (by as_aux_lemma => kernel_rfl) ?_; rw [World.setRow_alloc_new]))
 have D3 := Aside0.mk (D2.out.then_below (below_alloc (Below.refl _ _) (.cells #[.int .i64 0, .int .i64 0, .int .i64 0, .int .i64 0, .int .i64 0] 36)))
 generalize Z1.alloc (.cells #[.int .i64 0, .int .i64 0, .int .i64 0, .int .i64 0, .int .i64 0] 36) = Z2 at D3 ⊢
 have k24 := D3.out.em.kend
 go_wp2_with (fail)
 go_ret
 exact ⟨rfl, D3.out⟩
set_option maxHeartbeats 4000000 in
set_option maxRecDepth 100000 in
theorem xstep_some (h : XM w c pg fx ps S inp out) (he : S.ended = 0) (hst : 0 ≤ S.steps ∧ S.steps < 4611686018427387904) (hin : ∀ v ∈ inp, 0 ≤ v ∧ v < 256) (hout : out.length + 1 ≤ 140737488355328) {x : I5} (hf : fetchM (byteAt ps) S.code S.pc = some x) :
  Calls Try.prog 28 #[.pointer (some ⟨c, 0, none⟩)] w fun e w' => e = .returned (.int .i64 (endM (doM (byteAt ps) { S with steps := S.steps + 1, pc := (S.pc + 4) % 4294967296 } x inp out)).S.ended) ∧ Xdone (endM (doM (byteAt ps) { S with steps := S.steps + 1, pc := (S.pc + 4) % 4294967296 } x inp out)) w w' c pg fx ps S := by
 have k24 := h.kend
 have k22 := h.kst
 have f22 := h.fz 22
 rw [he] at k24
 have hw1 : IntKind.i64.wrap (S.steps + 1) = S.steps + 1 := IntWalk.i64_in _ (by omega)
 have D1 := Aside0.mk (h.set_steps (S.steps + 1))
 have hdec : ¬ (S.pc % 4 ≠ 0 ∨ S.pc < 4096 ∨ S.pc > 4096 + S.code - 4) ∧ decF (wordF ps S.pc.toNat 4 false) = some x := by
  unfold fetchM at hf
  split at hf
  ·cases hf
  ·next hz => exact ⟨hz, hf⟩
 have HF := Aside0.mk (show ∀ W, XM W c pg fx ps { S with steps := S.steps + 1 } inp out → Calls Try.prog 40 #[.pointer (some ⟨c, 0, none⟩)] W fun e w' => e = .returned (insV (some x)) ∧ XDid W w' c pg fx ps { S with steps := S.steps + 1 } ps { S with steps := S.steps + 1 } inp out from fun W hW => xfetch_b hW hdec.1 hdec.2)
 have hok : Okay x := (dec_op (by have := wordF_range ps S.pc.toNat 4 false; exact this) hdec.2).2
 have HD := Aside0.mk (fun (W : World) (hW : XM W c pg fx ps { S with steps := S.steps + 1, pc := (S.pc + 4) % 4294967296 } inp out) => xdo_calls hW x hok hin hout)
 obtain ⟨r, hr⟩ : ∃ r, endM (doM (byteAt ps) { S with steps := S.steps + 1, pc := (S.pc + 4) % 4294967296 } x inp out) = r := ⟨_, rfl⟩
 rw [hr] at HD ⊢
 obtain ⟨st, hst2⟩ : ∃ st, S.steps = st := ⟨_, rfl⟩
 rw [hst2] at k22 hw1 D1 HF HD
 have H := Aside0.mk h
 clear h he hst hf hst2 hdec hok hr hin hout
 obtain ⟨op, a, b, d, imm⟩ := x
 unfold I5.enc at HD
 simp only at HD
 go_enter Try.func28, Try.ntmps28
 go_upto_region 4 with (fail)
 generalize w.setCell ⟨c, 22, none⟩ (.int .i64 (st + 1)) = W1 at D1 ⊢
 clear k24 k22 f22 hw1
 go_upto_region 5 with (first | (go_at_call 40; refine (HF.out _ D1.out.em).mono ?_; rintro e Z1 ⟨rfl, hd⟩; have D2 := Aside0.mk (D1.out.trans hd); clear hd; unfold insV I5.enc) | (refine wpList_store_row rfl 36 _ _ rfl Z1.heap.size _ rfl rfl 36 _ (heap_alloc_last Z1 _) (by as_aux_lemma => kernel_rfl) (by as_aux_lemma => kernel_rfl) (by as_aux_lemma => kernel_rfl) ?_; rw [World.setRow_alloc_new]))
 have D3 := Aside0.mk (D2.out.then_below (below_alloc (Below.refl _ _) (.cells #[.int .i64 op, .int .i64 a, .int .i64 b, .int .i64 d, .int .i64 imm] 36)))
 have R3 := Aside0.mk (show (Z1.alloc (.cells #[.int .i64 op, .int .i64 a, .int .i64 b, .int .i64 d, .int .i64 imm] 36)).heap[Z1.heap.size]? = some (.cells #[.int .i64 op, .int .i64 a, .int .i64 b, .int .i64 d, .int .i64 imm] 36 (0, 0)) from heap_at _ _ _ rfl)
 have NG := Aside0.mk (show Z1.heap.size ∉ foot c pg ps S from fun hh => absurd (D2.out.em.foot_lt _ (show Z1.heap.size ∈ foot c pg ps { S with steps := st + 1 } from hh)) (by omega))
 generalize Z1.alloc (.cells #[.int .i64 op, .int .i64 a, .int .i64 b, .int .i64 d, .int .i64 imm] 36) = Z2 at D3 R3 ⊢
 generalize hg3 : Z1.heap.size = g3 at R3 NG ⊢
 clear hg3
 have f5 := D3.out.em.fz 5
 have D4 := Aside0.mk (D3.out.trans (D3.out.em.set_pc ((S.pc + 4) % 4294967296) (by omega) (by omega)))
 have R4 := Aside0.mk (blk_far R3.out (p := ⟨c, 5, none⟩) (show g3 ≠ c from fun e => NG.out (by rw [e]; simp [foot])) (.int .u32 ((S.pc + 4) % 4294967296)))
 obtain ⟨pc, hpc⟩ : ∃ pc, S.pc = pc := ⟨_, rfl⟩
 rw [hpc] at D4 R4 HD
 have HPC := Aside0.mk hpc
 have k5 : Z2.cell? ⟨c, 5, none⟩ = some (.int .u32 pc) := D3.out.em.kpc.trans (by rw [← hpc])
 clear hpc
 go_upto_region 7 with (fail)
 generalize Z2.setCell ⟨c, 5, none⟩ (.int .u32 ((pc + 4) % 4294967296)) = Z3 at D4 R4 ⊢
 clear k5 f5
 have d0 := (blk_cell R4.out 0).trans rfl
 have d1 := (blk_cell R4.out 1).trans rfl
 have d2 := (blk_cell R4.out 2).trans rfl
 have d3 := (blk_cell R4.out 3).trans rfl
 have d4 := (blk_cell R4.out 4).trans rfl
 go_wp2_with (first | (go_at_call 41; refine (HD.out _ D4.out.em).mono ?_; rintro e Y ⟨rfl, hd⟩; obtain ⟨iv, ov, ps2, hd2, hm2⟩ := hd; have k24 := hd2.em.kend; have D5 := Aside0.mk (D4.out.trans hd2); have M5 := Aside0.mk hm2; clear hd2 hm2))
 go_ret
 exact ⟨rfl, iv, ov, ps2, D5.out, M5.out⟩
theorem xstep_calls (h : XM w c pg fx ps S inp out) (hst : 0 ≤ S.steps ∧ S.steps < 4611686018427387904) (hin : ∀ v ∈ inp, 0 ≤ v ∧ v < 256) (hout : out.length + 1 ≤ 140737488355328) :
  Calls Try.prog 28 #[.pointer (some ⟨c, 0, none⟩)] w fun e w' => e = .returned (.int .i64 (stepM (byteAt ps) S inp out).S.ended) ∧ Xdone (stepM (byteAt ps) S inp out) w w' c pg fx ps S := by
 unfold stepM
 by_cases he : S.ended = 0
 ·rw [if_neg (by simpa using he)]
  cases hf : fetchM (byteAt ps) S.code S.pc with
  | none =>
   refine (xstep_none h he hst hf).mono ?_
   rintro e w' ⟨rfl, D⟩
   exact ⟨rfl, xdone_of D fun _ => rfl⟩
  | some x => exact xstep_some h he hst hin hout hf
 ·rw [if_pos he]
  refine (xstep_ended h he).mono ?_
  rintro e w' ⟨rfl, rfl⟩
  exact ⟨rfl, xdone_of (XDid.same h (Below.refl _ _)) fun _ => rfl⟩
end Go.Proofs.Ytejhnlljddjicaa.Ma
namespace Go.Proofs.Ytejhnlljddjicaa.Ma
open Go.RowKit Go.Proofs.Ytejhnlljddjicaa.PLk Go.Proofs.YtejhnlljddjicaaW.PrintWords Go.Proofs.YtejhnlljddjicaaW.PrintLast Go.Proofs.YtejhnlljddjicaaW.PrintMore Go.Proofs.Ytejhnlljddjicaa.La
set_option linter.unusedVariables false
set_option linter.unusedSimpArgs false
variable {fx : Value × Int} {w w' : World} {c pg : Nat} {ps ps' : Pages} {S S' : Cpu} {inp out inp' out' : List Int}
theorem st4 {W : World} {g c i : Nat} {a b d e : Value} {v : Option Value} (h : W.cell? ⟨c, i, none⟩ = v) (hg : ¬ g = c) : ((((W.setCell ⟨g, 0, none⟩ a).setCell ⟨g, 1, none⟩ b).setCell ⟨g, 2, none⟩ d).setCell ⟨g, 3, none⟩ e).cell? ⟨c, i, none⟩ = v := by
 rw [World.cell?_setCell_far _ _ _ _ hg, World.cell?_setCell_far _ _ _ _ hg, World.cell?_setCell_far _ _ _ _ hg, World.cell?_setCell_far _ _ _ _ hg]
 exact h
set_option maxHeartbeats 4000000 in
set_option maxRecDepth 100000 in
theorem xoutcome_calls (h : XM w c pg fx ps S inp out) (hout : out.length ≤ 140737488355328) : Calls Try.prog 29 #[.pointer (some ⟨c, 0, none⟩)] w fun e w' => ∃ v, e = .returned (.agg #[.int .i64 S.ended, .int .i64 S.exit, v, .int .i64 S.steps]) ∧ Kd.R (Kd.int .u8) 5 w' w.heap.size (fun _ => True) v out ∧ Below w.heap.size w w' := by
 obtain ⟨base, hR⟩ := h.outS
 obtain ⟨A, k, eO, _, hC⟩ := Kd.R_reads hR
 have HC := Aside0.mk hC
 have HN := Aside0.mk hout
 have H := Aside0.mk h
 have B0 := Aside0.mk (show Below w.heap.size w (w.alloc (.cells #[.int .i64 0, .int .i64 0, .slice none 0 0, .int .i64 0] 69)) from below_alloc (Below.refl _ _) _)
 have HB := Aside0.mk (h.below B0.out)
 have R2 := Aside0.mk (show (w.alloc (.cells #[.int .i64 0, .int .i64 0, .slice none 0 0, .int .i64 0] 69)).heap[w.heap.size]? = some (.cells #[.int .i64 0, .int .i64 0, .slice none 0 0, .int .i64 0] 69 (0, 0)) from heap_at _ _ _ rfl)
 clear h hR hC hout
 go_enter Try.func29, Try.ntmps29
 go_upto_region 1 with (fail)
 generalize w.alloc (.cells #[.int .i64 0, .int .i64 0, .slice none 0 0, .int .i64 0] 69) = W0 at HB R2 B0 ⊢
 generalize hg2 : w.heap.size = g2 at R2 ⊢
 have k24 := HB.out.kend
 have k25 := HB.out.kex
 have k23 := HB.out.kout.trans (congrArg some eO)
 have k22 := HB.out.kst
 have NC := Aside0.mk (show ¬ g2 = c from fun e => by have := H.out.foot_lt c (by simp [foot]); omega)
 have HCW := Aside0.mk (Kd.C_below HC.out B0.out)
 obtain ⟨en, hen⟩ : ∃ v, S.ended = v := ⟨_, rfl⟩
 obtain ⟨ex, hex⟩ : ∃ v, S.exit = v := ⟨_, rfl⟩
 obtain ⟨st, hst⟩ : ∃ v, S.steps = v := ⟨_, rfl⟩
 rw [hen] at k24
 rw [hex] at k25
 rw [hst] at k22
 have HE := Aside0.mk hen
 have HX := Aside0.mk hex
 have HS := Aside0.mk hst
 clear hen hex hst
 go_cut [] (fun wc => ∃ A2 k2, Aside0 (wc.heap[g2]? = some (.cells #[.int .i64 en, .int .i64 ex, .slice A2 out.length k2, .int .i64 st] 69 (0, 0))) ∧ Aside0 (Kd.R (Kd.int .u8) 5 wc W0.heap.size (fun _ => True) (.slice A2 out.length k2) out) ∧ Aside0 (Below w.heap.size w wc))
 case first =>
  go_region_held3 (fun w' => w'.cell? ⟨c, 24, none⟩ = some (.int .i64 en) ∧ w'.cell? ⟨c, 25, none⟩ = some (.int .i64 ex) ∧ w'.cell? ⟨c, 23, none⟩ = some (.slice A out.length k) ∧ w'.cell? ⟨c, 22, none⟩ = some (.int .i64 st)) (first | (refine ⟨pw_cell_below ?_ k24, pw_cell_below ?_ k25, pw_cell_below ?_ k23, pw_cell_below ?_ k22⟩ <;> first | with_reducible exact hB1 | ((repeat (first | (with_reducible exact Below.refl _ _) | (with_reducible assumption) | with_reducible apply below_alloc | with_reducible apply pw_below_drewN | with_reducible apply below_drew1)); done)) | with_reducible exact ⟨st4 (pw_cell_below hB1 k24) NC.out, st4 (pw_cell_below hB1 k25) NC.out, st4 (pw_cell_below hB1 k23) NC.out, st4 (pw_cell_below hB1 k22) NC.out⟩ | fail) (first | (refine app_step (w0 := W0) (by rfl) (.tmp 11) (.tmp 15) (by rfl) [] out out (List.nil_append _) A out.length k (R_empty W0.drew (Nat.le_refl _)) HCW.out (by (repeat (first | (with_reducible exact Below.refl _ _) | (with_reducible assumption) | with_reducible apply below_alloc | with_reducible apply pw_below_drewN | with_reducible apply below_drew1))) (by have := HN.out; simp; omega) (by rfl) (by rfl) ?_; intro A1 k1 w1 hR1 hB1 hkp; have RX := blk_below R2.out hB1; have z0 := (blk_cell RX 0).trans rfl; have z1 := (blk_cell RX 1).trans rfl; have z2 := (blk_cell RX 2).trans rfl; have z3 := (blk_cell RX 3).trans rfl; have f0 := blk_frozen RX 0; have f1 := blk_frozen RX 1; have f2 := blk_frozen RX 2; have f3 := blk_frozen RX 3; clear hkp) | fail)
  all_goals go_wp2_with (fail)
  all_goals go_meet
  all_goals (
   have hlt := lt_of_at R2.out
   exact ⟨A1, k1, ⟨blk_set (blk_set (blk_set (blk_set RX 0 _) 1 _) 2 _) 3 _⟩, ⟨R_setcell (R_setcell (R_setcell (R_setcell hR1 hlt 0 _) hlt 1 _) hlt 2 _) hlt 3 _⟩, ⟨(((Below.setCell (pm_chain B0.out hB1) (p := ⟨g2, 0, none⟩) (Nat.le_of_eq hg2) _).setCell (p := ⟨g2, 1, none⟩) (Nat.le_of_eq hg2) _).setCell (p := ⟨g2, 2, none⟩) (Nat.le_of_eq hg2) _).setCell (p := ⟨g2, 3, none⟩) (Nat.le_of_eq hg2) _⟩⟩)
 case rest =>
  obtain ⟨A2, k2, RY, HR, BY⟩ := hcut
  clear k24 k25 k23 k22
  go_wp2_with (fail)
  (try simp only [Exit.inBlock, Exit.then])
  refine bodyPost_ret (results_cell1 (p := 2) (ty := 69) rfl _ _ _ _ ⟨g2, 0, none⟩ _ (by rfl) (run_loadVar_row _ g2 69 69 _ (0, 0) _ RY.out Try.underlying69 (by rfl) (by kernel_rfl))) rfl ?_
  rw [HE.out, HX.out, HS.out]
  exact ⟨_, rfl, Kd.R_lower HR.out B0.out.size, BY.out⟩
end Go.Proofs.Ytejhnlljddjicaa.Ma
namespace Go.Proofs.Ytejhnlljddjicaa.Ma
open Go.RowKit Go.Proofs.Ytejhnlljddjicaa.PLk Go.Proofs.YtejhnlljddjicaaW.PrintWords Go.Proofs.YtejhnlljddjicaaW.PrintLast Go.Proofs.YtejhnlljddjicaaW.PrintMore Go.Proofs.Ytejhnlljddjicaa.La
set_option linter.unusedVariables false
set_option linter.unusedSimpArgs false
variable {fx : Value × Int} {w w' : World} {c pg : Nat} {ps ps' : Pages} {S S' : Cpu} {inp out inp' out' : List Int}
theorem xcheck_ok {bs : List Int} {code entry : Int} (h : okImg bs.length code entry) : mortiseref21_Check.f bs code entry = some 0 := by
 obtain ⟨h1, h2, h3, h4, h5, h6, h7⟩ := h
 unfold mortiseref21_Check.f
 rw [if_neg (by omega), if_pos ((tmod4 _).2 h2), if_neg (by omega), if_neg (by omega), if_neg (by omega), if_neg (by unfold wrap64; omega), if_pos ((tmod4 _).2 h5)]
theorem XM.fresh {code : Int} {A : Option Addr} {k : Nat} (hc : w.heap[c]? = some (.cells (xRow pg fx (cpu0 code (.slice A inp.length k))).toArray 98 (0, 0))) (hp : w.heap[pg]? = some (.cells (noPages.map pgVal).toArray 23 (0, 0))) (hne : c ≠ pg) (h4 : 4 ≤ code ∧ code ≤ 1048576)
  (hk : inp.length ≤ k) (hC : Kd.C (Kd.int .u8) w A inp.length inp) (hA : ∀ ad, A = some ad → 0 < inp.length → ad.block ≠ c ∧ ad.block ≠ pg ∧ ad.block < w.heap.size) : XM w c pg fx noPages (cpu0 code (.slice A inp.length k)) inp [] := by
 have hb : blocks noPages = [] := blocks_none 2048
 have hf : foot c pg noPages (cpu0 code (.slice A inp.length k)) = [c, pg] := by unfold foot; rw [hb]; simp [cpu0, Value.ownBlock]
 refine ⟨hc, by simp [cpu0], ?_, by simp [cpu0], h4, hp, List.length_replicate, ?_, ?_, ⟨A, k, rfl, hk, hC, ?_⟩, ⟨0, Kd.R_nil _ _ _ _ _⟩⟩
 ·intro v hv
  simp only [cpu0] at hv
  rw [List.eq_of_mem_replicate hv]; omega
 ·intro g bs hm
  unfold noPages at hm
  have := List.eq_of_mem_replicate hm
  cases this
 ·rw [hf]; simp [hne]
 ·intro ad ha h0
  rw [hf]
  obtain ⟨a1, a2, a3⟩ := hA ad ha h0
  exact ⟨by simp [a1, a2], a3⟩
/-- A page that was made beside the machine is put into it. -/
theorem XM.addpage (h : XM w c pg fx ps S inp out) (k : Nat) (hk : ps[k]? = some none) {g : Nat} {bs : List Int} (hg : w.heap[g]? = some (.cells (byteRow bs) 5 (0, 0))) (hl : bs.length = 4096) (hb : ∀ b ∈ bs, 0 ≤ b ∧ b < 256) (hgf : g ∉ foot c pg ps S) (hgi : ∀ A n cp ad, S.inV = .slice A n cp → A = some ad → 0 < inp.length → ad.block ≠ g) :
  XM (w.setCell ⟨pg, k, none⟩ (.slice (some ⟨g, 0, none⟩) 4096 4096)) c pg fx (ps.set k (some (g, bs))) S inp out ∧ (∀ i ∈ foot c pg (ps.set k (some (g, bs))) S, i = g ∨ i ∈ foot c pg ps S) := by
 have hnd := h.nodup
 have xE : Ext (fun i => i = pg) w (w.setCell ⟨pg, k, none⟩ (.slice (some ⟨g, 0, none⟩) 4096 4096)) := Ext.setCell (F := fun i => i = pg) (p := ⟨pg, k, none⟩) (Ext.refl _ _) (Or.inl rfl) _
 have hnp : ∀ i ∈ c :: (blocks ps ++ S.outV.ownBlock.toList), ¬ i = pg := by
  intro i hi e
  subst e
  unfold foot at hnd
  rw [List.nodup_cons] at hnd
  rcases List.mem_cons.1 hi with e | e
  ·exact hnd.1 (e ▸ List.mem_cons_self)
  ·exact (List.nodup_cons.1 hnd.2).1 e
 have hgp : ¬ g = pg := fun e => hgf (by rw [e]; simp [foot])
 have hperm : (foot c pg (ps.set k (some (g, bs))) S).Perm (g :: foot c pg ps S) := by
  unfold foot
  have h1 := (blocks_set ps k g bs hk).append_right S.outV.ownBlock.toList
  exact ((h1.cons pg).cons c).trans ((List.Perm.cons c (List.Perm.swap _ _ _)).trans (List.Perm.swap _ _ _))
 refine ⟨⟨xE.at h.head (hnp c (by simp)), h.nreg, h.regIn, h.pcIn, h.codeIn, ?_, by simp [h.npg], ?_, ?_, ?_, ?_⟩, fun i hi => ?_⟩
 ·refine blk_put h.pages k _ ?_
  apply Array.ext'
  simp [List.map_set, pgVal]
 ·intro g' bs' hm
  rcases List.mem_or_eq_of_mem_set hm with hm | hm
  ·obtain ⟨h1, h2⟩ := h.page g' bs' hm
   refine ⟨xE.at h1 (hnp g' ?_), h2⟩
   simp only [List.mem_cons, List.mem_append, blocks, List.mem_filterMap]
   exact .inr (.inl ⟨_, hm, rfl⟩)
  ·simp only [Option.some.injEq, Prod.mk.injEq] at hm
   obtain ⟨rfl, rfl⟩ := hm
   exact ⟨xE.at hg hgp, hl, hb⟩
 ·refine hperm.nodup_iff.2 (List.nodup_cons.2 ⟨hgf, hnd⟩)
 ·obtain ⟨A, cap, e1, hl, hC, hA⟩ := h.inS
  refine ⟨A, cap, e1, hl, ?_, fun ad ha h0 => ⟨fun hi => ?_, Nat.lt_of_lt_of_le (hA ad ha h0).2 xE.size⟩⟩
  ·refine ⟨hC.1, hC.2.1, fun h0 => ?_⟩
   obtain ⟨ad, ha, hx⟩ := hC.2.2 h0
   refine ⟨ad, ha, fun j p hj => ?_⟩
   obtain ⟨cs, h1, h2, h3⟩ := hx j p hj
   refine ⟨cs, h1, h2, fun q v hq => ?_⟩
   have hb := xE.block ad.block (hA ad ha h0).2 (fun e2 => (hA ad ha h0).1 (by rw [e2]; simp [foot]))
   have := h3 q v hq
   have hbl : (ad.add (j * (Kd.int .u8).sz + q)).block = ad.block := by unfold Addr.add; split <;> rfl
   unfold World.cell? at this ⊢
   rw [hbl] at this ⊢
   rw [hb]; exact this
  ·rcases List.mem_cons.1 (hperm.mem_iff.1 hi) with e | e
   ·exact hgi A _ _ ad e1 ha h0 e
   ·exact (hA ad ha h0).1 e
 ·obtain ⟨base, hR⟩ := h.outS
  refine ⟨base, Kd.R_mono (Kd.R_step (Kd.R_tight rfl hR) (fun j hj hlt => xE.block j hlt (hnp j ?_))) (fun _ _ => trivial)⟩
  simp only [List.mem_cons, List.mem_append]
  exact .inr (.inr (by simp [← hj]))
 ·exact List.mem_cons.1 (hperm.mem_iff.1 hi)
/-- A page of the image: its bytes, noughts behind them. -/
def pgRow (xs : List Int) : List Int := xs ++ List.replicate (4096 - xs.length) 0
theorem pgRow_len (xs : List Int) (h : xs.length ≤ 4096) : (pgRow xs).length = 4096 := by unfold pgRow; simp; omega
theorem pgRow_get (xs : List Int) (i : Nat) (hi : i < 4096) : ((pgRow xs)[i]?).getD 0 = (xs[i]?).getD 0 := by
 unfold pgRow
 rw [List.getElem?_append]
 split
 ·rfl
 ·next h =>
  rw [List.getElem?_replicate]
  rw [List.getElem?_eq_none (by omega)]
  split <;> rfl
theorem pgRow_snoc (xs : List Int) (v : Int) (h : xs.length < 4096) : pgRow (xs ++ [v]) = (pgRow xs).set xs.length v := by
 unfold pgRow
 rw [List.set_append_right _ _ (Nat.le_refl _), Nat.sub_self]
 obtain ⟨m, hm⟩ : ∃ m, 4096 - xs.length = m + 1 := ⟨4096 - xs.length - 1, by omega⟩
 rw [hm, List.length_append, show 4096 - (xs.length + [v].length) = m by simp; omega, List.replicate_succ, List.set_cons_zero]
 simp
theorem pgRow_in (xs : List Int) (h : ∀ b ∈ xs, 0 ≤ b ∧ b < 256) : ∀ b ∈ pgRow xs, 0 ≤ b ∧ b < 256 := by
 intro b hb
 unfold pgRow at hb
 rcases List.mem_append.1 hb with e | e
 ·exact h b e
 ·rw [List.eq_of_mem_replicate e]; omega
theorem byte_page {ps : Pages} {k g : Nat} {xs : List Int} (hk : k < ps.length) (a : Nat) : byteAt (ps.set k (some (g, pgRow xs))) a = if a / 4096 = k then (xs[a % 4096]?).getD 0 else byteAt ps a := by
 unfold byteAt
 by_cases e : a / 4096 = k
 ·rw [if_pos e, e, List.getElem?_set_self hk]
  exact pgRow_get xs _ (Nat.mod_lt _ (by decide))
 ·rw [if_neg e, List.getElem?_set_ne (fun h => e h.symm)]
theorem laid_page {bs : List Int} {q L g : Nat} {ps : Pages} (hk : q + 1 < ps.length) (hL : min 4096 (bs.length - 4096 * q) = L) (h : ∀ a, byteAt ps a = laidF (fun _ => 0) 4096 (bs.take (4096 * q)) a) (a : Nat) :
  byteAt (ps.set (q + 1) (some (g, pgRow ((bs.drop (4096 * q)).take L)))) a = laidF (fun _ => 0) 4096 (bs.take (4096 * (q + 1))) a := by
 rw [byte_page hk]
 by_cases e : a / 4096 = q + 1
 ·rw [if_pos e, List.getElem?_take, List.getElem?_drop]
  unfold laidF
  have e2 : a - 4096 = 4096 * q + a % 4096 := by omega
  rw [List.length_take, List.getElem?_take, e2]
  by_cases h1 : 4096 * q + a % 4096 < bs.length
  ·rw [if_pos (by omega), if_pos (by omega), if_pos (by omega)]
  ·rw [if_neg (by omega), if_neg (by omega)]; rfl
 ·rw [if_neg e, h]
  unfold laidF
  rw [List.length_take, List.length_take, List.getElem?_take, List.getElem?_take]
  by_cases h1 : 4096 ≤ a ∧ a < 4096 + min (4096 * q) bs.length
  ·rw [if_pos h1, if_pos (by omega), if_pos (by omega), if_pos (by omega)]
  ·rw [if_neg h1, if_neg (by omega)]
theorem take_snoc {xs : List Int} {j : Nat} {v : Int} (h : xs[j]? = some v) : xs.take (j + 1) = xs.take j ++ [v] := by
 rw [List.take_add_one, h]; rfl
/-- What New makes of an image that may be run. -/
def XMade (w : World) (bs : List Int) (code entry : Int) (inp : List Int) (e : Ending) (w' : World) : Prop :=
 ∃ c pg fx ps S, e = .returned (.tuple #[.pointer (some ⟨c, 0, none⟩), .int .i64 0]) ∧ XM w' c pg fx ps S inp [] ∧ Below w.heap.size w w' ∧ (∀ i ∈ foot c pg ps S, w.heap.size ≤ i) ∧ (∃ iv, S = ⟨code, entry, List.replicate 15 0 ++ [8388608], 0, iv, .slice none 0 0, 0, 0⟩) ∧ ∀ i, byteAt ps i = laidF (fun _ => 0) 4096 bs i
set_option maxHeartbeats 4000000 in
set_option maxRecDepth 100000 in
theorem xnew_yes (w : World) (A : Option Addr) (k : Nat) (bs : List Int) (code entry : Int) (Ai : Option Addr) (ki : Nat) (inp : List Int) (hC : Kd.C (Kd.int .u8) w A bs.length bs) (hk : bs.length ≤ k) (ho : okImg bs.length code entry)
  (hx : ∀ b ∈ bs, 0 ≤ b ∧ b < 256) (hCi : Kd.C (Kd.int .u8) w Ai inp.length inp) (hki : inp.length ≤ ki) :
  Calls Try.prog 27 #[.agg #[.slice A bs.length k, .int .i64 code, .int .i64 entry], .slice Ai inp.length ki] w fun e w' => XMade w bs code entry inp e w' := by
 have HO := Aside0.mk (xcheck_ok ho)
 have OK := Aside0.mk ho
 have HX := Aside0.mk hx
 have HCI := Aside0.mk hCi
 have HKI := Aside0.mk hki
 clear ho hx hCi hki
 have B0 := Aside0.mk (show Below w.heap.size w (w.alloc (.cells #[.slice A bs.length k, .int .i64 code, .int .i64 entry] 25)) from below_alloc (Below.refl _ _) _)
 have R0 := Aside0.mk (show (w.alloc (.cells #[.slice A bs.length k, .int .i64 code, .int .i64 entry] 25)).heap[w.heap.size]? = some (.cells #[.slice A bs.length k, .int .i64 code, .int .i64 entry] 25 (0, 0)) from heap_at _ _ _ rfl)
 have HC := Aside0.mk hC
 have HK := Aside0.mk hk
 clear hC hk
 go_enter Try.func27, Try.ntmps27
 go_upto_region 1 with (fail)
 generalize w.alloc (.cells #[.slice A bs.length k, .int .i64 code, .int .i64 entry] 25) = W0 at B0 R0 ⊢
 generalize hg2 : w.heap.size = g2 at R0 ⊢
 have c0 := (blk_cell R0.out 0).trans rfl
 have c1 := (blk_cell R0.out 1).trans rfl
 have c2 := (blk_cell R0.out 2).trans rfl
 go_upto_region 3 with (first | (go_at_call 6; refine (mortiseref21_Check.calls A k bs code entry 0 _ (Kd.C_below HC.out B0.out) HK.out HO.out).mono ?_; rintro e Y ⟨rfl, hb⟩; have BB := Aside0.mk (pm_chain B0.out hb); have RR := Aside0.mk (blk_below R0.out hb); clear hb R0 B0 c0 c1 c2))
 have hmk := run_make53
 have c0 := (blk_cell RR.out 0).trans rfl
 have c1 := (blk_cell RR.out 1).trans rfl
 have c2 := (blk_cell RR.out 2).trans rfl
 have BA := Aside0.mk (show Below Y.heap.size Y (Y.alloc (.cells (noPages.map pgVal).toArray 23)).drew from (below_alloc (Below.refl _ _) _).drew)
 have a0 := pw_cell_below BA.out c0
 have a1 := pw_cell_below BA.out c1
 have a2 := pw_cell_below BA.out c2
 generalize hnp : (noPages.map pgVal).toArray = NPG at hmk BA a0 a1 a2 ⊢
 have HNP := Aside0.mk hnp
 clear hnp
 have XF := Aside0.mk (show XM ((Y.alloc (.cells NPG 23)).alloc (.cells (xRow Y.heap.size (.slice A bs.length k, entry) (cpu0 code (.slice Ai inp.length ki))).toArray 98)) (Y.heap.size + 1) Y.heap.size (.slice A bs.length k, entry) noPages (cpu0 code (.slice Ai inp.length ki)) inp [] by
  refine XM.fresh (heap_at _ _ _ (by simp)) (blk_alloc (by rw [HNP.out]; exact heap_at _ _ _ rfl) _) (by omega) (by have := OK.out; unfold okImg at this; omega) HKI.out (Kd.C_below HCI.out (pm_chain BB.out (below_alloc (below_alloc (Below.refl _ _) _) _))) (fun ad ha h0 => ?_)
  have h1 := C_lt HCI.out h0 ha
  have h2 := BB.out.size
  refine ⟨by omega, by omega, ?_⟩
  first | (simp; done) | (simp; omega))
 go_cut [6] (fun v6 wc => ∃ (c pg : Nat), v6 = .pointer (some ⟨c, 0, none⟩) ∧ Aside0 (XM wc c pg (.slice A bs.length k, entry) noPages (cpu0 code (.slice Ai inp.length ki)) inp []) ∧ Aside0 (Below Y.heap.size Y wc) ∧ Aside0 (Y.heap.size ≤ c ∧ Y.heap.size ≤ pg))
 case first =>
  go_region_law (fail)
  all_goals go_wp2_with (fail)
  all_goals go_meet
  all_goals exact ⟨Y.heap.size + 1, Y.heap.size, rfl, ⟨(XF.out).below (Below.refl _ _).drew⟩, ⟨(below_alloc (below_alloc (Below.refl _ _) _) _).drew⟩, ⟨by omega, Nat.le_refl _⟩⟩
 case rest =>
  obtain ⟨c, pg, rfl, HE, HB, HCP⟩ := hcut
  clear a0 a1 a2 c0 c1 c2 hmk
  have HW := Aside0.mk (pm_chain BB.out HB.out)
  have LN := Aside0.mk (show 0 < bs.length ∧ bs.length ≤ 1048576 ∧ 4096 ≤ entry ∧ entry ≤ 1052672 by have := OK.out; unfold okImg at this; omega)
  have R8 := Aside0.mk (blk_below RR.out HB.out)
  have G2 := Aside0.mk (show g2 < wc.heap.size ∧ g2 ≠ c ∧ g2 ≠ pg from by
   have h1 := lt_of_at RR.out
   have h2 := HCP.out
   have h3 := HB.out.size
   exact ⟨by omega, by omega, by omega⟩)
  have hfo : ∀ i ∈ foot c pg noPages (cpu0 code (.slice Ai inp.length ki)), i = c ∨ i = pg := by
   intro i hi
   unfold foot at hi
   rw [show blocks noPages = [] from blocks_none 2048] at hi
   simpa [cpu0, Value.ownBlock] using hi
  have HIB := Aside0.mk (show ∀ ad, Ai = some ad → 0 < inp.length → ad.block < w.heap.size from fun ad ha h0 => C_lt HCI.out h0 ha)
  obtain ⟨ad, rfl, hsrc⟩ := C_src HC.out (Nat.le_refl _) LN.out.1
  have HADL := Aside0.mk (C_lt HC.out LN.out.1 rfl)
  have HSRC := Aside0.mk hsrc
  clear hsrc
  obtain ⟨M, hM⟩ : ∃ M, (bs.length + 4095) / 4096 = M := ⟨_, rfl⟩
  have HM := Aside0.mk hM
  have HML := Aside0.mk (show M ≤ 257 by have := LN.out; omega)
  go_wp2_with (fail)
  go_loopg [7] M (fun kq v7 wr => ∃ (q : Nat) (ps : Pages), q + kq = M ∧ v7 = .int .i64 ((4096 * q : Nat) : Int) ∧ Aside0 (XM wr c pg (.slice (some ad) bs.length k, entry) ps (cpu0 code (.slice Ai inp.length ki)) inp []) ∧ Aside0 (Below Y.heap.size Y wr) ∧ Aside0 (∀ i ∈ foot c pg ps (cpu0 code (.slice Ai inp.length ki)), Y.heap.size ≤ i) ∧ Aside0 (∀ j, q + 1 ≤ j → j < 2048 → ps[j]? = some none) ∧ Aside0 (∀ a, byteAt ps a = laidF (fun _ => 0) 4096 (bs.take (4096 * q)) a))
  case atStart =>
   refine ⟨0, noPages, by omega, rfl, ⟨HE.out⟩, ⟨HB.out⟩, ⟨fun i hi => ?_⟩, ⟨fun j h1 h2 => ?_⟩, ⟨fun a => ?_⟩⟩
   ·have := HCP.out
    rcases hfo i hi with e | e <;> omega
   ·unfold noPages; rw [List.getElem?_replicate, if_pos h2]
   ·rw [byte_no]; unfold laidF; rw [if_neg (by rw [Nat.mul_zero, List.take_zero]; simp only [List.length_nil]; omega)]
  case round =>
   clear hfo HE HB HW
   obtain ⟨q, ps, hq, rfl, HE, HB, HFO, HNO, HBY⟩ := hrel
   have HQ := Aside0.mk hq
   have RB := Aside0.mk (blk_below RR.out HB.out)
   have b0 := (blk_cell RB.out 0).trans rfl
   by_cases hlt : 4096 * q < bs.length
   ·have hlt2 : ((4096 * q : Nat) : Int) < (bs.length : Int) := by omega
    have HL := Aside0.mk hlt
    have hmk : ∀ W, (Instr.makeSlice 23 (.int .i64 4096) (.int .i64 4096)).run Try.prog W = .ok (.slice (some ⟨W.heap.size, 0, none⟩) 4096 4096) (W.alloc (.cells (byteRow zpage) 5)) := fun W => run_make5 4096 (by decide) (by decide) W
    clear hq hlt hM
    obtain ⟨iq, hiq⟩ : ∃ iq, 4096 * q = iq := ⟨_, rfl⟩
    have HIQ := Aside0.mk hiq
    rw [hiq] at hlt2 HL HBY ⊢
    clear hiq
    obtain ⟨L, hL⟩ : ∃ L, min 4096 (bs.length - iq) = L := ⟨_, rfl⟩
    have HLL := Aside0.mk hL
    clear hL
    have G5 := Aside0.mk (show (wr.alloc (.cells (byteRow zpage) 5)).heap[wr.heap.size]? = some (.cells (byteRow zpage) 5 (0, 0)) from heap_at _ _ _ rfl)
    have B5 := Aside0.mk (show Below wr.heap.size wr (wr.alloc (.cells (byteRow zpage) 5)) from below_alloc (Below.refl _ _) _)
    go_upto_region 8 with (fail)
    clear hmk b0
    generalize hg : wr.heap.size = g at G5 B5 ⊢
    have HG := Aside0.mk hg
    clear hg
    generalize wr.alloc (.cells (byteRow zpage) 5) = W5 at G5 B5 ⊢
    go_wp2_with (fail)
    go_loopg [9] L (fun kq2 v9 wi => ∃ (j : Nat), j + kq2 = L ∧ v9 = .int .i64 (j : Int) ∧ Aside0 (wi.heap[g]? = some (.cells (byteRow (pgRow ((bs.drop iq).take j))) 5 (0, 0))) ∧ Aside0 (Below wr.heap.size wr wi))
    case atStart => exact ⟨0, by omega, rfl, ⟨G5.out⟩, ⟨by rw [HG.out]; exact B5.out⟩⟩
    case round =>
     obtain ⟨j, hj, rfl, GI, BI⟩ := hrel
     have HJ := Aside0.mk hj
     have RI := Aside0.mk (blk_below RB.out BI.out)
     have b0 := (blk_cell RI.out 0).trans rfl
     by_cases hlt3 : j < L
     ·have HL3 := Aside0.mk hlt3
      have HL4 := Aside0.mk (show j < 4096 ∧ iq + j < bs.length by have := HLL.out; omega)
      have h4 : (j : Int) < 4096 := by have := HL4.out; omega
      have hwi : IntKind.i64.wrap ((iq : Int) + (j : Int)) = ((iq + j : Nat) : Int) := by rw [IntWalk.i64_in _ (by have := HL4.out; have := LN.out; omega)]; omega
      have h5 : ((iq + j : Nat) : Int) < (bs.length : Int) := by have := HL4.out; omega
      have hw1 : IntKind.i64.wrap ((j : Int) + 1) = ((j + 1 : Nat) : Int) := by rw [IntWalk.i64_in _ (by have := HL4.out; omega)]; omega
      obtain ⟨v, hv⟩ : ∃ v, bs[iq + j]? = some v := ⟨_, List.getElem?_eq_getElem HL4.out.2⟩
      have HV := Aside0.mk hv
      have hsrc : wr.cell? (ad.add (iq + j)) = some (.int .u8 v) := by
       refine pw_cell_below (pm_chain (pm_chain BB.out HB.out) BI.out) (HSRC.out (iq + j) _ ?_)
       rw [List.take_length, List.getElem?_map, hv]; rfl
      have gc := byte_row GI.out (show j < _ by rw [pgRow_len _ (by rw [List.length_take]; have := HL4.out; omega)]; exact HL4.out.1)
      have fz := blk_frozen GI.out j
      generalize (((pgRow ((bs.drop iq).take j))[j]?).getD 0) = old at gc
      clear hj hlt3 hv
      go_wp2_with (fail)
      go_roundg (L - (j + 1))
      case measure => have := HJ.out; have := HL3.out; omega
      case rel =>
       have hxs : ((bs.drop iq).take j).length = j := by rw [List.length_take, List.length_drop]; have := HL4.out; omega
       have hsn : (bs.drop iq).take (j + 1) = (bs.drop iq).take j ++ [v] := take_snoc (by rw [List.getElem?_drop]; exact HV.out)
       refine ⟨j + 1, by have := HJ.out; have := HL3.out; omega, by simp, ⟨?_⟩, ⟨BI.out.setCell (p := ⟨g, j, none⟩) (Nat.le_of_eq HG.out) _⟩⟩
       rw [hsn, pgRow_snoc _ _ (by rw [hxs]; exact HL4.out.1), hxs]
       refine blk_put GI.out j _ ?_
       apply Array.ext'
       simp [byteRow, List.map_set]
     ·have hjL : j = L := by omega
      subst hjL
      have HEI := Aside0.mk (HE.out.below BI.out)
      have QB := Aside0.mk (show q + 1 < 2048 by have := HIQ.out; have := HL.out; have := LN.out; omega)
      have kpg := HEI.out.kpg
      have kq := HEI.out.pgcell (q + 1)
      rw [HNO.out (q + 1) (Nat.le_refl _) QB.out] at kq
      simp only [Option.map_some, pgVal] at kq
      have fz := blk_frozen HEI.out.pages (q + 1)
      have hw7 : IntKind.i64.wrap (4096 + (iq : Int)) = 4096 + (iq : Int) := IntWalk.i64_in _ (by have := HL.out; have := LN.out; omega)
      have hw8 : IntKind.i64.wrap ((iq : Int) + 4096) = ((4096 * (q + 1) : Nat) : Int) := by rw [IntWalk.i64_in _ (by have := HL.out; have := LN.out; omega)]; have := HIQ.out; omega
      have hdv : Int.tdiv (4096 + (iq : Int)) 4096 = ((q + 1 : Nat) : Int) := by rw [Int.tdiv_eq_ediv_of_nonneg (by omega)]; have := HIQ.out; omega
      have hq48 : ((q + 1 : Nat) : Int) < 2048 := by have := QB.out; omega
      have hfin : ¬ ((j : Int) < 4096) ∨ ((j : Int) < 4096 ∧ ¬ (((iq + j : Nat) : Int) < (bs.length : Int))) := by have := HLL.out; omega
      have hwi : IntKind.i64.wrap ((iq : Int) + (j : Int)) = ((iq + j : Nat) : Int) := by rw [IntWalk.i64_in _ (by have := HLL.out; have := HL.out; have := LN.out; omega)]; omega
      clear hj hlt3
      rcases hfin with h4 | ⟨h4, h5⟩
      ·clear hwi
       go_wp2_with (fail)
       go_roundg (M - (q + 1))
       case measure => have := HQ.out; have := HM.out; have := HIQ.out; have := HL.out; omega
       case rel =>
        have AP := HEI.out.addpage (q + 1) (HNO.out (q + 1) (Nat.le_refl _) QB.out) GI.out (pgRow_len _ (by rw [List.length_take]; have := HLL.out; omega)) (pgRow_in _ (fun b hb => HX.out b (List.mem_of_mem_drop (List.mem_of_mem_take hb)))) (fun hm => by have h1 := HE.out.foot_lt _ hm; have h2 := HG.out; omega) (fun A' n' cp' ad' e1 e2 h0 => by
         injection e1 with e1
         have h1 := HIB.out ad' (e1.trans e2) h0
         have h2 := HG.out
         have h3 := BB.out.size
         have h4 := HB.out.size
         omega)
        have hgY : Y.heap.size ≤ g := by have h2 := HG.out; have h4 := HB.out.size; omega
        have hpgY : Y.heap.size ≤ pg := HFO.out pg (by simp [foot])
        refine ⟨q + 1, _, by have := HQ.out; have := HM.out; have := HIQ.out; have := HL.out; omega, by simp, ⟨AP.1⟩, ⟨(pm_chain HB.out BI.out).setCell (p := ⟨pg, q + 1, none⟩) hpgY _⟩, ⟨fun i hi => ?_⟩, ⟨fun j' h1 h2 => ?_⟩, ⟨?_⟩⟩
        ·rcases AP.2 i hi with e | e
         ·rw [e]; exact hgY
         ·exact HFO.out i e
        ·rw [List.getElem?_set_ne (by omega)]
         exact HNO.out j' (by omega) h2
        ·have hb4 := HBY.out
         rw [← HIQ.out] at hb4
         have h5 := laid_page (g := g) (L := j) (by rw [HE.out.npg]; exact QB.out) (by rw [HIQ.out]; exact HLL.out) hb4
         rw [HIQ.out] at h5
         exact h5
      ·clear hw7
       have hw7 : IntKind.i64.wrap (4096 + (iq : Int)) = 4096 + (iq : Int) := IntWalk.i64_in _ (by have := HL.out; have := LN.out; omega)
       go_wp2_with (fail)
       go_roundg (M - (q + 1))
       case measure => have := HQ.out; have := HM.out; have := HIQ.out; have := HL.out; omega
       case rel =>
        have AP := HEI.out.addpage (q + 1) (HNO.out (q + 1) (Nat.le_refl _) QB.out) GI.out (pgRow_len _ (by rw [List.length_take]; have := HLL.out; omega)) (pgRow_in _ (fun b hb => HX.out b (List.mem_of_mem_drop (List.mem_of_mem_take hb)))) (fun hm => by have h1 := HE.out.foot_lt _ hm; have h2 := HG.out; omega) (fun A' n' cp' ad' e1 e2 h0 => by
         injection e1 with e1
         have h1 := HIB.out ad' (e1.trans e2) h0
         have h2 := HG.out
         have h3 := BB.out.size
         have h4 := HB.out.size
         omega)
        have hgY : Y.heap.size ≤ g := by have h2 := HG.out; have h4 := HB.out.size; omega
        have hpgY : Y.heap.size ≤ pg := HFO.out pg (by simp [foot])
        refine ⟨q + 1, _, by have := HQ.out; have := HM.out; have := HIQ.out; have := HL.out; omega, by simp, ⟨AP.1⟩, ⟨(pm_chain HB.out BI.out).setCell (p := ⟨pg, q + 1, none⟩) hpgY _⟩, ⟨fun i hi => ?_⟩, ⟨fun j' h1 h2 => ?_⟩, ⟨?_⟩⟩
        ·rcases AP.2 i hi with e | e
         ·rw [e]; exact hgY
         ·exact HFO.out i e
        ·rw [List.getElem?_set_ne (by omega)]
         exact HNO.out j' (by omega) h2
        ·have hb4 := HBY.out
         rw [← HIQ.out] at hb4
         have h5 := laid_page (g := g) (L := j) (by rw [HE.out.npg]; exact QB.out) (by rw [HIQ.out]; exact HLL.out) hb4
         rw [HIQ.out] at h5
         exact h5
   ·have hlt2 : ¬ ((4096 * q : Nat) : Int) < (bs.length : Int) := by omega
    have HT := Aside0.mk (show bs.take (4096 * q) = bs from List.take_of_length_le (by omega))
    clear hq hlt hM
    obtain ⟨iq, hiq⟩ : ∃ iq, 4096 * q = iq := ⟨_, rfl⟩
    rw [hiq] at hlt2 HBY HT ⊢
    clear hiq
    have b2 := (blk_cell RB.out 2).trans rfl
    have f5 := HE.out.fz 5
    have k5 := HE.out.kpc
    have hw : IntKind.u32.wrap entry = entry := by rw [IntKind.wrap_u32]; have := LN.out; omega
    go_upto_region 14 with (fail)
    have D6 := Aside0.mk (HE.out.set_pc entry (by have := LN.out; omega) (by have := LN.out; omega))
    generalize wr.setCell ⟨c, 5, none⟩ (.int .u32 entry) = W6 at D6 ⊢
    clear b0 b2 f5 k5 hw
    have k21 := D6.out.em.kr (a := 15) (v := 0) rfl
    have f21 := D6.out.em.fz (6 + 15)
    go_wp2_with (fail)
    go_ret2
    have D7 := D6.out.trans (D6.out.em.set_reg 15 (by decide) 8388608 (by decide) (by decide))
    unfold XMade
    refine ⟨c, pg, _, ps, _, rfl, D7.em, ?_, ?_, ⟨.slice Ai inp.length ki, rfl⟩, fun i => ?_⟩
    ·refine (pm_chain BB.out HB.out).trans (D7.ext.below_of (pm_chain BB.out HB.out).size (fun i hi => ?_))
     exact Nat.le_trans BB.out.size (HFO.out i hi)
    ·intro i hi
     have h3 := BB.out.size
     have h4 := HB.out.size
     rcases D7.new i hi with h5 | h5
     ·have := HFO.out i h5; omega
     ·omega
    ·rw [HBY.out, HT.out]
end Go.Proofs.Ytejhnlljddjicaa.Ma
namespace Go.Proofs.Ytejhnlljddjicaa.Ma
open Go.RowKit Go.Proofs.Ytejhnlljddjicaa.PLk Go.Proofs.YtejhnlljddjicaaW.PrintWords Go.Proofs.YtejhnlljddjicaaW.PrintLast Go.Proofs.YtejhnlljddjicaaW.PrintMore Go.Proofs.Ytejhnlljddjicaa.La
set_option linter.unusedVariables false
set_option linter.unusedSimpArgs false
variable {fx : Value × Int} {w w' : World} {c pg : Nat} {ps ps' : Pages} {S S' : Cpu} {inp out inp' out' : List Int}
theorem run_next (n : Nat) (r : Ran) (h : r.S.ended = 0) : runM (n + 1) r = runM n (stepM r.m r.S r.inp r.out) := by
 show (if r.S.ended ≠ 0 then r else _) = _
 rw [if_neg (by simp [h])]
theorem xstep_q {r : Ran} {a b : Value} (h : XM w c pg fx ps (reV r.S a b) r.inp r.out) (hm : byteAt ps = r.m) (hst : 0 ≤ r.S.steps ∧ r.S.steps < 4611686018427387904) (hin : ∀ v ∈ r.inp, 0 ≤ v ∧ v < 256) (hout : r.out.length + 1 ≤ 140737488355328) :
  Calls Try.prog 28 #[.pointer (some ⟨c, 0, none⟩)] w fun e w' => e = .returned (.int .i64 (stepM r.m r.S r.inp r.out).S.ended) ∧ ∃ iv ov ps', XDid w w' c pg fx ps (reV r.S a b) ps' (reV (stepM r.m r.S r.inp r.out).S iv ov) (stepM r.m r.S r.inp r.out).inp (stepM r.m r.S r.inp r.out).out ∧ byteAt ps' = (stepM r.m r.S r.inp r.out).m := by
 have e : stepM (byteAt ps) (reV r.S a b) r.inp r.out = (stepM r.m r.S r.inp r.out).reV a b := by rw [hm, step_v]
 refine (xstep_calls h hst hin hout).mono ?_
 rintro e' w' ⟨rfl, hd⟩
 rw [e] at hd ⊢
 obtain ⟨iv, ov, ps', D, hb⟩ := hd
 exact ⟨rfl, iv, ov, ps', D, funext hb⟩
set_option maxHeartbeats 4000000 in
set_option maxRecDepth 100000 in
theorem xrun_yes (w : World) (A : Option Addr) (k : Nat) (bs : List Int) (code entry : Int) (Ai : Option Addr) (ki : Nat) (inp : List Int) (F : Nat) (hC : Kd.C (Kd.int .u8) w A bs.length bs) (hk : bs.length ≤ k) (ho : okImg bs.length code entry)
  (hx : ∀ b ∈ bs, 0 ≤ b ∧ b < 256) (hCi : Kd.C (Kd.int .u8) w Ai inp.length inp) (hi : inp.length ≤ ki) (hxi : ∀ b ∈ inp, 0 ≤ b ∧ b < 256) (hf : 1 ≤ F ∧ F ≤ 4194304) :
  Calls Try.prog 15 #[.agg #[.slice A bs.length k, .int .i64 code, .int .i64 entry], .slice Ai inp.length ki, .int .i64 F] w fun e w' => ∃ v, e = .returned (.tuple #[.agg #[.int .i64 (stopOf (runM F (startR bs code entry inp))), .int .i64 (runM F (startR bs code entry inp)).S.exit, v, .int .i64 (runM F (startR bs code entry inp)).S.steps], .int .i64 0]) ∧ Kd.R (Kd.int .u8) 5 w' w.heap.size (fun _ => True) v (runM F (startR bs code entry inp)).out ∧ Below w.heap.size w w' := by
 obtain ⟨RR, hRR⟩ : ∃ RR, runM F (startR bs code entry inp) = RR := ⟨_, rfl⟩
 rw [hRR]
 have HRR := Aside0.mk hRR
 have HO := Aside0.mk ho
 have HX := Aside0.mk hx
 have HCI := Aside0.mk hCi
 have HI := Aside0.mk hi
 have HXI := Aside0.mk hxi
 have HF := Aside0.mk hf
 have f1 : ¬ ((F : Int) < 1) := by omega
 have f2 : ¬ ((F : Int) > 4194304) := by omega
 clear ho hx hCi hi hxi hf hRR
 have B1 := Aside0.mk (show Below w.heap.size w ((w.alloc (.cells #[.slice A bs.length k, .int .i64 code, .int .i64 entry] 25)).alloc (.cells #[.int .i64 0, .int .i64 0, .slice none 0 0, .int .i64 0] 69)) from below_alloc (below_alloc (Below.refl _ _) _) _)
 have R3 := Aside0.mk (show ((w.alloc (.cells #[.slice A bs.length k, .int .i64 code, .int .i64 entry] 25)).alloc (.cells #[.int .i64 0, .int .i64 0, .slice none 0 0, .int .i64 0] 69)).heap[w.heap.size]? = some (.cells #[.slice A bs.length k, .int .i64 code, .int .i64 entry] 25 (0, 0)) from blk_alloc (heap_at _ _ _ rfl) _)
 have R6 := Aside0.mk (show ((w.alloc (.cells #[.slice A bs.length k, .int .i64 code, .int .i64 entry] 25)).alloc (.cells #[.int .i64 0, .int .i64 0, .slice none 0 0, .int .i64 0] 69)).heap[w.heap.size + 1]? = some (.cells #[.int .i64 0, .int .i64 0, .slice none 0 0, .int .i64 0] 69 (0, 0)) from heap_at _ _ _ (by simp))
 have HC := Aside0.mk hC
 have HK := Aside0.mk hk
 have G6 := Aside0.mk (show w.heap.size ≤ w.heap.size + 1 by omega)
 clear hC hk
 go_enter Try.func15, Try.ntmps15
 go_upto_region 1 with (fail)
 generalize ((w.alloc (.cells #[.slice A bs.length k, .int .i64 code, .int .i64 entry] 25)).alloc (.cells #[.int .i64 0, .int .i64 0, .slice none 0 0, .int .i64 0] 69)) = W1 at B1 R3 R6 ⊢
 generalize hg6 : w.heap.size + 1 = g6 at R6 G6 ⊢
 generalize hg3 : w.heap.size = g3 at R3 ⊢
 clear hg6
 have c0 := (blk_cell R3.out 0).trans rfl
 have c1 := (blk_cell R3.out 1).trans rfl
 have c2 := (blk_cell R3.out 2).trans rfl
 have HG3 := Aside0.mk hg3
 go_upto_region 6 with (first | (go_at_call 27; refine (xnew_yes _ A k bs code entry Ai ki inp (Kd.C_below HC.out B1.out) HK.out HO.out HX.out (Kd.C_below HCI.out B1.out) HI.out).mono ?_; rintro e Y ⟨c, pg, fx, ps, S, rfl, hem, hb, hfo, hS, hby⟩; have BB := Aside0.mk (pm_chain B1.out hb); have R7 := Aside0.mk (blk_below R6.out hb)))
 clear c0 c1 c2 f1 f2
 have Y0 := Aside0.mk hem
 have YF := Aside0.mk hfo
 have YS := Aside0.mk hS
 have YB := Aside0.mk hby
 have Bb := Aside0.mk hb
 clear hem hfo hS hby hb
 have L6 := Aside0.mk (lt_of_at R6.out)
 go_wp2_with (fail)
 go_loopg [] F (fun kq wr => ∃ (j : Nat) (r : Ran) (psj : Pages) (a b : Value), j + kq = F ∧ Aside0 (XM wr c pg fx psj (reV r.S a b) r.inp r.out) ∧ Aside0 (Below W1.heap.size W1 wr) ∧ Aside0 (∀ i ∈ foot c pg psj (reV r.S a b), W1.heap.size ≤ i) ∧ Aside0 (byteAt psj = r.m) ∧ Aside0 (r.S.steps = j ∧ r.out.length ≤ j) ∧ Aside0 (∀ v ∈ r.inp, 0 ≤ v ∧ v < 256) ∧ Aside0 (runM kq r = RR))
 case atStart =>
  obtain ⟨iv, hiv⟩ := YS.out
  subst hiv
  exact ⟨0, startR bs code entry inp, ps, iv, .slice none 0 0, by omega, ⟨Y0.out⟩, ⟨Bb.out⟩, ⟨YF.out⟩, ⟨funext YB.out⟩, ⟨rfl, Nat.le_refl 0⟩, ⟨HXI.out⟩, ⟨HRR.out⟩⟩
 case round =>
  obtain ⟨j, r, psj, a, b, hj, HE, HB, HFO, HM, HS, HIN, HRJ⟩ := hrel
  have R8 := Aside0.mk (blk_below R6.out HB.out)
  have kend : wr.cell? ⟨c, 24, none⟩ = some (.int .i64 r.S.ended) := HE.out.kend
  have kst : wr.cell? ⟨c, 22, none⟩ = some (.int .i64 (j : Int)) := HE.out.kst.trans (by rw [← HS.out.1]; rfl)
  have f24 := HE.out.fz 24
  by_cases hz : r.S.ended = 0
  ·rw [hz] at kend
   have HZ := Aside0.mk hz
   clear hz
   by_cases hlt : j < F
   ·have hlt2 : (j : Int) < (F : Int) := by omega
    have HJ := Aside0.mk (And.intro hj hlt)
    clear hj hlt
    obtain ⟨q, hq⟩ : ∃ q, q = stepM r.m r.S r.inp r.out := ⟨_, rfl⟩
    have STEP := Aside0.mk (xstep_q HE.out HM.out (by have := HS.out.1; have := HJ.out; have := HF.out; omega) HIN.out (by have := HS.out.2; have := HJ.out; have := HF.out; omega))
    rw [← hq] at STEP
    have KEEP := Aside0.mk (step_keeps r.m r.S r.inp r.out HZ.out)
    rw [← hq] at KEEP
    have HQ := Aside0.mk hq
    clear hq
    go_wp2_with (first | (go_at_call 28; refine STEP.out.mono ?_; rintro e W5 ⟨rfl, hd5⟩; have HD5 := Aside0.mk hd5; clear hd5))
    obtain ⟨iv, ov, ps', D, hb5⟩ := HD5.out
    go_roundg (F - (j + 1))
    case measure => have := HJ.out; omega
    case rel =>
     have h1 := HJ.out
     refine ⟨j + 1, q, ps', iv, ov, by omega, ⟨D.em⟩, ⟨HB.out.trans (D.ext.below_of HB.out.size (fun i hi => HFO.out i hi))⟩, ⟨fun i hi => ?_⟩, ⟨hb5⟩, ⟨?_, ?_⟩, ⟨fun v hv => ?_⟩, ⟨?_⟩⟩
     ·rcases D.new i hi with h5 | h5
      ·exact HFO.out i h5
      ·exact Nat.le_trans HB.out.size h5
     ·rw [KEEP.out.1, HS.out.1]; simp
     ·have := HS.out.2
      rcases KEEP.out.2.2.1 with e | ⟨v, e⟩ <;> rw [e] <;> simp <;> omega
     ·rcases KEEP.out.2.2.2 with e | ⟨u, e⟩
      ·rw [e] at hv; exact HIN.out v hv
      ·exact HIN.out v (by rw [e]; exact List.mem_cons_of_mem _ hv)
     ·have h2 := HRJ.out
      rw [show gk = (F - (j + 1)) + 1 by omega, run_next _ _ HZ.out, ← HQ.out] at h2
      exact h2
   ·have hjF : j = F := by omega
    have hlt2 : ¬ (j : Int) < (F : Int) := by omega
    have HJF := Aside0.mk hjF
    have hk0 : gk = 0 := by omega
    have RQ := Aside0.mk (show RR = r by have := HRJ.out; rw [hk0] at this; exact this.symm)
    clear hlt hj hk0 hjF
    go_upto_region 10 with (fail)
    have D5 := Aside0.mk (HE.out.set_ended 4)
    generalize wr.setCell ⟨c, 24, none⟩ (.int .i64 4) = W5 at D5 ⊢
    clear kend kst f24
    have B5 := Aside0.mk (HB.out.trans (D5.out.ext.below_of HB.out.size (fun i hi => HFO.out i hi)))
    go_wp2_with (first | (go_at_call 29; refine (xoutcome_calls D5.out.em (by have := HS.out.2; have := HF.out; have := HJF.out; omega)).mono ?_; rintro e W6 ⟨v, rfl, hV, hb6⟩; obtain ⟨A2, k2, rfl⟩ := Kd.R_slice hV; have HV := Aside0.mk hV; have B6 := Aside0.mk (B5.out.trans (hb6.mono B5.out.size)); have R9 := Aside0.mk (blk_below R6.out B6.out); clear hV hb6) | (refine wpList_store_row rfl 69 _ _ rfl g6 _ rfl rfl 69 _ (R9.out) (by as_aux_lemma => kernel_rfl) (by as_aux_lemma => kernel_rfl) (by as_aux_lemma => kernel_rfl) ?_))
    (try simp only [Exit.inBlock, Exit.then])
    refine bodyPost_ret (results_cell2 (p := 6) (q := 7) (ty := 69) rfl _ _ _ _ ⟨g6, 0, none⟩ _ _ (by rfl) (run_loadVar_row _ g6 69 69 _ (0, 0) _ (setRow_heap _ _ _ _ _ _ (R9.out)) Try.underlying69 (by rfl) (by kernel_rfl)) (by rfl)) rfl ?_
    rw [RQ.out]
    have hs : stopOf r = 4 := by unfold stopOf; rw [if_neg (by simp [HZ.out])]
    refine ⟨_, by rw [hs]; rfl, R_row HV.out (by have := L6.out; have := B5.out.size; omega) (by have := B1.out.size; have := B5.out.size; omega) _, below_setRow (pm_chain B1.out B6.out) (by have := G6.out; have := HG3.out; omega) _⟩
  ·have HZ := Aside0.mk hz
   have RQ := Aside0.mk (show RR = r from (HRJ.out.symm.trans (run_still _ _ hz)))
   have HLN := Aside0.mk (show r.out.length ≤ F by have := HS.out.2; omega)
   obtain ⟨en, hen⟩ : ∃ en, r.S.ended = en := ⟨_, rfl⟩
   rw [hen] at kend hz
   clear hj hen
   go_wp2_with (first | (go_at_call 29; refine (xoutcome_calls HE.out (by have := HLN.out; have := HF.out; omega)).mono ?_; rintro e W6 ⟨v, rfl, hV, hb6⟩; obtain ⟨A2, k2, rfl⟩ := Kd.R_slice hV; have HV := Aside0.mk hV; have B6 := Aside0.mk (HB.out.trans (hb6.mono HB.out.size)); have R9 := Aside0.mk (blk_below R6.out B6.out); clear hV hb6) | (refine wpList_store_row rfl 69 _ _ rfl g6 _ rfl rfl 69 _ (R9.out) (by as_aux_lemma => kernel_rfl) (by as_aux_lemma => kernel_rfl) (by as_aux_lemma => kernel_rfl) ?_))
   (try simp only [Exit.inBlock, Exit.then])
   refine bodyPost_ret (results_cell2 (p := 6) (q := 7) (ty := 69) rfl _ _ _ _ ⟨g6, 0, none⟩ _ _ (by rfl) (run_loadVar_row _ g6 69 69 _ (0, 0) _ (setRow_heap _ _ _ _ _ _ (R9.out)) Try.underlying69 (by rfl) (by kernel_rfl)) (by rfl)) rfl ?_
   rw [RQ.out]
   have hs : stopOf r = r.S.ended := by unfold stopOf; rw [if_pos HZ.out]
   refine ⟨_, by rw [hs]; rfl, R_row HV.out (by have := L6.out; have := HB.out.size; omega) (by have := B1.out.size; have := HB.out.size; omega) _, below_setRow (pm_chain B1.out B6.out) (by have := G6.out; have := HG3.out; omega) _⟩
end Go.Proofs.Ytejhnlljddjicaa.Ma
