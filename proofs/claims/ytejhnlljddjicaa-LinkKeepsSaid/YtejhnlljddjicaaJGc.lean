/- enc: Decode. No condition beyond those each theorem names. And more of the kind: 3 texts in one. -/
import Derived.Test.YtejhnlljddjicaaJGb
import Derived.Laws.CopyOwn
namespace Go.Proofs.Ytejhnlljddjicaa.Ma
open Go.RowKit Go.Proofs.Ytejhnlljddjicaa.PLk Go.Proofs.YtejhnlljddjicaaW.PrintWords Go.Proofs.YtejhnlljddjicaaW.PrintLast Go.Proofs.YtejhnlljddjicaaW.PrintMore Go.Proofs.Ytejhnlljddjicaa.La
set_option linter.unusedVariables false
set_option linter.unusedSimpArgs false
variable {w w' : World} {c pg : Nat} {ps ps' : Pages} {S S' : Cpu} {inp out inp' out' : List Int}
theorem and15 (v : Int) (h0 : 0 ≤ v) (h1 : v < 4294967296) : bits .and .u32 v 15 = v % 16 := bits_mask .u32 32 (by decide) wraps_u32 4 (by decide) v h0 h1
theorem results_cell2 {fn : Func} {p q : Tmp} {ty : TypeId} (h : fn.results = #[.cell p ty, .tmp q]) (tmps : Array Value) (P : Program) (w w' : World) (a : Addr) (v u : Value) (ha : tmps.getD p undef = .pointer (some a)) (hv : (loadVar ty a).run P w = .ok v w') (hu : tmps.getD q undef = u) : (results fn tmps).run P w = .ok (.tuple #[v, u]) w' := by
 rw [Array.getD_eq_getD_getElem?] at ha hu
 simp only [results, h]
 simp [Sem.run_bind, Result.andThen, ha, hu, asAddr, hv]
theorem dn0_below {W W' : World} (h : Drawn0 W W') : Below W.heap.size W W' := by
 obtain ⟨n, rfl⟩ := h
 exact below_dN _ _
/-- How Decode ends: the word is encoded so, or it is not. -/
def DecRes (p : Prop) (x : Value) (e : Ending) : Prop := (p → e = .returned (.tuple #[x, .int .i64 0])) ∧ (¬ p → e = .returned (.tuple #[.agg #[.int .i64 0, .int .i64 0, .int .i64 0, .int .i64 0, .int .i64 0], .int .i64 200]))
set_option maxHeartbeats 4000000 in
set_option maxRecDepth 100000 in
theorem decode_1 (w : World) (v : Int) (hv : 0 ≤ v ∧ v < 4294967296) (hf : enc_Form.f 20 (v % 256) = some 1) :
  Calls Try.prog 25 #[.int .u32 v] w fun e w' => DecRes (encW false (v % 256) (v / 256 % 16) (v / 4096 % 16) (v / 65536 % 16) (0) = v) (.agg #[.int .i64 (v % 256), .int .i64 (v / 256 % 16), .int .i64 (v / 4096 % 16), .int .i64 (v / 65536 % 16), .int .i64 (0)]) e ∧ Below w.heap.size w w' := by
 have hA := and255 v hv.1 hv.2
 have HF := Aside0.mk hf
 have HV := Aside0.mk hv
 obtain ⟨r1, he⟩ : ∃ r1, encW false (v % 256) (v / 256 % 16) (v / 4096 % 16) (v / 65536 % 16) (0) = r1 := ⟨_, rfl⟩
 rw [he]
 have HE := Aside0.mk he
 clear he
 have hw1 : IntKind.i64.wrap (v % 256) = v % 256 := IntWalk.i64_in _ (by omega)
 clear hf hv
 go_enter Try.func25, Try.ntmps25
 go_upto_region 2 with (fail)
 have R2 := Aside0.mk (show (w.alloc (.cells #[.int .i64 0, .int .i64 0, .int .i64 0, .int .i64 0, .int .i64 0] 36 (0, 0))).heap[w.heap.size]? = some (.cells #[.int .i64 0, .int .i64 0, .int .i64 0, .int .i64 0, .int .i64 0] 36 (0, 0)) from heap_at _ _ _ rfl)
 have R3 := Aside0.mk (blk_below R2.out (below_alloc (Below.refl _ _) (.cells #[.int .i64 (v % 256), .int .i64 0, .int .i64 0, .int .i64 0, .int .i64 0] 36 (0, 0))))
 have R4 := Aside0.mk (show ((w.alloc (.cells #[.int .i64 0, .int .i64 0, .int .i64 0, .int .i64 0, .int .i64 0] 36 (0, 0))).alloc (.cells #[.int .i64 (v % 256), .int .i64 0, .int .i64 0, .int .i64 0, .int .i64 0] 36 (0, 0))).heap[w.heap.size + 1]? = some (.cells #[.int .i64 (v % 256), .int .i64 0, .int .i64 0, .int .i64 0, .int .i64 0] 36 (0, 0)) from heap_at _ _ _ (by simp))
 have BB := Aside0.mk (show Below w.heap.size w ((w.alloc (.cells #[.int .i64 0, .int .i64 0, .int .i64 0, .int .i64 0, .int .i64 0] 36 (0, 0))).alloc (.cells #[.int .i64 (v % 256), .int .i64 0, .int .i64 0, .int .i64 0, .int .i64 0] 36 (0, 0))) by (repeat (first | (with_reducible exact Below.refl _ _) | (with_reducible assumption) | with_reducible apply below_alloc | with_reducible apply pw_below_drewN | with_reducible apply below_drew1)))
 have NE := Aside0.mk (show w.heap.size ≠ w.heap.size + 1 by omega)
 have GW := Aside0.mk (show w.heap.size ≤ w.heap.size + 1 by omega)
 clear R2
 generalize (w.alloc (.cells #[.int .i64 0, .int .i64 0, .int .i64 0, .int .i64 0, .int .i64 0] 36 (0, 0))).alloc (.cells #[.int .i64 (v % 256), .int .i64 0, .int .i64 0, .int .i64 0, .int .i64 0] 36 (0, 0)) = W0 at R3 R4 BB ⊢
 generalize hg4 : w.heap.size + 1 = g4 at R4 NE GW ⊢
 generalize hg2 : w.heap.size = g2 at R3 NE ⊢
 clear hA hw1 hg4
 have c0 := (blk_cell R4.out 0).trans rfl
 have s0 := (show bits .and .u32 (v / 256) 15 = v / 256 % 16 from and15 _ (by have := HV.out; omega) (by have := HV.out; omega))
 have s1 := (show bits .and .u32 (v / 4096) 15 = v / 4096 % 16 from and15 _ (by have := HV.out; omega) (by have := HV.out; omega))
 have s2 := (show bits .and .u32 (v / 65536) 15 = v / 65536 % 16 from and15 _ (by have := HV.out; omega) (by have := HV.out; omega))
 have sw := wrap3264 v
 have x6 : IntKind.i64.wrap (v / 256) = v / 256 := IntWalk.i64_in _ (by have := HV.out; omega)
 have x7 : IntKind.i64.wrap (v / 65536) = v / 65536 := IntWalk.i64_in _ (by have := HV.out; omega)
 go_wp2_with (first | (go_at_call 35; refine (enc_Form.calls 20 _ _ _ HF.out).mono ?_; rintro e w' ⟨rfl, ⟨nd, rfl⟩⟩) | (go_at_call 36; refine (enc_uses.calls _ _ _ _ _ (show enc_uses.f 1 = some (3, (0), 0) from rfl)).mono ?_; rintro e w' ⟨rfl, ⟨ne, rfl⟩⟩; have DD := Aside0.mk (pm_chain (below_dN W0 nd) (below_dN (W0.drewN nd) ne)); have N4 := Aside0.mk (blk_below R4.out DD.out); have N3 := Aside0.mk (blk_below R3.out DD.out); have NB := Aside0.mk (BB.out.trans (DD.out.mono BB.out.size)); clear R4 R3 BB c0; have R4 := N4; have R3 := N3; have BB := NB; clear N4 N3 NB DD; generalize (W0.drewN nd).drewN ne = W1 at R4 R3 BB ⊢))
 have i0 := ix130_0 (.pointer (some ⟨g4, 1, none⟩)) (.pointer (some ⟨g4, 2, none⟩)) (.pointer (some ⟨g4, 3, none⟩))
 have i1 := ix130_1 (.pointer (some ⟨g4, 1, none⟩)) (.pointer (some ⟨g4, 2, none⟩)) (.pointer (some ⟨g4, 3, none⟩))
 have i2 := ix130_2 (.pointer (some ⟨g4, 1, none⟩)) (.pointer (some ⟨g4, 2, none⟩)) (.pointer (some ⟨g4, 3, none⟩))
 have x0 : IntKind.i64.wrap (v / 256 % 16) = v / 256 % 16 := IntWalk.i64_in _ (by omega)
 have x1 : IntKind.i64.wrap (v / 4096 % 16) = v / 4096 % 16 := IntWalk.i64_in _ (by omega)
 have x2 : IntKind.i64.wrap (v / 65536 % 16) = v / 65536 % 16 := IntWalk.i64_in _ (by omega)
 refine wp_loop_rounds 4 ?_
 have c1 := (blk_cell R4.out 1).trans rfl
 have z1 := blk_frozen R4.out 1
 rw [rounds_succ]
 go_wp2_with (fail)
 have N4 := Aside0.mk (show (W1.setCell ⟨g4, 1, none⟩ (.int .i64 (v / 256 % 16))).heap[g4]? = some (.cells #[.int .i64 (v % 256), .int .i64 (v / 256 % 16), .int .i64 (0), .int .i64 (0), .int .i64 (0)] 36 (0, 0)) from blk_set R4.out 1 _)
 have N3 := Aside0.mk (blk_far R3.out (p := ⟨g4, 1, none⟩) NE.out (.int .i64 (v / 256 % 16)))
 have NB := Aside0.mk (BB.out.setCell (p := ⟨g4, 1, none⟩) GW.out (.int .i64 (v / 256 % 16)))
 clear R4 R3 BB c1 z1
 have R4 := N4
 have R3 := N3
 have BB := NB
 clear N4 N3 NB
 generalize W1.setCell ⟨g4, 1, none⟩ (.int .i64 (v / 256 % 16)) = X0 at R4 R3 BB ⊢
 have c2 := (blk_cell R4.out 2).trans rfl
 have z2 := blk_frozen R4.out 2
 rw [rounds_succ]
 go_wp2_with (fail)
 have N4 := Aside0.mk (show (X0.setCell ⟨g4, 2, none⟩ (.int .i64 (v / 4096 % 16))).heap[g4]? = some (.cells #[.int .i64 (v % 256), .int .i64 (v / 256 % 16), .int .i64 (v / 4096 % 16), .int .i64 (0), .int .i64 (0)] 36 (0, 0)) from blk_set R4.out 2 _)
 have N3 := Aside0.mk (blk_far R3.out (p := ⟨g4, 2, none⟩) NE.out (.int .i64 (v / 4096 % 16)))
 have NB := Aside0.mk (BB.out.setCell (p := ⟨g4, 2, none⟩) GW.out (.int .i64 (v / 4096 % 16)))
 clear R4 R3 BB c2 z2
 have R4 := N4
 have R3 := N3
 have BB := NB
 clear N4 N3 NB
 generalize X0.setCell ⟨g4, 2, none⟩ (.int .i64 (v / 4096 % 16)) = X1 at R4 R3 BB ⊢
 have c3 := (blk_cell R4.out 3).trans rfl
 have z3 := blk_frozen R4.out 3
 rw [rounds_succ]
 go_wp2_with (fail)
 have N4 := Aside0.mk (show (X1.setCell ⟨g4, 3, none⟩ (.int .i64 (v / 65536 % 16))).heap[g4]? = some (.cells #[.int .i64 (v % 256), .int .i64 (v / 256 % 16), .int .i64 (v / 4096 % 16), .int .i64 (v / 65536 % 16), .int .i64 (0)] 36 (0, 0)) from blk_set R4.out 3 _)
 have N3 := Aside0.mk (blk_far R3.out (p := ⟨g4, 3, none⟩) NE.out (.int .i64 (v / 65536 % 16)))
 have NB := Aside0.mk (BB.out.setCell (p := ⟨g4, 3, none⟩) GW.out (.int .i64 (v / 65536 % 16)))
 clear R4 R3 BB c3 z3
 have R4 := N4
 have R3 := N3
 have BB := NB
 clear N4 N3 NB
 generalize X1.setCell ⟨g4, 3, none⟩ (.int .i64 (v / 65536 % 16)) = X2 at R4 R3 BB ⊢
 rw [rounds_succ]
 have c0 := (blk_cell R4.out 0).trans rfl
 have c4 := (blk_cell R4.out 4).trans rfl
 have z4 := blk_frozen R4.out 4
 go_upto_region 20 with (first | (go_at_call 37; refine (enc_far.calls _ _ _ (show enc_far.f 1 = some false from rfl)).mono ?_; rintro e Y ⟨rfl, hdn⟩; have DD := Aside0.mk (dn0_below hdn); have N4 := Aside0.mk (blk_below R4.out DD.out); have N3 := Aside0.mk (blk_below R3.out DD.out); have NB := Aside0.mk (BB.out.trans (DD.out.mono BB.out.size)); clear R4 R3 BB c0 c4 z4 hdn DD; have R4 := N4; have R3 := N3; have BB := NB; clear N4 N3 NB; have c0 := (blk_cell R4.out 0).trans rfl; have c4 := (blk_cell R4.out 4).trans rfl; have z4 := blk_frozen R4.out 4))
 clear c0 c4 z4
 have c0 := (blk_cell R4.out 0).trans rfl
 have c1 := (blk_cell R4.out 1).trans rfl
 have c2 := (blk_cell R4.out 2).trans rfl
 have c3 := (blk_cell R4.out 3).trans rfl
 have c4 := (blk_cell R4.out 4).trans rfl
 clear s0 s1 s2 sw x6 x7 x0 x1 x2 i0 i1 i2
 go_upto_region 21 with (first | (go_at_call 26; refine (encode_1 _ _ _ _ _ _ (by have := HV.out; omega) HF.out (by omega) (by omega) (by omega) (by have := HV.out; (try unfold wrap32); omega)).mono ?_; rintro e Y2 ⟨rfl, hb⟩; rw [HE.out]; have N4 := Aside0.mk (blk_below R4.out hb); have N3 := Aside0.mk (blk_below R3.out hb); have NB := Aside0.mk (BB.out.trans (hb.mono BB.out.size)); clear R4 R3 BB c0 c1 c2 c3 c4 hb; have R4 := N4; have R3 := N3; have BB := NB; clear N4 N3 NB; have c0 := (blk_cell R4.out 0).trans rfl; have c1 := (blk_cell R4.out 1).trans rfl; have c2 := (blk_cell R4.out 2).trans rfl; have c3 := (blk_cell R4.out 3).trans rfl; have c4 := (blk_cell R4.out 4).trans rfl))
 by_cases hz : r1 = v
 ·have HZ := Aside0.mk hz
  go_wp2_with (first | (refine wpList_store_row rfl 36 _ _ rfl g2 _ rfl rfl 36 _ R3.out (by as_aux_lemma => kernel_rfl) (by as_aux_lemma => kernel_rfl) (by as_aux_lemma => kernel_rfl) ?_))
  (try simp only [Exit.inBlock, Exit.then])
  refine bodyPost_ret (results_cell2 (p := 2) (q := 3) (ty := 36) rfl _ _ _ _ ⟨g2, 0, none⟩ _ _ (by rfl) (run_loadVar_row _ g2 36 36 _ (0, 0) _ (setRow_heap _ _ _ _ _ _ R3.out) Try.underlying36 (by rfl) (by kernel_rfl)) (by rfl)) rfl ?_
  exact ⟨⟨fun _ => rfl, fun h => absurd HZ.out h⟩, below_setRow BB.out (by rw [hg2]; exact Nat.le_refl _) _⟩
 ·have HZ := Aside0.mk hz
  go_wp2_with (first | (refine wpList_store_row rfl 36 _ _ rfl g2 _ rfl rfl 36 _ R3.out (by as_aux_lemma => kernel_rfl) (by as_aux_lemma => kernel_rfl) (by as_aux_lemma => kernel_rfl) ?_))
  (try simp only [Exit.inBlock, Exit.then])
  refine bodyPost_ret (results_cell2 (p := 2) (q := 3) (ty := 36) rfl _ _ _ _ ⟨g2, 0, none⟩ _ _ (by rfl) (run_loadVar_row _ g2 36 36 _ (0, 0) _ (setRow_heap _ _ _ _ _ _ R3.out) Try.underlying36 (by rfl) (by kernel_rfl)) (by rfl)) rfl ?_
  exact ⟨⟨fun h => absurd h HZ.out, fun _ => rfl⟩, below_setRow BB.out (by rw [hg2]; exact Nat.le_refl _) _⟩
theorem decode_1y (w : World) (v : Int) (hv : 0 ≤ v ∧ v < 4294967296) (hf : enc_Form.f 20 (v % 256) = some 1) (he : encW false (v % 256) (v / 256 % 16) (v / 4096 % 16) (v / 65536 % 16) (0) = v) :
  Calls Try.prog 25 #[.int .u32 v] w fun e w' => e = .returned (.tuple #[.agg #[.int .i64 (v % 256), .int .i64 (v / 256 % 16), .int .i64 (v / 4096 % 16), .int .i64 (v / 65536 % 16), .int .i64 (0)], .int .i64 0]) ∧ Below w.heap.size w w' := (decode_1 w v hv hf).mono fun _ _ h => ⟨h.1.1 he, h.2⟩
theorem decode_1n (w : World) (v : Int) (hv : 0 ≤ v ∧ v < 4294967296) (hf : enc_Form.f 20 (v % 256) = some 1) (he : ¬ encW false (v % 256) (v / 256 % 16) (v / 4096 % 16) (v / 65536 % 16) (0) = v) :
  Calls Try.prog 25 #[.int .u32 v] w fun e w' => e = .returned (.tuple #[.agg #[.int .i64 0, .int .i64 0, .int .i64 0, .int .i64 0, .int .i64 0], .int .i64 200]) ∧ Below w.heap.size w w' := (decode_1 w v hv hf).mono fun _ _ h => ⟨h.1.2 he, h.2⟩
set_option maxHeartbeats 4000000 in
set_option maxRecDepth 100000 in
theorem decode_2 (w : World) (v : Int) (hv : 0 ≤ v ∧ v < 4294967296) (hf : enc_Form.f 20 (v % 256) = some 2) :
  Calls Try.prog 25 #[.int .u32 v] w fun e w' => DecRes (encW false (v % 256) (v / 256 % 16) (v / 4096 % 16) (0) (wrap32 v / 65536) = v) (.agg #[.int .i64 (v % 256), .int .i64 (v / 256 % 16), .int .i64 (v / 4096 % 16), .int .i64 (0), .int .i64 (wrap32 v / 65536)]) e ∧ Below w.heap.size w w' := by
 have hA := and255 v hv.1 hv.2
 have HF := Aside0.mk hf
 have HV := Aside0.mk hv
 obtain ⟨r1, he⟩ : ∃ r1, encW false (v % 256) (v / 256 % 16) (v / 4096 % 16) (0) (wrap32 v / 65536) = r1 := ⟨_, rfl⟩
 rw [he]
 have HE := Aside0.mk he
 clear he
 have hw1 : IntKind.i64.wrap (v % 256) = v % 256 := IntWalk.i64_in _ (by omega)
 clear hf hv
 go_enter Try.func25, Try.ntmps25
 go_upto_region 2 with (fail)
 have R2 := Aside0.mk (show (w.alloc (.cells #[.int .i64 0, .int .i64 0, .int .i64 0, .int .i64 0, .int .i64 0] 36 (0, 0))).heap[w.heap.size]? = some (.cells #[.int .i64 0, .int .i64 0, .int .i64 0, .int .i64 0, .int .i64 0] 36 (0, 0)) from heap_at _ _ _ rfl)
 have R3 := Aside0.mk (blk_below R2.out (below_alloc (Below.refl _ _) (.cells #[.int .i64 (v % 256), .int .i64 0, .int .i64 0, .int .i64 0, .int .i64 0] 36 (0, 0))))
 have R4 := Aside0.mk (show ((w.alloc (.cells #[.int .i64 0, .int .i64 0, .int .i64 0, .int .i64 0, .int .i64 0] 36 (0, 0))).alloc (.cells #[.int .i64 (v % 256), .int .i64 0, .int .i64 0, .int .i64 0, .int .i64 0] 36 (0, 0))).heap[w.heap.size + 1]? = some (.cells #[.int .i64 (v % 256), .int .i64 0, .int .i64 0, .int .i64 0, .int .i64 0] 36 (0, 0)) from heap_at _ _ _ (by simp))
 have BB := Aside0.mk (show Below w.heap.size w ((w.alloc (.cells #[.int .i64 0, .int .i64 0, .int .i64 0, .int .i64 0, .int .i64 0] 36 (0, 0))).alloc (.cells #[.int .i64 (v % 256), .int .i64 0, .int .i64 0, .int .i64 0, .int .i64 0] 36 (0, 0))) by (repeat (first | (with_reducible exact Below.refl _ _) | (with_reducible assumption) | with_reducible apply below_alloc | with_reducible apply pw_below_drewN | with_reducible apply below_drew1)))
 have NE := Aside0.mk (show w.heap.size ≠ w.heap.size + 1 by omega)
 have GW := Aside0.mk (show w.heap.size ≤ w.heap.size + 1 by omega)
 clear R2
 generalize (w.alloc (.cells #[.int .i64 0, .int .i64 0, .int .i64 0, .int .i64 0, .int .i64 0] 36 (0, 0))).alloc (.cells #[.int .i64 (v % 256), .int .i64 0, .int .i64 0, .int .i64 0, .int .i64 0] 36 (0, 0)) = W0 at R3 R4 BB ⊢
 generalize hg4 : w.heap.size + 1 = g4 at R4 NE GW ⊢
 generalize hg2 : w.heap.size = g2 at R3 NE ⊢
 clear hA hw1 hg4
 have c0 := (blk_cell R4.out 0).trans rfl
 have s0 := (show bits .and .u32 (v / 256) 15 = v / 256 % 16 from and15 _ (by have := HV.out; omega) (by have := HV.out; omega))
 have s1 := (show bits .and .u32 (v / 4096) 15 = v / 4096 % 16 from and15 _ (by have := HV.out; omega) (by have := HV.out; omega))
 have s2 := (show bits .and .u32 (v / 65536) 15 = v / 65536 % 16 from and15 _ (by have := HV.out; omega) (by have := HV.out; omega))
 have sw := wrap3264 v
 have x6 : IntKind.i64.wrap (v / 256) = v / 256 := IntWalk.i64_in _ (by have := HV.out; omega)
 have x7 : IntKind.i64.wrap (v / 65536) = v / 65536 := IntWalk.i64_in _ (by have := HV.out; omega)
 go_wp2_with (first | (go_at_call 35; refine (enc_Form.calls 20 _ _ _ HF.out).mono ?_; rintro e w' ⟨rfl, ⟨nd, rfl⟩⟩) | (go_at_call 36; refine (enc_uses.calls _ _ _ _ _ (show enc_uses.f 2 = some (2, (-32768), 32767) from rfl)).mono ?_; rintro e w' ⟨rfl, ⟨ne, rfl⟩⟩; have DD := Aside0.mk (pm_chain (below_dN W0 nd) (below_dN (W0.drewN nd) ne)); have N4 := Aside0.mk (blk_below R4.out DD.out); have N3 := Aside0.mk (blk_below R3.out DD.out); have NB := Aside0.mk (BB.out.trans (DD.out.mono BB.out.size)); clear R4 R3 BB c0; have R4 := N4; have R3 := N3; have BB := NB; clear N4 N3 NB DD; generalize (W0.drewN nd).drewN ne = W1 at R4 R3 BB ⊢))
 have i0 := ix130_0 (.pointer (some ⟨g4, 1, none⟩)) (.pointer (some ⟨g4, 2, none⟩)) (.pointer (some ⟨g4, 3, none⟩))
 have i1 := ix130_1 (.pointer (some ⟨g4, 1, none⟩)) (.pointer (some ⟨g4, 2, none⟩)) (.pointer (some ⟨g4, 3, none⟩))
 have i2 := ix130_2 (.pointer (some ⟨g4, 1, none⟩)) (.pointer (some ⟨g4, 2, none⟩)) (.pointer (some ⟨g4, 3, none⟩))
 have x0 : IntKind.i64.wrap (v / 256 % 16) = v / 256 % 16 := IntWalk.i64_in _ (by omega)
 have x1 : IntKind.i64.wrap (v / 4096 % 16) = v / 4096 % 16 := IntWalk.i64_in _ (by omega)
 have x2 : IntKind.i64.wrap (v / 65536 % 16) = v / 65536 % 16 := IntWalk.i64_in _ (by omega)
 refine wp_loop_rounds 4 ?_
 have c1 := (blk_cell R4.out 1).trans rfl
 have z1 := blk_frozen R4.out 1
 rw [rounds_succ]
 go_wp2_with (fail)
 have N4 := Aside0.mk (show (W1.setCell ⟨g4, 1, none⟩ (.int .i64 (v / 256 % 16))).heap[g4]? = some (.cells #[.int .i64 (v % 256), .int .i64 (v / 256 % 16), .int .i64 (0), .int .i64 (0), .int .i64 (0)] 36 (0, 0)) from blk_set R4.out 1 _)
 have N3 := Aside0.mk (blk_far R3.out (p := ⟨g4, 1, none⟩) NE.out (.int .i64 (v / 256 % 16)))
 have NB := Aside0.mk (BB.out.setCell (p := ⟨g4, 1, none⟩) GW.out (.int .i64 (v / 256 % 16)))
 clear R4 R3 BB c1 z1
 have R4 := N4
 have R3 := N3
 have BB := NB
 clear N4 N3 NB
 generalize W1.setCell ⟨g4, 1, none⟩ (.int .i64 (v / 256 % 16)) = X0 at R4 R3 BB ⊢
 have c2 := (blk_cell R4.out 2).trans rfl
 have z2 := blk_frozen R4.out 2
 rw [rounds_succ]
 go_wp2_with (fail)
 have N4 := Aside0.mk (show (X0.setCell ⟨g4, 2, none⟩ (.int .i64 (v / 4096 % 16))).heap[g4]? = some (.cells #[.int .i64 (v % 256), .int .i64 (v / 256 % 16), .int .i64 (v / 4096 % 16), .int .i64 (0), .int .i64 (0)] 36 (0, 0)) from blk_set R4.out 2 _)
 have N3 := Aside0.mk (blk_far R3.out (p := ⟨g4, 2, none⟩) NE.out (.int .i64 (v / 4096 % 16)))
 have NB := Aside0.mk (BB.out.setCell (p := ⟨g4, 2, none⟩) GW.out (.int .i64 (v / 4096 % 16)))
 clear R4 R3 BB c2 z2
 have R4 := N4
 have R3 := N3
 have BB := NB
 clear N4 N3 NB
 generalize X0.setCell ⟨g4, 2, none⟩ (.int .i64 (v / 4096 % 16)) = X1 at R4 R3 BB ⊢
 rw [rounds_succ]
 go_wp2_with (fail)
 rw [rounds_succ]
 have c0 := (blk_cell R4.out 0).trans rfl
 have c4 := (blk_cell R4.out 4).trans rfl
 have z4 := blk_frozen R4.out 4
 go_upto_region 20 with (first | (go_at_call 37; refine (enc_far.calls _ _ _ (show enc_far.f 2 = some false from rfl)).mono ?_; rintro e Y ⟨rfl, hdn⟩; have DD := Aside0.mk (dn0_below hdn); have N4 := Aside0.mk (blk_below R4.out DD.out); have N3 := Aside0.mk (blk_below R3.out DD.out); have NB := Aside0.mk (BB.out.trans (DD.out.mono BB.out.size)); clear R4 R3 BB c0 c4 z4 hdn DD; have R4 := N4; have R3 := N3; have BB := NB; clear N4 N3 NB; have c0 := (blk_cell R4.out 0).trans rfl; have c4 := (blk_cell R4.out 4).trans rfl; have z4 := blk_frozen R4.out 4))
 clear c0
 have N4 := Aside0.mk (show (Y.setCell ⟨g4, 4, none⟩ (.int .i64 (wrap32 v / 65536))).heap[g4]? = some (.cells #[.int .i64 (v % 256), .int .i64 (v / 256 % 16), .int .i64 (v / 4096 % 16), .int .i64 (0), .int .i64 (wrap32 v / 65536)] 36 (0, 0)) from blk_set R4.out 4 _)
 have N3 := Aside0.mk (blk_far R3.out (p := ⟨g4, 4, none⟩) NE.out (.int .i64 (wrap32 v / 65536)))
 have NB := Aside0.mk (BB.out.setCell (p := ⟨g4, 4, none⟩) GW.out (.int .i64 (wrap32 v / 65536)))
 clear R4 R3 BB c4 z4
 have R4 := N4
 have R3 := N3
 have BB := NB
 clear N4 N3 NB
 generalize Y.setCell ⟨g4, 4, none⟩ (.int .i64 (wrap32 v / 65536)) = X9 at R4 R3 BB ⊢
 have c0 := (blk_cell R4.out 0).trans rfl
 have c1 := (blk_cell R4.out 1).trans rfl
 have c2 := (blk_cell R4.out 2).trans rfl
 have c3 := (blk_cell R4.out 3).trans rfl
 have c4 := (blk_cell R4.out 4).trans rfl
 clear s0 s1 s2 sw x6 x7 x0 x1 x2 i0 i1 i2
 go_upto_region 21 with (first | (go_at_call 26; refine (encode_2 _ _ _ _ _ _ (by have := HV.out; omega) HF.out (by omega) (by omega) (by omega) (by have := HV.out; (try unfold wrap32); omega)).mono ?_; rintro e Y2 ⟨rfl, hb⟩; rw [HE.out]; have N4 := Aside0.mk (blk_below R4.out hb); have N3 := Aside0.mk (blk_below R3.out hb); have NB := Aside0.mk (BB.out.trans (hb.mono BB.out.size)); clear R4 R3 BB c0 c1 c2 c3 c4 hb; have R4 := N4; have R3 := N3; have BB := NB; clear N4 N3 NB; have c0 := (blk_cell R4.out 0).trans rfl; have c1 := (blk_cell R4.out 1).trans rfl; have c2 := (blk_cell R4.out 2).trans rfl; have c3 := (blk_cell R4.out 3).trans rfl; have c4 := (blk_cell R4.out 4).trans rfl))
 by_cases hz : r1 = v
 ·have HZ := Aside0.mk hz
  go_wp2_with (first | (refine wpList_store_row rfl 36 _ _ rfl g2 _ rfl rfl 36 _ R3.out (by as_aux_lemma => kernel_rfl) (by as_aux_lemma => kernel_rfl) (by as_aux_lemma => kernel_rfl) ?_))
  (try simp only [Exit.inBlock, Exit.then])
  refine bodyPost_ret (results_cell2 (p := 2) (q := 3) (ty := 36) rfl _ _ _ _ ⟨g2, 0, none⟩ _ _ (by rfl) (run_loadVar_row _ g2 36 36 _ (0, 0) _ (setRow_heap _ _ _ _ _ _ R3.out) Try.underlying36 (by rfl) (by kernel_rfl)) (by rfl)) rfl ?_
  exact ⟨⟨fun _ => rfl, fun h => absurd HZ.out h⟩, below_setRow BB.out (by rw [hg2]; exact Nat.le_refl _) _⟩
 ·have HZ := Aside0.mk hz
  go_wp2_with (first | (refine wpList_store_row rfl 36 _ _ rfl g2 _ rfl rfl 36 _ R3.out (by as_aux_lemma => kernel_rfl) (by as_aux_lemma => kernel_rfl) (by as_aux_lemma => kernel_rfl) ?_))
  (try simp only [Exit.inBlock, Exit.then])
  refine bodyPost_ret (results_cell2 (p := 2) (q := 3) (ty := 36) rfl _ _ _ _ ⟨g2, 0, none⟩ _ _ (by rfl) (run_loadVar_row _ g2 36 36 _ (0, 0) _ (setRow_heap _ _ _ _ _ _ R3.out) Try.underlying36 (by rfl) (by kernel_rfl)) (by rfl)) rfl ?_
  exact ⟨⟨fun h => absurd h HZ.out, fun _ => rfl⟩, below_setRow BB.out (by rw [hg2]; exact Nat.le_refl _) _⟩
theorem decode_2y (w : World) (v : Int) (hv : 0 ≤ v ∧ v < 4294967296) (hf : enc_Form.f 20 (v % 256) = some 2) (he : encW false (v % 256) (v / 256 % 16) (v / 4096 % 16) (0) (wrap32 v / 65536) = v) :
  Calls Try.prog 25 #[.int .u32 v] w fun e w' => e = .returned (.tuple #[.agg #[.int .i64 (v % 256), .int .i64 (v / 256 % 16), .int .i64 (v / 4096 % 16), .int .i64 (0), .int .i64 (wrap32 v / 65536)], .int .i64 0]) ∧ Below w.heap.size w w' := (decode_2 w v hv hf).mono fun _ _ h => ⟨h.1.1 he, h.2⟩
theorem decode_2n (w : World) (v : Int) (hv : 0 ≤ v ∧ v < 4294967296) (hf : enc_Form.f 20 (v % 256) = some 2) (he : ¬ encW false (v % 256) (v / 256 % 16) (v / 4096 % 16) (0) (wrap32 v / 65536) = v) :
  Calls Try.prog 25 #[.int .u32 v] w fun e w' => e = .returned (.tuple #[.agg #[.int .i64 0, .int .i64 0, .int .i64 0, .int .i64 0, .int .i64 0], .int .i64 200]) ∧ Below w.heap.size w w' := (decode_2 w v hv hf).mono fun _ _ h => ⟨h.1.2 he, h.2⟩
set_option maxHeartbeats 4000000 in
set_option maxRecDepth 100000 in
theorem decode_3 (w : World) (v : Int) (hv : 0 ≤ v ∧ v < 4294967296) (hf : enc_Form.f 20 (v % 256) = some 3) :
  Calls Try.prog 25 #[.int .u32 v] w fun e w' => DecRes (encW false (v % 256) (v / 256 % 16) (0) (0) (wrap32 v / 65536) = v) (.agg #[.int .i64 (v % 256), .int .i64 (v / 256 % 16), .int .i64 (0), .int .i64 (0), .int .i64 (wrap32 v / 65536)]) e ∧ Below w.heap.size w w' := by
 have hA := and255 v hv.1 hv.2
 have HF := Aside0.mk hf
 have HV := Aside0.mk hv
 obtain ⟨r1, he⟩ : ∃ r1, encW false (v % 256) (v / 256 % 16) (0) (0) (wrap32 v / 65536) = r1 := ⟨_, rfl⟩
 rw [he]
 have HE := Aside0.mk he
 clear he
 have hw1 : IntKind.i64.wrap (v % 256) = v % 256 := IntWalk.i64_in _ (by omega)
 clear hf hv
 go_enter Try.func25, Try.ntmps25
 go_upto_region 2 with (fail)
 have R2 := Aside0.mk (show (w.alloc (.cells #[.int .i64 0, .int .i64 0, .int .i64 0, .int .i64 0, .int .i64 0] 36 (0, 0))).heap[w.heap.size]? = some (.cells #[.int .i64 0, .int .i64 0, .int .i64 0, .int .i64 0, .int .i64 0] 36 (0, 0)) from heap_at _ _ _ rfl)
 have R3 := Aside0.mk (blk_below R2.out (below_alloc (Below.refl _ _) (.cells #[.int .i64 (v % 256), .int .i64 0, .int .i64 0, .int .i64 0, .int .i64 0] 36 (0, 0))))
 have R4 := Aside0.mk (show ((w.alloc (.cells #[.int .i64 0, .int .i64 0, .int .i64 0, .int .i64 0, .int .i64 0] 36 (0, 0))).alloc (.cells #[.int .i64 (v % 256), .int .i64 0, .int .i64 0, .int .i64 0, .int .i64 0] 36 (0, 0))).heap[w.heap.size + 1]? = some (.cells #[.int .i64 (v % 256), .int .i64 0, .int .i64 0, .int .i64 0, .int .i64 0] 36 (0, 0)) from heap_at _ _ _ (by simp))
 have BB := Aside0.mk (show Below w.heap.size w ((w.alloc (.cells #[.int .i64 0, .int .i64 0, .int .i64 0, .int .i64 0, .int .i64 0] 36 (0, 0))).alloc (.cells #[.int .i64 (v % 256), .int .i64 0, .int .i64 0, .int .i64 0, .int .i64 0] 36 (0, 0))) by (repeat (first | (with_reducible exact Below.refl _ _) | (with_reducible assumption) | with_reducible apply below_alloc | with_reducible apply pw_below_drewN | with_reducible apply below_drew1)))
 have NE := Aside0.mk (show w.heap.size ≠ w.heap.size + 1 by omega)
 have GW := Aside0.mk (show w.heap.size ≤ w.heap.size + 1 by omega)
 clear R2
 generalize (w.alloc (.cells #[.int .i64 0, .int .i64 0, .int .i64 0, .int .i64 0, .int .i64 0] 36 (0, 0))).alloc (.cells #[.int .i64 (v % 256), .int .i64 0, .int .i64 0, .int .i64 0, .int .i64 0] 36 (0, 0)) = W0 at R3 R4 BB ⊢
 generalize hg4 : w.heap.size + 1 = g4 at R4 NE GW ⊢
 generalize hg2 : w.heap.size = g2 at R3 NE ⊢
 clear hA hw1 hg4
 have c0 := (blk_cell R4.out 0).trans rfl
 have s0 := (show bits .and .u32 (v / 256) 15 = v / 256 % 16 from and15 _ (by have := HV.out; omega) (by have := HV.out; omega))
 have s1 := (show bits .and .u32 (v / 4096) 15 = v / 4096 % 16 from and15 _ (by have := HV.out; omega) (by have := HV.out; omega))
 have s2 := (show bits .and .u32 (v / 65536) 15 = v / 65536 % 16 from and15 _ (by have := HV.out; omega) (by have := HV.out; omega))
 have sw := wrap3264 v
 have x6 : IntKind.i64.wrap (v / 256) = v / 256 := IntWalk.i64_in _ (by have := HV.out; omega)
 have x7 : IntKind.i64.wrap (v / 65536) = v / 65536 := IntWalk.i64_in _ (by have := HV.out; omega)
 go_wp2_with (first | (go_at_call 35; refine (enc_Form.calls 20 _ _ _ HF.out).mono ?_; rintro e w' ⟨rfl, ⟨nd, rfl⟩⟩) | (go_at_call 36; refine (enc_uses.calls _ _ _ _ _ (show enc_uses.f 3 = some (1, (-32768), 32767) from rfl)).mono ?_; rintro e w' ⟨rfl, ⟨ne, rfl⟩⟩; have DD := Aside0.mk (pm_chain (below_dN W0 nd) (below_dN (W0.drewN nd) ne)); have N4 := Aside0.mk (blk_below R4.out DD.out); have N3 := Aside0.mk (blk_below R3.out DD.out); have NB := Aside0.mk (BB.out.trans (DD.out.mono BB.out.size)); clear R4 R3 BB c0; have R4 := N4; have R3 := N3; have BB := NB; clear N4 N3 NB DD; generalize (W0.drewN nd).drewN ne = W1 at R4 R3 BB ⊢))
 have i0 := ix130_0 (.pointer (some ⟨g4, 1, none⟩)) (.pointer (some ⟨g4, 2, none⟩)) (.pointer (some ⟨g4, 3, none⟩))
 have i1 := ix130_1 (.pointer (some ⟨g4, 1, none⟩)) (.pointer (some ⟨g4, 2, none⟩)) (.pointer (some ⟨g4, 3, none⟩))
 have i2 := ix130_2 (.pointer (some ⟨g4, 1, none⟩)) (.pointer (some ⟨g4, 2, none⟩)) (.pointer (some ⟨g4, 3, none⟩))
 have x0 : IntKind.i64.wrap (v / 256 % 16) = v / 256 % 16 := IntWalk.i64_in _ (by omega)
 have x1 : IntKind.i64.wrap (v / 4096 % 16) = v / 4096 % 16 := IntWalk.i64_in _ (by omega)
 have x2 : IntKind.i64.wrap (v / 65536 % 16) = v / 65536 % 16 := IntWalk.i64_in _ (by omega)
 refine wp_loop_rounds 4 ?_
 have c1 := (blk_cell R4.out 1).trans rfl
 have z1 := blk_frozen R4.out 1
 rw [rounds_succ]
 go_wp2_with (fail)
 have N4 := Aside0.mk (show (W1.setCell ⟨g4, 1, none⟩ (.int .i64 (v / 256 % 16))).heap[g4]? = some (.cells #[.int .i64 (v % 256), .int .i64 (v / 256 % 16), .int .i64 (0), .int .i64 (0), .int .i64 (0)] 36 (0, 0)) from blk_set R4.out 1 _)
 have N3 := Aside0.mk (blk_far R3.out (p := ⟨g4, 1, none⟩) NE.out (.int .i64 (v / 256 % 16)))
 have NB := Aside0.mk (BB.out.setCell (p := ⟨g4, 1, none⟩) GW.out (.int .i64 (v / 256 % 16)))
 clear R4 R3 BB c1 z1
 have R4 := N4
 have R3 := N3
 have BB := NB
 clear N4 N3 NB
 generalize W1.setCell ⟨g4, 1, none⟩ (.int .i64 (v / 256 % 16)) = X0 at R4 R3 BB ⊢
 rw [rounds_succ]
 go_wp2_with (fail)
 rw [rounds_succ]
 go_wp2_with (fail)
 rw [rounds_succ]
 have c0 := (blk_cell R4.out 0).trans rfl
 have c4 := (blk_cell R4.out 4).trans rfl
 have z4 := blk_frozen R4.out 4
 go_upto_region 20 with (first | (go_at_call 37; refine (enc_far.calls _ _ _ (show enc_far.f 3 = some false from rfl)).mono ?_; rintro e Y ⟨rfl, hdn⟩; have DD := Aside0.mk (dn0_below hdn); have N4 := Aside0.mk (blk_below R4.out DD.out); have N3 := Aside0.mk (blk_below R3.out DD.out); have NB := Aside0.mk (BB.out.trans (DD.out.mono BB.out.size)); clear R4 R3 BB c0 c4 z4 hdn DD; have R4 := N4; have R3 := N3; have BB := NB; clear N4 N3 NB; have c0 := (blk_cell R4.out 0).trans rfl; have c4 := (blk_cell R4.out 4).trans rfl; have z4 := blk_frozen R4.out 4))
 clear c0
 have N4 := Aside0.mk (show (Y.setCell ⟨g4, 4, none⟩ (.int .i64 (wrap32 v / 65536))).heap[g4]? = some (.cells #[.int .i64 (v % 256), .int .i64 (v / 256 % 16), .int .i64 (0), .int .i64 (0), .int .i64 (wrap32 v / 65536)] 36 (0, 0)) from blk_set R4.out 4 _)
 have N3 := Aside0.mk (blk_far R3.out (p := ⟨g4, 4, none⟩) NE.out (.int .i64 (wrap32 v / 65536)))
 have NB := Aside0.mk (BB.out.setCell (p := ⟨g4, 4, none⟩) GW.out (.int .i64 (wrap32 v / 65536)))
 clear R4 R3 BB c4 z4
 have R4 := N4
 have R3 := N3
 have BB := NB
 clear N4 N3 NB
 generalize Y.setCell ⟨g4, 4, none⟩ (.int .i64 (wrap32 v / 65536)) = X9 at R4 R3 BB ⊢
 have c0 := (blk_cell R4.out 0).trans rfl
 have c1 := (blk_cell R4.out 1).trans rfl
 have c2 := (blk_cell R4.out 2).trans rfl
 have c3 := (blk_cell R4.out 3).trans rfl
 have c4 := (blk_cell R4.out 4).trans rfl
 clear s0 s1 s2 sw x6 x7 x0 x1 x2 i0 i1 i2
 go_upto_region 21 with (first | (go_at_call 26; refine (encode_3 _ _ _ _ _ _ (by have := HV.out; omega) HF.out (by omega) (by omega) (by omega) (by have := HV.out; (try unfold wrap32); omega)).mono ?_; rintro e Y2 ⟨rfl, hb⟩; rw [HE.out]; have N4 := Aside0.mk (blk_below R4.out hb); have N3 := Aside0.mk (blk_below R3.out hb); have NB := Aside0.mk (BB.out.trans (hb.mono BB.out.size)); clear R4 R3 BB c0 c1 c2 c3 c4 hb; have R4 := N4; have R3 := N3; have BB := NB; clear N4 N3 NB; have c0 := (blk_cell R4.out 0).trans rfl; have c1 := (blk_cell R4.out 1).trans rfl; have c2 := (blk_cell R4.out 2).trans rfl; have c3 := (blk_cell R4.out 3).trans rfl; have c4 := (blk_cell R4.out 4).trans rfl))
 by_cases hz : r1 = v
 ·have HZ := Aside0.mk hz
  go_wp2_with (first | (refine wpList_store_row rfl 36 _ _ rfl g2 _ rfl rfl 36 _ R3.out (by as_aux_lemma => kernel_rfl) (by as_aux_lemma => kernel_rfl) (by as_aux_lemma => kernel_rfl) ?_))
  (try simp only [Exit.inBlock, Exit.then])
  refine bodyPost_ret (results_cell2 (p := 2) (q := 3) (ty := 36) rfl _ _ _ _ ⟨g2, 0, none⟩ _ _ (by rfl) (run_loadVar_row _ g2 36 36 _ (0, 0) _ (setRow_heap _ _ _ _ _ _ R3.out) Try.underlying36 (by rfl) (by kernel_rfl)) (by rfl)) rfl ?_
  exact ⟨⟨fun _ => rfl, fun h => absurd HZ.out h⟩, below_setRow BB.out (by rw [hg2]; exact Nat.le_refl _) _⟩
 ·have HZ := Aside0.mk hz
  go_wp2_with (first | (refine wpList_store_row rfl 36 _ _ rfl g2 _ rfl rfl 36 _ R3.out (by as_aux_lemma => kernel_rfl) (by as_aux_lemma => kernel_rfl) (by as_aux_lemma => kernel_rfl) ?_))
  (try simp only [Exit.inBlock, Exit.then])
  refine bodyPost_ret (results_cell2 (p := 2) (q := 3) (ty := 36) rfl _ _ _ _ ⟨g2, 0, none⟩ _ _ (by rfl) (run_loadVar_row _ g2 36 36 _ (0, 0) _ (setRow_heap _ _ _ _ _ _ R3.out) Try.underlying36 (by rfl) (by kernel_rfl)) (by rfl)) rfl ?_
  exact ⟨⟨fun h => absurd h HZ.out, fun _ => rfl⟩, below_setRow BB.out (by rw [hg2]; exact Nat.le_refl _) _⟩
theorem decode_3y (w : World) (v : Int) (hv : 0 ≤ v ∧ v < 4294967296) (hf : enc_Form.f 20 (v % 256) = some 3) (he : encW false (v % 256) (v / 256 % 16) (0) (0) (wrap32 v / 65536) = v) :
  Calls Try.prog 25 #[.int .u32 v] w fun e w' => e = .returned (.tuple #[.agg #[.int .i64 (v % 256), .int .i64 (v / 256 % 16), .int .i64 (0), .int .i64 (0), .int .i64 (wrap32 v / 65536)], .int .i64 0]) ∧ Below w.heap.size w w' := (decode_3 w v hv hf).mono fun _ _ h => ⟨h.1.1 he, h.2⟩
theorem decode_3n (w : World) (v : Int) (hv : 0 ≤ v ∧ v < 4294967296) (hf : enc_Form.f 20 (v % 256) = some 3) (he : ¬ encW false (v % 256) (v / 256 % 16) (0) (0) (wrap32 v / 65536) = v) :
  Calls Try.prog 25 #[.int .u32 v] w fun e w' => e = .returned (.tuple #[.agg #[.int .i64 0, .int .i64 0, .int .i64 0, .int .i64 0, .int .i64 0], .int .i64 200]) ∧ Below w.heap.size w w' := (decode_3 w v hv hf).mono fun _ _ h => ⟨h.1.2 he, h.2⟩
set_option maxHeartbeats 4000000 in
set_option maxRecDepth 100000 in
theorem decode_4 (w : World) (v : Int) (hv : 0 ≤ v ∧ v < 4294967296) (hf : enc_Form.f 20 (v % 256) = some 4) :
  Calls Try.prog 25 #[.int .u32 v] w fun e w' => DecRes (encW false (v % 256) (v / 256 % 16) (0) (0) (v / 65536) = v) (.agg #[.int .i64 (v % 256), .int .i64 (v / 256 % 16), .int .i64 (0), .int .i64 (0), .int .i64 (v / 65536)]) e ∧ Below w.heap.size w w' := by
 have hA := and255 v hv.1 hv.2
 have HF := Aside0.mk hf
 have HV := Aside0.mk hv
 obtain ⟨r1, he⟩ : ∃ r1, encW false (v % 256) (v / 256 % 16) (0) (0) (v / 65536) = r1 := ⟨_, rfl⟩
 rw [he]
 have HE := Aside0.mk he
 clear he
 have hw1 : IntKind.i64.wrap (v % 256) = v % 256 := IntWalk.i64_in _ (by omega)
 clear hf hv
 go_enter Try.func25, Try.ntmps25
 go_upto_region 2 with (fail)
 have R2 := Aside0.mk (show (w.alloc (.cells #[.int .i64 0, .int .i64 0, .int .i64 0, .int .i64 0, .int .i64 0] 36 (0, 0))).heap[w.heap.size]? = some (.cells #[.int .i64 0, .int .i64 0, .int .i64 0, .int .i64 0, .int .i64 0] 36 (0, 0)) from heap_at _ _ _ rfl)
 have R3 := Aside0.mk (blk_below R2.out (below_alloc (Below.refl _ _) (.cells #[.int .i64 (v % 256), .int .i64 0, .int .i64 0, .int .i64 0, .int .i64 0] 36 (0, 0))))
 have R4 := Aside0.mk (show ((w.alloc (.cells #[.int .i64 0, .int .i64 0, .int .i64 0, .int .i64 0, .int .i64 0] 36 (0, 0))).alloc (.cells #[.int .i64 (v % 256), .int .i64 0, .int .i64 0, .int .i64 0, .int .i64 0] 36 (0, 0))).heap[w.heap.size + 1]? = some (.cells #[.int .i64 (v % 256), .int .i64 0, .int .i64 0, .int .i64 0, .int .i64 0] 36 (0, 0)) from heap_at _ _ _ (by simp))
 have BB := Aside0.mk (show Below w.heap.size w ((w.alloc (.cells #[.int .i64 0, .int .i64 0, .int .i64 0, .int .i64 0, .int .i64 0] 36 (0, 0))).alloc (.cells #[.int .i64 (v % 256), .int .i64 0, .int .i64 0, .int .i64 0, .int .i64 0] 36 (0, 0))) by (repeat (first | (with_reducible exact Below.refl _ _) | (with_reducible assumption) | with_reducible apply below_alloc | with_reducible apply pw_below_drewN | with_reducible apply below_drew1)))
 have NE := Aside0.mk (show w.heap.size ≠ w.heap.size + 1 by omega)
 have GW := Aside0.mk (show w.heap.size ≤ w.heap.size + 1 by omega)
 clear R2
 generalize (w.alloc (.cells #[.int .i64 0, .int .i64 0, .int .i64 0, .int .i64 0, .int .i64 0] 36 (0, 0))).alloc (.cells #[.int .i64 (v % 256), .int .i64 0, .int .i64 0, .int .i64 0, .int .i64 0] 36 (0, 0)) = W0 at R3 R4 BB ⊢
 generalize hg4 : w.heap.size + 1 = g4 at R4 NE GW ⊢
 generalize hg2 : w.heap.size = g2 at R3 NE ⊢
 clear hA hw1 hg4
 have c0 := (blk_cell R4.out 0).trans rfl
 have s0 := (show bits .and .u32 (v / 256) 15 = v / 256 % 16 from and15 _ (by have := HV.out; omega) (by have := HV.out; omega))
 have s1 := (show bits .and .u32 (v / 4096) 15 = v / 4096 % 16 from and15 _ (by have := HV.out; omega) (by have := HV.out; omega))
 have s2 := (show bits .and .u32 (v / 65536) 15 = v / 65536 % 16 from and15 _ (by have := HV.out; omega) (by have := HV.out; omega))
 have sw := wrap3264 v
 have x6 : IntKind.i64.wrap (v / 256) = v / 256 := IntWalk.i64_in _ (by have := HV.out; omega)
 have x7 : IntKind.i64.wrap (v / 65536) = v / 65536 := IntWalk.i64_in _ (by have := HV.out; omega)
 go_wp2_with (first | (go_at_call 35; refine (enc_Form.calls 20 _ _ _ HF.out).mono ?_; rintro e w' ⟨rfl, ⟨nd, rfl⟩⟩) | (go_at_call 36; refine (enc_uses.calls _ _ _ _ _ (show enc_uses.f 4 = some (1, (0), 65535) from rfl)).mono ?_; rintro e w' ⟨rfl, ⟨ne, rfl⟩⟩; have DD := Aside0.mk (pm_chain (below_dN W0 nd) (below_dN (W0.drewN nd) ne)); have N4 := Aside0.mk (blk_below R4.out DD.out); have N3 := Aside0.mk (blk_below R3.out DD.out); have NB := Aside0.mk (BB.out.trans (DD.out.mono BB.out.size)); clear R4 R3 BB c0; have R4 := N4; have R3 := N3; have BB := NB; clear N4 N3 NB DD; generalize (W0.drewN nd).drewN ne = W1 at R4 R3 BB ⊢))
 have i0 := ix130_0 (.pointer (some ⟨g4, 1, none⟩)) (.pointer (some ⟨g4, 2, none⟩)) (.pointer (some ⟨g4, 3, none⟩))
 have i1 := ix130_1 (.pointer (some ⟨g4, 1, none⟩)) (.pointer (some ⟨g4, 2, none⟩)) (.pointer (some ⟨g4, 3, none⟩))
 have i2 := ix130_2 (.pointer (some ⟨g4, 1, none⟩)) (.pointer (some ⟨g4, 2, none⟩)) (.pointer (some ⟨g4, 3, none⟩))
 have x0 : IntKind.i64.wrap (v / 256 % 16) = v / 256 % 16 := IntWalk.i64_in _ (by omega)
 have x1 : IntKind.i64.wrap (v / 4096 % 16) = v / 4096 % 16 := IntWalk.i64_in _ (by omega)
 have x2 : IntKind.i64.wrap (v / 65536 % 16) = v / 65536 % 16 := IntWalk.i64_in _ (by omega)
 refine wp_loop_rounds 4 ?_
 have c1 := (blk_cell R4.out 1).trans rfl
 have z1 := blk_frozen R4.out 1
 rw [rounds_succ]
 go_wp2_with (fail)
 have N4 := Aside0.mk (show (W1.setCell ⟨g4, 1, none⟩ (.int .i64 (v / 256 % 16))).heap[g4]? = some (.cells #[.int .i64 (v % 256), .int .i64 (v / 256 % 16), .int .i64 (0), .int .i64 (0), .int .i64 (0)] 36 (0, 0)) from blk_set R4.out 1 _)
 have N3 := Aside0.mk (blk_far R3.out (p := ⟨g4, 1, none⟩) NE.out (.int .i64 (v / 256 % 16)))
 have NB := Aside0.mk (BB.out.setCell (p := ⟨g4, 1, none⟩) GW.out (.int .i64 (v / 256 % 16)))
 clear R4 R3 BB c1 z1
 have R4 := N4
 have R3 := N3
 have BB := NB
 clear N4 N3 NB
 generalize W1.setCell ⟨g4, 1, none⟩ (.int .i64 (v / 256 % 16)) = X0 at R4 R3 BB ⊢
 rw [rounds_succ]
 go_wp2_with (fail)
 rw [rounds_succ]
 go_wp2_with (fail)
 rw [rounds_succ]
 have c0 := (blk_cell R4.out 0).trans rfl
 have c4 := (blk_cell R4.out 4).trans rfl
 have z4 := blk_frozen R4.out 4
 go_upto_region 20 with (first | (go_at_call 37; refine (enc_far.calls _ _ _ (show enc_far.f 4 = some false from rfl)).mono ?_; rintro e Y ⟨rfl, hdn⟩; have DD := Aside0.mk (dn0_below hdn); have N4 := Aside0.mk (blk_below R4.out DD.out); have N3 := Aside0.mk (blk_below R3.out DD.out); have NB := Aside0.mk (BB.out.trans (DD.out.mono BB.out.size)); clear R4 R3 BB c0 c4 z4 hdn DD; have R4 := N4; have R3 := N3; have BB := NB; clear N4 N3 NB; have c0 := (blk_cell R4.out 0).trans rfl; have c4 := (blk_cell R4.out 4).trans rfl; have z4 := blk_frozen R4.out 4))
 clear c0
 have N4 := Aside0.mk (show (Y.setCell ⟨g4, 4, none⟩ (.int .i64 (v / 65536))).heap[g4]? = some (.cells #[.int .i64 (v % 256), .int .i64 (v / 256 % 16), .int .i64 (0), .int .i64 (0), .int .i64 (v / 65536)] 36 (0, 0)) from blk_set R4.out 4 _)
 have N3 := Aside0.mk (blk_far R3.out (p := ⟨g4, 4, none⟩) NE.out (.int .i64 (v / 65536)))
 have NB := Aside0.mk (BB.out.setCell (p := ⟨g4, 4, none⟩) GW.out (.int .i64 (v / 65536)))
 clear R4 R3 BB c4 z4
 have R4 := N4
 have R3 := N3
 have BB := NB
 clear N4 N3 NB
 generalize Y.setCell ⟨g4, 4, none⟩ (.int .i64 (v / 65536)) = X9 at R4 R3 BB ⊢
 have c0 := (blk_cell R4.out 0).trans rfl
 have c1 := (blk_cell R4.out 1).trans rfl
 have c2 := (blk_cell R4.out 2).trans rfl
 have c3 := (blk_cell R4.out 3).trans rfl
 have c4 := (blk_cell R4.out 4).trans rfl
 clear s0 s1 s2 sw x6 x7 x0 x1 x2 i0 i1 i2
 go_upto_region 21 with (first | (go_at_call 26; refine (encode_4 _ _ _ _ _ _ (by have := HV.out; omega) HF.out (by omega) (by omega) (by omega) (by have := HV.out; (try unfold wrap32); omega)).mono ?_; rintro e Y2 ⟨rfl, hb⟩; rw [HE.out]; have N4 := Aside0.mk (blk_below R4.out hb); have N3 := Aside0.mk (blk_below R3.out hb); have NB := Aside0.mk (BB.out.trans (hb.mono BB.out.size)); clear R4 R3 BB c0 c1 c2 c3 c4 hb; have R4 := N4; have R3 := N3; have BB := NB; clear N4 N3 NB; have c0 := (blk_cell R4.out 0).trans rfl; have c1 := (blk_cell R4.out 1).trans rfl; have c2 := (blk_cell R4.out 2).trans rfl; have c3 := (blk_cell R4.out 3).trans rfl; have c4 := (blk_cell R4.out 4).trans rfl))
 by_cases hz : r1 = v
 ·have HZ := Aside0.mk hz
  go_wp2_with (first | (refine wpList_store_row rfl 36 _ _ rfl g2 _ rfl rfl 36 _ R3.out (by as_aux_lemma => kernel_rfl) (by as_aux_lemma => kernel_rfl) (by as_aux_lemma => kernel_rfl) ?_))
  (try simp only [Exit.inBlock, Exit.then])
  refine bodyPost_ret (results_cell2 (p := 2) (q := 3) (ty := 36) rfl _ _ _ _ ⟨g2, 0, none⟩ _ _ (by rfl) (run_loadVar_row _ g2 36 36 _ (0, 0) _ (setRow_heap _ _ _ _ _ _ R3.out) Try.underlying36 (by rfl) (by kernel_rfl)) (by rfl)) rfl ?_
  exact ⟨⟨fun _ => rfl, fun h => absurd HZ.out h⟩, below_setRow BB.out (by rw [hg2]; exact Nat.le_refl _) _⟩
 ·have HZ := Aside0.mk hz
  go_wp2_with (first | (refine wpList_store_row rfl 36 _ _ rfl g2 _ rfl rfl 36 _ R3.out (by as_aux_lemma => kernel_rfl) (by as_aux_lemma => kernel_rfl) (by as_aux_lemma => kernel_rfl) ?_))
  (try simp only [Exit.inBlock, Exit.then])
  refine bodyPost_ret (results_cell2 (p := 2) (q := 3) (ty := 36) rfl _ _ _ _ ⟨g2, 0, none⟩ _ _ (by rfl) (run_loadVar_row _ g2 36 36 _ (0, 0) _ (setRow_heap _ _ _ _ _ _ R3.out) Try.underlying36 (by rfl) (by kernel_rfl)) (by rfl)) rfl ?_
  exact ⟨⟨fun h => absurd h HZ.out, fun _ => rfl⟩, below_setRow BB.out (by rw [hg2]; exact Nat.le_refl _) _⟩
theorem decode_4y (w : World) (v : Int) (hv : 0 ≤ v ∧ v < 4294967296) (hf : enc_Form.f 20 (v % 256) = some 4) (he : encW false (v % 256) (v / 256 % 16) (0) (0) (v / 65536) = v) :
  Calls Try.prog 25 #[.int .u32 v] w fun e w' => e = .returned (.tuple #[.agg #[.int .i64 (v % 256), .int .i64 (v / 256 % 16), .int .i64 (0), .int .i64 (0), .int .i64 (v / 65536)], .int .i64 0]) ∧ Below w.heap.size w w' := (decode_4 w v hv hf).mono fun _ _ h => ⟨h.1.1 he, h.2⟩
theorem decode_4n (w : World) (v : Int) (hv : 0 ≤ v ∧ v < 4294967296) (hf : enc_Form.f 20 (v % 256) = some 4) (he : ¬ encW false (v % 256) (v / 256 % 16) (0) (0) (v / 65536) = v) :
  Calls Try.prog 25 #[.int .u32 v] w fun e w' => e = .returned (.tuple #[.agg #[.int .i64 0, .int .i64 0, .int .i64 0, .int .i64 0, .int .i64 0], .int .i64 200]) ∧ Below w.heap.size w w' := (decode_4 w v hv hf).mono fun _ _ h => ⟨h.1.2 he, h.2⟩
set_option maxHeartbeats 4000000 in
set_option maxRecDepth 100000 in
theorem decode_5 (w : World) (v : Int) (hv : 0 ≤ v ∧ v < 4294967296) (hf : enc_Form.f 20 (v % 256) = some 5) :
  Calls Try.prog 25 #[.int .u32 v] w fun e w' => DecRes (encW true (v % 256) (0) (0) (0) (wrap32 v / 256) = v) (.agg #[.int .i64 (v % 256), .int .i64 (0), .int .i64 (0), .int .i64 (0), .int .i64 (wrap32 v / 256)]) e ∧ Below w.heap.size w w' := by
 have hA := and255 v hv.1 hv.2
 have HF := Aside0.mk hf
 have HV := Aside0.mk hv
 obtain ⟨r1, he⟩ : ∃ r1, encW true (v % 256) (0) (0) (0) (wrap32 v / 256) = r1 := ⟨_, rfl⟩
 rw [he]
 have HE := Aside0.mk he
 clear he
 have hw1 : IntKind.i64.wrap (v % 256) = v % 256 := IntWalk.i64_in _ (by omega)
 clear hf hv
 go_enter Try.func25, Try.ntmps25
 go_upto_region 2 with (fail)
 have R2 := Aside0.mk (show (w.alloc (.cells #[.int .i64 0, .int .i64 0, .int .i64 0, .int .i64 0, .int .i64 0] 36 (0, 0))).heap[w.heap.size]? = some (.cells #[.int .i64 0, .int .i64 0, .int .i64 0, .int .i64 0, .int .i64 0] 36 (0, 0)) from heap_at _ _ _ rfl)
 have R3 := Aside0.mk (blk_below R2.out (below_alloc (Below.refl _ _) (.cells #[.int .i64 (v % 256), .int .i64 0, .int .i64 0, .int .i64 0, .int .i64 0] 36 (0, 0))))
 have R4 := Aside0.mk (show ((w.alloc (.cells #[.int .i64 0, .int .i64 0, .int .i64 0, .int .i64 0, .int .i64 0] 36 (0, 0))).alloc (.cells #[.int .i64 (v % 256), .int .i64 0, .int .i64 0, .int .i64 0, .int .i64 0] 36 (0, 0))).heap[w.heap.size + 1]? = some (.cells #[.int .i64 (v % 256), .int .i64 0, .int .i64 0, .int .i64 0, .int .i64 0] 36 (0, 0)) from heap_at _ _ _ (by simp))
 have BB := Aside0.mk (show Below w.heap.size w ((w.alloc (.cells #[.int .i64 0, .int .i64 0, .int .i64 0, .int .i64 0, .int .i64 0] 36 (0, 0))).alloc (.cells #[.int .i64 (v % 256), .int .i64 0, .int .i64 0, .int .i64 0, .int .i64 0] 36 (0, 0))) by (repeat (first | (with_reducible exact Below.refl _ _) | (with_reducible assumption) | with_reducible apply below_alloc | with_reducible apply pw_below_drewN | with_reducible apply below_drew1)))
 have NE := Aside0.mk (show w.heap.size ≠ w.heap.size + 1 by omega)
 have GW := Aside0.mk (show w.heap.size ≤ w.heap.size + 1 by omega)
 clear R2
 generalize (w.alloc (.cells #[.int .i64 0, .int .i64 0, .int .i64 0, .int .i64 0, .int .i64 0] 36 (0, 0))).alloc (.cells #[.int .i64 (v % 256), .int .i64 0, .int .i64 0, .int .i64 0, .int .i64 0] 36 (0, 0)) = W0 at R3 R4 BB ⊢
 generalize hg4 : w.heap.size + 1 = g4 at R4 NE GW ⊢
 generalize hg2 : w.heap.size = g2 at R3 NE ⊢
 clear hA hw1 hg4
 have c0 := (blk_cell R4.out 0).trans rfl
 have s0 := (show bits .and .u32 (v / 256) 15 = v / 256 % 16 from and15 _ (by have := HV.out; omega) (by have := HV.out; omega))
 have s1 := (show bits .and .u32 (v / 4096) 15 = v / 4096 % 16 from and15 _ (by have := HV.out; omega) (by have := HV.out; omega))
 have s2 := (show bits .and .u32 (v / 65536) 15 = v / 65536 % 16 from and15 _ (by have := HV.out; omega) (by have := HV.out; omega))
 have sw := wrap3264 v
 have x6 : IntKind.i64.wrap (v / 256) = v / 256 := IntWalk.i64_in _ (by have := HV.out; omega)
 have x7 : IntKind.i64.wrap (v / 65536) = v / 65536 := IntWalk.i64_in _ (by have := HV.out; omega)
 go_wp2_with (first | (go_at_call 35; refine (enc_Form.calls 20 _ _ _ HF.out).mono ?_; rintro e w' ⟨rfl, ⟨nd, rfl⟩⟩) | (go_at_call 36; refine (enc_uses.calls _ _ _ _ _ (show enc_uses.f 5 = some (0, (-8388608), 8388607) from rfl)).mono ?_; rintro e w' ⟨rfl, ⟨ne, rfl⟩⟩; have DD := Aside0.mk (pm_chain (below_dN W0 nd) (below_dN (W0.drewN nd) ne)); have N4 := Aside0.mk (blk_below R4.out DD.out); have N3 := Aside0.mk (blk_below R3.out DD.out); have NB := Aside0.mk (BB.out.trans (DD.out.mono BB.out.size)); clear R4 R3 BB c0; have R4 := N4; have R3 := N3; have BB := NB; clear N4 N3 NB DD; generalize (W0.drewN nd).drewN ne = W1 at R4 R3 BB ⊢))
 have i0 := ix130_0 (.pointer (some ⟨g4, 1, none⟩)) (.pointer (some ⟨g4, 2, none⟩)) (.pointer (some ⟨g4, 3, none⟩))
 have i1 := ix130_1 (.pointer (some ⟨g4, 1, none⟩)) (.pointer (some ⟨g4, 2, none⟩)) (.pointer (some ⟨g4, 3, none⟩))
 have i2 := ix130_2 (.pointer (some ⟨g4, 1, none⟩)) (.pointer (some ⟨g4, 2, none⟩)) (.pointer (some ⟨g4, 3, none⟩))
 have x0 : IntKind.i64.wrap (v / 256 % 16) = v / 256 % 16 := IntWalk.i64_in _ (by omega)
 have x1 : IntKind.i64.wrap (v / 4096 % 16) = v / 4096 % 16 := IntWalk.i64_in _ (by omega)
 have x2 : IntKind.i64.wrap (v / 65536 % 16) = v / 65536 % 16 := IntWalk.i64_in _ (by omega)
 refine wp_loop_rounds 4 ?_
 rw [rounds_succ]
 go_wp2_with (fail)
 rw [rounds_succ]
 go_wp2_with (fail)
 rw [rounds_succ]
 go_wp2_with (fail)
 rw [rounds_succ]
 have c0 := (blk_cell R4.out 0).trans rfl
 have c4 := (blk_cell R4.out 4).trans rfl
 have z4 := blk_frozen R4.out 4
 go_upto_region 20 with (first | (go_at_call 37; refine (enc_far.calls _ _ _ (show enc_far.f 5 = some true from rfl)).mono ?_; rintro e Y ⟨rfl, hdn⟩; have DD := Aside0.mk (dn0_below hdn); have N4 := Aside0.mk (blk_below R4.out DD.out); have N3 := Aside0.mk (blk_below R3.out DD.out); have NB := Aside0.mk (BB.out.trans (DD.out.mono BB.out.size)); clear R4 R3 BB c0 c4 z4 hdn DD; have R4 := N4; have R3 := N3; have BB := NB; clear N4 N3 NB; have c0 := (blk_cell R4.out 0).trans rfl; have c4 := (blk_cell R4.out 4).trans rfl; have z4 := blk_frozen R4.out 4))
 clear c0
 have N4 := Aside0.mk (show (Y.setCell ⟨g4, 4, none⟩ (.int .i64 (wrap32 v / 256))).heap[g4]? = some (.cells #[.int .i64 (v % 256), .int .i64 (0), .int .i64 (0), .int .i64 (0), .int .i64 (wrap32 v / 256)] 36 (0, 0)) from blk_set R4.out 4 _)
 have N3 := Aside0.mk (blk_far R3.out (p := ⟨g4, 4, none⟩) NE.out (.int .i64 (wrap32 v / 256)))
 have NB := Aside0.mk (BB.out.setCell (p := ⟨g4, 4, none⟩) GW.out (.int .i64 (wrap32 v / 256)))
 clear R4 R3 BB c4 z4
 have R4 := N4
 have R3 := N3
 have BB := NB
 clear N4 N3 NB
 generalize Y.setCell ⟨g4, 4, none⟩ (.int .i64 (wrap32 v / 256)) = X9 at R4 R3 BB ⊢
 have c0 := (blk_cell R4.out 0).trans rfl
 have c1 := (blk_cell R4.out 1).trans rfl
 have c2 := (blk_cell R4.out 2).trans rfl
 have c3 := (blk_cell R4.out 3).trans rfl
 have c4 := (blk_cell R4.out 4).trans rfl
 clear s0 s1 s2 sw x6 x7 x0 x1 x2 i0 i1 i2
 go_upto_region 21 with (first | (go_at_call 26; refine (encode_5 _ _ _ _ _ _ (by have := HV.out; omega) HF.out (by omega) (by omega) (by omega) (by have := HV.out; (try unfold wrap32); omega)).mono ?_; rintro e Y2 ⟨rfl, hb⟩; rw [HE.out]; have N4 := Aside0.mk (blk_below R4.out hb); have N3 := Aside0.mk (blk_below R3.out hb); have NB := Aside0.mk (BB.out.trans (hb.mono BB.out.size)); clear R4 R3 BB c0 c1 c2 c3 c4 hb; have R4 := N4; have R3 := N3; have BB := NB; clear N4 N3 NB; have c0 := (blk_cell R4.out 0).trans rfl; have c1 := (blk_cell R4.out 1).trans rfl; have c2 := (blk_cell R4.out 2).trans rfl; have c3 := (blk_cell R4.out 3).trans rfl; have c4 := (blk_cell R4.out 4).trans rfl))
 by_cases hz : r1 = v
 ·have HZ := Aside0.mk hz
  go_wp2_with (first | (refine wpList_store_row rfl 36 _ _ rfl g2 _ rfl rfl 36 _ R3.out (by as_aux_lemma => kernel_rfl) (by as_aux_lemma => kernel_rfl) (by as_aux_lemma => kernel_rfl) ?_))
  (try simp only [Exit.inBlock, Exit.then])
  refine bodyPost_ret (results_cell2 (p := 2) (q := 3) (ty := 36) rfl _ _ _ _ ⟨g2, 0, none⟩ _ _ (by rfl) (run_loadVar_row _ g2 36 36 _ (0, 0) _ (setRow_heap _ _ _ _ _ _ R3.out) Try.underlying36 (by rfl) (by kernel_rfl)) (by rfl)) rfl ?_
  exact ⟨⟨fun _ => rfl, fun h => absurd HZ.out h⟩, below_setRow BB.out (by rw [hg2]; exact Nat.le_refl _) _⟩
 ·have HZ := Aside0.mk hz
  go_wp2_with (first | (refine wpList_store_row rfl 36 _ _ rfl g2 _ rfl rfl 36 _ R3.out (by as_aux_lemma => kernel_rfl) (by as_aux_lemma => kernel_rfl) (by as_aux_lemma => kernel_rfl) ?_))
  (try simp only [Exit.inBlock, Exit.then])
  refine bodyPost_ret (results_cell2 (p := 2) (q := 3) (ty := 36) rfl _ _ _ _ ⟨g2, 0, none⟩ _ _ (by rfl) (run_loadVar_row _ g2 36 36 _ (0, 0) _ (setRow_heap _ _ _ _ _ _ R3.out) Try.underlying36 (by rfl) (by kernel_rfl)) (by rfl)) rfl ?_
  exact ⟨⟨fun h => absurd h HZ.out, fun _ => rfl⟩, below_setRow BB.out (by rw [hg2]; exact Nat.le_refl _) _⟩
theorem decode_5y (w : World) (v : Int) (hv : 0 ≤ v ∧ v < 4294967296) (hf : enc_Form.f 20 (v % 256) = some 5) (he : encW true (v % 256) (0) (0) (0) (wrap32 v / 256) = v) :
  Calls Try.prog 25 #[.int .u32 v] w fun e w' => e = .returned (.tuple #[.agg #[.int .i64 (v % 256), .int .i64 (0), .int .i64 (0), .int .i64 (0), .int .i64 (wrap32 v / 256)], .int .i64 0]) ∧ Below w.heap.size w w' := (decode_5 w v hv hf).mono fun _ _ h => ⟨h.1.1 he, h.2⟩
theorem decode_5n (w : World) (v : Int) (hv : 0 ≤ v ∧ v < 4294967296) (hf : enc_Form.f 20 (v % 256) = some 5) (he : ¬ encW true (v % 256) (0) (0) (0) (wrap32 v / 256) = v) :
  Calls Try.prog 25 #[.int .u32 v] w fun e w' => e = .returned (.tuple #[.agg #[.int .i64 0, .int .i64 0, .int .i64 0, .int .i64 0, .int .i64 0], .int .i64 200]) ∧ Below w.heap.size w w' := (decode_5 w v hv hf).mono fun _ _ h => ⟨h.1.2 he, h.2⟩
set_option maxHeartbeats 4000000 in
set_option maxRecDepth 100000 in
theorem decode_7 (w : World) (v : Int) (hv : 0 ≤ v ∧ v < 4294967296) (hf : enc_Form.f 20 (v % 256) = some 7) :
  Calls Try.prog 25 #[.int .u32 v] w fun e w' => DecRes (encW false (v % 256) (v / 256 % 16) (0) (0) (0) = v) (.agg #[.int .i64 (v % 256), .int .i64 (v / 256 % 16), .int .i64 (0), .int .i64 (0), .int .i64 (0)]) e ∧ Below w.heap.size w w' := by
 have hA := and255 v hv.1 hv.2
 have HF := Aside0.mk hf
 have HV := Aside0.mk hv
 obtain ⟨r1, he⟩ : ∃ r1, encW false (v % 256) (v / 256 % 16) (0) (0) (0) = r1 := ⟨_, rfl⟩
 rw [he]
 have HE := Aside0.mk he
 clear he
 have hw1 : IntKind.i64.wrap (v % 256) = v % 256 := IntWalk.i64_in _ (by omega)
 clear hf hv
 go_enter Try.func25, Try.ntmps25
 go_upto_region 2 with (fail)
 have R2 := Aside0.mk (show (w.alloc (.cells #[.int .i64 0, .int .i64 0, .int .i64 0, .int .i64 0, .int .i64 0] 36 (0, 0))).heap[w.heap.size]? = some (.cells #[.int .i64 0, .int .i64 0, .int .i64 0, .int .i64 0, .int .i64 0] 36 (0, 0)) from heap_at _ _ _ rfl)
 have R3 := Aside0.mk (blk_below R2.out (below_alloc (Below.refl _ _) (.cells #[.int .i64 (v % 256), .int .i64 0, .int .i64 0, .int .i64 0, .int .i64 0] 36 (0, 0))))
 have R4 := Aside0.mk (show ((w.alloc (.cells #[.int .i64 0, .int .i64 0, .int .i64 0, .int .i64 0, .int .i64 0] 36 (0, 0))).alloc (.cells #[.int .i64 (v % 256), .int .i64 0, .int .i64 0, .int .i64 0, .int .i64 0] 36 (0, 0))).heap[w.heap.size + 1]? = some (.cells #[.int .i64 (v % 256), .int .i64 0, .int .i64 0, .int .i64 0, .int .i64 0] 36 (0, 0)) from heap_at _ _ _ (by simp))
 have BB := Aside0.mk (show Below w.heap.size w ((w.alloc (.cells #[.int .i64 0, .int .i64 0, .int .i64 0, .int .i64 0, .int .i64 0] 36 (0, 0))).alloc (.cells #[.int .i64 (v % 256), .int .i64 0, .int .i64 0, .int .i64 0, .int .i64 0] 36 (0, 0))) by (repeat (first | (with_reducible exact Below.refl _ _) | (with_reducible assumption) | with_reducible apply below_alloc | with_reducible apply pw_below_drewN | with_reducible apply below_drew1)))
 have NE := Aside0.mk (show w.heap.size ≠ w.heap.size + 1 by omega)
 have GW := Aside0.mk (show w.heap.size ≤ w.heap.size + 1 by omega)
 clear R2
 generalize (w.alloc (.cells #[.int .i64 0, .int .i64 0, .int .i64 0, .int .i64 0, .int .i64 0] 36 (0, 0))).alloc (.cells #[.int .i64 (v % 256), .int .i64 0, .int .i64 0, .int .i64 0, .int .i64 0] 36 (0, 0)) = W0 at R3 R4 BB ⊢
 generalize hg4 : w.heap.size + 1 = g4 at R4 NE GW ⊢
 generalize hg2 : w.heap.size = g2 at R3 NE ⊢
 clear hA hw1 hg4
 have c0 := (blk_cell R4.out 0).trans rfl
 have s0 := (show bits .and .u32 (v / 256) 15 = v / 256 % 16 from and15 _ (by have := HV.out; omega) (by have := HV.out; omega))
 have s1 := (show bits .and .u32 (v / 4096) 15 = v / 4096 % 16 from and15 _ (by have := HV.out; omega) (by have := HV.out; omega))
 have s2 := (show bits .and .u32 (v / 65536) 15 = v / 65536 % 16 from and15 _ (by have := HV.out; omega) (by have := HV.out; omega))
 have sw := wrap3264 v
 have x6 : IntKind.i64.wrap (v / 256) = v / 256 := IntWalk.i64_in _ (by have := HV.out; omega)
 have x7 : IntKind.i64.wrap (v / 65536) = v / 65536 := IntWalk.i64_in _ (by have := HV.out; omega)
 go_wp2_with (first | (go_at_call 35; refine (enc_Form.calls 20 _ _ _ HF.out).mono ?_; rintro e w' ⟨rfl, ⟨nd, rfl⟩⟩) | (go_at_call 36; refine (enc_uses.calls _ _ _ _ _ (show enc_uses.f 7 = some (1, (0), 0) from rfl)).mono ?_; rintro e w' ⟨rfl, ⟨ne, rfl⟩⟩; have DD := Aside0.mk (pm_chain (below_dN W0 nd) (below_dN (W0.drewN nd) ne)); have N4 := Aside0.mk (blk_below R4.out DD.out); have N3 := Aside0.mk (blk_below R3.out DD.out); have NB := Aside0.mk (BB.out.trans (DD.out.mono BB.out.size)); clear R4 R3 BB c0; have R4 := N4; have R3 := N3; have BB := NB; clear N4 N3 NB DD; generalize (W0.drewN nd).drewN ne = W1 at R4 R3 BB ⊢))
 have i0 := ix130_0 (.pointer (some ⟨g4, 1, none⟩)) (.pointer (some ⟨g4, 2, none⟩)) (.pointer (some ⟨g4, 3, none⟩))
 have i1 := ix130_1 (.pointer (some ⟨g4, 1, none⟩)) (.pointer (some ⟨g4, 2, none⟩)) (.pointer (some ⟨g4, 3, none⟩))
 have i2 := ix130_2 (.pointer (some ⟨g4, 1, none⟩)) (.pointer (some ⟨g4, 2, none⟩)) (.pointer (some ⟨g4, 3, none⟩))
 have x0 : IntKind.i64.wrap (v / 256 % 16) = v / 256 % 16 := IntWalk.i64_in _ (by omega)
 have x1 : IntKind.i64.wrap (v / 4096 % 16) = v / 4096 % 16 := IntWalk.i64_in _ (by omega)
 have x2 : IntKind.i64.wrap (v / 65536 % 16) = v / 65536 % 16 := IntWalk.i64_in _ (by omega)
 refine wp_loop_rounds 4 ?_
 have c1 := (blk_cell R4.out 1).trans rfl
 have z1 := blk_frozen R4.out 1
 rw [rounds_succ]
 go_wp2_with (fail)
 have N4 := Aside0.mk (show (W1.setCell ⟨g4, 1, none⟩ (.int .i64 (v / 256 % 16))).heap[g4]? = some (.cells #[.int .i64 (v % 256), .int .i64 (v / 256 % 16), .int .i64 (0), .int .i64 (0), .int .i64 (0)] 36 (0, 0)) from blk_set R4.out 1 _)
 have N3 := Aside0.mk (blk_far R3.out (p := ⟨g4, 1, none⟩) NE.out (.int .i64 (v / 256 % 16)))
 have NB := Aside0.mk (BB.out.setCell (p := ⟨g4, 1, none⟩) GW.out (.int .i64 (v / 256 % 16)))
 clear R4 R3 BB c1 z1
 have R4 := N4
 have R3 := N3
 have BB := NB
 clear N4 N3 NB
 generalize W1.setCell ⟨g4, 1, none⟩ (.int .i64 (v / 256 % 16)) = X0 at R4 R3 BB ⊢
 rw [rounds_succ]
 go_wp2_with (fail)
 rw [rounds_succ]
 go_wp2_with (fail)
 rw [rounds_succ]
 have c0 := (blk_cell R4.out 0).trans rfl
 have c4 := (blk_cell R4.out 4).trans rfl
 have z4 := blk_frozen R4.out 4
 go_upto_region 20 with (first | (go_at_call 37; refine (enc_far.calls _ _ _ (show enc_far.f 7 = some false from rfl)).mono ?_; rintro e Y ⟨rfl, hdn⟩; have DD := Aside0.mk (dn0_below hdn); have N4 := Aside0.mk (blk_below R4.out DD.out); have N3 := Aside0.mk (blk_below R3.out DD.out); have NB := Aside0.mk (BB.out.trans (DD.out.mono BB.out.size)); clear R4 R3 BB c0 c4 z4 hdn DD; have R4 := N4; have R3 := N3; have BB := NB; clear N4 N3 NB; have c0 := (blk_cell R4.out 0).trans rfl; have c4 := (blk_cell R4.out 4).trans rfl; have z4 := blk_frozen R4.out 4))
 clear c0 c4 z4
 have c0 := (blk_cell R4.out 0).trans rfl
 have c1 := (blk_cell R4.out 1).trans rfl
 have c2 := (blk_cell R4.out 2).trans rfl
 have c3 := (blk_cell R4.out 3).trans rfl
 have c4 := (blk_cell R4.out 4).trans rfl
 clear s0 s1 s2 sw x6 x7 x0 x1 x2 i0 i1 i2
 go_upto_region 21 with (first | (go_at_call 26; refine (encode_7 _ _ _ _ _ _ (by have := HV.out; omega) HF.out (by omega) (by omega) (by omega) (by have := HV.out; (try unfold wrap32); omega)).mono ?_; rintro e Y2 ⟨rfl, hb⟩; rw [HE.out]; have N4 := Aside0.mk (blk_below R4.out hb); have N3 := Aside0.mk (blk_below R3.out hb); have NB := Aside0.mk (BB.out.trans (hb.mono BB.out.size)); clear R4 R3 BB c0 c1 c2 c3 c4 hb; have R4 := N4; have R3 := N3; have BB := NB; clear N4 N3 NB; have c0 := (blk_cell R4.out 0).trans rfl; have c1 := (blk_cell R4.out 1).trans rfl; have c2 := (blk_cell R4.out 2).trans rfl; have c3 := (blk_cell R4.out 3).trans rfl; have c4 := (blk_cell R4.out 4).trans rfl))
 by_cases hz : r1 = v
 ·have HZ := Aside0.mk hz
  go_wp2_with (first | (refine wpList_store_row rfl 36 _ _ rfl g2 _ rfl rfl 36 _ R3.out (by as_aux_lemma => kernel_rfl) (by as_aux_lemma => kernel_rfl) (by as_aux_lemma => kernel_rfl) ?_))
  (try simp only [Exit.inBlock, Exit.then])
  refine bodyPost_ret (results_cell2 (p := 2) (q := 3) (ty := 36) rfl _ _ _ _ ⟨g2, 0, none⟩ _ _ (by rfl) (run_loadVar_row _ g2 36 36 _ (0, 0) _ (setRow_heap _ _ _ _ _ _ R3.out) Try.underlying36 (by rfl) (by kernel_rfl)) (by rfl)) rfl ?_
  exact ⟨⟨fun _ => rfl, fun h => absurd HZ.out h⟩, below_setRow BB.out (by rw [hg2]; exact Nat.le_refl _) _⟩
 ·have HZ := Aside0.mk hz
  go_wp2_with (first | (refine wpList_store_row rfl 36 _ _ rfl g2 _ rfl rfl 36 _ R3.out (by as_aux_lemma => kernel_rfl) (by as_aux_lemma => kernel_rfl) (by as_aux_lemma => kernel_rfl) ?_))
  (try simp only [Exit.inBlock, Exit.then])
  refine bodyPost_ret (results_cell2 (p := 2) (q := 3) (ty := 36) rfl _ _ _ _ ⟨g2, 0, none⟩ _ _ (by rfl) (run_loadVar_row _ g2 36 36 _ (0, 0) _ (setRow_heap _ _ _ _ _ _ R3.out) Try.underlying36 (by rfl) (by kernel_rfl)) (by rfl)) rfl ?_
  exact ⟨⟨fun h => absurd h HZ.out, fun _ => rfl⟩, below_setRow BB.out (by rw [hg2]; exact Nat.le_refl _) _⟩
theorem decode_7y (w : World) (v : Int) (hv : 0 ≤ v ∧ v < 4294967296) (hf : enc_Form.f 20 (v % 256) = some 7) (he : encW false (v % 256) (v / 256 % 16) (0) (0) (0) = v) :
  Calls Try.prog 25 #[.int .u32 v] w fun e w' => e = .returned (.tuple #[.agg #[.int .i64 (v % 256), .int .i64 (v / 256 % 16), .int .i64 (0), .int .i64 (0), .int .i64 (0)], .int .i64 0]) ∧ Below w.heap.size w w' := (decode_7 w v hv hf).mono fun _ _ h => ⟨h.1.1 he, h.2⟩
theorem decode_7n (w : World) (v : Int) (hv : 0 ≤ v ∧ v < 4294967296) (hf : enc_Form.f 20 (v % 256) = some 7) (he : ¬ encW false (v % 256) (v / 256 % 16) (0) (0) (0) = v) :
  Calls Try.prog 25 #[.int .u32 v] w fun e w' => e = .returned (.tuple #[.agg #[.int .i64 0, .int .i64 0, .int .i64 0, .int .i64 0, .int .i64 0], .int .i64 200]) ∧ Below w.heap.size w w' := (decode_7 w v hv hf).mono fun _ _ h => ⟨h.1.2 he, h.2⟩
set_option maxHeartbeats 4000000 in
set_option maxRecDepth 100000 in
theorem decode_6 (w : World) (v : Int) (hv : 0 ≤ v ∧ v < 4294967296) (hf : enc_Form.f 20 (v % 256) = some 6) (h6 : v / 256 % 4 = 0) :
  Calls Try.prog 25 #[.int .u32 v] w fun e w' => DecRes (encW true (v % 256) (0) (0) (0) (v / 256) = v) (.agg #[.int .i64 (v % 256), .int .i64 (0), .int .i64 (0), .int .i64 (0), .int .i64 (v / 256)]) e ∧ Below w.heap.size w w' := by
 have hA := and255 v hv.1 hv.2
 have HF := Aside0.mk hf
 have HV := Aside0.mk hv
 obtain ⟨r1, he⟩ : ∃ r1, encW true (v % 256) (0) (0) (0) (v / 256) = r1 := ⟨_, rfl⟩
 rw [he]
 have HE := Aside0.mk he
 clear he
 have H6 := Aside0.mk h6
 clear h6
 have hw1 : IntKind.i64.wrap (v % 256) = v % 256 := IntWalk.i64_in _ (by omega)
 clear hf hv
 go_enter Try.func25, Try.ntmps25
 go_upto_region 2 with (fail)
 have R2 := Aside0.mk (show (w.alloc (.cells #[.int .i64 0, .int .i64 0, .int .i64 0, .int .i64 0, .int .i64 0] 36 (0, 0))).heap[w.heap.size]? = some (.cells #[.int .i64 0, .int .i64 0, .int .i64 0, .int .i64 0, .int .i64 0] 36 (0, 0)) from heap_at _ _ _ rfl)
 have R3 := Aside0.mk (blk_below R2.out (below_alloc (Below.refl _ _) (.cells #[.int .i64 (v % 256), .int .i64 0, .int .i64 0, .int .i64 0, .int .i64 0] 36 (0, 0))))
 have R4 := Aside0.mk (show ((w.alloc (.cells #[.int .i64 0, .int .i64 0, .int .i64 0, .int .i64 0, .int .i64 0] 36 (0, 0))).alloc (.cells #[.int .i64 (v % 256), .int .i64 0, .int .i64 0, .int .i64 0, .int .i64 0] 36 (0, 0))).heap[w.heap.size + 1]? = some (.cells #[.int .i64 (v % 256), .int .i64 0, .int .i64 0, .int .i64 0, .int .i64 0] 36 (0, 0)) from heap_at _ _ _ (by simp))
 have BB := Aside0.mk (show Below w.heap.size w ((w.alloc (.cells #[.int .i64 0, .int .i64 0, .int .i64 0, .int .i64 0, .int .i64 0] 36 (0, 0))).alloc (.cells #[.int .i64 (v % 256), .int .i64 0, .int .i64 0, .int .i64 0, .int .i64 0] 36 (0, 0))) by (repeat (first | (with_reducible exact Below.refl _ _) | (with_reducible assumption) | with_reducible apply below_alloc | with_reducible apply pw_below_drewN | with_reducible apply below_drew1)))
 have NE := Aside0.mk (show w.heap.size ≠ w.heap.size + 1 by omega)
 have GW := Aside0.mk (show w.heap.size ≤ w.heap.size + 1 by omega)
 clear R2
 generalize (w.alloc (.cells #[.int .i64 0, .int .i64 0, .int .i64 0, .int .i64 0, .int .i64 0] 36 (0, 0))).alloc (.cells #[.int .i64 (v % 256), .int .i64 0, .int .i64 0, .int .i64 0, .int .i64 0] 36 (0, 0)) = W0 at R3 R4 BB ⊢
 generalize hg4 : w.heap.size + 1 = g4 at R4 NE GW ⊢
 generalize hg2 : w.heap.size = g2 at R3 NE ⊢
 clear hA hw1 hg4
 have c0 := (blk_cell R4.out 0).trans rfl
 have s0 := (show bits .and .u32 (v / 256) 15 = v / 256 % 16 from and15 _ (by have := HV.out; omega) (by have := HV.out; omega))
 have s1 := (show bits .and .u32 (v / 4096) 15 = v / 4096 % 16 from and15 _ (by have := HV.out; omega) (by have := HV.out; omega))
 have s2 := (show bits .and .u32 (v / 65536) 15 = v / 65536 % 16 from and15 _ (by have := HV.out; omega) (by have := HV.out; omega))
 have sw := wrap3264 v
 have x6 : IntKind.i64.wrap (v / 256) = v / 256 := IntWalk.i64_in _ (by have := HV.out; omega)
 have x7 : IntKind.i64.wrap (v / 65536) = v / 65536 := IntWalk.i64_in _ (by have := HV.out; omega)
 go_wp2_with (first | (go_at_call 35; refine (enc_Form.calls 20 _ _ _ HF.out).mono ?_; rintro e w' ⟨rfl, ⟨nd, rfl⟩⟩) | (go_at_call 36; refine (enc_uses.calls _ _ _ _ _ (show enc_uses.f 6 = some (0, (0), 16777212) from rfl)).mono ?_; rintro e w' ⟨rfl, ⟨ne, rfl⟩⟩; have DD := Aside0.mk (pm_chain (below_dN W0 nd) (below_dN (W0.drewN nd) ne)); have N4 := Aside0.mk (blk_below R4.out DD.out); have N3 := Aside0.mk (blk_below R3.out DD.out); have NB := Aside0.mk (BB.out.trans (DD.out.mono BB.out.size)); clear R4 R3 BB c0; have R4 := N4; have R3 := N3; have BB := NB; clear N4 N3 NB DD; generalize (W0.drewN nd).drewN ne = W1 at R4 R3 BB ⊢))
 have i0 := ix130_0 (.pointer (some ⟨g4, 1, none⟩)) (.pointer (some ⟨g4, 2, none⟩)) (.pointer (some ⟨g4, 3, none⟩))
 have i1 := ix130_1 (.pointer (some ⟨g4, 1, none⟩)) (.pointer (some ⟨g4, 2, none⟩)) (.pointer (some ⟨g4, 3, none⟩))
 have i2 := ix130_2 (.pointer (some ⟨g4, 1, none⟩)) (.pointer (some ⟨g4, 2, none⟩)) (.pointer (some ⟨g4, 3, none⟩))
 have x0 : IntKind.i64.wrap (v / 256 % 16) = v / 256 % 16 := IntWalk.i64_in _ (by omega)
 have x1 : IntKind.i64.wrap (v / 4096 % 16) = v / 4096 % 16 := IntWalk.i64_in _ (by omega)
 have x2 : IntKind.i64.wrap (v / 65536 % 16) = v / 65536 % 16 := IntWalk.i64_in _ (by omega)
 refine wp_loop_rounds 4 ?_
 rw [rounds_succ]
 go_wp2_with (fail)
 rw [rounds_succ]
 go_wp2_with (fail)
 rw [rounds_succ]
 go_wp2_with (fail)
 rw [rounds_succ]
 have c0 := (blk_cell R4.out 0).trans rfl
 have c4 := (blk_cell R4.out 4).trans rfl
 have z4 := blk_frozen R4.out 4
 go_upto_region 20 with (first | (go_at_call 37; refine (enc_far.calls _ _ _ (show enc_far.f 6 = some true from rfl)).mono ?_; rintro e Y ⟨rfl, hdn⟩; have DD := Aside0.mk (dn0_below hdn); have N4 := Aside0.mk (blk_below R4.out DD.out); have N3 := Aside0.mk (blk_below R3.out DD.out); have NB := Aside0.mk (BB.out.trans (DD.out.mono BB.out.size)); clear R4 R3 BB c0 c4 z4 hdn DD; have R4 := N4; have R3 := N3; have BB := NB; clear N4 N3 NB; have c0 := (blk_cell R4.out 0).trans rfl; have c4 := (blk_cell R4.out 4).trans rfl; have z4 := blk_frozen R4.out 4))
 clear c0
 have N4 := Aside0.mk (show (Y.setCell ⟨g4, 4, none⟩ (.int .i64 (v / 256))).heap[g4]? = some (.cells #[.int .i64 (v % 256), .int .i64 (0), .int .i64 (0), .int .i64 (0), .int .i64 (v / 256)] 36 (0, 0)) from blk_set R4.out 4 _)
 have N3 := Aside0.mk (blk_far R3.out (p := ⟨g4, 4, none⟩) NE.out (.int .i64 (v / 256)))
 have NB := Aside0.mk (BB.out.setCell (p := ⟨g4, 4, none⟩) GW.out (.int .i64 (v / 256)))
 clear R4 R3 BB c4 z4
 have R4 := N4
 have R3 := N3
 have BB := NB
 clear N4 N3 NB
 generalize Y.setCell ⟨g4, 4, none⟩ (.int .i64 (v / 256)) = X9 at R4 R3 BB ⊢
 have c0 := (blk_cell R4.out 0).trans rfl
 have c1 := (blk_cell R4.out 1).trans rfl
 have c2 := (blk_cell R4.out 2).trans rfl
 have c3 := (blk_cell R4.out 3).trans rfl
 have c4 := (blk_cell R4.out 4).trans rfl
 clear s0 s1 s2 sw x6 x7 x0 x1 x2 i0 i1 i2
 go_upto_region 21 with (first | (go_at_call 26; refine (encode_6y _ _ _ _ _ _ (by have := HV.out; omega) HF.out (by omega) (by omega) (by omega) (by have := HV.out; have := H6.out; omega)).mono ?_; rintro e Y2 ⟨rfl, hb⟩; rw [HE.out]; have N4 := Aside0.mk (blk_below R4.out hb); have N3 := Aside0.mk (blk_below R3.out hb); have NB := Aside0.mk (BB.out.trans (hb.mono BB.out.size)); clear R4 R3 BB c0 c1 c2 c3 c4 hb; have R4 := N4; have R3 := N3; have BB := NB; clear N4 N3 NB; have c0 := (blk_cell R4.out 0).trans rfl; have c1 := (blk_cell R4.out 1).trans rfl; have c2 := (blk_cell R4.out 2).trans rfl; have c3 := (blk_cell R4.out 3).trans rfl; have c4 := (blk_cell R4.out 4).trans rfl))
 by_cases hz : r1 = v
 ·have HZ := Aside0.mk hz
  go_wp2_with (first | (refine wpList_store_row rfl 36 _ _ rfl g2 _ rfl rfl 36 _ R3.out (by as_aux_lemma => kernel_rfl) (by as_aux_lemma => kernel_rfl) (by as_aux_lemma => kernel_rfl) ?_))
  (try simp only [Exit.inBlock, Exit.then])
  refine bodyPost_ret (results_cell2 (p := 2) (q := 3) (ty := 36) rfl _ _ _ _ ⟨g2, 0, none⟩ _ _ (by rfl) (run_loadVar_row _ g2 36 36 _ (0, 0) _ (setRow_heap _ _ _ _ _ _ R3.out) Try.underlying36 (by rfl) (by kernel_rfl)) (by rfl)) rfl ?_
  exact ⟨⟨fun _ => rfl, fun h => absurd HZ.out h⟩, below_setRow BB.out (by rw [hg2]; exact Nat.le_refl _) _⟩
 ·have HZ := Aside0.mk hz
  go_wp2_with (first | (refine wpList_store_row rfl 36 _ _ rfl g2 _ rfl rfl 36 _ R3.out (by as_aux_lemma => kernel_rfl) (by as_aux_lemma => kernel_rfl) (by as_aux_lemma => kernel_rfl) ?_))
  (try simp only [Exit.inBlock, Exit.then])
  refine bodyPost_ret (results_cell2 (p := 2) (q := 3) (ty := 36) rfl _ _ _ _ ⟨g2, 0, none⟩ _ _ (by rfl) (run_loadVar_row _ g2 36 36 _ (0, 0) _ (setRow_heap _ _ _ _ _ _ R3.out) Try.underlying36 (by rfl) (by kernel_rfl)) (by rfl)) rfl ?_
  exact ⟨⟨fun h => absurd h HZ.out, fun _ => rfl⟩, below_setRow BB.out (by rw [hg2]; exact Nat.le_refl _) _⟩
theorem decode_6y (w : World) (v : Int) (hv : 0 ≤ v ∧ v < 4294967296) (hf : enc_Form.f 20 (v % 256) = some 6) (h6 : v / 256 % 4 = 0) (he : encW true (v % 256) (0) (0) (0) (v / 256) = v) :
  Calls Try.prog 25 #[.int .u32 v] w fun e w' => e = .returned (.tuple #[.agg #[.int .i64 (v % 256), .int .i64 (0), .int .i64 (0), .int .i64 (0), .int .i64 (v / 256)], .int .i64 0]) ∧ Below w.heap.size w w' := (decode_6 w v hv hf h6).mono fun _ _ h => ⟨h.1.1 he, h.2⟩
theorem decode_6z (w : World) (v : Int) (hv : 0 ≤ v ∧ v < 4294967296) (hf : enc_Form.f 20 (v % 256) = some 6) (h6 : v / 256 % 4 = 0) (he : ¬ encW true (v % 256) (0) (0) (0) (v / 256) = v) :
  Calls Try.prog 25 #[.int .u32 v] w fun e w' => e = .returned (.tuple #[.agg #[.int .i64 0, .int .i64 0, .int .i64 0, .int .i64 0, .int .i64 0], .int .i64 200]) ∧ Below w.heap.size w w' := (decode_6 w v hv hf h6).mono fun _ _ h => ⟨h.1.2 he, h.2⟩
set_option maxHeartbeats 4000000 in
set_option maxRecDepth 100000 in
theorem decode_6n (w : World) (v : Int) (hv : 0 ≤ v ∧ v < 4294967296) (hf : enc_Form.f 20 (v % 256) = some 6) (h6 : ¬ v / 256 % 4 = 0) :
  Calls Try.prog 25 #[.int .u32 v] w fun e w' => e = .returned (.tuple #[.agg #[.int .i64 0, .int .i64 0, .int .i64 0, .int .i64 0, .int .i64 0], .int .i64 200]) ∧ Below w.heap.size w w' := by
 have hA := and255 v hv.1 hv.2
 have HF := Aside0.mk hf
 have HV := Aside0.mk hv
 have H6 := Aside0.mk h6
 clear h6
 have hw1 : IntKind.i64.wrap (v % 256) = v % 256 := IntWalk.i64_in _ (by omega)
 clear hf hv
 go_enter Try.func25, Try.ntmps25
 go_upto_region 2 with (fail)
 have R2 := Aside0.mk (show (w.alloc (.cells #[.int .i64 0, .int .i64 0, .int .i64 0, .int .i64 0, .int .i64 0] 36 (0, 0))).heap[w.heap.size]? = some (.cells #[.int .i64 0, .int .i64 0, .int .i64 0, .int .i64 0, .int .i64 0] 36 (0, 0)) from heap_at _ _ _ rfl)
 have R3 := Aside0.mk (blk_below R2.out (below_alloc (Below.refl _ _) (.cells #[.int .i64 (v % 256), .int .i64 0, .int .i64 0, .int .i64 0, .int .i64 0] 36 (0, 0))))
 have R4 := Aside0.mk (show ((w.alloc (.cells #[.int .i64 0, .int .i64 0, .int .i64 0, .int .i64 0, .int .i64 0] 36 (0, 0))).alloc (.cells #[.int .i64 (v % 256), .int .i64 0, .int .i64 0, .int .i64 0, .int .i64 0] 36 (0, 0))).heap[w.heap.size + 1]? = some (.cells #[.int .i64 (v % 256), .int .i64 0, .int .i64 0, .int .i64 0, .int .i64 0] 36 (0, 0)) from heap_at _ _ _ (by simp))
 have BB := Aside0.mk (show Below w.heap.size w ((w.alloc (.cells #[.int .i64 0, .int .i64 0, .int .i64 0, .int .i64 0, .int .i64 0] 36 (0, 0))).alloc (.cells #[.int .i64 (v % 256), .int .i64 0, .int .i64 0, .int .i64 0, .int .i64 0] 36 (0, 0))) by (repeat (first | (with_reducible exact Below.refl _ _) | (with_reducible assumption) | with_reducible apply below_alloc | with_reducible apply pw_below_drewN | with_reducible apply below_drew1)))
 have NE := Aside0.mk (show w.heap.size ≠ w.heap.size + 1 by omega)
 have GW := Aside0.mk (show w.heap.size ≤ w.heap.size + 1 by omega)
 clear R2
 generalize (w.alloc (.cells #[.int .i64 0, .int .i64 0, .int .i64 0, .int .i64 0, .int .i64 0] 36 (0, 0))).alloc (.cells #[.int .i64 (v % 256), .int .i64 0, .int .i64 0, .int .i64 0, .int .i64 0] 36 (0, 0)) = W0 at R3 R4 BB ⊢
 generalize hg4 : w.heap.size + 1 = g4 at R4 NE GW ⊢
 generalize hg2 : w.heap.size = g2 at R3 NE ⊢
 clear hA hw1 hg4
 have c0 := (blk_cell R4.out 0).trans rfl
 have s0 := (show bits .and .u32 (v / 256) 15 = v / 256 % 16 from and15 _ (by have := HV.out; omega) (by have := HV.out; omega))
 have s1 := (show bits .and .u32 (v / 4096) 15 = v / 4096 % 16 from and15 _ (by have := HV.out; omega) (by have := HV.out; omega))
 have s2 := (show bits .and .u32 (v / 65536) 15 = v / 65536 % 16 from and15 _ (by have := HV.out; omega) (by have := HV.out; omega))
 have sw := wrap3264 v
 have x6 : IntKind.i64.wrap (v / 256) = v / 256 := IntWalk.i64_in _ (by have := HV.out; omega)
 have x7 : IntKind.i64.wrap (v / 65536) = v / 65536 := IntWalk.i64_in _ (by have := HV.out; omega)
 go_wp2_with (first | (go_at_call 35; refine (enc_Form.calls 20 _ _ _ HF.out).mono ?_; rintro e w' ⟨rfl, ⟨nd, rfl⟩⟩) | (go_at_call 36; refine (enc_uses.calls _ _ _ _ _ (show enc_uses.f 6 = some (0, (0), 16777212) from rfl)).mono ?_; rintro e w' ⟨rfl, ⟨ne, rfl⟩⟩; have DD := Aside0.mk (pm_chain (below_dN W0 nd) (below_dN (W0.drewN nd) ne)); have N4 := Aside0.mk (blk_below R4.out DD.out); have N3 := Aside0.mk (blk_below R3.out DD.out); have NB := Aside0.mk (BB.out.trans (DD.out.mono BB.out.size)); clear R4 R3 BB c0; have R4 := N4; have R3 := N3; have BB := NB; clear N4 N3 NB DD; generalize (W0.drewN nd).drewN ne = W1 at R4 R3 BB ⊢))
 have i0 := ix130_0 (.pointer (some ⟨g4, 1, none⟩)) (.pointer (some ⟨g4, 2, none⟩)) (.pointer (some ⟨g4, 3, none⟩))
 have i1 := ix130_1 (.pointer (some ⟨g4, 1, none⟩)) (.pointer (some ⟨g4, 2, none⟩)) (.pointer (some ⟨g4, 3, none⟩))
 have i2 := ix130_2 (.pointer (some ⟨g4, 1, none⟩)) (.pointer (some ⟨g4, 2, none⟩)) (.pointer (some ⟨g4, 3, none⟩))
 have x0 : IntKind.i64.wrap (v / 256 % 16) = v / 256 % 16 := IntWalk.i64_in _ (by omega)
 have x1 : IntKind.i64.wrap (v / 4096 % 16) = v / 4096 % 16 := IntWalk.i64_in _ (by omega)
 have x2 : IntKind.i64.wrap (v / 65536 % 16) = v / 65536 % 16 := IntWalk.i64_in _ (by omega)
 refine wp_loop_rounds 4 ?_
 rw [rounds_succ]
 go_wp2_with (fail)
 rw [rounds_succ]
 go_wp2_with (fail)
 rw [rounds_succ]
 go_wp2_with (fail)
 rw [rounds_succ]
 have c0 := (blk_cell R4.out 0).trans rfl
 have c4 := (blk_cell R4.out 4).trans rfl
 have z4 := blk_frozen R4.out 4
 go_upto_region 20 with (first | (go_at_call 37; refine (enc_far.calls _ _ _ (show enc_far.f 6 = some true from rfl)).mono ?_; rintro e Y ⟨rfl, hdn⟩; have DD := Aside0.mk (dn0_below hdn); have N4 := Aside0.mk (blk_below R4.out DD.out); have N3 := Aside0.mk (blk_below R3.out DD.out); have NB := Aside0.mk (BB.out.trans (DD.out.mono BB.out.size)); clear R4 R3 BB c0 c4 z4 hdn DD; have R4 := N4; have R3 := N3; have BB := NB; clear N4 N3 NB; have c0 := (blk_cell R4.out 0).trans rfl; have c4 := (blk_cell R4.out 4).trans rfl; have z4 := blk_frozen R4.out 4))
 clear c0
 have N4 := Aside0.mk (show (Y.setCell ⟨g4, 4, none⟩ (.int .i64 (v / 256))).heap[g4]? = some (.cells #[.int .i64 (v % 256), .int .i64 (0), .int .i64 (0), .int .i64 (0), .int .i64 (v / 256)] 36 (0, 0)) from blk_set R4.out 4 _)
 have N3 := Aside0.mk (blk_far R3.out (p := ⟨g4, 4, none⟩) NE.out (.int .i64 (v / 256)))
 have NB := Aside0.mk (BB.out.setCell (p := ⟨g4, 4, none⟩) GW.out (.int .i64 (v / 256)))
 clear R4 R3 BB c4 z4
 have R4 := N4
 have R3 := N3
 have BB := NB
 clear N4 N3 NB
 generalize Y.setCell ⟨g4, 4, none⟩ (.int .i64 (v / 256)) = X9 at R4 R3 BB ⊢
 have c0 := (blk_cell R4.out 0).trans rfl
 have c1 := (blk_cell R4.out 1).trans rfl
 have c2 := (blk_cell R4.out 2).trans rfl
 have c3 := (blk_cell R4.out 3).trans rfl
 have c4 := (blk_cell R4.out 4).trans rfl
 clear s0 s1 s2 sw x6 x7 x0 x1 x2 i0 i1 i2
 go_wp2_with (first | (go_at_call 26; refine (encode_6n _ _ _ _ _ _ HF.out (by omega) (by omega) (by omega) (by have := HV.out; have := H6.out; omega)).mono ?_; rintro e Y2 ⟨rfl, hb⟩; have N4 := Aside0.mk (blk_below R4.out hb); have N3 := Aside0.mk (blk_below R3.out hb); have NB := Aside0.mk (BB.out.trans (hb.mono BB.out.size)); clear R4 R3 BB c0 c1 c2 c3 c4 hb; have R4 := N4; have R3 := N3; have BB := NB; clear N4 N3 NB; have c0 := (blk_cell R4.out 0).trans rfl; have c1 := (blk_cell R4.out 1).trans rfl; have c2 := (blk_cell R4.out 2).trans rfl; have c3 := (blk_cell R4.out 3).trans rfl; have c4 := (blk_cell R4.out 4).trans rfl) | (refine wpList_store_row rfl 36 _ _ rfl g2 _ rfl rfl 36 _ R3.out (by as_aux_lemma => kernel_rfl) (by as_aux_lemma => kernel_rfl) (by as_aux_lemma => kernel_rfl) ?_))
 (try simp only [Exit.inBlock, Exit.then])
 refine bodyPost_ret (results_cell2 (p := 2) (q := 3) (ty := 36) rfl _ _ _ _ ⟨g2, 0, none⟩ _ _ (by rfl) (run_loadVar_row _ g2 36 36 _ (0, 0) _ (setRow_heap _ _ _ _ _ _ R3.out) Try.underlying36 (by rfl) (by kernel_rfl)) (by rfl)) rfl ?_
 exact ⟨rfl, below_setRow BB.out (by rw [hg2]; exact Nat.le_refl _) _⟩
end Go.Proofs.Ytejhnlljddjicaa.Ma
namespace Go.Proofs.Ytejhnlljddjicaa.Ma
open Go.RowKit Go.Proofs.Ytejhnlljddjicaa.PLk Go.Proofs.YtejhnlljddjicaaW.PrintWords Go.Proofs.YtejhnlljddjicaaW.PrintLast Go.Proofs.YtejhnlljddjicaaW.PrintMore Go.Proofs.Ytejhnlljddjicaa.La
set_option linter.unusedVariables false
set_option linter.unusedSimpArgs false
variable {w w' : World} {c pg : Nat} {ps ps' : Pages} {S S' : Cpu} {inp out inp' out' : List Int}
theorem form_cases (op : Int) : (enc_Form.f 20 op = some 0) ∨ (enc_Form.f 20 op = some 1 ∧ 1 ≤ op ∧ op ≤ 19) ∨ (enc_Form.f 20 op = some 2 ∧ ((33 ≤ op ∧ op ≤ 51) ∨ (80 ≤ op ∧ op ≤ 84) ∨ (88 ≤ op ∧ op ≤ 90))) ∨ (enc_Form.f 20 op = some 3 ∧ (op = 64 ∨ op = 97 ∨ op = 98)) ∨
  (enc_Form.f 20 op = some 4 ∧ op = 65) ∨ (enc_Form.f 20 op = some 5 ∧ (op = 96 ∨ op = 99)) ∨ (enc_Form.f 20 op = some 6 ∧ (op = 104 ∨ op = 105)) ∨ (enc_Form.f 20 op = some 7 ∧ (op = 100 ∨ op = 112 ∨ op = 113 ∨ op = 114)) := by
 by_cases h1 : 1 ≤ op ∧ op ≤ 19
 ·exact .inr (.inl ⟨form1 op h1, h1⟩)
 ·by_cases h2 : (33 ≤ op ∧ op ≤ 51) ∨ (80 ≤ op ∧ op ≤ 84) ∨ (88 ≤ op ∧ op ≤ 90)
  ·exact .inr (.inr (.inl ⟨form2 op h2, h2⟩))
  ·by_cases h3 : op = 64 ∨ op = 97 ∨ op = 98
   ·exact .inr (.inr (.inr (.inl ⟨by rcases h3 with rfl | rfl | rfl <;> rfl, h3⟩)))
   ·by_cases h4 : op = 65
    ·exact .inr (.inr (.inr (.inr (.inl ⟨by subst h4; rfl, h4⟩))))
    ·by_cases h5 : op = 96 ∨ op = 99
     ·exact .inr (.inr (.inr (.inr (.inr (.inl ⟨by rcases h5 with rfl | rfl <;> rfl, h5⟩)))))
     ·by_cases h6 : op = 104 ∨ op = 105
      ·exact .inr (.inr (.inr (.inr (.inr (.inr (.inl ⟨by rcases h6 with rfl | rfl <;> rfl, h6⟩))))))
      ·by_cases h7 : op = 100 ∨ op = 112 ∨ op = 113 ∨ op = 114
       ·exact .inr (.inr (.inr (.inr (.inr (.inr (.inr ⟨by rcases h7 with rfl | rfl | rfl | rfl <;> rfl, h7⟩))))))
       ·refine .inl ?_
        unfold enc_Form.f
        simp only [enc_Form.j0, enc_Form.j1, enc_Form.j2, enc_Form.j3, enc_Form.j4, enc_Form.j5, enc_Form.j6]
        have f1 : 1 ≤ op → 19 < op := by omega
        have f2 : 32 < op → 51 < op := by omega
        have f3 : 80 ≤ op → 84 < op := by omega
        have f4 : 88 ≤ op → 90 < op := by omega
        simp only [not_or] at h3 h5 h6 h7
        obtain ⟨g1, g2, g3⟩ := h3
        obtain ⟨g4, g5⟩ := h5
        obtain ⟨g6, g7⟩ := h6
        obtain ⟨g8, g9, g10, g11⟩ := h7
        clear h1 h2
        have e1 : (op == 64) = false := by simpa using g1
        have e2 : (op == 97) = false := by simpa using g2
        have e3 : (op == 98) = false := by simpa using g3
        have e4 : (op == 96) = false := by simpa using g4
        have e5 : (op == 99) = false := by simpa using g5
        have e6 : (op == 104) = false := by simpa using g6
        have e7 : (op == 105) = false := by simpa using g7
        simp only [if_neg g1, if_neg g2, if_neg g4, if_neg g6, if_neg g8, if_neg g9, if_neg g10, if_neg g11, if_neg h4, e1, e2, e3, e4, e5, e6, e7, Bool.false_eq_true, if_false]
        by_cases a1 : op ≥ 1
        ·have := f1 a1
         rw [if_pos a1, if_neg (by simp; omega)]
         by_cases a2 : op > 32
         ·have := f2 a2
          rw [if_pos a2, if_neg (by simp; omega)]
          by_cases a3 : op ≥ 80
          ·have := f3 a3
           rw [if_pos a3, if_neg (by simp; omega)]
           by_cases a4 : op ≥ 88
           ·rw [if_pos a4, if_neg (by omega)]
           ·rw [if_neg a4]
          ·rw [if_neg a3, if_neg (by omega)]
         ·rw [if_neg a2, if_neg (by omega)]; simp; omega
        ·rw [if_neg a1, if_neg (by omega), if_neg (by omega)]; simp; omega
/-- The fields of a word. -/
def fieldsOf (k v : Int) : I5 := ⟨v % 256, if k = 1 ∨ k = 2 ∨ k = 3 ∨ k = 4 ∨ k = 7 then (v / 256 % 16).toNat else 0, if k = 1 ∨ k = 2 then (v / 4096 % 16).toNat else 0, if k = 1 then (v / 65536 % 16).toNat else 0,
 if k = 2 ∨ k = 3 then wrap32 v / 65536 else if k = 4 then v / 65536 else if k = 5 then wrap32 v / 256 else if k = 6 then v / 256 else 0⟩
/-- The instruction that a word is. -/
def decF (v : Int) : Option I5 :=
 match enc_Form.f 20 (v % 256) with
 | none => none
 | some k => if k = 0 then none else if k = 6 ∧ ¬ v / 256 % 4 = 0 then none else if encW (decide (k = 5 ∨ k = 6)) (v % 256) (fieldsOf k v).a (fieldsOf k v).b (fieldsOf k v).c (fieldsOf k v).imm = v then some (fieldsOf k v) else none
theorem dec_is1 (v : Int) (hv : 0 ≤ v ∧ v < 4294967296) (hf : enc_Form.f 20 (v % 256) = some 1) : decF v = if encW false (v % 256) (v / 256 % 16) (v / 4096 % 16) (v / 65536 % 16) (0) = v then some ⟨v % 256, (v / 256 % 16).toNat, (v / 4096 % 16).toNat, (v / 65536 % 16).toNat, 0⟩ else none := by
 have ea : ((v / 256 % 16).toNat : Int) = v / 256 % 16 := Int.toNat_of_nonneg (by omega)
 have eb : ((v / 4096 % 16).toNat : Int) = v / 4096 % 16 := Int.toNat_of_nonneg (by omega)
 have ed : ((v / 65536 % 16).toNat : Int) = v / 65536 % 16 := Int.toNat_of_nonneg (by omega)
 unfold decF
 rw [hf]
 simp [fieldsOf, ea, eb, ed]
theorem dec_is2 (v : Int) (hv : 0 ≤ v ∧ v < 4294967296) (hf : enc_Form.f 20 (v % 256) = some 2) : decF v = if encW false (v % 256) (v / 256 % 16) (v / 4096 % 16) 0 (wrap32 v / 65536) = v then some ⟨v % 256, (v / 256 % 16).toNat, (v / 4096 % 16).toNat, 0, wrap32 v / 65536⟩ else none := by
 have ea : ((v / 256 % 16).toNat : Int) = v / 256 % 16 := Int.toNat_of_nonneg (by omega)
 have eb : ((v / 4096 % 16).toNat : Int) = v / 4096 % 16 := Int.toNat_of_nonneg (by omega)
 have ed : ((v / 65536 % 16).toNat : Int) = v / 65536 % 16 := Int.toNat_of_nonneg (by omega)
 unfold decF
 rw [hf]
 simp [fieldsOf, ea, eb, ed]
theorem dec_is3 (v : Int) (hv : 0 ≤ v ∧ v < 4294967296) (hf : enc_Form.f 20 (v % 256) = some 3) : decF v = if encW false (v % 256) (v / 256 % 16) 0 0 (wrap32 v / 65536) = v then some ⟨v % 256, (v / 256 % 16).toNat, 0, 0, wrap32 v / 65536⟩ else none := by
 have ea : ((v / 256 % 16).toNat : Int) = v / 256 % 16 := Int.toNat_of_nonneg (by omega)
 have eb : ((v / 4096 % 16).toNat : Int) = v / 4096 % 16 := Int.toNat_of_nonneg (by omega)
 have ed : ((v / 65536 % 16).toNat : Int) = v / 65536 % 16 := Int.toNat_of_nonneg (by omega)
 unfold decF
 rw [hf]
 simp [fieldsOf, ea, eb, ed]
theorem dec_is4 (v : Int) (hv : 0 ≤ v ∧ v < 4294967296) (hf : enc_Form.f 20 (v % 256) = some 4) : decF v = if encW false (v % 256) (v / 256 % 16) 0 0 (v / 65536) = v then some ⟨v % 256, (v / 256 % 16).toNat, 0, 0, v / 65536⟩ else none := by
 have ea : ((v / 256 % 16).toNat : Int) = v / 256 % 16 := Int.toNat_of_nonneg (by omega)
 have eb : ((v / 4096 % 16).toNat : Int) = v / 4096 % 16 := Int.toNat_of_nonneg (by omega)
 have ed : ((v / 65536 % 16).toNat : Int) = v / 65536 % 16 := Int.toNat_of_nonneg (by omega)
 unfold decF
 rw [hf]
 simp [fieldsOf, ea, eb, ed]
theorem dec_is5 (v : Int) (hv : 0 ≤ v ∧ v < 4294967296) (hf : enc_Form.f 20 (v % 256) = some 5) : decF v = if encW true (v % 256) 0 0 0 (wrap32 v / 256) = v then some ⟨v % 256, 0, 0, 0, wrap32 v / 256⟩ else none := by
 have ea : ((v / 256 % 16).toNat : Int) = v / 256 % 16 := Int.toNat_of_nonneg (by omega)
 have eb : ((v / 4096 % 16).toNat : Int) = v / 4096 % 16 := Int.toNat_of_nonneg (by omega)
 have ed : ((v / 65536 % 16).toNat : Int) = v / 65536 % 16 := Int.toNat_of_nonneg (by omega)
 unfold decF
 rw [hf]
 simp [fieldsOf, ea, eb, ed]
theorem dec_is6 (v : Int) (hv : 0 ≤ v ∧ v < 4294967296) (hf : enc_Form.f 20 (v % 256) = some 6) : decF v = if ¬ v / 256 % 4 = 0 then none else if encW true (v % 256) 0 0 0 (v / 256) = v then some ⟨v % 256, 0, 0, 0, v / 256⟩ else none := by
 have ea : ((v / 256 % 16).toNat : Int) = v / 256 % 16 := Int.toNat_of_nonneg (by omega)
 have eb : ((v / 4096 % 16).toNat : Int) = v / 4096 % 16 := Int.toNat_of_nonneg (by omega)
 have ed : ((v / 65536 % 16).toNat : Int) = v / 65536 % 16 := Int.toNat_of_nonneg (by omega)
 unfold decF
 rw [hf]
 simp [fieldsOf, ea, eb, ed]
theorem dec_is7 (v : Int) (hv : 0 ≤ v ∧ v < 4294967296) (hf : enc_Form.f 20 (v % 256) = some 7) : decF v = if encW false (v % 256) (v / 256 % 16) 0 0 (0) = v then some ⟨v % 256, (v / 256 % 16).toNat, 0, 0, 0⟩ else none := by
 have ea : ((v / 256 % 16).toNat : Int) = v / 256 % 16 := Int.toNat_of_nonneg (by omega)
 have eb : ((v / 4096 % 16).toNat : Int) = v / 4096 % 16 := Int.toNat_of_nonneg (by omega)
 have ed : ((v / 65536 % 16).toNat : Int) = v / 65536 % 16 := Int.toNat_of_nonneg (by omega)
 unfold decF
 rw [hf]
 simp [fieldsOf, ea, eb, ed]
end Go.Proofs.Ytejhnlljddjicaa.Ma
namespace Go.Proofs.Ytejhnlljddjicaa.Ma
open Go.RowKit Go.Proofs.Ytejhnlljddjicaa.PLk Go.Proofs.YtejhnlljddjicaaW.PrintWords Go.Proofs.YtejhnlljddjicaaW.PrintLast Go.Proofs.YtejhnlljddjicaaW.PrintMore Go.Proofs.Ytejhnlljddjicaa.La
set_option linter.unusedVariables false
set_option linter.unusedSimpArgs false
variable {w w' : World} {c pg : Nat} {ps ps' : Pages} {S S' : Cpu} {inp out inp' out' : List Int}
set_option maxHeartbeats 4000000 in
set_option maxRecDepth 100000 in
theorem decode_0 (w : World) (v : Int) (hv : 0 ≤ v ∧ v < 4294967296) (hf : enc_Form.f 20 (v % 256) = some 0) :
  Calls Try.prog 25 #[.int .u32 v] w fun e w' => e = .returned (.tuple #[.agg #[.int .i64 0, .int .i64 0, .int .i64 0, .int .i64 0, .int .i64 0], .int .i64 200]) ∧ Below w.heap.size w w' := by
 have hA := and255 v hv.1 hv.2
 have HF := Aside0.mk hf
 have HV := Aside0.mk hv
 have hw1 : IntKind.i64.wrap (v % 256) = v % 256 := IntWalk.i64_in _ (by omega)
 clear hf hv
 go_enter Try.func25, Try.ntmps25
 go_upto_region 2 with (fail)
 have R2 := Aside0.mk (show (w.alloc (.cells #[.int .i64 0, .int .i64 0, .int .i64 0, .int .i64 0, .int .i64 0] 36 (0, 0))).heap[w.heap.size]? = some (.cells #[.int .i64 0, .int .i64 0, .int .i64 0, .int .i64 0, .int .i64 0] 36 (0, 0)) from heap_at _ _ _ rfl)
 have R3 := Aside0.mk (blk_below R2.out (below_alloc (Below.refl _ _) (.cells #[.int .i64 (v % 256), .int .i64 0, .int .i64 0, .int .i64 0, .int .i64 0] 36 (0, 0))))
 have R4 := Aside0.mk (show ((w.alloc (.cells #[.int .i64 0, .int .i64 0, .int .i64 0, .int .i64 0, .int .i64 0] 36 (0, 0))).alloc (.cells #[.int .i64 (v % 256), .int .i64 0, .int .i64 0, .int .i64 0, .int .i64 0] 36 (0, 0))).heap[w.heap.size + 1]? = some (.cells #[.int .i64 (v % 256), .int .i64 0, .int .i64 0, .int .i64 0, .int .i64 0] 36 (0, 0)) from heap_at _ _ _ (by simp))
 have BB := Aside0.mk (show Below w.heap.size w ((w.alloc (.cells #[.int .i64 0, .int .i64 0, .int .i64 0, .int .i64 0, .int .i64 0] 36 (0, 0))).alloc (.cells #[.int .i64 (v % 256), .int .i64 0, .int .i64 0, .int .i64 0, .int .i64 0] 36 (0, 0))) by (repeat (first | (with_reducible exact Below.refl _ _) | (with_reducible assumption) | with_reducible apply below_alloc | with_reducible apply pw_below_drewN | with_reducible apply below_drew1)))
 clear R2
 generalize (w.alloc (.cells #[.int .i64 0, .int .i64 0, .int .i64 0, .int .i64 0, .int .i64 0] 36 (0, 0))).alloc (.cells #[.int .i64 (v % 256), .int .i64 0, .int .i64 0, .int .i64 0, .int .i64 0] 36 (0, 0)) = W0 at R3 R4 BB ⊢
 generalize hg4 : w.heap.size + 1 = g4 at R4 ⊢
 generalize hg2 : w.heap.size = g2 at R3 ⊢
 clear hA hw1 hg4
 have c0 := (blk_cell R4.out 0).trans rfl
 go_wp2_with (first | (go_at_call 35; refine (enc_Form.calls 20 _ _ _ HF.out).mono ?_; rintro e Y ⟨rfl, hdn⟩; have DD := Aside0.mk (dn0_below hdn); have N3 := Aside0.mk (blk_below R3.out DD.out); have NB := Aside0.mk (BB.out.trans (DD.out.mono BB.out.size)); clear R4 R3 BB c0 hdn DD; have R3 := N3; have BB := NB; clear N3 NB) | (refine wpList_store_row rfl 36 _ _ rfl g2 _ rfl rfl 36 _ R3.out (by as_aux_lemma => kernel_rfl) (by as_aux_lemma => kernel_rfl) (by as_aux_lemma => kernel_rfl) ?_))
 (try simp only [Exit.inBlock, Exit.then])
 refine bodyPost_ret (results_cell2 (p := 2) (q := 3) (ty := 36) rfl _ _ _ _ ⟨g2, 0, none⟩ _ _ (by rfl) (run_loadVar_row _ g2 36 36 _ (0, 0) _ (setRow_heap _ _ _ _ _ _ R3.out) Try.underlying36 (by rfl) (by kernel_rfl)) (by rfl)) rfl ?_
 exact ⟨rfl, below_setRow BB.out (by rw [hg2]; exact Nat.le_refl _) _⟩
theorem dec_is0 (v : Int) (hf : enc_Form.f 20 (v % 256) = some 0) : decF v = none := by unfold decF; rw [hf]; rfl
/-- Decode: a word that is an instruction. -/
theorem decode_yes (w : World) (v : Int) (hv : 0 ≤ v ∧ v < 4294967296) {x : I5} (hx : decF v = some x) :
  Calls Try.prog 25 #[.int .u32 v] w fun e w' => e = .returned (.tuple #[x.enc, .int .i64 0]) ∧ Below w.heap.size w w' := by
 have ea : ((v / 256 % 16).toNat : Int) = v / 256 % 16 := Int.toNat_of_nonneg (by omega)
 have eb : ((v / 4096 % 16).toNat : Int) = v / 4096 % 16 := Int.toNat_of_nonneg (by omega)
 have ed : ((v / 65536 % 16).toNat : Int) = v / 65536 % 16 := Int.toNat_of_nonneg (by omega)
 obtain h0 | ⟨h1, k1⟩ | ⟨h2, k2⟩ | ⟨h3, k3⟩ | ⟨h4, k4⟩ | ⟨h5, k5⟩ | ⟨h6, k6⟩ | ⟨h7, k7⟩ := form_cases (v % 256)
 ·rw [dec_is0 v h0] at hx; cases hx
 ·rw [dec_is1 v hv h1] at hx
  split at hx
  ·next he =>
   injection hx with hx
   rw [← hx]
   refine (decode_1y w v hv h1 he).mono ?_
   rintro e w' ⟨rfl, hb⟩
   exact ⟨by simp [I5.enc, ea, eb, ed], hb⟩
  ·cases hx
 ·rw [dec_is2 v hv h2] at hx
  split at hx
  ·next he =>
   injection hx with hx
   rw [← hx]
   refine (decode_2y w v hv h2 he).mono ?_
   rintro e w' ⟨rfl, hb⟩
   exact ⟨by simp [I5.enc, ea, eb, ed], hb⟩
  ·cases hx
 ·rw [dec_is3 v hv h3] at hx
  split at hx
  ·next he =>
   injection hx with hx
   rw [← hx]
   refine (decode_3y w v hv h3 he).mono ?_
   rintro e w' ⟨rfl, hb⟩
   exact ⟨by simp [I5.enc, ea, eb, ed], hb⟩
  ·cases hx
 ·rw [dec_is4 v hv h4] at hx
  split at hx
  ·next he =>
   injection hx with hx
   rw [← hx]
   refine (decode_4y w v hv h4 he).mono ?_
   rintro e w' ⟨rfl, hb⟩
   exact ⟨by simp [I5.enc, ea, eb, ed], hb⟩
  ·cases hx
 ·rw [dec_is5 v hv h5] at hx
  split at hx
  ·next he =>
   injection hx with hx
   rw [← hx]
   refine (decode_5y w v hv h5 he).mono ?_
   rintro e w' ⟨rfl, hb⟩
   exact ⟨by simp [I5.enc, ea, eb, ed], hb⟩
  ·cases hx
 ·rw [dec_is6 v hv h6] at hx
  split at hx
  ·cases hx
  ·next h4 =>
   split at hx
   ·next he =>
    injection hx with hx
    rw [← hx]
    have h4' : v / 256 % 4 = 0 := by simpa using h4
    refine (decode_6y w v hv h6 h4' he).mono ?_
    rintro e w' ⟨rfl, hb⟩
    exact ⟨by simp [I5.enc, ea, eb, ed], hb⟩
   ·cases hx
 ·rw [dec_is7 v hv h7] at hx
  split at hx
  ·next he =>
   injection hx with hx
   rw [← hx]
   refine (decode_7y w v hv h7 he).mono ?_
   rintro e w' ⟨rfl, hb⟩
   exact ⟨by simp [I5.enc, ea, eb, ed], hb⟩
  ·cases hx
/-- Decode: a word that is none. -/
theorem decode_no (w : World) (v : Int) (hv : 0 ≤ v ∧ v < 4294967296) (hx : decF v = none) :
  Calls Try.prog 25 #[.int .u32 v] w fun e w' => e = .returned (.tuple #[.agg #[.int .i64 0, .int .i64 0, .int .i64 0, .int .i64 0, .int .i64 0], .int .i64 200]) ∧ Below w.heap.size w w' := by
 obtain h0 | ⟨h1, k1⟩ | ⟨h2, k2⟩ | ⟨h3, k3⟩ | ⟨h4, k4⟩ | ⟨h5, k5⟩ | ⟨h6, k6⟩ | ⟨h7, k7⟩ := form_cases (v % 256)
 ·exact decode_0 w v hv h0
 ·rw [dec_is1 v hv h1] at hx
  split at hx
  ·cases hx
  ·next he => exact decode_1n w v hv h1 he
 ·rw [dec_is2 v hv h2] at hx
  split at hx
  ·cases hx
  ·next he => exact decode_2n w v hv h2 he
 ·rw [dec_is3 v hv h3] at hx
  split at hx
  ·cases hx
  ·next he => exact decode_3n w v hv h3 he
 ·rw [dec_is4 v hv h4] at hx
  split at hx
  ·cases hx
  ·next he => exact decode_4n w v hv h4 he
 ·rw [dec_is5 v hv h5] at hx
  split at hx
  ·cases hx
  ·next he => exact decode_5n w v hv h5 he
 ·rw [dec_is6 v hv h6] at hx
  split at hx
  ·next h4 => exact decode_6n w v hv h6 h4
  ·next h4 =>
   split at hx
   ·cases hx
   ·next he => exact decode_6z w v hv h6 (by simpa using h4) he
 ·rw [dec_is7 v hv h7] at hx
  split at hx
  ·cases hx
  ·next he => exact decode_7n w v hv h7 he
/-- What Decode answers is in its bounds. -/
structure Okay (x : I5) : Prop where
 a : x.a < 16
 b : x.b < 16
 c : x.c < 16
 imm : -8388608 ≤ x.imm ∧ x.imm ≤ 16777216
 far : 96 ≤ x.op → x.op ≤ 99 → x.imm ≤ 8388607
 op : (1 ≤ x.op ∧ x.op ≤ 19) ∨ (33 ≤ x.op ∧ x.op ≤ 51) ∨ ((80 ≤ x.op ∧ x.op ≤ 84) ∨ (88 ≤ x.op ∧ x.op ≤ 90)) ∨ x.op = 64 ∨ x.op = 65 ∨ x.op = 96 ∨ x.op = 97 ∨ x.op = 98 ∨ x.op = 99 ∨ x.op = 100 ∨ x.op = 104 ∨ x.op = 105 ∨ x.op = 112 ∨ x.op = 113 ∨ x.op = 114
theorem dec_op {v : Int} {x : I5} (hv : 0 ≤ v ∧ v < 4294967296) (hx : decF v = some x) : x.op = v % 256 ∧ Okay x := by
 have ea : (v / 256 % 16).toNat < 16 := by omega
 have eb : (v / 4096 % 16).toNat < 16 := by omega
 have ed : (v / 65536 % 16).toNat < 16 := by omega
 have w1 : -2147483648 ≤ wrap32 v ∧ wrap32 v ≤ 2147483647 := by unfold wrap32; omega
 obtain h0 | ⟨h1, k1⟩ | ⟨h2, k2⟩ | ⟨h3, k3⟩ | ⟨h4, k4⟩ | ⟨h5, k5⟩ | ⟨h6, k6⟩ | ⟨h7, k7⟩ := form_cases (v % 256)
 ·rw [dec_is0 v h0] at hx; cases hx
 ·rw [dec_is1 v hv h1] at hx
  split at hx
  ·injection hx with hx
   rw [← hx]
   exact ⟨rfl, by first | exact ea | exact (by decide : (0 : Nat) < 16), by first | exact eb | exact (by decide : (0 : Nat) < 16), by first | exact ed | exact (by decide : (0 : Nat) < 16), by show _ ∧ _; simp only; omega, by intro a b; simp only at a b ⊢; omega, by simp only; omega⟩
  ·cases hx
 ·rw [dec_is2 v hv h2] at hx
  split at hx
  ·injection hx with hx
   rw [← hx]
   exact ⟨rfl, by first | exact ea | exact (by decide : (0 : Nat) < 16), by first | exact eb | exact (by decide : (0 : Nat) < 16), by first | exact ed | exact (by decide : (0 : Nat) < 16), by show _ ∧ _; simp only; omega, by intro a b; simp only at a b ⊢; omega, by simp only; omega⟩
  ·cases hx
 ·rw [dec_is3 v hv h3] at hx
  split at hx
  ·injection hx with hx
   rw [← hx]
   exact ⟨rfl, by first | exact ea | exact (by decide : (0 : Nat) < 16), by first | exact eb | exact (by decide : (0 : Nat) < 16), by first | exact ed | exact (by decide : (0 : Nat) < 16), by show _ ∧ _; simp only; omega, by intro a b; simp only at a b ⊢; omega, by simp only; omega⟩
  ·cases hx
 ·rw [dec_is4 v hv h4] at hx
  split at hx
  ·injection hx with hx
   rw [← hx]
   exact ⟨rfl, by first | exact ea | exact (by decide : (0 : Nat) < 16), by first | exact eb | exact (by decide : (0 : Nat) < 16), by first | exact ed | exact (by decide : (0 : Nat) < 16), by show _ ∧ _; simp only; omega, by intro a b; simp only at a b ⊢; omega, by simp only; omega⟩
  ·cases hx
 ·rw [dec_is5 v hv h5] at hx
  split at hx
  ·injection hx with hx
   rw [← hx]
   exact ⟨rfl, by first | exact ea | exact (by decide : (0 : Nat) < 16), by first | exact eb | exact (by decide : (0 : Nat) < 16), by first | exact ed | exact (by decide : (0 : Nat) < 16), by show _ ∧ _; simp only; omega, by intro a b; simp only at a b ⊢; omega, by simp only; omega⟩
  ·cases hx
 ·rw [dec_is6 v hv h6] at hx
  split at hx
  ·cases hx
  ·split at hx
   ·injection hx with hx
    rw [← hx]
    exact ⟨rfl, by first | exact ea | exact (by decide : (0 : Nat) < 16), by first | exact eb | exact (by decide : (0 : Nat) < 16), by first | exact ed | exact (by decide : (0 : Nat) < 16), by show _ ∧ _; simp only; omega, by intro a b; simp only at a b ⊢; omega, by simp only; omega⟩
   ·cases hx
 ·rw [dec_is7 v hv h7] at hx
  split at hx
  ·injection hx with hx
   rw [← hx]
   exact ⟨rfl, by first | exact ea | exact (by decide : (0 : Nat) < 16), by first | exact eb | exact (by decide : (0 : Nat) < 16), by first | exact ed | exact (by decide : (0 : Nat) < 16), by show _ ∧ _; simp only; omega, by intro a b; simp only at a b ⊢; omega, by simp only; omega⟩
  ·cases hx
end Go.Proofs.Ytejhnlljddjicaa.Ma
