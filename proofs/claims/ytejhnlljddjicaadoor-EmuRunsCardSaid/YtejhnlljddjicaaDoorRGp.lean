/- The document's machine: do joined, Step. No condition beyond those each theorem names. And more of the kind: 2 texts in one. -/
import Derived.Test.YtejhnlljddjicaaDoorRGo
import Derived.Test.YtejhnlljddjicaaDoorRGl
namespace Go.Proofs.YtejhnlljddjicaaDoor.Ma
open Go.RowKit Go.Proofs.YtejhnlljddjicaaDoor.PEm Go.Proofs.YtejhnlljddjicaaDoorW.PrintWords Go.Proofs.YtejhnlljddjicaaDoorW.PrintLast Go.Proofs.YtejhnlljddjicaaDoorW.PrintMore Go.Proofs.YtejhnlljddjicaaDoor.La
set_option linter.unusedVariables false
set_option linter.unusedSimpArgs false
variable {fx : Value × Int} {w w' : World} {c pg : Nat} {ps ps' : Pages} {S S' : Cpu} {inp out inp' out' : List Int}
set_option maxHeartbeats 4000000 in
set_option maxRecDepth 100000 in
theorem xother_calls (h : XM w c pg fx ps S inp out) (x : I5) (hx : (x.op = 64 ∨ x.op = 65 ∨ x.op = 96 ∨ x.op = 97 ∨ x.op = 98 ∨ x.op = 99 ∨ x.op = 100 ∨ x.op = 104 ∨ x.op = 105 ∨ x.op = 112 ∨ x.op = 113 ∨ x.op = 114)) (ha : x.a < 16) (hb : x.b < 16) (hd : x.c < 16) (hi : -8388608 ≤ x.imm ∧ x.imm ≤ 16777216) (im : Int) (him : x.imm % 4294967296 = im) (hin : ∀ v ∈ inp, 0 ≤ v ∧ v < 256) (hout : out.length + 1 ≤ 140737488355328) :
    Calls Tryd.prog 56 #[.pointer (some ⟨c, 0, none⟩), x.enc, .int .u32 im] w fun e w' => e = .returned (.tuple #[]) ∧ Xdone (endM (doM (byteAt ps) S x inp out)) w w' c pg fx ps S := by
  rcases hx with e | e | e | e | e | e | e | e | e | e | e | e
  · exact xother_64 h x e ha hb hd hi im him
  · exact xother_65 h x e ha hb hd hi im him
  · exact xother_96 h x e ha hb hd hi im him
  · by_cases z : regV S x.a = 0
    · exact xother_97y h x e ha hb hd hi im him z
    · exact xother_97n h x e ha hb hd hi im him z
  · by_cases z : regV S x.a = 0
    · exact xother_98n h x e ha hb hd hi im him z
    · exact xother_98y h x e ha hb hd hi im him z
  · exact xother_99 h x e ha hb hd hi im him
  · exact xother_100 h x e ha hb hd hi im him
  · by_cases z : regV S 15 < im
    · exact xother_104a h x e ha hb hd hi im him z
    · by_cases y : regV S 15 - im < 4194304
      · exact xother_104b h x e ha hb hd hi im him ⟨z, y⟩
      · exact xother_104c h x e ha hb hd hi im him ⟨z, y⟩
  · exact xother_105 h x e ha hb hd hi im him
  · exact xother_112 h x e ha hb hd hi im him hout
  · cases inp with
    | nil => exact xother_113n h x e ha hb hd hi im him rfl
    | cons v rest => exact xother_113c h x e ha hb hd hi im him rfl (hin v List.mem_cons_self)
  · exact xother_114 h x e ha hb hd hi im him
theorem width_oth (op : Int) (hx : op = 64 ∨ op = 65 ∨ op = 96 ∨ op = 97 ∨ op = 98 ∨ op = 99 ∨ op = 100 ∨ op = 104 ∨ op = 105 ∨ op = 112 ∨ op = 113 ∨ op = 114) : mortiseref21_width.f 20 op = some (0, false) := by
  rcases hx with rfl | rfl | rfl | rfl | rfl | rfl | rfl | rfl | rfl | rfl | rfl | rfl <;> rfl
set_option maxHeartbeats 4000000 in
set_option maxRecDepth 100000 in
theorem xdo_oth (h : XM w c pg fx ps S inp out) (x : I5) (hx : (x.op = 64 ∨ x.op = 65 ∨ x.op = 96 ∨ x.op = 97 ∨ x.op = 98 ∨ x.op = 99 ∨ x.op = 100 ∨ x.op = 104 ∨ x.op = 105 ∨ x.op = 112 ∨ x.op = 113 ∨ x.op = 114)) (ha : x.a < 16) (hb : x.b < 16) (hd : x.c < 16) (hi : -8388608 ≤ x.imm ∧ x.imm ≤ 16777216) (hin : ∀ v ∈ inp, 0 ≤ v ∧ v < 256) (hout : out.length + 1 ≤ 140737488355328) :
    Calls Tryd.prog 33 #[.pointer (some ⟨c, 0, none⟩), x.enc] w fun e w' => e = .returned (.tuple #[]) ∧ Xdone (endM (doM (byteAt ps) S x inp out)) w w' c pg fx ps S := by
  obtain ⟨im, him⟩ : ∃ im, x.imm % 4294967296 = im := ⟨_, rfl⟩
  have HOF := Aside0.mk (show mortiseref01_Of.f x.imm = some im by rw [refOf, him])
  have HW := Aside0.mk (width_oth x.op hx)
  have HC := Aside0.mk (fun (W : World) (hW : XM W c pg fx ps S inp out) => xother_calls hW x hx ha hb hd hi im him hin hout)
  have hop1 : 51 < x.op := by omega
  have hop0 : 19 < x.op := by omega
  have H := Aside0.mk h
  obtain ⟨r, hr⟩ : ∃ r, endM (doM (byteAt ps) S x inp out) = r := ⟨_, rfl⟩
  rw [hr] at HC ⊢
  clear hx ha hb hd hi hin hout hr him
  obtain ⟨op, a, b, d, imm⟩ := x
  unfold I5.enc at *
  simp only at HOF HW HC hop1 hop0 ⊢
  have B0 := Aside0.mk (show Below w.heap.size w (w.alloc (.cells #[.int .i64 op, .int .i64 a, .int .i64 b, .int .i64 d, .int .i64 imm] 67)) from below_alloc (Below.refl _ _) _)
  have R5 := Aside0.mk (show (w.alloc (.cells #[.int .i64 op, .int .i64 a, .int .i64 b, .int .i64 d, .int .i64 imm] 67)).heap[w.heap.size]? = some (.cells #[.int .i64 op, .int .i64 a, .int .i64 b, .int .i64 d, .int .i64 imm] 67 (0, 0)) from heap_at _ _ _ rfl)
  clear h
  go_enter Tryd.func33, Tryd.ntmps33
  go_upto_region 1 with (fail)
  generalize (w.alloc (.cells #[.int .i64 op, .int .i64 a, .int .i64 b, .int .i64 d, .int .i64 imm] 67)) = W0 at R5 B0 ⊢
  generalize hg3 : w.heap.size = g3 at R5 ⊢
  clear hg3
  have c0 := (blk_cell R5.out 0).trans rfl
  have c4 := (blk_cell R5.out 4).trans rfl
  go_upto_region 5 with (first | (go_at_call 51; refine (mortiseref01_Of.calls imm _ _ HOF.out).mono ?_; rintro e Y1 ⟨rfl, hd1⟩; have BY := Aside0.mk (dn0_below hd1); have c0 := (blk_cell (blk_below R5.out BY.out) 0).trans rfl; clear hd1) | (go_at_call 52; refine (mortiseref21_width.calls 20 op _ _ _ HW.out).mono ?_; rintro e Y2 ⟨rfl, hd2⟩; have BY2 := Aside0.mk (dn0_below hd2); clear hd2))
  have BB := Aside0.mk (pm_chain B0.out (pm_chain BY.out BY2.out))
  have R6 := Aside0.mk (blk_below (blk_below R5.out BY.out) BY2.out)
  have EW := Aside0.mk (H.out.below BB.out)
  clear c0 c4 BY BY2 R5 B0
  generalize Y2 = W1 at BB R6 EW ⊢
  have c0 := (blk_cell R6.out 0).trans rfl
  have c1 := (blk_cell R6.out 1).trans rfl
  have c2 := (blk_cell R6.out 2).trans rfl
  have c3 := (blk_cell R6.out 3).trans rfl
  have c4 := (blk_cell R6.out 4).trans rfl
  go_wp2_with (first | (go_at_call 56; refine (HC.out _ EW.out).mono ?_; rintro e Y ⟨rfl, hd⟩; have D := Aside0.mk hd; clear hd))
  go_end0
  obtain ⟨iv, ov, ps2, D2, M⟩ := D.out
  exact ⟨rfl, iv, ov, ps2, XDid.pre BB.out D2, M⟩
theorem xdo_calls (h : XM w c pg fx ps S inp out) (x : I5) (hx : Okay x) (hin : ∀ v ∈ inp, 0 ≤ v ∧ v < 256) (hout : out.length + 1 ≤ 140737488355328) :
    Calls Tryd.prog 33 #[.pointer (some ⟨c, 0, none⟩), x.enc] w fun e w' => e = .returned (.tuple #[]) ∧ Xdone (endM (doM (byteAt ps) S x inp out)) w w' c pg fx ps S := by
  rcases hx.op with e | e | e | e
  · exact xdo_rrr h x e hx.a hx.b hx.c hx.imm
  · exact xdo_rri h x e hx.a hx.b hx.c hx.imm
  · rcases e with e | e
    · by_cases m : mayF S.code (addrF S x) (accN x.op) false = 0
      · exact xdo_ld_yes h x e hx.a hx.b hx.c m hx.imm
      · exact xdo_ld_no h x e hx.a hx.b hx.c m hx.imm
    · by_cases m : mayF S.code (addrF S x) (accN x.op) true = 0
      · exact xdo_st_yes h x e hx.a hx.b hx.c m hx.imm
      · exact xdo_st_no h x e hx.a hx.b hx.c m hx.imm
  · exact xdo_oth h x e hx.a hx.b hx.c hx.imm hin hout
set_option maxHeartbeats 4000000 in
set_option maxRecDepth 100000 in
theorem xstep_ended (h : XM w c pg fx ps S inp out) (he : S.ended ≠ 0) : Calls Tryd.prog 22 #[.pointer (some ⟨c, 0, none⟩)] w fun e w' => e = .returned (.int .i64 S.ended) ∧ w' = w := by
  have k24 := h.kend
  clear h
  generalize S.ended = q at *
  go_enter Tryd.func22, Tryd.ntmps22
  go_wp2_with (fail)
  go_ret
  exact ⟨rfl, rfl⟩
set_option maxHeartbeats 4000000 in
set_option maxRecDepth 100000 in
theorem xstep_none (h : XM w c pg fx ps S inp out) (he : S.ended = 0) (hst : 0 ≤ S.steps ∧ S.steps < 4611686018427387904) (hf : fetchM (byteAt ps) S.code S.pc = none) :
    Calls Tryd.prog 22 #[.pointer (some ⟨c, 0, none⟩)] w fun e w' => e = .returned (.int .i64 6) ∧ XDid w w' c pg fx ps S ps { S with steps := S.steps + 1, ended := 6, exit := 3 } inp out := by
  have k24 := h.kend
  have k22 := h.kst
  have f22 := h.fz 22
  rw [he] at k24
  have hw1 : IntKind.i64.wrap (S.steps + 1) = S.steps + 1 := IntWalk.i64_in _ (by omega)
  have D1 := Aside0.mk (h.set_steps (S.steps + 1))
  have HF := Aside0.mk (show ∀ W, XM W c pg fx ps { S with steps := S.steps + 1 } inp out → Calls Tryd.prog 32 #[.pointer (some ⟨c, 0, none⟩)] W fun e w' => e = .returned (insV none) ∧ XDid W w' c pg fx ps { S with steps := S.steps + 1 } ps { S with steps := S.steps + 1, ended := 6, exit := 3 } inp out from fun W hW => by
    unfold fetchM at hf
    split at hf
    · next hz => exact xfetch_trap hW hz
    · next hz => exact xfetch_b hW hz hf)
  obtain ⟨st, hst2⟩ : ∃ st, S.steps = st := ⟨_, rfl⟩
  rw [hst2] at k22 hw1 D1 HF ⊢
  clear h he hst hf hst2
  go_enter Tryd.func22, Tryd.ntmps22
  go_upto_region 4 with (fail)
  generalize w.setCell ⟨c, 22, none⟩ (.int .i64 (st + 1)) = W1 at D1 ⊢
  clear k24 k22 f22 hw1
  go_upto_region 5 with (first | (go_at_call 32; refine (HF.out _ D1.out.em).mono ?_; rintro e Z1 ⟨rfl, hd⟩; have D2 := Aside0.mk (D1.out.trans hd); clear hd; unfold insV) | (refine wpList_store_row rfl 67 _ _ rfl Z1.heap.size _ rfl rfl 67 _ (heap_alloc_last Z1 _) (by as_aux_lemma => kernel_rfl) (by as_aux_lemma => kernel_rfl) (by as_aux_lemma => kernel_rfl) ?_; rw [World.setRow_alloc_new]))
  have D3 := Aside0.mk (D2.out.then_below (below_alloc (Below.refl _ _) (.cells #[.int .i64 0, .int .i64 0, .int .i64 0, .int .i64 0, .int .i64 0] 67)))
  generalize Z1.alloc (.cells #[.int .i64 0, .int .i64 0, .int .i64 0, .int .i64 0, .int .i64 0] 67) = Z2 at D3 ⊢
  have k24 := D3.out.em.kend
  go_wp2_with (fail)
  go_ret
  exact ⟨rfl, D3.out⟩
set_option maxHeartbeats 4000000 in
set_option maxRecDepth 100000 in
theorem xstep_some (h : XM w c pg fx ps S inp out) (he : S.ended = 0) (hst : 0 ≤ S.steps ∧ S.steps < 4611686018427387904) (hin : ∀ v ∈ inp, 0 ≤ v ∧ v < 256) (hout : out.length + 1 ≤ 140737488355328) {x : I5} (hf : fetchM (byteAt ps) S.code S.pc = some x) :
    Calls Tryd.prog 22 #[.pointer (some ⟨c, 0, none⟩)] w fun e w' => e = .returned (.int .i64 (endM (doM (byteAt ps) { S with steps := S.steps + 1, pc := (S.pc + 4) % 4294967296 } x inp out)).S.ended) ∧ Xdone (endM (doM (byteAt ps) { S with steps := S.steps + 1, pc := (S.pc + 4) % 4294967296 } x inp out)) w w' c pg fx ps S := by
  have k24 := h.kend
  have k22 := h.kst
  have f22 := h.fz 22
  rw [he] at k24
  have hw1 : IntKind.i64.wrap (S.steps + 1) = S.steps + 1 := IntWalk.i64_in _ (by omega)
  have D1 := Aside0.mk (h.set_steps (S.steps + 1))
  have hdec : ¬ (S.pc % 4 ≠ 0 ∨ S.pc < 4096 ∨ S.pc > 4096 + S.code - 4) ∧ decF (wordF ps S.pc.toNat 4 false) = some x := by
    unfold fetchM at hf
    split at hf
    · cases hf
    · next hz => exact ⟨hz, hf⟩
  have HF := Aside0.mk (show ∀ W, XM W c pg fx ps { S with steps := S.steps + 1 } inp out → Calls Tryd.prog 32 #[.pointer (some ⟨c, 0, none⟩)] W fun e w' => e = .returned (insV (some x)) ∧ XDid W w' c pg fx ps { S with steps := S.steps + 1 } ps { S with steps := S.steps + 1 } inp out from fun W hW => xfetch_b hW hdec.1 hdec.2)
  have hok : Okay x := (dec_op (by have := wordF_range ps S.pc.toNat 4 false; exact this) hdec.2).2
  have HD := Aside0.mk (fun (W : World) (hW : XM W c pg fx ps { S with steps := S.steps + 1, pc := (S.pc + 4) % 4294967296 } inp out) => xdo_calls hW x hok hin hout)
  obtain ⟨r, hr⟩ : ∃ r, endM (doM (byteAt ps) { S with steps := S.steps + 1, pc := (S.pc + 4) % 4294967296 } x inp out) = r := ⟨_, rfl⟩
  rw [hr] at HD ⊢
  obtain ⟨st, hst2⟩ : ∃ st, S.steps = st := ⟨_, rfl⟩
  rw [hst2] at k22 hw1 D1 HF HD
  have H := Aside0.mk h
  clear h he hst hf hst2 hdec hok hr hin hout
  obtain ⟨op, a, b, d, imm⟩ := x
  unfold I5.enc at HD
  simp only at HD
  go_enter Tryd.func22, Tryd.ntmps22
  go_upto_region 4 with (fail)
  generalize w.setCell ⟨c, 22, none⟩ (.int .i64 (st + 1)) = W1 at D1 ⊢
  clear k24 k22 f22 hw1
  go_upto_region 5 with (first | (go_at_call 32; refine (HF.out _ D1.out.em).mono ?_; rintro e Z1 ⟨rfl, hd⟩; have D2 := Aside0.mk (D1.out.trans hd); clear hd; unfold insV I5.enc) | (refine wpList_store_row rfl 67 _ _ rfl Z1.heap.size _ rfl rfl 67 _ (heap_alloc_last Z1 _) (by as_aux_lemma => kernel_rfl) (by as_aux_lemma => kernel_rfl) (by as_aux_lemma => kernel_rfl) ?_; rw [World.setRow_alloc_new]))
  have D3 := Aside0.mk (D2.out.then_below (below_alloc (Below.refl _ _) (.cells #[.int .i64 op, .int .i64 a, .int .i64 b, .int .i64 d, .int .i64 imm] 67)))
  have R3 := Aside0.mk (show (Z1.alloc (.cells #[.int .i64 op, .int .i64 a, .int .i64 b, .int .i64 d, .int .i64 imm] 67)).heap[Z1.heap.size]? = some (.cells #[.int .i64 op, .int .i64 a, .int .i64 b, .int .i64 d, .int .i64 imm] 67 (0, 0)) from heap_at _ _ _ rfl)
  have NG := Aside0.mk (show Z1.heap.size ∉ foot c pg ps S from fun hh => absurd (D2.out.em.foot_lt _ (show Z1.heap.size ∈ foot c pg ps { S with steps := st + 1 } from hh)) (by omega))
  generalize Z1.alloc (.cells #[.int .i64 op, .int .i64 a, .int .i64 b, .int .i64 d, .int .i64 imm] 67) = Z2 at D3 R3 ⊢
  generalize hg3 : Z1.heap.size = g3 at R3 NG ⊢
  clear hg3
  have f5 := D3.out.em.fz 5
  have D4 := Aside0.mk (D3.out.trans (D3.out.em.set_pc ((S.pc + 4) % 4294967296) (by omega) (by omega)))
  have R4 := Aside0.mk (blk_far R3.out (p := ⟨c, 5, none⟩) (show g3 ≠ c from fun e => NG.out (by rw [e]; simp [foot])) (.int .u32 ((S.pc + 4) % 4294967296)))
  obtain ⟨pc, hpc⟩ : ∃ pc, S.pc = pc := ⟨_, rfl⟩
  rw [hpc] at D4 R4 HD
  have HPC := Aside0.mk hpc
  have k5 : Z2.cell? ⟨c, 5, none⟩ = some (.int .u32 pc) := D3.out.em.kpc.trans (by rw [← hpc])
  clear hpc
  go_upto_region 7 with (fail)
  generalize Z2.setCell ⟨c, 5, none⟩ (.int .u32 ((pc + 4) % 4294967296)) = Z3 at D4 R4 ⊢
  clear k5 f5
  have d0 := (blk_cell R4.out 0).trans rfl
  have d1 := (blk_cell R4.out 1).trans rfl
  have d2 := (blk_cell R4.out 2).trans rfl
  have d3 := (blk_cell R4.out 3).trans rfl
  have d4 := (blk_cell R4.out 4).trans rfl
  go_wp2_with (first | (go_at_call 33; refine (HD.out _ D4.out.em).mono ?_; rintro e Y ⟨rfl, hd⟩; obtain ⟨iv, ov, ps2, hd2, hm2⟩ := hd; have k24 := hd2.em.kend; have D5 := Aside0.mk (D4.out.trans hd2); have M5 := Aside0.mk hm2; clear hd2 hm2))
  go_ret
  exact ⟨rfl, iv, ov, ps2, D5.out, M5.out⟩
theorem xstep_calls (h : XM w c pg fx ps S inp out) (hst : 0 ≤ S.steps ∧ S.steps < 4611686018427387904) (hin : ∀ v ∈ inp, 0 ≤ v ∧ v < 256) (hout : out.length + 1 ≤ 140737488355328) :
    Calls Tryd.prog 22 #[.pointer (some ⟨c, 0, none⟩)] w fun e w' => e = .returned (.int .i64 (stepM (byteAt ps) S inp out).S.ended) ∧ Xdone (stepM (byteAt ps) S inp out) w w' c pg fx ps S := by
  unfold stepM
  by_cases he : S.ended = 0
  · rw [if_neg (by simpa using he)]
    cases hf : fetchM (byteAt ps) S.code S.pc with
    | none =>
      refine (xstep_none h he hst hf).mono ?_
      rintro e w' ⟨rfl, D⟩
      exact ⟨rfl, xdone_of D fun _ => rfl⟩
    | some x => exact xstep_some h he hst hin hout hf
  · rw [if_pos he]
    refine (xstep_ended h he).mono ?_
    rintro e w' ⟨rfl, rfl⟩
    exact ⟨rfl, xdone_of (XDid.same h (Below.refl _ _)) fun _ => rfl⟩
end Go.Proofs.YtejhnlljddjicaaDoor.Ma
namespace Go.Proofs.YtejhnlljddjicaaDoor.Ma
open Go.RowKit Go.Proofs.YtejhnlljddjicaaDoor.PEm Go.Proofs.YtejhnlljddjicaaDoorW.PrintWords Go.Proofs.YtejhnlljddjicaaDoorW.PrintLast Go.Proofs.YtejhnlljddjicaaDoorW.PrintMore Go.Proofs.YtejhnlljddjicaaDoor.La
set_option linter.unusedVariables false
set_option linter.unusedSimpArgs false
variable {fx : Value × Int} {w w' : World} {c pg : Nat} {ps ps' : Pages} {S S' : Cpu} {inp out inp' out' : List Int}
set_option maxHeartbeats 4000000 in
set_option maxRecDepth 100000 in
theorem xoutcome_calls (h : XM w c pg fx ps S inp out) (hout : out.length ≤ 140737488355328) : Calls Tryd.prog 23 #[.pointer (some ⟨c, 0, none⟩)] w fun e w' => ∃ v, e = .returned (.agg #[.int .i64 S.ended, .int .i64 S.exit, v, .int .i64 S.steps]) ∧ Kd.R (Kd.int .u8) 5 w' w.heap.size (fun _ => True) v out ∧ Below w.heap.size w w' := by
  obtain ⟨base, hR⟩ := h.outS
  obtain ⟨A, k, eO, _, hC⟩ := Kd.R_reads hR
  have HC := Aside0.mk hC
  have HN := Aside0.mk hout
  have H := Aside0.mk h
  have B0 := Aside0.mk (show Below w.heap.size w (w.alloc (.cells #[.int .i64 0, .int .i64 0, .slice none 0 0, .int .i64 0] 27)) from below_alloc (Below.refl _ _) _)
  have HB := Aside0.mk (h.below B0.out)
  have R2 := Aside0.mk (show (w.alloc (.cells #[.int .i64 0, .int .i64 0, .slice none 0 0, .int .i64 0] 27)).heap[w.heap.size]? = some (.cells #[.int .i64 0, .int .i64 0, .slice none 0 0, .int .i64 0] 27 (0, 0)) from heap_at _ _ _ rfl)
  clear h hR hC hout
  go_enter Tryd.func23, Tryd.ntmps23
  go_upto_region 1 with (fail)
  generalize w.alloc (.cells #[.int .i64 0, .int .i64 0, .slice none 0 0, .int .i64 0] 27) = W0 at HB R2 B0 ⊢
  generalize hg2 : w.heap.size = g2 at R2 ⊢
  have k24 := HB.out.kend
  have k25 := HB.out.kex
  have k23 := HB.out.kout.trans (congrArg some eO)
  have k22 := HB.out.kst
  have NC := Aside0.mk (show ¬ g2 = c from fun e => by have := H.out.foot_lt c (by simp [foot]); omega)
  have HCW := Aside0.mk (Kd.C_below HC.out B0.out)
  obtain ⟨en, hen⟩ : ∃ v, S.ended = v := ⟨_, rfl⟩
  obtain ⟨ex, hex⟩ : ∃ v, S.exit = v := ⟨_, rfl⟩
  obtain ⟨st, hst⟩ : ∃ v, S.steps = v := ⟨_, rfl⟩
  rw [hen] at k24
  rw [hex] at k25
  rw [hst] at k22
  have HE := Aside0.mk hen
  have HX := Aside0.mk hex
  have HS := Aside0.mk hst
  clear hen hex hst
  go_cut [] (fun wc => ∃ A2 k2, Aside0 (wc.heap[g2]? = some (.cells #[.int .i64 en, .int .i64 ex, .slice A2 out.length k2, .int .i64 st] 27 (0, 0))) ∧ Aside0 (Kd.R (Kd.int .u8) 5 wc W0.heap.size (fun _ => True) (.slice A2 out.length k2) out) ∧ Aside0 (Below w.heap.size w wc))
  case first =>
    go_region_held3 (fun w' => w'.cell? ⟨c, 24, none⟩ = some (.int .i64 en) ∧ w'.cell? ⟨c, 25, none⟩ = some (.int .i64 ex) ∧ w'.cell? ⟨c, 23, none⟩ = some (.slice A out.length k) ∧ w'.cell? ⟨c, 22, none⟩ = some (.int .i64 st)) (first | (refine ⟨pw_cell_below ?_ k24, pw_cell_below ?_ k25, pw_cell_below ?_ k23, pw_cell_below ?_ k22⟩ <;> first | with_reducible exact hB1 | ((repeat (first | (with_reducible exact Below.refl _ _) | (with_reducible assumption) | with_reducible apply below_alloc | with_reducible apply pw_below_drewN | with_reducible apply below_drew1)); done)) | with_reducible exact ⟨st4 (pw_cell_below hB1 k24) NC.out, st4 (pw_cell_below hB1 k25) NC.out, st4 (pw_cell_below hB1 k23) NC.out, st4 (pw_cell_below hB1 k22) NC.out⟩ | fail) (first | (refine app_step (w0 := W0) (by rfl) (.tmp 11) (.tmp 15) (by rfl) [] out out (List.nil_append _) A out.length k (R_empty W0.drew (Nat.le_refl _)) HCW.out (by (repeat (first | (with_reducible exact Below.refl _ _) | (with_reducible assumption) | with_reducible apply below_alloc | with_reducible apply pw_below_drewN | with_reducible apply below_drew1))) (by have := HN.out; simp; omega) (by rfl) (by rfl) ?_; intro A1 k1 w1 hR1 hB1 hkp; have RX := blk_below R2.out hB1; have z0 := (blk_cell RX 0).trans rfl; have z1 := (blk_cell RX 1).trans rfl; have z2 := (blk_cell RX 2).trans rfl; have z3 := (blk_cell RX 3).trans rfl; have f0 := blk_frozen RX 0; have f1 := blk_frozen RX 1; have f2 := blk_frozen RX 2; have f3 := blk_frozen RX 3; clear hkp) | fail)
    all_goals go_wp2_with (fail)
    all_goals go_meet
    all_goals (
      have hlt := lt_of_at R2.out
      exact ⟨A1, k1, ⟨blk_set (blk_set (blk_set (blk_set RX 0 _) 1 _) 2 _) 3 _⟩, ⟨R_setcell (R_setcell (R_setcell (R_setcell hR1 hlt 0 _) hlt 1 _) hlt 2 _) hlt 3 _⟩, ⟨(((Below.setCell (pm_chain B0.out hB1) (p := ⟨g2, 0, none⟩) (Nat.le_of_eq hg2) _).setCell (p := ⟨g2, 1, none⟩) (Nat.le_of_eq hg2) _).setCell (p := ⟨g2, 2, none⟩) (Nat.le_of_eq hg2) _).setCell (p := ⟨g2, 3, none⟩) (Nat.le_of_eq hg2) _⟩⟩)
  case rest =>
    obtain ⟨A2, k2, RY, HR, BY⟩ := hcut
    clear k24 k25 k23 k22
    go_wp2_with (fail)
    (try simp only [Exit.inBlock, Exit.then])
    refine bodyPost_ret (results_cell1 (p := 2) (ty := 27) rfl _ _ _ _ ⟨g2, 0, none⟩ _ (by rfl) (run_loadVar_row _ g2 27 27 _ (0, 0) _ RY.out Tryd.underlying27 (by rfl) (by kernel_rfl))) rfl ?_
    rw [HE.out, HX.out, HS.out]
    exact ⟨_, rfl, Kd.R_lower HR.out B0.out.size, BY.out⟩
end Go.Proofs.YtejhnlljddjicaaDoor.Ma
