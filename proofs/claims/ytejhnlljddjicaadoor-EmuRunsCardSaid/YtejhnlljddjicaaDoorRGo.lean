/- The document's machine: the other operations. No condition beyond those each theorem names. And more of the kind: 1 texts in one. -/
import Derived.Test.YtejhnlljddjicaaDoorRGn
import Derived.Deep.RegionLaw
namespace Go.Proofs.YtejhnlljddjicaaDoor.Ma
open Go.RowKit Go.Proofs.YtejhnlljddjicaaDoor.PEm Go.Proofs.YtejhnlljddjicaaDoorW.PrintWords Go.Proofs.YtejhnlljddjicaaDoorW.PrintLast Go.Proofs.YtejhnlljddjicaaDoorW.PrintMore Go.Proofs.YtejhnlljddjicaaDoor.La
set_option linter.unusedVariables false
set_option linter.unusedSimpArgs false
variable {fx : Value × Int} {w w' : World} {c pg : Nat} {ps ps' : Pages} {S S' : Cpu} {inp out inp' out' : List Int}
theorem xInt_still (a : Int) (h0 : 0 ≤ a) (h1 : a < 4294967296) (w : World) : Calls Tryd.prog 76 #[.int .u32 a] w fun e w' => e = .returned (.int .i64 (wrap32 a)) ∧ w' = w := by
  by_cases h : 2147483648 ≤ a
  · have e : wrap32 a = a - 4294967296 := by unfold wrap32; omega
    rw [e]
    go_enter Tryd.func76, Tryd.ntmps76
    go_wp2
    go_ret
    exact ⟨rfl, rfl⟩
  · have e : wrap32 a = a := by unfold wrap32; omega
    rw [e]
    go_enter Tryd.func76, Tryd.ntmps76
    go_wp2
    go_ret
    exact ⟨rfl, rfl⟩
set_option maxHeartbeats 4000000 in
set_option maxRecDepth 100000 in
theorem xother_64 (h : XM w c pg fx ps S inp out) (x : I5) (hop : x.op = 64) (ha : x.a < 16) (hb : x.b < 16) (hd : x.c < 16) (hi : -8388608 ≤ x.imm ∧ x.imm ≤ 16777216) (im : Int) (him : x.imm % 4294967296 = im) :
    Calls Tryd.prog 56 #[.pointer (some ⟨c, 0, none⟩), x.enc, .int .u32 im] w fun e w' => e = .returned (.tuple #[]) ∧ Xdone (endM (doM (byteAt ps) S x inp out)) w w' c pg fx ps S := by
  obtain ⟨op, a, b, d, imm⟩ := x
  unfold I5.enc
  simp only at hop ha hb hd hi him ⊢
  have HX := Aside0.mk (show 0 ≤ im ∧ im < 4294967296 by omega)
  subst hop
  rw [show endM (doM (byteAt ps) S ⟨64, a, b, d, imm⟩ inp out) = ⟨.nilIface, setR S a im, byteAt ps, inp, out⟩ by rw [show doM (byteAt ps) S ⟨64, a, b, d, imm⟩ inp out = ⟨.nilIface, setR S a (imm % 4294967296), byteAt ps, inp, out⟩ from rfl, him]; rfl]
  have HIM := Aside0.mk him
  clear him
  have H := Aside0.mk h
  have HI := Aside0.mk hi
  have HA := Aside0.mk ha
  have HBB := Aside0.mk hb
  have HDD := Aside0.mk hd
  have ia := idx16 ha
  have BB := Aside0.mk (show Below w.heap.size w (w.alloc (.cells #[.int .i64 64, .int .i64 a, .int .i64 b, .int .i64 d, .int .i64 imm] 67)) from below_alloc (Below.refl _ _) _)
  have R6 := Aside0.mk (show (w.alloc (.cells #[.int .i64 64, .int .i64 a, .int .i64 b, .int .i64 d, .int .i64 imm] 67)).heap[w.heap.size]? = some (.cells #[.int .i64 64, .int .i64 a, .int .i64 b, .int .i64 d, .int .i64 imm] 67 (0, 0)) from heap_at _ _ _ rfl)
  have NG := Aside0.mk (show w.heap.size ∉ foot c pg ps S from fun hh => absurd (h.foot_lt _ hh) (by omega))
  have EW := Aside0.mk (h.below BB.out)
  clear h hi ha hb hd
  go_enter Tryd.func56, Tryd.ntmps56
  go_upto_region 1 with (fail)
  generalize (w.alloc (.cells #[.int .i64 64, .int .i64 a, .int .i64 b, .int .i64 d, .int .i64 imm] 67)) = W1 at R6 BB EW ⊢
  generalize hg4 : w.heap.size = g4 at R6 NG ⊢
  clear hg4
  have c0 := (blk_cell R6.out 0).trans rfl
  go_upto_region 4 with (fail)
  have c1 := (blk_cell R6.out 1).trans rfl
  have ka := EW.out.kr (xreg_get EW.out HA.out)
  have fa := EW.out.fz (6 + a)
  refine wp_region_still_tail 6 (by kernel_rfl) (by kernel_rfl) ?_
  simp only [List.take_succ_cons, List.take_zero, List.drop_succ_cons, List.drop_zero]
  repeat (with_reducible refine wpStill_step (fun K hK => ?_); go_simp; with_reducible refine hK _ ?_; clear hK K)
  with_reducible refine wpStill_nil ?_
  change wpList _ _ _ _ _ W1.drew
  go_wp2_with (fail)
  all_goals go_end0
  all_goals exact ⟨rfl, xdone_of (XDid.pre BB.out ((EW.out.set_reg a HA.out im HX.out.1 HX.out.2).then_below (Below.refl _ _).drew)) fun _ => rfl⟩
set_option maxHeartbeats 4000000 in
set_option maxRecDepth 100000 in
theorem xother_65 (h : XM w c pg fx ps S inp out) (x : I5) (hop : x.op = 65) (ha : x.a < 16) (hb : x.b < 16) (hd : x.c < 16) (hi : -8388608 ≤ x.imm ∧ x.imm ≤ 16777216) (im : Int) (him : x.imm % 4294967296 = im) :
    Calls Tryd.prog 56 #[.pointer (some ⟨c, 0, none⟩), x.enc, .int .u32 im] w fun e w' => e = .returned (.tuple #[]) ∧ Xdone (endM (doM (byteAt ps) S x inp out)) w w' c pg fx ps S := by
  obtain ⟨op, a, b, d, imm⟩ := x
  unfold I5.enc
  simp only at hop ha hb hd hi him ⊢
  have HX := Aside0.mk (show 0 ≤ im ∧ im < 4294967296 by omega)
  subst hop
  obtain ⟨v, hv⟩ : ∃ v, bits .or .u32 (bits .and .u32 (regV S a) 65535) (IntKind.u32.wrap (im * 65536)) = v := ⟨_, rfl⟩
  have HVE := Aside0.mk hv
  have HV := Aside0.mk (show 0 ≤ v ∧ v < 4294967296 by rw [← hv]; exact bits_range .or _ _ (.inr (.inl rfl)))
  rw [show endM (doM (byteAt ps) S ⟨65, a, b, d, imm⟩ inp out) = ⟨.nilIface, setR S a v, byteAt ps, inp, out⟩ by rw [show doM (byteAt ps) S ⟨65, a, b, d, imm⟩ inp out = ⟨.nilIface, setR S a (bits .or .u32 (bits .and .u32 (regV S a) 65535) (shl .u32 (imm % 4294967296) 16)), byteAt ps, inp, out⟩ from rfl, him, shl32 _ 16 (by decide), show (2 : Int) ^ (16 : Int).toNat = 65536 by decide, ← IntKind.wrap_u32, hv]; rfl]
  have HIM := Aside0.mk him
  clear him
  have H := Aside0.mk h
  have HI := Aside0.mk hi
  have HA := Aside0.mk ha
  have HBB := Aside0.mk hb
  have HDD := Aside0.mk hd
  have ia := idx16 ha
  have BB := Aside0.mk (show Below w.heap.size w (w.alloc (.cells #[.int .i64 65, .int .i64 a, .int .i64 b, .int .i64 d, .int .i64 imm] 67)) from below_alloc (Below.refl _ _) _)
  have R6 := Aside0.mk (show (w.alloc (.cells #[.int .i64 65, .int .i64 a, .int .i64 b, .int .i64 d, .int .i64 imm] 67)).heap[w.heap.size]? = some (.cells #[.int .i64 65, .int .i64 a, .int .i64 b, .int .i64 d, .int .i64 imm] 67 (0, 0)) from heap_at _ _ _ rfl)
  have NG := Aside0.mk (show w.heap.size ∉ foot c pg ps S from fun hh => absurd (h.foot_lt _ hh) (by omega))
  have EW := Aside0.mk (h.below BB.out)
  clear h hi ha hb hd
  go_enter Tryd.func56, Tryd.ntmps56
  go_upto_region 1 with (fail)
  generalize (w.alloc (.cells #[.int .i64 65, .int .i64 a, .int .i64 b, .int .i64 d, .int .i64 imm] 67)) = W1 at R6 BB EW ⊢
  generalize hg4 : w.heap.size = g4 at R6 NG ⊢
  clear hg4
  have c0 := (blk_cell R6.out 0).trans rfl
  go_upto_region 6 with (fail)
  have c1 := (blk_cell R6.out 1).trans rfl
  have ka := EW.out.kr (xreg_get EW.out HA.out)
  have fa := EW.out.fz (6 + a)
  have hv := HVE.out
  refine wp_region_still_tail 15 (by kernel_rfl) (by kernel_rfl) ?_
  simp only [List.take_succ_cons, List.take_zero, List.drop_succ_cons, List.drop_zero]
  repeat (with_reducible refine wpStill_step (fun K hK => ?_); go_simp; with_reducible refine hK _ ?_; clear hK K)
  with_reducible refine wpStill_nil ?_
  change wpList _ _ _ _ _ W1.drew
  go_wp2_with (fail)
  all_goals go_end0
  all_goals exact ⟨rfl, xdone_of (XDid.pre BB.out ((EW.out.set_reg a HA.out v HV.out.1 HV.out.2).then_below (Below.refl _ _).drew)) fun _ => rfl⟩
set_option maxHeartbeats 4000000 in
set_option maxRecDepth 100000 in
theorem xother_96 (h : XM w c pg fx ps S inp out) (x : I5) (hop : x.op = 96) (ha : x.a < 16) (hb : x.b < 16) (hd : x.c < 16) (hi : -8388608 ≤ x.imm ∧ x.imm ≤ 16777216) (im : Int) (him : x.imm % 4294967296 = im) :
    Calls Tryd.prog 56 #[.pointer (some ⟨c, 0, none⟩), x.enc, .int .u32 im] w fun e w' => e = .returned (.tuple #[]) ∧ Xdone (endM (doM (byteAt ps) S x inp out)) w w' c pg fx ps S := by
  obtain ⟨op, a, b, d, imm⟩ := x
  unfold I5.enc
  simp only at hop ha hb hd hi him ⊢
  have HX := Aside0.mk (show 0 ≤ im ∧ im < 4294967296 by omega)
  subst hop
  rw [show endM (doM (byteAt ps) S ⟨96, a, b, d, imm⟩ inp out) = ⟨.nilIface, { S with pc := jumpF S.pc imm }, byteAt ps, inp, out⟩ by rfl]
  have HIM := Aside0.mk him
  clear him
  have H := Aside0.mk h
  have HI := Aside0.mk hi
  have HA := Aside0.mk ha
  have HBB := Aside0.mk hb
  have HDD := Aside0.mk hd
  have ia := idx16 ha
  have BB := Aside0.mk (show Below w.heap.size w (w.alloc (.cells #[.int .i64 96, .int .i64 a, .int .i64 b, .int .i64 d, .int .i64 imm] 67)) from below_alloc (Below.refl _ _) _)
  have R6 := Aside0.mk (show (w.alloc (.cells #[.int .i64 96, .int .i64 a, .int .i64 b, .int .i64 d, .int .i64 imm] 67)).heap[w.heap.size]? = some (.cells #[.int .i64 96, .int .i64 a, .int .i64 b, .int .i64 d, .int .i64 imm] 67 (0, 0)) from heap_at _ _ _ rfl)
  have NG := Aside0.mk (show w.heap.size ∉ foot c pg ps S from fun hh => absurd (h.foot_lt _ hh) (by omega))
  have EW := Aside0.mk (h.below BB.out)
  clear h hi ha hb hd
  go_enter Tryd.func56, Tryd.ntmps56
  go_upto_region 1 with (fail)
  generalize (w.alloc (.cells #[.int .i64 96, .int .i64 a, .int .i64 b, .int .i64 d, .int .i64 imm] 67)) = W1 at R6 BB EW ⊢
  generalize hg4 : w.heap.size = g4 at R6 NG ⊢
  clear hg4
  have c0 := (blk_cell R6.out 0).trans rfl
  go_upto_region 8 with (fail)
  have c4 := (blk_cell R6.out 4).trans rfl
  go_wp2_with (first | (go_at_call 75; refine (xjump_calls EW.out imm ⟨HI.out.1, HI.out.2⟩).mono ?_; rintro e Y ⟨rfl, hd⟩; have D := Aside0.mk hd; clear hd))
  go_end0
  exact ⟨rfl, xdone_of (XDid.pre BB.out D.out) fun _ => rfl⟩
set_option maxHeartbeats 4000000 in
set_option maxRecDepth 100000 in
theorem xother_97y (h : XM w c pg fx ps S inp out) (x : I5) (hop : x.op = 97) (ha : x.a < 16) (hb : x.b < 16) (hd : x.c < 16) (hi : -8388608 ≤ x.imm ∧ x.imm ≤ 16777216) (im : Int) (him : x.imm % 4294967296 = im) (hz : regV S x.a = 0) :
    Calls Tryd.prog 56 #[.pointer (some ⟨c, 0, none⟩), x.enc, .int .u32 im] w fun e w' => e = .returned (.tuple #[]) ∧ Xdone (endM (doM (byteAt ps) S x inp out)) w w' c pg fx ps S := by
  obtain ⟨op, a, b, d, imm⟩ := x
  unfold I5.enc
  simp only at hop ha hb hd hi him ⊢
  have HX := Aside0.mk (show 0 ≤ im ∧ im < 4294967296 by omega)
  subst hop
  have hz : regV S a = 0 := hz
  have HZ := Aside0.mk hz
  rw [show endM (doM (byteAt ps) S ⟨97, a, b, d, imm⟩ inp out) = ⟨.nilIface, { S with pc := jumpF S.pc imm }, byteAt ps, inp, out⟩ by rw [show doM (byteAt ps) S ⟨97, a, b, d, imm⟩ inp out = ⟨.nilIface, (if regV S a = 0 then { S with pc := jumpF S.pc imm } else S), byteAt ps, inp, out⟩ from rfl]; simp only [hz]; rfl]
  have HIM := Aside0.mk him
  clear him
  have H := Aside0.mk h
  have HI := Aside0.mk hi
  have HA := Aside0.mk ha
  have HBB := Aside0.mk hb
  have HDD := Aside0.mk hd
  have ia := idx16 ha
  have BB := Aside0.mk (show Below w.heap.size w (w.alloc (.cells #[.int .i64 97, .int .i64 a, .int .i64 b, .int .i64 d, .int .i64 imm] 67)) from below_alloc (Below.refl _ _) _)
  have R6 := Aside0.mk (show (w.alloc (.cells #[.int .i64 97, .int .i64 a, .int .i64 b, .int .i64 d, .int .i64 imm] 67)).heap[w.heap.size]? = some (.cells #[.int .i64 97, .int .i64 a, .int .i64 b, .int .i64 d, .int .i64 imm] 67 (0, 0)) from heap_at _ _ _ rfl)
  have NG := Aside0.mk (show w.heap.size ∉ foot c pg ps S from fun hh => absurd (h.foot_lt _ hh) (by omega))
  have EW := Aside0.mk (h.below BB.out)
  clear h hi ha hb hd
  go_enter Tryd.func56, Tryd.ntmps56
  go_upto_region 1 with (fail)
  generalize (w.alloc (.cells #[.int .i64 97, .int .i64 a, .int .i64 b, .int .i64 d, .int .i64 imm] 67)) = W1 at R6 BB EW ⊢
  generalize hg4 : w.heap.size = g4 at R6 NG ⊢
  clear hg4
  have c0 := (blk_cell R6.out 0).trans rfl
  go_upto_region 10 with (fail)
  have c1 := (blk_cell R6.out 1).trans rfl
  have c4 := (blk_cell R6.out 4).trans rfl
  have ka := EW.out.kr (xreg_get EW.out HA.out)
  have hz := HZ.out
  obtain ⟨rv, hrv⟩ : ∃ v, regV S a = v := ⟨_, rfl⟩
  rw [hrv] at ka hz
  clear hrv
  refine wp_region_still_tail 6 (by kernel_rfl) (by kernel_rfl) ?_
  simp only [List.take_succ_cons, List.take_zero, List.drop_succ_cons, List.drop_zero]
  repeat (with_reducible refine wpStill_step (fun K hK => ?_); go_simp; with_reducible refine hK _ ?_; clear hK K)
  with_reducible refine wpStill_nil ?_
  change wpList _ _ _ _ _ W1.drew
  have c4d : W1.drew.cell? ⟨g4, 4, none⟩ = some (.int .i64 imm) := pw_cell_below (Below.refl _ _).drew c4
  go_wp2_with (first | (go_at_call 75; refine (xjump_calls (EW.out.below (Below.refl _ _).drew) imm ⟨HI.out.1, HI.out.2⟩).mono ?_; rintro e Y ⟨rfl, hd⟩; have D := Aside0.mk hd; clear hd))
  all_goals go_end0
  all_goals exact ⟨rfl, xdone_of (XDid.pre BB.out (XDid.pre (Below.refl _ _).drew D.out)) fun _ => rfl⟩
set_option maxHeartbeats 4000000 in
set_option maxRecDepth 100000 in
theorem xother_97n (h : XM w c pg fx ps S inp out) (x : I5) (hop : x.op = 97) (ha : x.a < 16) (hb : x.b < 16) (hd : x.c < 16) (hi : -8388608 ≤ x.imm ∧ x.imm ≤ 16777216) (im : Int) (him : x.imm % 4294967296 = im) (hz : ¬ regV S x.a = 0) :
    Calls Tryd.prog 56 #[.pointer (some ⟨c, 0, none⟩), x.enc, .int .u32 im] w fun e w' => e = .returned (.tuple #[]) ∧ Xdone (endM (doM (byteAt ps) S x inp out)) w w' c pg fx ps S := by
  obtain ⟨op, a, b, d, imm⟩ := x
  unfold I5.enc
  simp only at hop ha hb hd hi him ⊢
  have HX := Aside0.mk (show 0 ≤ im ∧ im < 4294967296 by omega)
  subst hop
  have hz : ¬ regV S a = 0 := hz
  have HZ := Aside0.mk hz
  rw [show endM (doM (byteAt ps) S ⟨97, a, b, d, imm⟩ inp out) = ⟨.nilIface, S, byteAt ps, inp, out⟩ by rw [show doM (byteAt ps) S ⟨97, a, b, d, imm⟩ inp out = ⟨.nilIface, (if regV S a = 0 then { S with pc := jumpF S.pc imm } else S), byteAt ps, inp, out⟩ from rfl]; simp only [hz]; rfl]
  have HIM := Aside0.mk him
  clear him
  have H := Aside0.mk h
  have HI := Aside0.mk hi
  have HA := Aside0.mk ha
  have HBB := Aside0.mk hb
  have HDD := Aside0.mk hd
  have ia := idx16 ha
  have BB := Aside0.mk (show Below w.heap.size w (w.alloc (.cells #[.int .i64 97, .int .i64 a, .int .i64 b, .int .i64 d, .int .i64 imm] 67)) from below_alloc (Below.refl _ _) _)
  have R6 := Aside0.mk (show (w.alloc (.cells #[.int .i64 97, .int .i64 a, .int .i64 b, .int .i64 d, .int .i64 imm] 67)).heap[w.heap.size]? = some (.cells #[.int .i64 97, .int .i64 a, .int .i64 b, .int .i64 d, .int .i64 imm] 67 (0, 0)) from heap_at _ _ _ rfl)
  have NG := Aside0.mk (show w.heap.size ∉ foot c pg ps S from fun hh => absurd (h.foot_lt _ hh) (by omega))
  have EW := Aside0.mk (h.below BB.out)
  clear h hi ha hb hd
  go_enter Tryd.func56, Tryd.ntmps56
  go_upto_region 1 with (fail)
  generalize (w.alloc (.cells #[.int .i64 97, .int .i64 a, .int .i64 b, .int .i64 d, .int .i64 imm] 67)) = W1 at R6 BB EW ⊢
  generalize hg4 : w.heap.size = g4 at R6 NG ⊢
  clear hg4
  have c0 := (blk_cell R6.out 0).trans rfl
  go_upto_region 10 with (fail)
  have c1 := (blk_cell R6.out 1).trans rfl
  have c4 := (blk_cell R6.out 4).trans rfl
  have ka := EW.out.kr (xreg_get EW.out HA.out)
  have hz := HZ.out
  obtain ⟨rv, hrv⟩ : ∃ v, regV S a = v := ⟨_, rfl⟩
  rw [hrv] at ka hz
  clear hrv
  refine wp_region_still_tail 6 (by kernel_rfl) (by kernel_rfl) ?_
  simp only [List.take_succ_cons, List.take_zero, List.drop_succ_cons, List.drop_zero]
  repeat (with_reducible refine wpStill_step (fun K hK => ?_); go_simp; with_reducible refine hK _ ?_; clear hK K)
  with_reducible refine wpStill_nil ?_
  change wpList _ _ _ _ _ W1.drew
  have c4d : W1.drew.cell? ⟨g4, 4, none⟩ = some (.int .i64 imm) := pw_cell_below (Below.refl _ _).drew c4
  go_wp2_with (first | (go_at_call 75; refine (xjump_calls (EW.out.below (Below.refl _ _).drew) imm ⟨HI.out.1, HI.out.2⟩).mono ?_; rintro e Y ⟨rfl, hd⟩; have D := Aside0.mk hd; clear hd))
  all_goals go_end0
  all_goals exact ⟨rfl, xdone_of (XDid.pre BB.out (XDid.same EW.out (Below.refl _ _).drew)) fun _ => rfl⟩
set_option maxHeartbeats 4000000 in
set_option maxRecDepth 100000 in
theorem xother_98y (h : XM w c pg fx ps S inp out) (x : I5) (hop : x.op = 98) (ha : x.a < 16) (hb : x.b < 16) (hd : x.c < 16) (hi : -8388608 ≤ x.imm ∧ x.imm ≤ 16777216) (im : Int) (him : x.imm % 4294967296 = im) (hz : ¬ regV S x.a = 0) :
    Calls Tryd.prog 56 #[.pointer (some ⟨c, 0, none⟩), x.enc, .int .u32 im] w fun e w' => e = .returned (.tuple #[]) ∧ Xdone (endM (doM (byteAt ps) S x inp out)) w w' c pg fx ps S := by
  obtain ⟨op, a, b, d, imm⟩ := x
  unfold I5.enc
  simp only at hop ha hb hd hi him ⊢
  have HX := Aside0.mk (show 0 ≤ im ∧ im < 4294967296 by omega)
  subst hop
  have hz : ¬ regV S a = 0 := hz
  have HZ := Aside0.mk hz
  rw [show endM (doM (byteAt ps) S ⟨98, a, b, d, imm⟩ inp out) = ⟨.nilIface, { S with pc := jumpF S.pc imm }, byteAt ps, inp, out⟩ by rw [show doM (byteAt ps) S ⟨98, a, b, d, imm⟩ inp out = ⟨.nilIface, (if regV S a = 0 then S else { S with pc := jumpF S.pc imm }), byteAt ps, inp, out⟩ from rfl]; simp only [hz]; rfl]
  have HIM := Aside0.mk him
  clear him
  have H := Aside0.mk h
  have HI := Aside0.mk hi
  have HA := Aside0.mk ha
  have HBB := Aside0.mk hb
  have HDD := Aside0.mk hd
  have ia := idx16 ha
  have BB := Aside0.mk (show Below w.heap.size w (w.alloc (.cells #[.int .i64 98, .int .i64 a, .int .i64 b, .int .i64 d, .int .i64 imm] 67)) from below_alloc (Below.refl _ _) _)
  have R6 := Aside0.mk (show (w.alloc (.cells #[.int .i64 98, .int .i64 a, .int .i64 b, .int .i64 d, .int .i64 imm] 67)).heap[w.heap.size]? = some (.cells #[.int .i64 98, .int .i64 a, .int .i64 b, .int .i64 d, .int .i64 imm] 67 (0, 0)) from heap_at _ _ _ rfl)
  have NG := Aside0.mk (show w.heap.size ∉ foot c pg ps S from fun hh => absurd (h.foot_lt _ hh) (by omega))
  have EW := Aside0.mk (h.below BB.out)
  clear h hi ha hb hd
  go_enter Tryd.func56, Tryd.ntmps56
  go_upto_region 1 with (fail)
  generalize (w.alloc (.cells #[.int .i64 98, .int .i64 a, .int .i64 b, .int .i64 d, .int .i64 imm] 67)) = W1 at R6 BB EW ⊢
  generalize hg4 : w.heap.size = g4 at R6 NG ⊢
  clear hg4
  have c0 := (blk_cell R6.out 0).trans rfl
  go_upto_region 13 with (fail)
  have c1 := (blk_cell R6.out 1).trans rfl
  have c4 := (blk_cell R6.out 4).trans rfl
  have ka := EW.out.kr (xreg_get EW.out HA.out)
  have hz := HZ.out
  obtain ⟨rv, hrv⟩ : ∃ v, regV S a = v := ⟨_, rfl⟩
  rw [hrv] at ka hz
  clear hrv
  refine wp_region_still_tail 6 (by kernel_rfl) (by kernel_rfl) ?_
  simp only [List.take_succ_cons, List.take_zero, List.drop_succ_cons, List.drop_zero]
  repeat (with_reducible refine wpStill_step (fun K hK => ?_); go_simp; with_reducible refine hK _ ?_; clear hK K)
  with_reducible refine wpStill_nil ?_
  change wpList _ _ _ _ _ W1.drew
  have c4d : W1.drew.cell? ⟨g4, 4, none⟩ = some (.int .i64 imm) := pw_cell_below (Below.refl _ _).drew c4
  go_wp2_with (first | (go_at_call 75; refine (xjump_calls (EW.out.below (Below.refl _ _).drew) imm ⟨HI.out.1, HI.out.2⟩).mono ?_; rintro e Y ⟨rfl, hd⟩; have D := Aside0.mk hd; clear hd))
  all_goals go_end0
  all_goals exact ⟨rfl, xdone_of (XDid.pre BB.out (XDid.pre (Below.refl _ _).drew D.out)) fun _ => rfl⟩
set_option maxHeartbeats 4000000 in
set_option maxRecDepth 100000 in
theorem xother_98n (h : XM w c pg fx ps S inp out) (x : I5) (hop : x.op = 98) (ha : x.a < 16) (hb : x.b < 16) (hd : x.c < 16) (hi : -8388608 ≤ x.imm ∧ x.imm ≤ 16777216) (im : Int) (him : x.imm % 4294967296 = im) (hz : regV S x.a = 0) :
    Calls Tryd.prog 56 #[.pointer (some ⟨c, 0, none⟩), x.enc, .int .u32 im] w fun e w' => e = .returned (.tuple #[]) ∧ Xdone (endM (doM (byteAt ps) S x inp out)) w w' c pg fx ps S := by
  obtain ⟨op, a, b, d, imm⟩ := x
  unfold I5.enc
  simp only at hop ha hb hd hi him ⊢
  have HX := Aside0.mk (show 0 ≤ im ∧ im < 4294967296 by omega)
  subst hop
  have hz : regV S a = 0 := hz
  have HZ := Aside0.mk hz
  rw [show endM (doM (byteAt ps) S ⟨98, a, b, d, imm⟩ inp out) = ⟨.nilIface, S, byteAt ps, inp, out⟩ by rw [show doM (byteAt ps) S ⟨98, a, b, d, imm⟩ inp out = ⟨.nilIface, (if regV S a = 0 then S else { S with pc := jumpF S.pc imm }), byteAt ps, inp, out⟩ from rfl]; simp only [hz]; rfl]
  have HIM := Aside0.mk him
  clear him
  have H := Aside0.mk h
  have HI := Aside0.mk hi
  have HA := Aside0.mk ha
  have HBB := Aside0.mk hb
  have HDD := Aside0.mk hd
  have ia := idx16 ha
  have BB := Aside0.mk (show Below w.heap.size w (w.alloc (.cells #[.int .i64 98, .int .i64 a, .int .i64 b, .int .i64 d, .int .i64 imm] 67)) from below_alloc (Below.refl _ _) _)
  have R6 := Aside0.mk (show (w.alloc (.cells #[.int .i64 98, .int .i64 a, .int .i64 b, .int .i64 d, .int .i64 imm] 67)).heap[w.heap.size]? = some (.cells #[.int .i64 98, .int .i64 a, .int .i64 b, .int .i64 d, .int .i64 imm] 67 (0, 0)) from heap_at _ _ _ rfl)
  have NG := Aside0.mk (show w.heap.size ∉ foot c pg ps S from fun hh => absurd (h.foot_lt _ hh) (by omega))
  have EW := Aside0.mk (h.below BB.out)
  clear h hi ha hb hd
  go_enter Tryd.func56, Tryd.ntmps56
  go_upto_region 1 with (fail)
  generalize (w.alloc (.cells #[.int .i64 98, .int .i64 a, .int .i64 b, .int .i64 d, .int .i64 imm] 67)) = W1 at R6 BB EW ⊢
  generalize hg4 : w.heap.size = g4 at R6 NG ⊢
  clear hg4
  have c0 := (blk_cell R6.out 0).trans rfl
  go_upto_region 13 with (fail)
  have c1 := (blk_cell R6.out 1).trans rfl
  have c4 := (blk_cell R6.out 4).trans rfl
  have ka := EW.out.kr (xreg_get EW.out HA.out)
  have hz := HZ.out
  obtain ⟨rv, hrv⟩ : ∃ v, regV S a = v := ⟨_, rfl⟩
  rw [hrv] at ka hz
  clear hrv
  refine wp_region_still_tail 6 (by kernel_rfl) (by kernel_rfl) ?_
  simp only [List.take_succ_cons, List.take_zero, List.drop_succ_cons, List.drop_zero]
  repeat (with_reducible refine wpStill_step (fun K hK => ?_); go_simp; with_reducible refine hK _ ?_; clear hK K)
  with_reducible refine wpStill_nil ?_
  change wpList _ _ _ _ _ W1.drew
  have c4d : W1.drew.cell? ⟨g4, 4, none⟩ = some (.int .i64 imm) := pw_cell_below (Below.refl _ _).drew c4
  go_wp2_with (first | (go_at_call 75; refine (xjump_calls (EW.out.below (Below.refl _ _).drew) imm ⟨HI.out.1, HI.out.2⟩).mono ?_; rintro e Y ⟨rfl, hd⟩; have D := Aside0.mk hd; clear hd))
  all_goals go_end0
  all_goals exact ⟨rfl, xdone_of (XDid.pre BB.out (XDid.same EW.out (Below.refl _ _).drew)) fun _ => rfl⟩
set_option maxHeartbeats 4000000 in
set_option maxRecDepth 100000 in
theorem xother_99 (h : XM w c pg fx ps S inp out) (x : I5) (hop : x.op = 99) (ha : x.a < 16) (hb : x.b < 16) (hd : x.c < 16) (hi : -8388608 ≤ x.imm ∧ x.imm ≤ 16777216) (im : Int) (him : x.imm % 4294967296 = im) :
    Calls Tryd.prog 56 #[.pointer (some ⟨c, 0, none⟩), x.enc, .int .u32 im] w fun e w' => e = .returned (.tuple #[]) ∧ Xdone (endM (doM (byteAt ps) S x inp out)) w w' c pg fx ps S := by
  obtain ⟨op, a, b, d, imm⟩ := x
  unfold I5.enc
  simp only at hop ha hb hd hi him ⊢
  have HX := Aside0.mk (show 0 ≤ im ∧ im < 4294967296 by omega)
  subst hop
  rw [show endM (doM (byteAt ps) S ⟨99, a, b, d, imm⟩ inp out) = ⟨.nilIface, { setR S 14 S.pc with pc := jumpF S.pc imm }, byteAt ps, inp, out⟩ by rfl]
  have HIM := Aside0.mk him
  clear him
  have H := Aside0.mk h
  have HI := Aside0.mk hi
  have HA := Aside0.mk ha
  have HBB := Aside0.mk hb
  have HDD := Aside0.mk hd
  have ia := idx16 ha
  have BB := Aside0.mk (show Below w.heap.size w (w.alloc (.cells #[.int .i64 99, .int .i64 a, .int .i64 b, .int .i64 d, .int .i64 imm] 67)) from below_alloc (Below.refl _ _) _)
  have R6 := Aside0.mk (show (w.alloc (.cells #[.int .i64 99, .int .i64 a, .int .i64 b, .int .i64 d, .int .i64 imm] 67)).heap[w.heap.size]? = some (.cells #[.int .i64 99, .int .i64 a, .int .i64 b, .int .i64 d, .int .i64 imm] 67 (0, 0)) from heap_at _ _ _ rfl)
  have NG := Aside0.mk (show w.heap.size ∉ foot c pg ps S from fun hh => absurd (h.foot_lt _ hh) (by omega))
  have EW := Aside0.mk (h.below BB.out)
  clear h hi ha hb hd
  go_enter Tryd.func56, Tryd.ntmps56
  go_upto_region 1 with (fail)
  generalize (w.alloc (.cells #[.int .i64 99, .int .i64 a, .int .i64 b, .int .i64 d, .int .i64 imm] 67)) = W1 at R6 BB EW ⊢
  generalize hg4 : w.heap.size = g4 at R6 NG ⊢
  clear hg4
  have c0 := (blk_cell R6.out 0).trans rfl
  go_upto_region 16 with (fail)
  have c4 := (blk_cell R6.out 4).trans rfl
  have kpc := EW.out.kpc
  have k14 := EW.out.kr (xreg_get EW.out (a := 14) (by decide))
  have fa := EW.out.fz (6 + 14)
  refine wp_region_still_tail 8 (by kernel_rfl) (by kernel_rfl) ?_
  simp only [List.take_succ_cons, List.take_zero, List.drop_succ_cons, List.drop_zero]
  repeat (with_reducible refine wpStill_step (fun K hK => ?_); go_simp; with_reducible refine hK _ ?_; clear hK K)
  with_reducible refine wpStill_nil ?_
  change wpList _ _ _ _ _ W1.drew
  go_upto_region 17 with (fail)
  have EX := Aside0.mk ((EW.out.set_reg 14 (by decide) S.pc EW.out.pcIn.1 EW.out.pcIn.2).then_below (Below.refl _ _).drew)
  have hb : (W1.setCell ⟨c, 6 + 14, none⟩ (.int .u32 S.pc)).drew.cell? ⟨g4, 4, none⟩ = some (.int .i64 imm) := far_cell (j := 6 + 14) (u := .int .u32 S.pc) c4 (Below.refl _ _) (show ¬ c = g4 from fun e => NG.out (by rw [← e]; simp [foot]))
  generalize (W1.setCell ⟨c, 6 + 14, none⟩ (.int .u32 S.pc)).drew = W2 at EX hb ⊢
  clear c0 c4 kpc k14 fa
  go_wp2_with (first | (go_at_call 75; refine (xjump_calls EX.out.em imm ⟨HI.out.1, HI.out.2⟩).mono ?_; rintro e Y ⟨rfl, hd⟩; have D := Aside0.mk hd; clear hd))
  all_goals go_end0
  all_goals exact ⟨rfl, xdone_of (XDid.pre BB.out (EX.out.trans D.out)) fun _ => rfl⟩
set_option maxHeartbeats 4000000 in
set_option maxRecDepth 100000 in
theorem xother_100 (h : XM w c pg fx ps S inp out) (x : I5) (hop : x.op = 100) (ha : x.a < 16) (hb : x.b < 16) (hd : x.c < 16) (hi : -8388608 ≤ x.imm ∧ x.imm ≤ 16777216) (im : Int) (him : x.imm % 4294967296 = im) :
    Calls Tryd.prog 56 #[.pointer (some ⟨c, 0, none⟩), x.enc, .int .u32 im] w fun e w' => e = .returned (.tuple #[]) ∧ Xdone (endM (doM (byteAt ps) S x inp out)) w w' c pg fx ps S := by
  obtain ⟨op, a, b, d, imm⟩ := x
  unfold I5.enc
  simp only at hop ha hb hd hi him ⊢
  have HX := Aside0.mk (show 0 ≤ im ∧ im < 4294967296 by omega)
  subst hop
  rw [show endM (doM (byteAt ps) S ⟨100, a, b, d, imm⟩ inp out) = ⟨.nilIface, { S with pc := regV S a }, byteAt ps, inp, out⟩ by rfl]
  have HIM := Aside0.mk him
  clear him
  have H := Aside0.mk h
  have HI := Aside0.mk hi
  have HA := Aside0.mk ha
  have HBB := Aside0.mk hb
  have HDD := Aside0.mk hd
  have ia := idx16 ha
  have BB := Aside0.mk (show Below w.heap.size w (w.alloc (.cells #[.int .i64 100, .int .i64 a, .int .i64 b, .int .i64 d, .int .i64 imm] 67)) from below_alloc (Below.refl _ _) _)
  have R6 := Aside0.mk (show (w.alloc (.cells #[.int .i64 100, .int .i64 a, .int .i64 b, .int .i64 d, .int .i64 imm] 67)).heap[w.heap.size]? = some (.cells #[.int .i64 100, .int .i64 a, .int .i64 b, .int .i64 d, .int .i64 imm] 67 (0, 0)) from heap_at _ _ _ rfl)
  have NG := Aside0.mk (show w.heap.size ∉ foot c pg ps S from fun hh => absurd (h.foot_lt _ hh) (by omega))
  have EW := Aside0.mk (h.below BB.out)
  clear h hi ha hb hd
  go_enter Tryd.func56, Tryd.ntmps56
  go_upto_region 1 with (fail)
  generalize (w.alloc (.cells #[.int .i64 100, .int .i64 a, .int .i64 b, .int .i64 d, .int .i64 imm] 67)) = W1 at R6 BB EW ⊢
  generalize hg4 : w.heap.size = g4 at R6 NG ⊢
  clear hg4
  have c0 := (blk_cell R6.out 0).trans rfl
  go_upto_region 19 with (fail)
  have c1 := (blk_cell R6.out 1).trans rfl
  have ka := EW.out.kr (xreg_get EW.out HA.out)
  have kpc := EW.out.kpc
  have fp := EW.out.fz 5
  have HR := Aside0.mk (xreg_in EW.out HA.out)
  refine wp_region_still_tail 10 (by kernel_rfl) (by kernel_rfl) ?_
  simp only [List.take_succ_cons, List.take_zero, List.drop_succ_cons, List.drop_zero]
  repeat (with_reducible refine wpStill_step (fun K hK => ?_); go_simp; with_reducible refine hK _ ?_; clear hK K)
  with_reducible refine wpStill_nil ?_
  change wpList _ _ _ _ _ W1.drew
  go_wp2_with (fail)
  all_goals go_end0
  all_goals exact ⟨rfl, xdone_of (XDid.pre BB.out ((EW.out.set_pc (regV S a) HR.out.1 HR.out.2).then_below (Below.refl _ _).drew)) fun _ => rfl⟩
set_option maxHeartbeats 4000000 in
set_option maxRecDepth 100000 in
theorem xother_104a (h : XM w c pg fx ps S inp out) (x : I5) (hop : x.op = 104) (ha : x.a < 16) (hb : x.b < 16) (hd : x.c < 16) (hi : -8388608 ≤ x.imm ∧ x.imm ≤ 16777216) (im : Int) (him : x.imm % 4294967296 = im) (hz : regV S 15 < im) :
    Calls Tryd.prog 56 #[.pointer (some ⟨c, 0, none⟩), x.enc, .int .u32 im] w fun e w' => e = .returned (.tuple #[]) ∧ Xdone (endM (doM (byteAt ps) S x inp out)) w w' c pg fx ps S := by
  obtain ⟨op, a, b, d, imm⟩ := x
  unfold I5.enc
  simp only at hop ha hb hd hi him ⊢
  have HX := Aside0.mk (show 0 ≤ im ∧ im < 4294967296 by omega)
  subst hop
  have HZ := Aside0.mk hz
  rw [show endM (doM (byteAt ps) S ⟨104, a, b, d, imm⟩ inp out) = ⟨errT 4, { S with ended := 6, exit := 4 }, byteAt ps, inp, out⟩ by rw [show doM (byteAt ps) S ⟨104, a, b, d, imm⟩ inp out = (if regV S 15 < imm % 4294967296 ∨ regV S 15 - imm % 4294967296 < 4194304 then ⟨errT 4, S, byteAt ps, inp, out⟩ else ⟨.nilIface, setR S 15 (regV S 15 - imm % 4294967296), byteAt ps, inp, out⟩) from rfl, him]; rw [if_pos (.inl hz)]; rfl]
  have HIM := Aside0.mk him
  clear him
  have H := Aside0.mk h
  have HI := Aside0.mk hi
  have HA := Aside0.mk ha
  have HBB := Aside0.mk hb
  have HDD := Aside0.mk hd
  have ia := idx16 ha
  have BB := Aside0.mk (show Below w.heap.size w (w.alloc (.cells #[.int .i64 104, .int .i64 a, .int .i64 b, .int .i64 d, .int .i64 imm] 67)) from below_alloc (Below.refl _ _) _)
  have R6 := Aside0.mk (show (w.alloc (.cells #[.int .i64 104, .int .i64 a, .int .i64 b, .int .i64 d, .int .i64 imm] 67)).heap[w.heap.size]? = some (.cells #[.int .i64 104, .int .i64 a, .int .i64 b, .int .i64 d, .int .i64 imm] 67 (0, 0)) from heap_at _ _ _ rfl)
  have NG := Aside0.mk (show w.heap.size ∉ foot c pg ps S from fun hh => absurd (h.foot_lt _ hh) (by omega))
  have EW := Aside0.mk (h.below BB.out)
  clear h hi ha hb hd
  go_enter Tryd.func56, Tryd.ntmps56
  go_upto_region 1 with (fail)
  generalize (w.alloc (.cells #[.int .i64 104, .int .i64 a, .int .i64 b, .int .i64 d, .int .i64 imm] 67)) = W1 at R6 BB EW ⊢
  generalize hg4 : w.heap.size = g4 at R6 NG ⊢
  clear hg4
  have c0 := (blk_cell R6.out 0).trans rfl
  go_upto_region 21 with (fail)
  have hz := HZ.out
  have k15 := EW.out.kr (xreg_get EW.out (a := 15) (by decide))
  have fa := EW.out.fz (6 + 15)
  have HV := Aside0.mk (xreg_in EW.out (a := 15) (by decide))
  obtain ⟨r15, hr15⟩ : ∃ v, regV S 15 = v := ⟨_, rfl⟩
  have HR15 := Aside0.mk hr15
  rw [hr15] at k15 HV
  try rw [hr15] at hz
  clear hr15
  go_wp2_with (first | (go_at_call 48; refine (xtrap_calls EW.out 4).mono ?_; rintro e Y ⟨rfl, hd⟩; have D := Aside0.mk hd; clear hd))
  all_goals (try simp only [Exit.inBlock, Exit.then])
  all_goals refine bodyPost_ret (results_none rfl _ _ _) rfl ?_
  all_goals exact ⟨rfl, xdone_of (XDid.pre BB.out D.out) fun _ => rfl⟩
set_option maxHeartbeats 4000000 in
set_option maxRecDepth 100000 in
theorem xother_104b (h : XM w c pg fx ps S inp out) (x : I5) (hop : x.op = 104) (ha : x.a < 16) (hb : x.b < 16) (hd : x.c < 16) (hi : -8388608 ≤ x.imm ∧ x.imm ≤ 16777216) (im : Int) (him : x.imm % 4294967296 = im) (hz : ¬ regV S 15 < im ∧ regV S 15 - im < 4194304) :
    Calls Tryd.prog 56 #[.pointer (some ⟨c, 0, none⟩), x.enc, .int .u32 im] w fun e w' => e = .returned (.tuple #[]) ∧ Xdone (endM (doM (byteAt ps) S x inp out)) w w' c pg fx ps S := by
  obtain ⟨op, a, b, d, imm⟩ := x
  unfold I5.enc
  simp only at hop ha hb hd hi him ⊢
  have HX := Aside0.mk (show 0 ≤ im ∧ im < 4294967296 by omega)
  subst hop
  have HZ := Aside0.mk hz
  rw [show endM (doM (byteAt ps) S ⟨104, a, b, d, imm⟩ inp out) = ⟨errT 4, { S with ended := 6, exit := 4 }, byteAt ps, inp, out⟩ by rw [show doM (byteAt ps) S ⟨104, a, b, d, imm⟩ inp out = (if regV S 15 < imm % 4294967296 ∨ regV S 15 - imm % 4294967296 < 4194304 then ⟨errT 4, S, byteAt ps, inp, out⟩ else ⟨.nilIface, setR S 15 (regV S 15 - imm % 4294967296), byteAt ps, inp, out⟩) from rfl, him]; rw [if_pos (.inr hz.2)]; rfl]
  have HIM := Aside0.mk him
  clear him
  have H := Aside0.mk h
  have HI := Aside0.mk hi
  have HA := Aside0.mk ha
  have HBB := Aside0.mk hb
  have HDD := Aside0.mk hd
  have ia := idx16 ha
  have BB := Aside0.mk (show Below w.heap.size w (w.alloc (.cells #[.int .i64 104, .int .i64 a, .int .i64 b, .int .i64 d, .int .i64 imm] 67)) from below_alloc (Below.refl _ _) _)
  have R6 := Aside0.mk (show (w.alloc (.cells #[.int .i64 104, .int .i64 a, .int .i64 b, .int .i64 d, .int .i64 imm] 67)).heap[w.heap.size]? = some (.cells #[.int .i64 104, .int .i64 a, .int .i64 b, .int .i64 d, .int .i64 imm] 67 (0, 0)) from heap_at _ _ _ rfl)
  have NG := Aside0.mk (show w.heap.size ∉ foot c pg ps S from fun hh => absurd (h.foot_lt _ hh) (by omega))
  have EW := Aside0.mk (h.below BB.out)
  clear h hi ha hb hd
  go_enter Tryd.func56, Tryd.ntmps56
  go_upto_region 1 with (fail)
  generalize (w.alloc (.cells #[.int .i64 104, .int .i64 a, .int .i64 b, .int .i64 d, .int .i64 imm] 67)) = W1 at R6 BB EW ⊢
  generalize hg4 : w.heap.size = g4 at R6 NG ⊢
  clear hg4
  have c0 := (blk_cell R6.out 0).trans rfl
  go_upto_region 21 with (fail)
  have hz := HZ.out
  have k15 := EW.out.kr (xreg_get EW.out (a := 15) (by decide))
  have fa := EW.out.fz (6 + 15)
  have HV := Aside0.mk (xreg_in EW.out (a := 15) (by decide))
  obtain ⟨r15, hr15⟩ : ∃ v, regV S 15 = v := ⟨_, rfl⟩
  have HR15 := Aside0.mk hr15
  rw [hr15] at k15 HV
  try rw [hr15] at hz
  clear hr15
  obtain ⟨hz, hy⟩ := hz
  have hw1 : (r15 - im) % 4294967296 = r15 - im := by have := HV.out; have := HX.out; omega
  go_wp2_with (first | (go_at_call 48; refine (xtrap_calls EW.out 4).mono ?_; rintro e Y ⟨rfl, hd⟩; have D := Aside0.mk hd; clear hd))
  all_goals (try simp only [Exit.inBlock, Exit.then])
  all_goals refine bodyPost_ret (results_none rfl _ _ _) rfl ?_
  all_goals exact ⟨rfl, xdone_of (XDid.pre BB.out D.out) fun _ => rfl⟩
set_option maxHeartbeats 4000000 in
set_option maxRecDepth 100000 in
theorem xother_104c (h : XM w c pg fx ps S inp out) (x : I5) (hop : x.op = 104) (ha : x.a < 16) (hb : x.b < 16) (hd : x.c < 16) (hi : -8388608 ≤ x.imm ∧ x.imm ≤ 16777216) (im : Int) (him : x.imm % 4294967296 = im) (hz : ¬ regV S 15 < im ∧ ¬ regV S 15 - im < 4194304) :
    Calls Tryd.prog 56 #[.pointer (some ⟨c, 0, none⟩), x.enc, .int .u32 im] w fun e w' => e = .returned (.tuple #[]) ∧ Xdone (endM (doM (byteAt ps) S x inp out)) w w' c pg fx ps S := by
  obtain ⟨op, a, b, d, imm⟩ := x
  unfold I5.enc
  simp only at hop ha hb hd hi him ⊢
  have HX := Aside0.mk (show 0 ≤ im ∧ im < 4294967296 by omega)
  subst hop
  have HZ := Aside0.mk hz
  rw [show endM (doM (byteAt ps) S ⟨104, a, b, d, imm⟩ inp out) = ⟨.nilIface, setR S 15 (regV S 15 - im), byteAt ps, inp, out⟩ by rw [show doM (byteAt ps) S ⟨104, a, b, d, imm⟩ inp out = (if regV S 15 < imm % 4294967296 ∨ regV S 15 - imm % 4294967296 < 4194304 then ⟨errT 4, S, byteAt ps, inp, out⟩ else ⟨.nilIface, setR S 15 (regV S 15 - imm % 4294967296), byteAt ps, inp, out⟩) from rfl, him]; rw [if_neg (by omega)]; rfl]
  have HIM := Aside0.mk him
  clear him
  have H := Aside0.mk h
  have HI := Aside0.mk hi
  have HA := Aside0.mk ha
  have HBB := Aside0.mk hb
  have HDD := Aside0.mk hd
  have ia := idx16 ha
  have BB := Aside0.mk (show Below w.heap.size w (w.alloc (.cells #[.int .i64 104, .int .i64 a, .int .i64 b, .int .i64 d, .int .i64 imm] 67)) from below_alloc (Below.refl _ _) _)
  have R6 := Aside0.mk (show (w.alloc (.cells #[.int .i64 104, .int .i64 a, .int .i64 b, .int .i64 d, .int .i64 imm] 67)).heap[w.heap.size]? = some (.cells #[.int .i64 104, .int .i64 a, .int .i64 b, .int .i64 d, .int .i64 imm] 67 (0, 0)) from heap_at _ _ _ rfl)
  have NG := Aside0.mk (show w.heap.size ∉ foot c pg ps S from fun hh => absurd (h.foot_lt _ hh) (by omega))
  have EW := Aside0.mk (h.below BB.out)
  clear h hi ha hb hd
  go_enter Tryd.func56, Tryd.ntmps56
  go_upto_region 1 with (fail)
  generalize (w.alloc (.cells #[.int .i64 104, .int .i64 a, .int .i64 b, .int .i64 d, .int .i64 imm] 67)) = W1 at R6 BB EW ⊢
  generalize hg4 : w.heap.size = g4 at R6 NG ⊢
  clear hg4
  have c0 := (blk_cell R6.out 0).trans rfl
  go_upto_region 21 with (fail)
  have hz := HZ.out
  have k15 := EW.out.kr (xreg_get EW.out (a := 15) (by decide))
  have fa := EW.out.fz (6 + 15)
  have HV := Aside0.mk (xreg_in EW.out (a := 15) (by decide))
  obtain ⟨r15, hr15⟩ : ∃ v, regV S 15 = v := ⟨_, rfl⟩
  have HR15 := Aside0.mk hr15
  rw [hr15] at k15 HV
  try rw [hr15] at hz
  clear hr15
  obtain ⟨hz, hy⟩ := hz
  have HR := Aside0.mk (show 0 ≤ r15 - im ∧ r15 - im < 4294967296 by have := HV.out; have := HX.out; omega)
  have hw1 : (r15 - im) % 4294967296 = r15 - im := by have := HV.out; have := HX.out; omega
  go_upto_region 23 with (fail)
  refine wp_region_still_tail 9 (by kernel_rfl) (by kernel_rfl) ?_
  simp only [List.take_succ_cons, List.take_zero, List.drop_succ_cons, List.drop_zero]
  repeat (with_reducible refine wpStill_step (fun K hK => ?_); go_simp; with_reducible refine hK _ ?_; clear hK K)
  with_reducible refine wpStill_nil ?_
  change wpList _ _ _ _ _ W1.drew
  go_wp2_with (fail)
  all_goals go_end0
  all_goals (
    rw [HR15.out]
    exact ⟨rfl, xdone_of (XDid.pre BB.out ((EW.out.set_reg 15 (by decide) (r15 - im) HR.out.1 HR.out.2).then_below (Below.refl _ _).drew)) fun _ => rfl⟩)
set_option maxHeartbeats 4000000 in
set_option maxRecDepth 100000 in
theorem xother_105 (h : XM w c pg fx ps S inp out) (x : I5) (hop : x.op = 105) (ha : x.a < 16) (hb : x.b < 16) (hd : x.c < 16) (hi : -8388608 ≤ x.imm ∧ x.imm ≤ 16777216) (im : Int) (him : x.imm % 4294967296 = im) :
    Calls Tryd.prog 56 #[.pointer (some ⟨c, 0, none⟩), x.enc, .int .u32 im] w fun e w' => e = .returned (.tuple #[]) ∧ Xdone (endM (doM (byteAt ps) S x inp out)) w w' c pg fx ps S := by
  obtain ⟨op, a, b, d, imm⟩ := x
  unfold I5.enc
  simp only at hop ha hb hd hi him ⊢
  have HX := Aside0.mk (show 0 ≤ im ∧ im < 4294967296 by omega)
  subst hop
  rw [show endM (doM (byteAt ps) S ⟨105, a, b, d, imm⟩ inp out) = ⟨.nilIface, setR S 15 ((regV S 15 + im) % 4294967296), byteAt ps, inp, out⟩ by rw [show doM (byteAt ps) S ⟨105, a, b, d, imm⟩ inp out = ⟨.nilIface, setR S 15 ((regV S 15 + imm % 4294967296) % 4294967296), byteAt ps, inp, out⟩ from rfl, him]; rfl]
  have HIM := Aside0.mk him
  clear him
  have H := Aside0.mk h
  have HI := Aside0.mk hi
  have HA := Aside0.mk ha
  have HBB := Aside0.mk hb
  have HDD := Aside0.mk hd
  have ia := idx16 ha
  have BB := Aside0.mk (show Below w.heap.size w (w.alloc (.cells #[.int .i64 105, .int .i64 a, .int .i64 b, .int .i64 d, .int .i64 imm] 67)) from below_alloc (Below.refl _ _) _)
  have R6 := Aside0.mk (show (w.alloc (.cells #[.int .i64 105, .int .i64 a, .int .i64 b, .int .i64 d, .int .i64 imm] 67)).heap[w.heap.size]? = some (.cells #[.int .i64 105, .int .i64 a, .int .i64 b, .int .i64 d, .int .i64 imm] 67 (0, 0)) from heap_at _ _ _ rfl)
  have NG := Aside0.mk (show w.heap.size ∉ foot c pg ps S from fun hh => absurd (h.foot_lt _ hh) (by omega))
  have EW := Aside0.mk (h.below BB.out)
  clear h hi ha hb hd
  go_enter Tryd.func56, Tryd.ntmps56
  go_upto_region 1 with (fail)
  generalize (w.alloc (.cells #[.int .i64 105, .int .i64 a, .int .i64 b, .int .i64 d, .int .i64 imm] 67)) = W1 at R6 BB EW ⊢
  generalize hg4 : w.heap.size = g4 at R6 NG ⊢
  clear hg4
  have c0 := (blk_cell R6.out 0).trans rfl
  go_upto_region 25 with (fail)
  have k15 := EW.out.kr (xreg_get EW.out (a := 15) (by decide))
  have fa := EW.out.fz (6 + 15)
  have HV := Aside0.mk (xreg_in EW.out (a := 15) (by decide))
  obtain ⟨r15, hr15⟩ : ∃ v, regV S 15 = v := ⟨_, rfl⟩
  have HR15 := Aside0.mk hr15
  rw [hr15] at k15 HV
  clear hr15
  refine wp_region_still_tail 9 (by kernel_rfl) (by kernel_rfl) ?_
  simp only [List.take_succ_cons, List.take_zero, List.drop_succ_cons, List.drop_zero]
  repeat (with_reducible refine wpStill_step (fun K hK => ?_); go_simp; with_reducible refine hK _ ?_; clear hK K)
  with_reducible refine wpStill_nil ?_
  change wpList _ _ _ _ _ W1.drew
  go_wp2_with (fail)
  all_goals go_end0
  all_goals (
    rw [HR15.out]
    exact ⟨rfl, xdone_of (XDid.pre BB.out ((EW.out.set_reg 15 (by decide) ((r15 + im) % 4294967296) (by omega) (by omega)).then_below (Below.refl _ _).drew)) fun _ => rfl⟩)
set_option maxHeartbeats 4000000 in
set_option maxRecDepth 100000 in
theorem xother_114 (h : XM w c pg fx ps S inp out) (x : I5) (hop : x.op = 114) (ha : x.a < 16) (hb : x.b < 16) (hd : x.c < 16) (hi : -8388608 ≤ x.imm ∧ x.imm ≤ 16777216) (im : Int) (him : x.imm % 4294967296 = im) :
    Calls Tryd.prog 56 #[.pointer (some ⟨c, 0, none⟩), x.enc, .int .u32 im] w fun e w' => e = .returned (.tuple #[]) ∧ Xdone (endM (doM (byteAt ps) S x inp out)) w w' c pg fx ps S := by
  obtain ⟨op, a, b, d, imm⟩ := x
  unfold I5.enc
  simp only at hop ha hb hd hi him ⊢
  have HX := Aside0.mk (show 0 ≤ im ∧ im < 4294967296 by omega)
  subst hop
  have hw32 : (if regV S a < 2147483648 then regV S a else regV S a - 4294967296) = wrap32 (regV S a) := by
    have := h.regIn _ (List.mem_of_getElem? (xreg_get h ha)); unfold wrap32; split <;> omega
  rw [show endM (doM (byteAt ps) S ⟨114, a, b, d, imm⟩ inp out) = ⟨stopV 1 (wrap32 (regV S a)), { S with ended := 1, exit := wrap32 (regV S a) }, byteAt ps, inp, out⟩ by rw [show doM (byteAt ps) S ⟨114, a, b, d, imm⟩ inp out = ⟨stopV 1 (if regV S a < 2147483648 then regV S a else regV S a - 4294967296), S, byteAt ps, inp, out⟩ from rfl, hw32]; rfl]
  clear hw32
  have HIM := Aside0.mk him
  clear him
  have H := Aside0.mk h
  have HI := Aside0.mk hi
  have HA := Aside0.mk ha
  have HBB := Aside0.mk hb
  have HDD := Aside0.mk hd
  have ia := idx16 ha
  have BB := Aside0.mk (show Below w.heap.size w (w.alloc (.cells #[.int .i64 114, .int .i64 a, .int .i64 b, .int .i64 d, .int .i64 imm] 67)) from below_alloc (Below.refl _ _) _)
  have R6 := Aside0.mk (show (w.alloc (.cells #[.int .i64 114, .int .i64 a, .int .i64 b, .int .i64 d, .int .i64 imm] 67)).heap[w.heap.size]? = some (.cells #[.int .i64 114, .int .i64 a, .int .i64 b, .int .i64 d, .int .i64 imm] 67 (0, 0)) from heap_at _ _ _ rfl)
  have NG := Aside0.mk (show w.heap.size ∉ foot c pg ps S from fun hh => absurd (h.foot_lt _ hh) (by omega))
  have EW := Aside0.mk (h.below BB.out)
  clear h hi ha hb hd
  go_enter Tryd.func56, Tryd.ntmps56
  go_upto_region 1 with (fail)
  generalize (w.alloc (.cells #[.int .i64 114, .int .i64 a, .int .i64 b, .int .i64 d, .int .i64 imm] 67)) = W1 at R6 BB EW ⊢
  generalize hg4 : w.heap.size = g4 at R6 NG ⊢
  clear hg4
  have c0 := (blk_cell R6.out 0).trans rfl
  go_upto_region 34 with (fail)
  have c1 := (blk_cell R6.out 1).trans rfl
  have ka := EW.out.kr (xreg_get EW.out HA.out)
  have HR := Aside0.mk (xreg_in EW.out HA.out)
  refine wp_region_still_tail 8 (by kernel_rfl) (by kernel_rfl) ?_
  simp only [List.take_succ_cons, List.take_zero, List.drop_succ_cons, List.drop_zero]
  repeat (with_reducible refine wpStill_step (fun K hK => ?_); go_simp; with_reducible refine hK _ ?_; clear hK K)
  with_reducible refine wpStill_step (fun K hK => ?_)
  go_simp
  refine ⟨_, xInt_still _ HR.out.1 HR.out.2 _, hK _ ?_⟩
  clear hK K
  repeat (with_reducible refine wpStill_step (fun K hK => ?_); go_simp; with_reducible refine hK _ ?_; clear hK K)
  with_reducible refine wpStill_nil ?_
  change wpList _ _ _ _ _ W1.drew
  go_wp2_with (first | (go_at_call 69; refine (xend_calls (EW.out.below (Below.refl _ _).drew) 1 (wrap32 (regV S a))).mono ?_; rintro e Y ⟨rfl, hd⟩; have D := Aside0.mk (XDid.pre (Below.refl _ _).drew hd); clear hd))
  all_goals go_end0
  all_goals exact ⟨rfl, xdone_of (XDid.pre BB.out D.out) fun _ => rfl⟩
set_option maxHeartbeats 4000000 in
set_option maxRecDepth 100000 in
theorem xother_113n (h : XM w c pg fx ps S inp out) (x : I5) (hop : x.op = 113) (ha : x.a < 16) (hb : x.b < 16) (hd : x.c < 16) (hi : -8388608 ≤ x.imm ∧ x.imm ≤ 16777216) (im : Int) (him : x.imm % 4294967296 = im) (hz : inp = []) :
    Calls Tryd.prog 56 #[.pointer (some ⟨c, 0, none⟩), x.enc, .int .u32 im] w fun e w' => e = .returned (.tuple #[]) ∧ Xdone (endM (doM (byteAt ps) S x inp out)) w w' c pg fx ps S := by
  obtain ⟨op, a, b, d, imm⟩ := x
  unfold I5.enc
  simp only at hop ha hb hd hi him ⊢
  have HX := Aside0.mk (show 0 ≤ im ∧ im < 4294967296 by omega)
  subst hop
  subst hz
  rw [show endM (doM (byteAt ps) S ⟨113, a, b, d, imm⟩ [] out) = ⟨.nilIface, setR S a 4294967295, byteAt ps, [], out⟩ by rfl]
  have HIM := Aside0.mk him
  clear him
  have H := Aside0.mk h
  have HI := Aside0.mk hi
  have HA := Aside0.mk ha
  have HBB := Aside0.mk hb
  have HDD := Aside0.mk hd
  have ia := idx16 ha
  have BB := Aside0.mk (show Below w.heap.size w (w.alloc (.cells #[.int .i64 113, .int .i64 a, .int .i64 b, .int .i64 d, .int .i64 imm] 67)) from below_alloc (Below.refl _ _) _)
  have R6 := Aside0.mk (show (w.alloc (.cells #[.int .i64 113, .int .i64 a, .int .i64 b, .int .i64 d, .int .i64 imm] 67)).heap[w.heap.size]? = some (.cells #[.int .i64 113, .int .i64 a, .int .i64 b, .int .i64 d, .int .i64 imm] 67 (0, 0)) from heap_at _ _ _ rfl)
  have NG := Aside0.mk (show w.heap.size ∉ foot c pg ps S from fun hh => absurd (h.foot_lt _ hh) (by omega))
  have EW := Aside0.mk (h.below BB.out)
  clear h hi ha hb hd
  go_enter Tryd.func56, Tryd.ntmps56
  go_upto_region 1 with (fail)
  generalize (w.alloc (.cells #[.int .i64 113, .int .i64 a, .int .i64 b, .int .i64 d, .int .i64 imm] 67)) = W1 at R6 BB EW ⊢
  generalize hg4 : w.heap.size = g4 at R6 NG ⊢
  clear hg4
  have c0 := (blk_cell R6.out 0).trans rfl
  go_upto_region 29 with (fail)
  have c1 := (blk_cell R6.out 1).trans rfl
  have ka := EW.out.kr (xreg_get EW.out HA.out)
  have fa := EW.out.fz (6 + a)
  refine wp_region_still_tail 5 (by kernel_rfl) (by kernel_rfl) ?_
  simp only [List.take_succ_cons, List.take_zero, List.drop_succ_cons, List.drop_zero]
  repeat (with_reducible refine wpStill_step (fun K hK => ?_); go_simp; with_reducible refine hK _ ?_; clear hK K)
  with_reducible refine wpStill_nil ?_
  change wpList _ _ _ _ _ W1.drew
  go_upto_region 30 with (fail)
  have EX := Aside0.mk ((EW.out.set_reg a HA.out 4294967295 (by decide) (by decide)).then_below (Below.refl _ _).drew)
  have hb : (W1.setCell ⟨c, 6 + a, none⟩ (.int .u32 4294967295)).drew.cell? ⟨g4, 1, none⟩ = some (.int .i64 a) := far_cell (j := 6 + a) (u := .int .u32 4294967295) c1 (Below.refl _ _) (show ¬ c = g4 from fun e => NG.out (by rw [← e]; simp [foot]))
  generalize (W1.setCell ⟨c, 6 + a, none⟩ (.int .u32 4294967295)).drew = W2 at EX hb ⊢
  clear c0 c1 fa ka
  obtain ⟨A, cap, eA, -⟩ := EX.out.em.inS
  have k3 : W2.cell? ⟨c, 3, none⟩ = some (.slice A 0 cap) := EX.out.em.kin.trans (congrArg some eA)
  clear eA
  all_goals go_wp2_with (fail)
  all_goals go_end0
  all_goals exact ⟨rfl, xdone_of (XDid.pre BB.out EX.out) fun _ => rfl⟩
set_option maxHeartbeats 4000000 in
set_option maxRecDepth 100000 in
theorem xother_113c (h : XM w c pg fx ps S inp out) (x : I5) (hop : x.op = 113) (ha : x.a < 16) (hb : x.b < 16) (hd : x.c < 16) (hi : -8388608 ≤ x.imm ∧ x.imm ≤ 16777216) (im : Int) (him : x.imm % 4294967296 = im) {v : Int} {rest : List Int} (hz : inp = v :: rest) (hv : 0 ≤ v ∧ v < 256) :
    Calls Tryd.prog 56 #[.pointer (some ⟨c, 0, none⟩), x.enc, .int .u32 im] w fun e w' => e = .returned (.tuple #[]) ∧ Xdone (endM (doM (byteAt ps) S x inp out)) w w' c pg fx ps S := by
  obtain ⟨op, a, b, d, imm⟩ := x
  unfold I5.enc
  simp only at hop ha hb hd hi him ⊢
  have HX := Aside0.mk (show 0 ≤ im ∧ im < 4294967296 by omega)
  subst hop
  subst hz
  have HV := Aside0.mk (show 0 ≤ v ∧ v < 4294967296 by omega)
  clear hv
  rw [show endM (doM (byteAt ps) S ⟨113, a, b, d, imm⟩ (v :: rest) out) = ⟨.nilIface, setR S a v, byteAt ps, rest, out⟩ by rfl]
  have HIM := Aside0.mk him
  clear him
  have H := Aside0.mk h
  have HI := Aside0.mk hi
  have HA := Aside0.mk ha
  have HBB := Aside0.mk hb
  have HDD := Aside0.mk hd
  have ia := idx16 ha
  have BB := Aside0.mk (show Below w.heap.size w (w.alloc (.cells #[.int .i64 113, .int .i64 a, .int .i64 b, .int .i64 d, .int .i64 imm] 67)) from below_alloc (Below.refl _ _) _)
  have R6 := Aside0.mk (show (w.alloc (.cells #[.int .i64 113, .int .i64 a, .int .i64 b, .int .i64 d, .int .i64 imm] 67)).heap[w.heap.size]? = some (.cells #[.int .i64 113, .int .i64 a, .int .i64 b, .int .i64 d, .int .i64 imm] 67 (0, 0)) from heap_at _ _ _ rfl)
  have NG := Aside0.mk (show w.heap.size ∉ foot c pg ps S from fun hh => absurd (h.foot_lt _ hh) (by omega))
  have EW := Aside0.mk (h.below BB.out)
  clear h hi ha hb hd
  go_enter Tryd.func56, Tryd.ntmps56
  go_upto_region 1 with (fail)
  generalize (w.alloc (.cells #[.int .i64 113, .int .i64 a, .int .i64 b, .int .i64 d, .int .i64 imm] 67)) = W1 at R6 BB EW ⊢
  generalize hg4 : w.heap.size = g4 at R6 NG ⊢
  clear hg4
  have c0 := (blk_cell R6.out 0).trans rfl
  go_upto_region 29 with (fail)
  have c1 := (blk_cell R6.out 1).trans rfl
  have ka := EW.out.kr (xreg_get EW.out HA.out)
  have fa := EW.out.fz (6 + a)
  refine wp_region_still_tail 5 (by kernel_rfl) (by kernel_rfl) ?_
  simp only [List.take_succ_cons, List.take_zero, List.drop_succ_cons, List.drop_zero]
  repeat (with_reducible refine wpStill_step (fun K hK => ?_); go_simp; with_reducible refine hK _ ?_; clear hK K)
  with_reducible refine wpStill_nil ?_
  change wpList _ _ _ _ _ W1.drew
  go_upto_region 30 with (fail)
  have EX := Aside0.mk ((EW.out.set_reg a HA.out 4294967295 (by decide) (by decide)).then_below (Below.refl _ _).drew)
  have hb : (W1.setCell ⟨c, 6 + a, none⟩ (.int .u32 4294967295)).drew.cell? ⟨g4, 1, none⟩ = some (.int .i64 a) := far_cell (j := 6 + a) (u := .int .u32 4294967295) c1 (Below.refl _ _) (show ¬ c = g4 from fun e => NG.out (by rw [← e]; simp [foot]))
  generalize (W1.setCell ⟨c, 6 + a, none⟩ (.int .u32 4294967295)).drew = W2 at EX hb ⊢
  clear c0 c1 fa ka
  obtain ⟨ad, cap, A', eA, hc, -, -⟩ := EX.out.em.take_in
  have k3 : W2.cell? ⟨c, 3, none⟩ = some (.slice (some ad) (rest.length + 1) cap) := EX.out.em.kin.trans (congrArg some eA)
  have hl : ((0 : Nat) : Int) < ((rest.length + 1 : Nat) : Int) := by omega
  have hk := EX.out.em.kr (xreg_get EX.out.em HA.out)
  have fa := EX.out.em.fz (6 + a)
  clear eA
  go_upto_region 31 with (fail)
  skip
  refine wp_region_still_tail 12 (by kernel_rfl) (by kernel_rfl) ?_
  simp only [List.take_succ_cons, List.take_zero, List.drop_succ_cons, List.drop_zero]
  repeat (with_reducible refine wpStill_step (fun K hK => ?_); go_simp; with_reducible refine hK _ ?_; clear hK K)
  with_reducible refine wpStill_nil ?_
  change wpList _ _ _ _ _ W2.drew
  go_upto_region 32 with (fail)
  rw [Int.emod_eq_of_lt HV.out.1 HV.out.2]
  have EY := Aside0.mk (EX.out.trans ((EX.out.em.set_reg a HA.out v HV.out.1 HV.out.2).then_below (Below.refl _ _).drew))
  generalize (W2.setCell ⟨c, 6 + a, none⟩ (.int .u32 v)).drew = W3 at EY ⊢
  clear hc hb hk fa k3 hl
  obtain ⟨ad2, cap2, A2, eA, -, hrun, D2⟩ := EY.out.em.take_in
  have DZ := Aside0.mk D2
  clear D2
  have k3 : W3.cell? ⟨c, 3, none⟩ = some (.slice (some ad2) (rest.length + 1) cap2) := EY.out.em.kin.trans (congrArg some eA)
  have f3 := EY.out.em.fz 3
  clear eA
  go_wp2_with (fail)
  all_goals go_end0
  all_goals refine ⟨rfl, .slice A2 rest.length (cap2 - 1), S.outV, ps, ?_, fun _ => rfl⟩
  all_goals (have q := XDid.pre BB.out (EY.out.trans DZ.out); simpa [setR, List.set_set] using q)
theorem xgrown23 (h : XM w c pg fx ps S inp out) (hg : w.grownBy w' S.outV.ownBlock) : w'.cell? ⟨c, 23, none⟩ = some S.outV ∧ w'.frozen? ⟨c, 23, none⟩ = false := by
  have hh := blk_grown h.head hg (fun e => by
    have hn := h.nodup
    unfold foot at hn
    exact (List.nodup_cons.1 hn).1 (by simp [← e]))
  exact ⟨by rw [xcpu_cell hh, xcpu_at h.nreg]; rfl, xcpu_froz hh 23⟩
set_option maxHeartbeats 4000000 in
set_option maxRecDepth 100000 in
theorem xother_112 (h : XM w c pg fx ps S inp out) (x : I5) (hop : x.op = 112) (ha : x.a < 16) (hb : x.b < 16) (hd : x.c < 16) (hi : -8388608 ≤ x.imm ∧ x.imm ≤ 16777216) (im : Int) (him : x.imm % 4294967296 = im) (hz : out.length + 1 ≤ 140737488355328) :
    Calls Tryd.prog 56 #[.pointer (some ⟨c, 0, none⟩), x.enc, .int .u32 im] w fun e w' => e = .returned (.tuple #[]) ∧ Xdone (endM (doM (byteAt ps) S x inp out)) w w' c pg fx ps S := by
  obtain ⟨op, a, b, d, imm⟩ := x
  unfold I5.enc
  simp only at hop ha hb hd hi him ⊢
  have HX := Aside0.mk (show 0 ≤ im ∧ im < 4294967296 by omega)
  subst hop
  have HZZ := Aside0.mk (show (out.length + 1) * 1 ≤ 140737488355328 by omega)
  clear hz
  rw [show endM (doM (byteAt ps) S ⟨112, a, b, d, imm⟩ inp out) = ⟨.nilIface, S, byteAt ps, inp, out ++ [regV S a % 256]⟩ by rfl]
  have HIM := Aside0.mk him
  clear him
  have H := Aside0.mk h
  have HI := Aside0.mk hi
  have HA := Aside0.mk ha
  have HBB := Aside0.mk hb
  have HDD := Aside0.mk hd
  have ia := idx16 ha
  have BB := Aside0.mk (show Below w.heap.size w (w.alloc (.cells #[.int .i64 112, .int .i64 a, .int .i64 b, .int .i64 d, .int .i64 imm] 67)) from below_alloc (Below.refl _ _) _)
  have R6 := Aside0.mk (show (w.alloc (.cells #[.int .i64 112, .int .i64 a, .int .i64 b, .int .i64 d, .int .i64 imm] 67)).heap[w.heap.size]? = some (.cells #[.int .i64 112, .int .i64 a, .int .i64 b, .int .i64 d, .int .i64 imm] 67 (0, 0)) from heap_at _ _ _ rfl)
  have NG := Aside0.mk (show w.heap.size ∉ foot c pg ps S from fun hh => absurd (h.foot_lt _ hh) (by omega))
  have EW := Aside0.mk (h.below BB.out)
  clear h hi ha hb hd
  go_enter Tryd.func56, Tryd.ntmps56
  go_upto_region 1 with (fail)
  generalize (w.alloc (.cells #[.int .i64 112, .int .i64 a, .int .i64 b, .int .i64 d, .int .i64 imm] 67)) = W1 at R6 BB EW ⊢
  generalize hg4 : w.heap.size = g4 at R6 NG ⊢
  clear hg4
  have c0 := (blk_cell R6.out 0).trans rfl
  go_upto_region 27 with (fail)
  have c1 := (blk_cell R6.out 1).trans rfl
  have ka := EW.out.kr (xreg_get EW.out HA.out)
  have k23 := EW.out.kout
  have f23 := EW.out.fz 23
  obtain ⟨base, HR⟩ := EW.out.outS
  have hHR := Aside0.mk (Kd.R_lower (Kd.R_drew HR) (Nat.zero_le base))
  have hBB := Aside0.mk (show Below 0 W1 W1.drew from (Below.refl _ _).drew)
  have hzz := HZZ
  have ED := Aside0.mk (EW.out.below (Below.refl _ _).drew)
  have in5 := Aside0.mk inf5
  clear HR
  have hw8 : IntKind.u8.wrap (regV S a) = regV S a % 256 := IntKind.wrap_u8 _
  have h23 : (W1.alloc (.cells #[.int .u8 (regV S a % 256)] 5)).cell? ⟨c, 23, none⟩ = some S.outV := pw_cell_below (below_alloc (Below.refl W1.heap.size W1) _) k23
  have hka : (W1.alloc (.cells #[.int .u8 (regV S a % 256)] 5)).cell? ⟨c, 6 + a, none⟩ = some (.int .u32 (regV S a)) := pw_cell_below (below_alloc (Below.refl W1.heap.size W1) _) ka
  have hc1 : (W1.alloc (.cells #[.int .u8 (regV S a % 256)] 5)).cell? ⟨g4, 1, none⟩ = some (.int .i64 a) := pw_cell_below (below_alloc (Below.refl W1.heap.size W1) _) c1
  clear c0
  go_region_law (refine Kd.R_append_step (Kd.int .u8) (w0 := W1) (W := W1.drew) 0 (by rfl) (.tmp 141) (.tmp 149) 22 5 (.int .u8 0) 1 (by rfl) Tryd.underlying22 in5.out rfl (by decide) (by decide) S.outV out (regV S a % 256) [.int .u8 (regV S a % 256)] (fun _ => True) (fun _ => False) (by simp [Act.eval, Act.put]) (by simp [Act.eval, Act.put]) rfl (fun _ hk => hk.elim) (fun _ _ => trivial) hHR.out hBB.out (Nat.zero_le _) hzz.out ?_; intro v1 w1 hR1 hB1 hG1 hat1; obtain ⟨A1, c1', hv1⟩ := Kd.R_slice hR1; subst hv1; obtain ⟨q23, z23⟩ := xgrown23 ED.out hG1; have DD := Aside0.mk (ED.out.grown hG1 hR1 hat1); clear hR1 hB1 hG1 hat1)
  all_goals go_wp2_with (fail)
  all_goals go_end0
  all_goals exact ⟨rfl, S.inV, .slice A1 (out.length + 1) c1', ps, XDid.pre (pm_chain BB.out (Below.refl _ _).drew) (by simpa using DD.out), fun _ => rfl⟩
end Go.Proofs.YtejhnlljddjicaaDoor.Ma
