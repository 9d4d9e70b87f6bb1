/- What Go functions answer, proved by walking their code (written by a program of this session, a changed copy of the print). Conditions: none beyond the ones each theorem names. -/
import Derived.Test.YtmkhfedemoccoaaPFdx0
import Derived.Test.YtmkhfedemoccoaaPFdx1
import Derived.Test.YtmkhfedemoccoaaPFdx2
import Derived.Test.YtmkhfedemoccoaaPFdx3
namespace Go.Proofs.Ytmkhfedemoccoaa.PFd
open Go.RowKit Go.Proofs.YtmkhfedemoccoaaW.PrintWords Go.Proofs.YtmkhfedemoccoaaW.PrintLast Go.Proofs.YtmkhfedemoccoaaW.PrintMore
attribute [local go_sem] max2_int min2_int max_two min_two max_three min_three max_four min_four   -- for this text's walks alone
set_option linter.unusedVariables false
set_option linter.unusedSimpArgs false

/-! ### field_unit: function 60 (by hand) -/
/-- The first 'i' bytes from 'off' on, as a number: the loop of 'unit'. -/
def field_unit.num (l : List Int) (off : Int) : Nat → Int
  | 0 => 0
  | i + 1 => Go.bits .or .u32 (field_unit.num l off i) (shl .u32 ((rd l (off + i)) % 4294967296) (8 * i))
theorem set_take_drop (xs : List Int) (m : Nat) (y : Int) (ys : List Int) (hm : m + (ys.length + 1) ≤ xs.length) :
    (xs.set m y).take (m + 1) ++ ys ++ (xs.set m y).drop (m + 1 + ys.length) = xs.take m ++ (y :: ys) ++ xs.drop (m + (ys.length + 1)) := by
  have h1 : (xs.set m y).take (m + 1) = xs.take m ++ [y] := by
    rw [List.take_succ_eq_append_getElem (by simp; omega)]
    rw [List.take_set_of_le (Nat.le_refl _)]; simp
  have h2 : (xs.set m y).drop (m + 1 + ys.length) = xs.drop (m + (ys.length + 1)) := by
    rw [List.drop_set_of_lt (by omega)]
    congr 1; omega
  rw [h1, h2]
  simp
theorem R_setCells {k : IntKind} {e : Nat} {base : Nat} {ok : Nat → Prop} {g n cap : Nat} : ∀ (ys : List Int) (m : Nat) (W : World) (xs : List Int), (Kd.int k).R e W base ok (.slice (some ⟨g, 0, none⟩) n cap) xs → m + ys.length ≤ n →
    (Kd.int k).R e (W.setCells g m (nums k ys)) base ok (.slice (some ⟨g, 0, none⟩) n cap) (xs.take m ++ ys ++ xs.drop (m + ys.length))
  | [], m, W, xs, h, hm => by simpa [nums, World.setCells] using h
  | y :: ys, m, W, xs, h, hm => by
    have hn : xs.length = n := (Kd.R_reads' h).1.symm ▸ rfl
    have h1 := Kd.R_putn h (m : Int) y
    have h2 := R_setCells ys (m + 1) _ _ h1 (by simp at hm; omega)
    rw [Int.toNat_natCast, set_take_drop xs m y ys (by simp at hm; omega)] at h2
    exact h2
theorem below_setCells {w : World} {B g : Nat} (hg : B ≤ g) : ∀ (vs : List Value) (o : Nat) (W : World), Below B w W → Below B w (W.setCells g o vs)
  | [], _, _, h => h
  | v :: r, o, W, h => below_setCells hg r (o + 1) _ (h.setCell hg v)
theorem copy_step {P : Program} {ops : Array Oper} {Q : Exit → Act → World → Prop} {oi : Oper} {N : Option Tmp} {a : Act} {w w1 : World} {K : Act → World → Prop} (hw : Region.wanted oi (yielded ops a.tmps) = true) (hN : oi.dst = N) (s x : Operand) (t t' : TypeId)
    (ho : oi.op = .call { callee := .builtin .copy, args := #[s, x], argTypes := #[t, t'] }) (vs vx n : Value) (hs : a.eval s = vs) (hx : a.eval x = vx)
    (hr : (Builtin.copy_ #[t, t'] oi.type #[vs, vx]).run P w = .ok n w1) (h : K (a.put N n) w1) : if Region.wanted oi (yielded ops a.tmps) = true then Oper.wp P oi a w K Q else K (a.put N undef) w := by
  subst hN
  rw [if_pos hw]
  unfold Oper.wp execOp
  simp only [ho, resolve, invoke, builtin, Sem.run_bind, Sem.run_pure, Result.andThen_ok, List.map_toArray, List.map_cons, List.map_nil, hs, hx, hr]
  exact h
set_option maxHeartbeats 8000000 in
set_option maxRecDepth 100000 in
theorem field_unit.yes (k : Nat) {w0 : World} (A0 : Option Addr) (c0 : Nat) (l0 : List Int) (p0 p1 p2 p3 p4 a2 : Int) (fn : Nat) (cap : Array Value) (y : Int) (wd : Nat) (bs : List Int) (I J : World → Prop) (w : World)
    (hr0 : Kd.C (Kd.int .u8) w0 A0 l0.length l0) (hc0 : l0.length ≤ c0)
    (hI : ∀ W W', Below W.heap.size W W' → I W → I W') (hJ : ∀ W W', Below W.heap.size W W' → J W → J W')
    (hw : word_Width.f k a2 = some (wd : Int)) (hr : field_right.f k p0 p1 p2 p3 p4 a2 = some true) (hwd : wd = 1 ∨ wd = 2 ∨ wd = 4) (h0 : 0 ≤ p2) (hcap : l0.length < 140737488355328) (h1 : (wd : Int) ≤ l0.length) (h2 : p2 ≤ (l0.length : Int) - wd)
    (hD : ∀ W, Below w0.heap.size w0 W → I W → Calls Try.prog fn (#[.int .u32 (field_unit.num l0 p2 wd)] ++ cap) W fun E W' => E = .returned (.tuple #[.int .u32 y, .int .i64 0]) ∧ J W' ∧ (∀ b, w.heap.size ≤ b → b < W.heap.size → W'.heap[b]? = W.heap[b]?) ∧ Below w0.heap.size w0 W')
    {F : Func} (hf : Try.prog.funcs[fn]? = some F) (hname : (F.name == "runtime.NumGoroutine") = false) (hbody : F.body.isSome = true)
    (hb : word_Bytes.f k y wd = some bs) (hbl : bs.length = wd)
    (HB : Below w0.heap.size w0 w) (hIw : I w) :
    Calls Try.prog 60 #[.slice A0 l0.length c0, .agg #[.int .i64 p0, .int .i64 p1, .int .i64 p2, .int .i64 p3, .int .i64 p4], .int .i64 a2, .func (.func fn) #[] cap] w fun E W' => ∃ v0_, E = .returned (.tuple #[v0_, .int .i64 0]) ∧ Kd.R (Kd.int .u8) 5 W' w0.heap.size (fun _ => True) v0_ (l0.take p2.toNat ++ bs ++ l0.drop (p2.toNat + wd)) ∧ J W' ∧ Below w0.heap.size w0 W' := by
  have HW := Aside0.mk hw
  have HR := Aside0.mk hr
  have HR0 := Aside0.mk hr0
  have HC0 := Aside0.mk hc0
  have HD := Aside0.mk hD
  have HBY := Aside0.mk hb
  have HI := Aside0.mk hI
  have HJ := Aside0.mk hJ
  have HWD := Aside0.mk hwd
  have HBL := Aside0.mk hbl
  have HB0 := Aside0.mk HB
  have HIW := Aside0.mk hIw
  clear hw hr hr0 hc0 hD hb hI hJ hwd hbl HB hIw
  have he : ∀ W, (callFunc fn (#[Value.int IntKind.u32 (field_unit.num l0 p2 wd)] ++ cap)).run Try.prog W = .ok (.enter fn (#[Value.int IntKind.u32 (field_unit.num l0 p2 wd)] ++ cap)) W := fun W => enters_ hf hname hbody _ W
  clear hf hname hbody
  have hu64 := Try.underlying64
  have e1 : decide ((l0.length : Int) < (wd : Int)) = false := decide_eq_false (by omega)
  have e1' : decide (l0.length < wd) = false := decide_eq_false (by omega)
  go_enter Try.func60, Try.ntmps60
  go_wp2_with (first | (go_at_call 33; refine (word_Width.calls k a2 _ _ HW.out).mono ?_; rintro e w' ⟨rfl, ⟨nd, rfl⟩⟩))
  refine (field_right.calls k p0 p1 p2 p3 p4 a2 true _ HR.out).mono ?_
  rintro e w1 ⟨rfl, hb1⟩
  have hB1 := Aside0.mk (below_then (pw_below_drewN (HB0.out.alloc HB0.out.size _) nd) (by have := HB0.out.size; simp; omega) hb1)
  have hx2 : w1.cell? ⟨w.heap.size, 2, none⟩ = some (.int .i64 p2) := pw_cell_below hb1 (by simp)
  have hsz1 : w.heap.size < w1.heap.size := by have := hb1.size; simp at this; omega
  have hI1 := Aside0.mk (HI.out w w1 (below_then (pw_below_drewN ((Below.refl _ w).alloc (Nat.le_refl _) _) nd) (by simp) hb1) HIW.out)
  clear hb1
  have hlen : l0.length ≤ 9223372036854775807 := HR0.out.2.1
  have e2 : decide (wrap64 ((l0.length : Int) - (wd : Int)) < p2) = false := decide_eq_false (by unfold wrap64; omega)
  go_wp2_with (fail)
  have hwd4 : wd ≤ 4 := by rcases HWD.out with h | h | h <;> omega
  go_loop [11, 37] (fun v c => ∃ j : Nat, j ≤ wd ∧ v = .int .u32 (field_unit.num l0 p2 j) ∧ c = .int .i64 j) (fun _ c => wd - (intOf c).toNat)
  case atStart => exact ⟨0, by omega, rfl, rfl⟩
  case round =>
    obtain ⟨j, hj, rfl, rfl⟩ := hrel
    by_cases hlt : j < wd
    · obtain ⟨ad, e0, hx⟩ := Kd.at_int (Kd.C_below HR0.out hB1.out) (p2 + j) (by omega) (by omega)
      cases e0
      have p1 : (0 ≤ (p2 + (j : Int))) = True := eq_true (by omega)
      have q1 : (p2 + (j : Int) < (l0.length : Int)) = True := eq_true (by omega)
      obtain ⟨s8, hs8⟩ : ∃ s : Int, shl .u32 ((rd l0 (p2 + j)) % 4294967296) (8 * j) = s := ⟨_, rfl⟩
      have hsz : IntKind.u32.wrap ((rd l0 (p2 + j)) % 4294967296 * 2 ^ ((8 * (j : Int)).toNat)) = s8 := shl_small hs8 (by simp [IntKind.bits]; omega)
      have HS := Aside0.mk hs8
      clear hs8
      go_wp2_with (fail)
      go_round
      case rel => exact ⟨j + 1, by omega, by (show Value.int _ _ = Value.int _ (Go.bits .or .u32 (field_unit.num l0 p2 j) (shl .u32 ((rd l0 (p2 + j)) % 4294967296) (8 * j)))); rw [HS.out], by go_num⟩
      case measure => simp [intOf]; omega
    · obtain rfl : j = wd := by omega
      go_wp2_with (fail)
      refine (HD.out _ hB1.out hI1.out).mono ?_
      rintro e w2 ⟨rfl, hj2, hk2, hb2⟩
      have hy2 : w2.cell? ⟨w.heap.size, 2, none⟩ = some (.int .i64 p2) := (World.cell?_of_block (w := w1) (hk2 w.heap.size (Nat.le_refl _) hsz1)).trans hx2
      clear hx2 hk2
      have hB2 := Aside0.mk hb2
      have hJ2 := Aside0.mk hj2
      clear hj2 hb2
      go_wp2_with (first
        | ((with_reducible refine gate_dst (N := 63) rfl ?_); refine Kd.R_lit (Kd.int .u8) (w0 := w2) w2.heap.size 5 ?hg (N := 63) ?hd (xs := ([] : List Int)) (inner := []) (ok := fun _ => True) (okp := fun _ => True) ?hr ?hp (fun _ hk => hk) trivial (Below.refl _ _) (Nat.le_refl _) (by simp) ?_; (case hd => rfl); (case hg => rfl); (case hr => first | (go_simp; done) | (go_simp; rfl)); (case hp => exact (Reps.none _ _)); intro v3 w3 ho3 hb3 hg3 hnew_; clear hnew_ hg3; have hB3 := Aside0.mk hb3; have hO3 := Aside0.mk ho3; clear hb3 ho3)
        | ((with_reducible refine gate_builtin (b := .append) (xs := #[.tmp 63, .tmp 64]) rfl ?_); at_builtin; refine Kd.R_append_rows (Kd.int .u8) (w0 := w2) w2.heap.size rfl (.tmp 63) (.tmp 64) 31 5 (.int .u8 0) 1 rfl Try.underlying31 info5 rfl (by decide) (by omega) v3 [] l0 _ _ _ (fun _ => True) (fun _ => False) rfl rfl ?aO ?aR (fun _ _ h => h) (fun _ h => h.elim) ?aF ?aB ?aS ?aL ?_; (case aR => exact (Kd.C_below (Kd.C_below HR0.out hB2.out) hB3.out)); (case aB => exact hB3.out); (case aF => exact (fun _ _ => trivial)); (case aO => exact hO3.out); (case aS => exact hB3.out.size); (case aL => simp; omega); intro v4 w4 ho4 hb4 hg4 hat4; clear hat4 hg4; have hB4 := Aside0.mk hb4; have hO4 := Aside0.mk (by simpa using ho4 : Kd.R (Kd.int .u8) 5 w4 w2.heap.size (fun _ => True) v4 l0); clear hb4 ho4 hO3 hB3))
      have hy4 : w4.drew.cell? ⟨w.heap.size, 2, none⟩ = some (.int .i64 p2) := pw_cell_below hB4.out hy2
      clear hy2
      obtain ⟨m, rfl⟩ := Int.eq_ofNat_of_zero_le h0
      have hmn : m + j ≤ l0.length := by omega
      have hj1 : 0 < j := by rcases HWD.out with h | h | h <;> omega
      obtain ⟨g, co, eo, hgb, hgl, hcl, hform⟩ := Kd.R_form hO4.out (by omega)
      subst eo
      have hcm : l0.length ≤ co := (Kd.R_reads' hO4.out).2.1
      have hsl : ∀ W, (Instr.slice 31 (.slice (some ⟨g, 0, none⟩) l0.length co) (some (.int .i64 (m : Int))) none none).run Try.prog W = .ok (.slice (some ⟨g, m, none⟩) (l0.length - m) (co - m)) W := by
        intro W
        rw [run_slice_l W 31 (some ⟨g, 0, none⟩) l0.length co Try.underlying31 .i64 (m : Int) (by omega) (by omega)]
        have hel : Try.prog.elem 31 = 5 := by kernel_rfl
        rw [hel]
        obtain ⟨i0, hi0, hz0⟩ := Option.map_eq_some_iff.1 info5
        simp only [Prod.mk.injEq] at hz0
        have hne : ¬ co = m := by omega
        simp [sizeOf, typeInfo, hi0, hz0.2.1, sliced, Result.andThen, hne, add_plain]
      refine start_ (n := 8) (S := fun w' => w'.cell? ⟨w.heap.size, 2, none⟩ = some (.int .i64 (m : Int))) (ds := [7]) #[false, false, false, false, false, false, false, false] (by kernel_rfl) rfl rfl hy4 (fun hHeld => ?_)
      refine pure_ (i := 0) (N := some 66) (v := ?_) (a' := ?_) #[true, false, false, false, false, false, false, false] rfl rfl (by kernel_rfl) (fun _ _ _ h => h) (Or.inl ⟨by rfl, ?_⟩) ?_ ?_
      rotate_left
      · intro w'
        go_simp
        with_reducible rfl
      rotate_left
      · simp only [Act.put, List.setIfInBounds_toArray, List.set_cons_zero, List.set_cons_succ, i64_w, i32_w]
        rfl
      refine pure_ (i := 1) (N := some 67) (v := ?_) (a' := ?_) #[true, true, false, false, false, false, false, false] rfl rfl (by kernel_rfl) (fun _ _ _ h => h) (Or.inl ⟨by rfl, ?_⟩) ?_ ?_
      rotate_left
      · intro w'
        go_simp
        with_reducible rfl
      rotate_left
      · simp only [Act.put, List.setIfInBounds_toArray, List.set_cons_zero, List.set_cons_succ, i64_w, i32_w]
        rfl
      refine pure_ (i := 4) (N := some 70) (v := ?_) (a' := ?_) #[true, true, false, false, true, false, false, false] rfl rfl (by kernel_rfl) (fun _ _ _ h => h) (Or.inl ⟨by rfl, ?_⟩) ?_ ?_
      rotate_left
      · intro w'
        go_simp
        with_reducible rfl
      rotate_left
      · simp only [Act.put, List.setIfInBounds_toArray, List.set_cons_zero, List.set_cons_succ, i64_w, i32_w]
        rfl
      refine pure_ (i := 5) (N := some 71) (v := ?_) (a' := ?_) #[true, true, false, false, true, true, false, false] rfl rfl (by kernel_rfl) (fun _ _ _ h => h) (Or.inl ⟨by rfl, ?_⟩) ?_ ?_
      rotate_left
      · intro w'
        go_simp
        with_reducible rfl
      rotate_left
      · simp only [Act.put, List.setIfInBounds_toArray, List.set_cons_zero, List.set_cons_succ, i64_w, i32_w]
        rfl
      refine take_ (i := 2) (N := some 68) (v := ?_) (a' := ?_) #[true, true, true, false, true, true, false, false] rfl rfl (by kernel_rfl) (fun _ _ _ h => h) (Or.inl ⟨by rfl, ?_⟩) hHeld ?_ ?_
      rotate_left
      · intro w'
        intro hS'; go_simp
        with_reducible rfl
      rotate_left
      · simp only [Act.put, List.setIfInBounds_toArray, List.set_cons_zero, List.set_cons_succ, i64_w, i32_w]
        rfl
      refine pure_ (i := 3) (N := some 69) (v := ?_) (a' := ?_) #[true, true, true, true, true, true, false, false] rfl rfl (by kernel_rfl) (fun _ _ _ h => h) (Or.inl ⟨by rfl, ?_⟩) ?_ ?_
      rotate_left
      · intro w'
        go_simp
        with_reducible rfl
      rotate_left
      · simp only [Act.put, List.setIfInBounds_toArray, List.set_cons_zero, List.set_cons_succ, i64_w, i32_w]
        rfl
      refine one_ (i := 6) (N := some 72) #[true, true, true, true, true, true, true, false] rfl rfl (by kernel_rfl) (by decide) (fun K hK => ?_)
      refine call_ 22 #[.int .u32 y, .int .i64 (j : Int)] (by rfl) rfl (by unfold execOp; simp [resolve, Deferred.ofValue, invoke, Act.eval, enters_ Try.func22 (by kernel_rfl) rfl]) ?_
      refine (word_Bytes.calls k y j bs _ HBY.out).mono ?_
      rintro e w5 ⟨v5, rfl, ho5, hb5⟩
      refine ⟨_, rfl, ?_⟩
      have hB5 := Aside0.mk (below_step (below_drew hB4.out) hb5)
      have hS5 : w5.cell? ⟨w.heap.size, 2, none⟩ = some (.int .i64 (m : Int)) := pw_cell_below hb5 hHeld
      have hO5 := Aside0.mk (Kd.R_elder' (Kd.R_drew hO4.out) (Kd.R_base ho5) hb5)
      refine hK.out _ _ hS5 (fun hS6 => ?_)
      clear hK
      obtain ⟨A5, c5, e5⟩ := Kd.R_slice ho5
      subst e5
      have hR5 := Kd.R_reads' ho5
      refine last_ (i := 7) (N := some 73) #[true, true, true, true, true, true, true, true] rfl rfl (by kernel_rfl) (by decide) (fun K hK => ?_)
      obtain ⟨ad, eA, hx0⟩ := Kd.at_int hR5.2.2 0 (by omega) (by have := HBL.out; omega)
      subst eA
      have hcp := run_copy_cells (P := Try.prog) w5 31 31 3 5 g m (l0.length - m) (co - m) ad bs.length c5 (nums .u8 bs) Try.underlying31 (by kernel_rfl)
        (by rw [nums_length]; have := HBL.out; exact (Nat.min_eq_left (by omega)).symm)
        (by
          intro q u hq
          have hql : q < bs.length := by
            rcases Nat.lt_or_ge q bs.length with h | h
            · exact h
            · simp [nums, List.getElem?_eq_none h] at hq
          obtain ⟨ad', e', hx'⟩ := Kd.at_int hR5.2.2 (q : Int) (by omega) (by omega)
          injection e' with e'
          subst e'
          rw [Int.toNat_natCast] at hx'
          rw [hx']
          simp [nums, List.getElem?_eq_getElem hql] at hq
          subst hq
          simp [rd, List.getD_eq_getElem?_getD, List.getElem?_eq_getElem hql])
        (by
          intro q hq
          rw [nums_length] at hq
          obtain ⟨hx', hf'⟩ := Kd.R_celln 0 hO5.out ((m + q : Nat) : Int) (by omega) (by have := HBL.out; omega)
          rw [Int.toNat_natCast] at hx'
          rw [hx']; rfl)
        (by
          intro q hq
          rw [nums_length] at hq
          obtain ⟨hx', hf'⟩ := Kd.R_celln 0 hO5.out ((m + q : Nat) : Int) (by omega) (by have := HBL.out; omega)
          rw [Int.toNat_natCast] at hf'
          exact hf')
        (by intro u hu; simp only [nums, List.mem_map] at hu; obtain ⟨q, _, rfl⟩ := hu; rfl)
      have hO6 := Aside0.mk (R_setCells bs m w5 l0 hO5.out (by have := HBL.out; omega))
      have hB6 := Aside0.mk (below_setCells (w := w2) hgb (nums .u8 bs) m w5 hB5.out)
      refine copy_step (by rfl) rfl (.tmp 69) (.tmp 72) 31 31 rfl _ _ _ rfl rfl hcp ?_
      refine hK.out _ _ ?_
      clear hK hcp
      refine done_ (by rfl) ?_
      generalize w5.setCells g m (nums IntKind.u8 bs) = w6 at hO6 hB6 ⊢
      go_wp2_with (fail)
      go_ret2
      refine ⟨.slice (some ⟨g, 0, none⟩) l0.length co, rfl, ?_, HJ.out _ _ hB6.out hJ2.out, below_then hB2.out hB2.out.size hB6.out⟩
      have hbl := HBL.out
      rw [hbl] at hO6
      have hO7 := hO6.out
      rw [List.append_assoc] at hO7
      exact Kd.R_mono (Kd.R_lower hO7 hB2.out.size) (fun _ _ => trivial)
set_option maxHeartbeats 8000000 in
set_option maxRecDepth 100000 in
theorem field_unit.no (k : Nat) (A0 : Option Addr) (c0 : Nat) (l0 : List Int) (p0 p1 p2 p3 p4 a2 : Int) (fv : Value) (wd : Nat) (ok : Bool) (w : World) (hlen : l0.length ≤ 9223372036854775807)
    (hw : word_Width.f k a2 = some (wd : Int)) (hr : field_right.f k p0 p1 p2 p3 p4 a2 = some ok) (hwd : wd ≤ 4) (h : ok = false ∨ (l0.length : Int) < wd ∨ (l0.length : Int) - wd < p2) :
    Calls Try.prog 60 #[.slice A0 l0.length c0, .agg #[.int .i64 p0, .int .i64 p1, .int .i64 p2, .int .i64 p3, .int .i64 p4], .int .i64 a2, fv] w fun E W' => E = .returned (.tuple #[.slice none 0 0, .int .i64 80]) ∧ Below w.heap.size w W' := by
  have HW := Aside0.mk hw
  have HR := Aside0.mk hr
  have HH := Aside0.mk h
  clear hw hr h
  have hu64 := Try.underlying64
  go_enter Try.func60, Try.ntmps60
  go_wp2_with (first | (go_at_call 33; refine (word_Width.calls k a2 _ _ HW.out).mono ?_; rintro e w' ⟨rfl, ⟨nd, rfl⟩⟩))
  refine (field_right.calls k p0 p1 p2 p3 p4 a2 ok _ HR.out).mono ?_
  rintro e w1 ⟨rfl, hb1⟩
  have hB1 := Aside0.mk (below_then (pw_below_drewN ((Below.refl _ w).alloc (Nat.le_refl _) _) nd) (by simp) hb1)
  have hx2 : w1.cell? ⟨w.heap.size, 2, none⟩ = some (.int .i64 p2) := pw_cell_below hb1 (by simp)
  clear hb1
  cases ok with
  | false =>
    go_wp2_with (fail)
    go_ret2
    exact ⟨rfl, hB1.out⟩
  | true =>
    by_cases h1 : l0.length < wd
    · have e1 : decide (l0.length < wd) = true := decide_eq_true h1
      clear h1
      go_wp2_with (fail)
      go_ret2
      exact ⟨rfl, hB1.out⟩
    · have e1 : decide (l0.length < wd) = false := decide_eq_false h1
      have e2p : wrap64 ((l0.length : Int) - (wd : Int)) < p2 := by
        rcases HH.out with h | h | h
        · cases h
        · omega
        · unfold wrap64; omega
      have e2 : decide (wrap64 ((l0.length : Int) - (wd : Int)) < p2) = true := decide_eq_true e2p
      have e3 : decide ((l0.length : Int) - (wd : Int) < p2) = true := decide_eq_true (by unfold wrap64 at e2p; omega)
      clear e2p
      clear h1
      go_wp2_with (fail)
      go_ret2
      exact ⟨rfl, hB1.out⟩
/-- 'unit', by its guard. -/
def field_unit.g (k : Nat) (l0 : List Int) (a1_0 : Int) (a1_1 : Int) (a1_2 : Int) (a1_3 : Int) (a1_4 : Int) (a2 : Int) (D : Int → Option (Int × Int)) : Option (List Int × Int) :=
  (word_Width.f k a2).bind fun t1 => (field_right.f k a1_0 a1_1 a1_2 a1_3 a1_4 a2).bind fun t2 =>
    if (t1 = 0 ∨ t1 = 1 ∨ t1 = 2 ∨ t1 = 4) ∧ l0.length < 140737488355328 then
    if t2 = true ∧ t1 ≤ (l0.length : Int) ∧ a1_2 ≤ (l0.length : Int) - t1 then
      if 0 ≤ a1_2 ∧ t1 ≠ 0 then
      (D (field_unit.num l0 a1_2 t1.toNat)).bind fun bt3 => if bt3.2 = 0 then (word_Bytes.f k bt3.1 t1).bind fun t4 => if (t4.length : Int) = t1 then some (l0.take a1_2.toNat ++ t4 ++ l0.drop (a1_2.toNat + t1.toNat), 0) else none else none
      else none
    else some ([], 80)
    else none

/-! ### field_Write: function 44 (by hand) -/
theorem field_unit.g_mono (l0 : List Int) (p0 p1 p2 p3 p4 a2 : Int) (D : Int → Option (Int × Int)) (k : Nat) : LeO (field_unit.g k l0 p0 p1 p2 p3 p4 a2 D) (field_unit.g (k + 1) l0 p0 p1 p2 p3 p4 a2 D) := by
  unfold field_unit.g
  repeat' first
      | (with_reducible exact word_Width.mono _ _)
      | (with_reducible exact field_right.mono _ _ _ _ _ _ _)
      | (with_reducible exact word_Bytes.mono _ _ _)
      | (with_reducible exact LeO.refl _)
      | (with_reducible exact LeO.none _)
      | (with_reducible refine LeO.ite ?_ ?_)
      | (with_reducible refine LeO.bind ?_ (fun _ => ?_))
def field_Write.g (k : Nat) (l0 : List Int) (a1_0 : Int) (a1_1 : Int) (a1_2 : Int) (a1_3 : Int) (a1_4 : Int) (a2 : Int) (a3 : Int) : Option (List Int × Int) :=
  (if a2 = 2 then word_Convert.f k a2 a3 else some a3).bind fun t0 => field_unit.g k l0 a1_0 a1_1 a1_2 a1_3 a1_4 a2 fun v => (field_Put.f v 0 a1_3 a1_4 t0).bind fun bt => some (bt.1, bt.2.2)
set_option maxHeartbeats 8000000 in
set_option maxRecDepth 100000 in
theorem field_Write.done (p3 p4 v x y : Int) (gp gx : Nat) (z : Int) (W : World) (hp3 : W.cell? ⟨gp, 3, none⟩ = some (.int .i64 p3)) (hp4 : W.cell? ⟨gp, 4, none⟩ = some (.int .i64 p4)) (hx : W.cell? ⟨gx, 0, none⟩ = some (.int .u32 x))
    (h : field_Put.f v 0 p3 p4 x = some (y, z, 0)) :
    Calls Try.prog 61 #[.int .u32 v, .pointer (some ⟨gp, 0, none⟩), .pointer (some ⟨gx, 0, none⟩)] W fun E W' => E = .returned (.tuple #[.int .u32 y, .int .i64 0]) ∧ Drawn0 W W' := by
  have HP := Aside0.mk h
  clear h
  have hu64 := Try.underlying64
  go_enter Try.func61, Try.ntmps61
  go_wp2_with (first | (go_at_call 28; refine (field_Put.calls v 0 p3 p4 x y z 0 _ HP.out).mono ?_; rintro e w' ⟨rfl, ⟨nd, rfl⟩⟩))
  go_ret2
  exact ⟨rfl, by repeat (first | exact Drawn0.refl _ | apply Drawn0.step)⟩
set_option maxHeartbeats 8000000 in
set_option maxRecDepth 100000 in
/-- What 'Write' does of 'unit': its closure puts the number in. -/
theorem field_Write.unit (k : Nat) (A0 : Option Addr) (c0 : Nat) (l0 : List Int) (p0 p1 p2 p3 p4 a2 x : Int) (r1 : List Int) (r2 : Int) (w0 w : World) (gp gx : Nat) (hr0 : Kd.C (Kd.int .u8) w0 A0 l0.length l0) (hc0 : l0.length ≤ c0)
    (HB : Below w0.heap.size w0 w) (hgp : gp < w.heap.size) (hgx : gx < w.heap.size)
    (hp3 : w.cell? ⟨gp, 3, none⟩ = some (.int .i64 p3)) (hp4 : w.cell? ⟨gp, 4, none⟩ = some (.int .i64 p4)) (hx : w.cell? ⟨gx, 0, none⟩ = some (.int .u32 x))
    (h : (field_unit.g k l0 p0 p1 p2 p3 p4 a2 fun v => (field_Put.f v 0 p3 p4 x).bind fun bt => some (bt.1, bt.2.2)) = some (r1, r2)) :
    Calls Try.prog 60 #[.slice A0 l0.length c0, .agg #[.int .i64 p0, .int .i64 p1, .int .i64 p2, .int .i64 p3, .int .i64 p4], .int .i64 a2, .func (.func 61) #[] #[.pointer (some ⟨gp, 0, none⟩), .pointer (some ⟨gx, 0, none⟩)]] w
      fun e w' => ∃ v0_ : Value, e = .returned (.tuple #[v0_, .int .i64 r2]) ∧ Kd.R (Kd.int .u8) 5 w' w0.heap.size (fun _ => True) v0_ r1 ∧ Below w0.heap.size w0 w' := by
  unfold field_unit.g at h
  obtain ⟨t1, hw, h⟩ := Option.bind_eq_some_iff.mp h
  obtain ⟨t2, hr, h⟩ := Option.bind_eq_some_iff.mp h
  have hlen : l0.length ≤ 9223372036854775807 := hr0.2.1
  by_cases c1 : (t1 = 0 ∨ t1 = 1 ∨ t1 = 2 ∨ t1 = 4) ∧ l0.length < 140737488355328
  · rw [if_pos c1] at h
    obtain ⟨wd, rfl⟩ := Int.eq_ofNat_of_zero_le (show 0 ≤ t1 by omega)
    by_cases c2 : t2 = true ∧ (wd : Int) ≤ (l0.length : Int) ∧ p2 ≤ (l0.length : Int) - wd
    · rw [if_pos c2] at h
      obtain ⟨rfl, c3, c4⟩ := c2
      by_cases c5 : 0 ≤ p2 ∧ (wd : Int) ≠ 0
      · rw [if_pos c5] at h
        obtain ⟨⟨y, e⟩, hD, h⟩ := Option.bind_eq_some_iff.mp h
        obtain ⟨⟨y1, z, e1⟩, hP, hD⟩ := Option.bind_eq_some_iff.mp hD
        simp only [Option.some.injEq, Prod.mk.injEq] at hD
        obtain ⟨rfl, rfl⟩ := hD
        simp only at h
        by_cases c6 : e1 = 0
        · rw [if_pos c6] at h
          subst c6
          obtain ⟨bs, hb, h⟩ := Option.bind_eq_some_iff.mp h
          by_cases c7 : (bs.length : Int) = (wd : Int)
          · rw [if_pos c7] at h
            simp only [Option.some.injEq, Prod.mk.injEq] at h
            obtain ⟨rfl, rfl⟩ := h
            refine (field_unit.yes k (w0 := w0) A0 c0 l0 p0 p1 p2 p3 p4 a2 61 #[.pointer (some ⟨gp, 0, none⟩), .pointer (some ⟨gx, 0, none⟩)] y1 wd bs
              (fun W => W.cell? ⟨gp, 3, none⟩ = some (.int .i64 p3) ∧ W.cell? ⟨gp, 4, none⟩ = some (.int .i64 p4) ∧ W.cell? ⟨gx, 0, none⟩ = some (.int .u32 x)) (fun _ => True) w
              hr0 hc0 (fun W W' hb ⟨h1, h2, h3⟩ => ⟨pw_cell_below hb h1, pw_cell_below hb h2, pw_cell_below hb h3⟩) (fun _ _ _ _ => trivial) hw hr (by omega) c5.1 c1.2 c3 c4 ?_ Try.func61 (by kernel_rfl) rfl hb (by omega) HB ⟨hp3, hp4, hx⟩).mono ?_
            · intro W hB ⟨h1, h2, h3⟩
              refine (field_Write.done p3 p4 _ x y1 gp gx z W h1 h2 h3 hP).mono ?_
              rintro e W' ⟨rfl, ⟨nd, rfl⟩⟩
              exact ⟨rfl, trivial, fun _ _ _ => rfl, pw_below_drewN hB nd⟩
            · rintro e W' ⟨v0_, rfl, h1, _, h2⟩
              exact ⟨v0_, rfl, h1, h2⟩
          · rw [if_neg c7] at h
            exact absurd h (by simp)
        · rw [if_neg c6] at h
          exact absurd h (by simp)
      · rw [if_neg c5] at h
        exact absurd h (by simp)
    · rw [if_neg c2] at h
      simp only [Option.some.injEq, Prod.mk.injEq] at h
      obtain ⟨rfl, rfl⟩ := h
      refine (field_unit.no k A0 c0 l0 p0 p1 p2 p3 p4 a2 _ wd t2 w hlen hw hr (by omega) (by cases t2 <;> simp at c2 ⊢; omega)).mono ?_
      rintro e W' ⟨rfl, h2⟩
      exact ⟨_, rfl, Kd.R_nil _ _ _ _ _, below_then HB HB.size h2⟩
  · rw [if_neg c1] at h
    exact absurd h (by simp)
set_option maxHeartbeats 8000000 in
set_option maxRecDepth 100000 in
theorem field_Write.gcalls (k : Nat) (A0 : Option Addr) (c0 : Nat) (l0 : List Int) (p0 p1 p2 p3 p4 a2 a3 : Int) (r1 : List Int) (r2 : Int) (w : World) (hr0 : Kd.C (Kd.int .u8) w A0 l0.length l0) (hc0 : l0.length ≤ c0) (h : field_Write.g k l0 p0 p1 p2 p3 p4 a2 a3 = some (r1, r2)) :
    Calls Try.prog 44 #[.slice A0 l0.length c0, .agg #[.int .i64 p0, .int .i64 p1, .int .i64 p2, .int .i64 p3, .int .i64 p4], .int .i64 a2, .int .u32 a3] w fun e w' => ∃ v0_ : Value, e = .returned (.tuple #[v0_, .int .i64 r2]) ∧ Kd.R (Kd.int .u8) 5 w' w.heap.size (fun _ => True) v0_ r1 ∧ Below w.heap.size w w' := by
  unfold field_Write.g at h
  obtain ⟨x, hx, h⟩ := Option.bind_eq_some_iff.mp h
  have HX := Aside0.mk hx
  have HU := Aside0.mk h
  have HR0 := Aside0.mk hr0
  clear hx h hr0
  have hu64 := Try.underlying64
  by_cases ht : a2 = 2
  · subst ht
    go_enter Try.func44, Try.ntmps44
    go_wp2_with (first | (go_at_call 37; refine (word_Convert.calls k 2 a3 x _ (by have := HX.out; rw [if_pos rfl] at this; exact this)).mono ?_; rintro e w' ⟨rfl, ⟨nd, rfl⟩⟩))
    refine (field_Write.unit k A0 c0 l0 p0 p1 p2 p3 p4 2 x r1 r2 w _ w.heap.size (w.heap.size + 1) HR0.out hc0 ?_ ?_ ?_ ?_ ?_ ?_ HU.out).mono ?_
    rotate_right
    · rintro e w3 ⟨v3, rfl, h1, h2⟩
      have H1 := Aside0.mk h1
      have H2 := Aside0.mk h2
      clear h1 h2
      go_wp2_with (fail)
      go_ret2
      exact ⟨_, rfl, H1.out, H2.out⟩
    · repeat (first | (with_reducible first | exact Below.refl _ _ | apply below_alloc | apply pw_below_drewN | apply below_drew1) | exact Below.refl _ _ | (refine Below.setCell ?_ (by simp) _))
    all_goals first | (simp; done) | (simp; omega) | go_simp
  · have hx : x = a3 := by have := HX.out; rw [if_neg ht] at this; exact (Option.some.inj this).symm
    subst hx
    have hb : (a2 == 2) = false := beq_eq_false_iff_ne.mpr ht
    clear ht
    go_enter Try.func44, Try.ntmps44
    go_wp2_with (fail)
    refine (field_Write.unit k A0 c0 l0 p0 p1 p2 p3 p4 a2 x r1 r2 w _ w.heap.size (w.heap.size + 1) HR0.out hc0 ?_ ?_ ?_ ?_ ?_ ?_ HU.out).mono ?_
    rotate_right
    · rintro e w3 ⟨v3, rfl, h1, h2⟩
      have H1 := Aside0.mk h1
      have H2 := Aside0.mk h2
      clear h1 h2
      go_wp2_with (fail)
      go_ret2
      exact ⟨_, rfl, H1.out, H2.out⟩
    · repeat (first | (with_reducible first | exact Below.refl _ _ | apply below_alloc | apply pw_below_drewN | apply below_drew1) | exact Below.refl _ _ | (refine Below.setCell ?_ (by simp) _))
    all_goals first | (simp; done) | (simp; omega) | go_simp
def field_Write.f (k : Nat) (l0 : List Int) (a1_0 : Int) (a1_1 : Int) (a1_2 : Int) (a1_3 : Int) (a1_4 : Int) (a2 : Int) (a3 : Int) : Option (List Int × Int) := field_Write.g k l0 a1_0 a1_1 a1_2 a1_3 a1_4 a2 a3
theorem field_Write.mono : ∀ a0 a1 a2 a3 a4 a5 a6 a7 k, LeO (field_Write.f k a0 a1 a2 a3 a4 a5 a6 a7) (field_Write.f (k + 1) a0 a1 a2 a3 a4 a5 a6 a7) := by
  intro a0 a1 a2 a3 a4 a5 a6 a7 k
  unfold field_Write.f field_Write.g
  refine LeO.bind ?_ (fun _ => field_unit.g_mono _ _ _ _ _ _ _ _ k)
  exact LeO.ite (word_Convert.mono _ _ k) (LeO.refl _)
theorem field_Write.calls (k : Nat) (A0 : Option Addr) (c0 : Nat) (l0 : List Int) (a1_0 : Int) (a1_1 : Int) (a1_2 : Int) (a1_3 : Int) (a1_4 : Int) (a2 : Int) (a3 : Int) (r1 : List Int) (r2 : Int) (w : World) (hr0 : Kd.C (Kd.int .u8) w A0 l0.length l0) (hc0 : l0.length ≤ c0) (h : field_Write.f k l0 a1_0 a1_1 a1_2 a1_3 a1_4 a2 a3 = some (r1, r2)) :
    Calls Try.prog 44 #[.slice A0 l0.length c0, .agg #[.int .i64 a1_0, .int .i64 a1_1, .int .i64 a1_2, .int .i64 a1_3, .int .i64 a1_4], .int .i64 a2, .int .u32 a3] w fun e w' => ∃ v0_ : Value, e = .returned (.tuple #[v0_, .int .i64 r2]) ∧ Kd.R (Kd.int .u8) 5 w' w.heap.size (fun _ => True) v0_ r1 ∧ Below w.heap.size w w' :=
  field_Write.gcalls k A0 c0 l0 a1_0 a1_1 a1_2 a1_3 a1_4 a2 a3 r1 r2 w hr0 hc0 h

/-! ### field_Touched: function 46 -/
def field_Touched.f (k : Nat) (a0_0 : Int) (a0_1 : Int) (a0_2 : Int) (a0_3 : Int) (a0_4 : Int) (a1 : Int) : Option (Int × Int × Int) := (field_right.f k a0_0 a0_1 a0_2 a0_3 a0_4 a1).bind fun t154 => (if t154 = true then (some (wrap64 (a0_2 + (wrap64 (Int.tdiv a0_3 8))), wrap64 ((wrap64 ((wrap64 (Int.tdiv (wrap64 ((wrap64 (a0_3 + a0_4)) - 1)) 8)) - (wrap64 (Int.tdiv a0_3 8)))) + 1), 0)) else (some (0, 0, 80)))
theorem field_Touched.mono : ∀ a0 a1 a2 a3 a4 a5 k, LeO (field_Touched.f k a0 a1 a2 a3 a4 a5) (field_Touched.f (k + 1) a0 a1 a2 a3 a4 a5) := by
  intro a0 a1 a2 a3 a4 a5 k
  unfold field_Touched.f
  repeat' first
      | (with_reducible exact field_right.mono _ _ _ _ _ _ _)
      | (with_reducible exact LeO.refl _)
      | (with_reducible exact LeO.none _)
      | (with_reducible refine LeO.ite ?_ ?_)
      | (with_reducible refine LeO.bind ?_ (fun _ => ?_))
      | exact field_right.mono _ _ _ _ _ _ _
      | exact LeO.none _
      | refine LeO.ite ?_ ?_
      | refine LeO.bind ?_ (fun _ => ?_)
set_option maxHeartbeats 8000000 in
set_option maxRecDepth 100000 in
theorem field_Touched.calls (k : Nat) (a0_0 : Int) (a0_1 : Int) (a0_2 : Int) (a0_3 : Int) (a0_4 : Int) (a1 : Int) (r1 : Int) (r2 : Int) (r3 : Int) (w : World) (h : field_Touched.f k a0_0 a0_1 a0_2 a0_3 a0_4 a1 = some (r1, r2, r3)) :
    Calls Try.prog 46 #[.agg #[.int .i64 a0_0, .int .i64 a0_1, .int .i64 a0_2, .int .i64 a0_3, .int .i64 a0_4], .int .i64 a1] w fun e w' => e = .returned (.tuple #[.int .i64 r1, .int .i64 r2, .int .i64 r3]) ∧ Below w.heap.size w w' := by
  have hu64 := Try.underlying64
  have HB := Aside0.mk (Below.refl w.heap.size w)
  have H : ((field_right.f k a0_0 a0_1 a0_2 a0_3 a0_4 a1).bind fun t154 => (if t154 = true then (some (wrap64 (a0_2 + (wrap64 (Int.tdiv a0_3 8))), wrap64 ((wrap64 ((wrap64 (Int.tdiv (wrap64 ((wrap64 (a0_3 + a0_4)) - 1)) 8)) - (wrap64 (Int.tdiv a0_3 8)))) + 1), 0)) else (some (0, 0, 80)))) = some (r1, r2, r3) := h
  clear h
  replace H := Option.bind_eq_some_iff.mp H
  obtain ⟨t154, A30, H⟩ := H
  replace H : (if t154 = true then (some (wrap64 (a0_2 + (wrap64 (Int.tdiv a0_3 8))), wrap64 ((wrap64 ((wrap64 (Int.tdiv (wrap64 ((wrap64 (a0_3 + a0_4)) - 1)) 8)) - (wrap64 (Int.tdiv a0_3 8)))) + 1), 0)) else (some (0, 0, 80))) = some (r1, r2, r3) := H
  have A3 := Aside0.mk A30
  clear A30
  by_cases c4 : t154 = true
  · subst c4
    have H1 : (some (wrap64 (a0_2 + (wrap64 (Int.tdiv a0_3 8))), wrap64 ((wrap64 ((wrap64 (Int.tdiv (wrap64 ((wrap64 (a0_3 + a0_4)) - 1)) 8)) - (wrap64 (Int.tdiv a0_3 8)))) + 1), 0)) = some (r1, r2, r3) := by rw [if_pos rfl] at H; exact H
    clear H
    have H := H1
    clear H1
    simp only [Option.some.injEq, Prod.mk.injEq] at H
    obtain ⟨rfl, rfl, rfl⟩ := H
    go_enter Try.func46, Try.ntmps46
    go_wp2_with (first | ((with_reducible refine gate_dst (N := 2) rfl ?_); refine box_event ?hg (N := 2) ?hd (cs := #[.int .i64 a0_0, .int .i64 a0_1, .int .i64 a0_2, .int .i64 a0_3, .int .i64 a0_4]) (t := 64) ?hr ?_; (case hd => rfl); (case hg => rfl); (case hr => first | (go_simp; done) | (go_simp; rfl)); intro gb153 hg w5 hbox hb; have n0_ := Aside0.mk (below_step (by repeat (first | (with_reducible first | exact HB.out | apply below_alloc | apply pw_below_drewN | apply below_drew1) | exact HB.out)) hb); have n1_ := Aside0.mk (hbox); have n2_ := Aside0.mk ((by rw [hg]; exact (below_size (by repeat (first | (with_reducible first | exact HB.out | apply below_alloc | apply pw_below_drewN | apply below_drew1) | exact HB.out))) : w.heap.size ≤ gb153)); have n3_ := Aside0.mk ((by rw [hg]; exact (below_size (by repeat (first | (with_reducible first | exact HB.out | apply below_alloc | apply pw_below_drewN | apply below_drew1) | exact HB.out))) : w.heap.size ≤ gb153)); clear HB; have HB := n0_; have BK153 := n1_; have GW153 := n2_; have GE153 := n3_; clear n0_ n1_ n2_ n3_; clear hb hbox hg; have hcz6_0 : w5.cell? ⟨gb153, 0, none⟩ = some (.int .i64 a0_0) := (blk_cell BK153.out 0).trans rfl; have hcz6_1 : w5.cell? ⟨gb153, 1, none⟩ = some (.int .i64 a0_1) := (blk_cell BK153.out 1).trans rfl; have hcz6_2 : w5.cell? ⟨gb153, 2, none⟩ = some (.int .i64 a0_2) := (blk_cell BK153.out 2).trans rfl; have hcz6_3 : w5.cell? ⟨gb153, 3, none⟩ = some (.int .i64 a0_3) := (blk_cell BK153.out 3).trans rfl; have hcz6_4 : w5.cell? ⟨gb153, 4, none⟩ = some (.int .i64 a0_4) := (blk_cell BK153.out 4).trans rfl; have hfz6_0 := blk_frozen BK153.out 0; have hfz6_1 := blk_frozen BK153.out 1; have hfz6_2 := blk_frozen BK153.out 2; have hfz6_3 := blk_frozen BK153.out 3; have hfz6_4 := blk_frozen BK153.out 4) | (go_at_call 63; (with_reducible refine (field_right.calls k a0_0 a0_1 a0_2 a0_3 a0_4 a1 true _ A3.out).mono ?_); rintro e w7 ⟨rfl, hb⟩; have n0_ := Aside0.mk (blk_below (g := gb153) (o := .cells #[.int .i64 a0_0, .int .i64 a0_1, .int .i64 a0_2, .int .i64 a0_3, .int .i64 a0_4] 64 (0, 0)) (by (with_reducible repeat (first | refine blk_drewN ?_ _ | refine blk_drew ?_ | refine blk_alloc ?_ _)); exact BK153.out) hb); have n1_ := Aside0.mk (below_step (by repeat (first | (with_reducible first | exact HB.out | apply below_alloc | apply pw_below_drewN | apply below_drew1 | refine below_set ?_ GE153.out) | exact HB.out)) hb); clear BK153; clear HB; have BK153 := n0_; have HB := n1_; clear n0_ n1_; (try clear hb); (try clear hb2); (try clear hk); (try clear hi); have hcz8_0 : w7.cell? ⟨gb153, 0, none⟩ = some (.int .i64 a0_0) := (blk_cell BK153.out 0).trans rfl; have hcz8_1 : w7.cell? ⟨gb153, 1, none⟩ = some (.int .i64 a0_1) := (blk_cell BK153.out 1).trans rfl; have hcz8_2 : w7.cell? ⟨gb153, 2, none⟩ = some (.int .i64 a0_2) := (blk_cell BK153.out 2).trans rfl; have hcz8_3 : w7.cell? ⟨gb153, 3, none⟩ = some (.int .i64 a0_3) := (blk_cell BK153.out 3).trans rfl; have hcz8_4 : w7.cell? ⟨gb153, 4, none⟩ = some (.int .i64 a0_4) := (blk_cell BK153.out 4).trans rfl; have hfz8_0 := blk_frozen BK153.out 0; have hfz8_1 := blk_frozen BK153.out 1; have hfz8_2 := blk_frozen BK153.out 2; have hfz8_3 := blk_frozen BK153.out 3; have hfz8_4 := blk_frozen BK153.out 4))
    repeat (go_quiet (first | ((with_reducible refine gate_dst (N := 2) rfl ?_); refine box_event ?hg (N := 2) ?hd (cs := #[.int .i64 a0_0, .int .i64 a0_1, .int .i64 a0_2, .int .i64 a0_3, .int .i64 a0_4]) (t := 64) ?hr ?_; (case hd => rfl); (case hg => rfl); (case hr => first | (go_simp; done) | (go_simp; rfl)); intro gb153 hg w5 hbox hb; have n0_ := Aside0.mk (below_step (by repeat (first | (with_reducible first | exact HB.out | apply below_alloc | apply pw_below_drewN | apply below_drew1) | exact HB.out)) hb); have n1_ := Aside0.mk (hbox); have n2_ := Aside0.mk ((by rw [hg]; exact (below_size (by repeat (first | (with_reducible first | exact HB.out | apply below_alloc | apply pw_below_drewN | apply below_drew1) | exact HB.out))) : w.heap.size ≤ gb153)); have n3_ := Aside0.mk ((by rw [hg]; exact (below_size (by repeat (first | (with_reducible first | exact HB.out | apply below_alloc | apply pw_below_drewN | apply below_drew1) | exact HB.out))) : w.heap.size ≤ gb153)); clear HB; have HB := n0_; have BK153 := n1_; have GW153 := n2_; have GE153 := n3_; clear n0_ n1_ n2_ n3_; clear hb hbox hg; have hcz6_0 : w5.cell? ⟨gb153, 0, none⟩ = some (.int .i64 a0_0) := (blk_cell BK153.out 0).trans rfl; have hcz6_1 : w5.cell? ⟨gb153, 1, none⟩ = some (.int .i64 a0_1) := (blk_cell BK153.out 1).trans rfl; have hcz6_2 : w5.cell? ⟨gb153, 2, none⟩ = some (.int .i64 a0_2) := (blk_cell BK153.out 2).trans rfl; have hcz6_3 : w5.cell? ⟨gb153, 3, none⟩ = some (.int .i64 a0_3) := (blk_cell BK153.out 3).trans rfl; have hcz6_4 : w5.cell? ⟨gb153, 4, none⟩ = some (.int .i64 a0_4) := (blk_cell BK153.out 4).trans rfl; have hfz6_0 := blk_frozen BK153.out 0; have hfz6_1 := blk_frozen BK153.out 1; have hfz6_2 := blk_frozen BK153.out 2; have hfz6_3 := blk_frozen BK153.out 3; have hfz6_4 := blk_frozen BK153.out 4) | (go_at_call 63; (with_reducible refine (field_right.calls k a0_0 a0_1 a0_2 a0_3 a0_4 a1 true _ A3.out).mono ?_); rintro e w7 ⟨rfl, hb⟩; have n0_ := Aside0.mk (blk_below (g := gb153) (o := .cells #[.int .i64 a0_0, .int .i64 a0_1, .int .i64 a0_2, .int .i64 a0_3, .int .i64 a0_4] 64 (0, 0)) (by (with_reducible repeat (first | refine blk_drewN ?_ _ | refine blk_drew ?_ | refine blk_alloc ?_ _)); exact BK153.out) hb); have n1_ := Aside0.mk (below_step (by repeat (first | (with_reducible first | exact HB.out | apply below_alloc | apply pw_below_drewN | apply below_drew1 | refine below_set ?_ GE153.out) | exact HB.out)) hb); clear BK153; clear HB; have BK153 := n0_; have HB := n1_; clear n0_ n1_; (try clear hb); (try clear hb2); (try clear hk); (try clear hi); have hcz8_0 : w7.cell? ⟨gb153, 0, none⟩ = some (.int .i64 a0_0) := (blk_cell BK153.out 0).trans rfl; have hcz8_1 : w7.cell? ⟨gb153, 1, none⟩ = some (.int .i64 a0_1) := (blk_cell BK153.out 1).trans rfl; have hcz8_2 : w7.cell? ⟨gb153, 2, none⟩ = some (.int .i64 a0_2) := (blk_cell BK153.out 2).trans rfl; have hcz8_3 : w7.cell? ⟨gb153, 3, none⟩ = some (.int .i64 a0_3) := (blk_cell BK153.out 3).trans rfl; have hcz8_4 : w7.cell? ⟨gb153, 4, none⟩ = some (.int .i64 a0_4) := (blk_cell BK153.out 4).trans rfl; have hfz8_0 := blk_frozen BK153.out 0; have hfz8_1 := blk_frozen BK153.out 1; have hfz8_2 := blk_frozen BK153.out 2; have hfz8_3 := blk_frozen BK153.out 3; have hfz8_4 := blk_frozen BK153.out 4)); try go_wp2_with (first | ((with_reducible refine gate_dst (N := 2) rfl ?_); refine box_event ?hg (N := 2) ?hd (cs := #[.int .i64 a0_0, .int .i64 a0_1, .int .i64 a0_2, .int .i64 a0_3, .int .i64 a0_4]) (t := 64) ?hr ?_; (case hd => rfl); (case hg => rfl); (case hr => first | (go_simp; done) | (go_simp; rfl)); intro gb153 hg w5 hbox hb; have n0_ := Aside0.mk (below_step (by repeat (first | (with_reducible first | exact HB.out | apply below_alloc | apply pw_below_drewN | apply below_drew1) | exact HB.out)) hb); have n1_ := Aside0.mk (hbox); have n2_ := Aside0.mk ((by rw [hg]; exact (below_size (by repeat (first | (with_reducible first | exact HB.out | apply below_alloc | apply pw_below_drewN | apply below_drew1) | exact HB.out))) : w.heap.size ≤ gb153)); have n3_ := Aside0.mk ((by rw [hg]; exact (below_size (by repeat (first | (with_reducible first | exact HB.out | apply below_alloc | apply pw_below_drewN | apply below_drew1) | exact HB.out))) : w.heap.size ≤ gb153)); clear HB; have HB := n0_; have BK153 := n1_; have GW153 := n2_; have GE153 := n3_; clear n0_ n1_ n2_ n3_; clear hb hbox hg; have hcz6_0 : w5.cell? ⟨gb153, 0, none⟩ = some (.int .i64 a0_0) := (blk_cell BK153.out 0).trans rfl; have hcz6_1 : w5.cell? ⟨gb153, 1, none⟩ = some (.int .i64 a0_1) := (blk_cell BK153.out 1).trans rfl; have hcz6_2 : w5.cell? ⟨gb153, 2, none⟩ = some (.int .i64 a0_2) := (blk_cell BK153.out 2).trans rfl; have hcz6_3 : w5.cell? ⟨gb153, 3, none⟩ = some (.int .i64 a0_3) := (blk_cell BK153.out 3).trans rfl; have hcz6_4 : w5.cell? ⟨gb153, 4, none⟩ = some (.int .i64 a0_4) := (blk_cell BK153.out 4).trans rfl; have hfz6_0 := blk_frozen BK153.out 0; have hfz6_1 := blk_frozen BK153.out 1; have hfz6_2 := blk_frozen BK153.out 2; have hfz6_3 := blk_frozen BK153.out 3; have hfz6_4 := blk_frozen BK153.out 4) | (go_at_call 63; (with_reducible refine (field_right.calls k a0_0 a0_1 a0_2 a0_3 a0_4 a1 true _ A3.out).mono ?_); rintro e w7 ⟨rfl, hb⟩; have n0_ := Aside0.mk (blk_below (g := gb153) (o := .cells #[.int .i64 a0_0, .int .i64 a0_1, .int .i64 a0_2, .int .i64 a0_3, .int .i64 a0_4] 64 (0, 0)) (by (with_reducible repeat (first | refine blk_drewN ?_ _ | refine blk_drew ?_ | refine blk_alloc ?_ _)); exact BK153.out) hb); have n1_ := Aside0.mk (below_step (by repeat (first | (with_reducible first | exact HB.out | apply below_alloc | apply pw_below_drewN | apply below_drew1 | refine below_set ?_ GE153.out) | exact HB.out)) hb); clear BK153; clear HB; have BK153 := n0_; have HB := n1_; clear n0_ n1_; (try clear hb); (try clear hb2); (try clear hk); (try clear hi); have hcz8_0 : w7.cell? ⟨gb153, 0, none⟩ = some (.int .i64 a0_0) := (blk_cell BK153.out 0).trans rfl; have hcz8_1 : w7.cell? ⟨gb153, 1, none⟩ = some (.int .i64 a0_1) := (blk_cell BK153.out 1).trans rfl; have hcz8_2 : w7.cell? ⟨gb153, 2, none⟩ = some (.int .i64 a0_2) := (blk_cell BK153.out 2).trans rfl; have hcz8_3 : w7.cell? ⟨gb153, 3, none⟩ = some (.int .i64 a0_3) := (blk_cell BK153.out 3).trans rfl; have hcz8_4 : w7.cell? ⟨gb153, 4, none⟩ = some (.int .i64 a0_4) := (blk_cell BK153.out 4).trans rfl; have hfz8_0 := blk_frozen BK153.out 0; have hfz8_1 := blk_frozen BK153.out 1; have hfz8_2 := blk_frozen BK153.out 2; have hfz8_3 := blk_frozen BK153.out 3; have hfz8_4 := blk_frozen BK153.out 4)))
    go_ret3
    exact ⟨by first | rfl | (simp [errW_none, errW_some] <;> rfl) | (simp [*, errW_none, errW_some] <;> rfl), by repeat (first | (with_reducible first | exact HB.out | apply below_alloc | apply pw_below_drewN | apply below_drew1 | refine below_set ?_ GE153.out) | exact HB.out)⟩
  · replace c4 := Bool.eq_false_iff.mpr c4
    subst c4
    have H1 : (some (0, 0, 80)) = some (r1, r2, r3) := by rw [if_neg (show ¬ (false = true) by decide)] at H; exact H
    clear H
    have H := H1
    clear H1
    simp only [Option.some.injEq, Prod.mk.injEq] at H
    obtain ⟨rfl, rfl, rfl⟩ := H
    go_enter Try.func46, Try.ntmps46
    go_wp2_with (first | ((with_reducible refine gate_dst (N := 2) rfl ?_); refine box_event ?hg (N := 2) ?hd (cs := #[.int .i64 a0_0, .int .i64 a0_1, .int .i64 a0_2, .int .i64 a0_3, .int .i64 a0_4]) (t := 64) ?hr ?_; (case hd => rfl); (case hg => rfl); (case hr => first | (go_simp; done) | (go_simp; rfl)); intro gb153 hg w9 hbox hb; have n0_ := Aside0.mk (below_step (by repeat (first | (with_reducible first | exact HB.out | apply below_alloc | apply pw_below_drewN | apply below_drew1) | exact HB.out)) hb); have n1_ := Aside0.mk (hbox); have n2_ := Aside0.mk ((by rw [hg]; exact (below_size (by repeat (first | (with_reducible first | exact HB.out | apply below_alloc | apply pw_below_drewN | apply below_drew1) | exact HB.out))) : w.heap.size ≤ gb153)); have n3_ := Aside0.mk ((by rw [hg]; exact (below_size (by repeat (first | (with_reducible first | exact HB.out | apply below_alloc | apply pw_below_drewN | apply below_drew1) | exact HB.out))) : w.heap.size ≤ gb153)); clear HB; have HB := n0_; have BK153 := n1_; have GW153 := n2_; have GE153 := n3_; clear n0_ n1_ n2_ n3_; clear hb hbox hg; have hcz10_0 : w9.cell? ⟨gb153, 0, none⟩ = some (.int .i64 a0_0) := (blk_cell BK153.out 0).trans rfl; have hcz10_1 : w9.cell? ⟨gb153, 1, none⟩ = some (.int .i64 a0_1) := (blk_cell BK153.out 1).trans rfl; have hcz10_2 : w9.cell? ⟨gb153, 2, none⟩ = some (.int .i64 a0_2) := (blk_cell BK153.out 2).trans rfl; have hcz10_3 : w9.cell? ⟨gb153, 3, none⟩ = some (.int .i64 a0_3) := (blk_cell BK153.out 3).trans rfl; have hcz10_4 : w9.cell? ⟨gb153, 4, none⟩ = some (.int .i64 a0_4) := (blk_cell BK153.out 4).trans rfl; have hfz10_0 := blk_frozen BK153.out 0; have hfz10_1 := blk_frozen BK153.out 1; have hfz10_2 := blk_frozen BK153.out 2; have hfz10_3 := blk_frozen BK153.out 3; have hfz10_4 := blk_frozen BK153.out 4) | (go_at_call 63; (with_reducible refine (field_right.calls k a0_0 a0_1 a0_2 a0_3 a0_4 a1 false _ A3.out).mono ?_); rintro e w11 ⟨rfl, hb⟩; have n0_ := Aside0.mk (blk_below (g := gb153) (o := .cells #[.int .i64 a0_0, .int .i64 a0_1, .int .i64 a0_2, .int .i64 a0_3, .int .i64 a0_4] 64 (0, 0)) (by (with_reducible repeat (first | refine blk_drewN ?_ _ | refine blk_drew ?_ | refine blk_alloc ?_ _)); exact BK153.out) hb); have n1_ := Aside0.mk (below_step (by repeat (first | (with_reducible first | exact HB.out | apply below_alloc | apply pw_below_drewN | apply below_drew1 | refine below_set ?_ GE153.out) | exact HB.out)) hb); clear BK153; clear HB; have BK153 := n0_; have HB := n1_; clear n0_ n1_; (try clear hb); (try clear hb2); (try clear hk); (try clear hi)))
    repeat (go_quiet (first | ((with_reducible refine gate_dst (N := 2) rfl ?_); refine box_event ?hg (N := 2) ?hd (cs := #[.int .i64 a0_0, .int .i64 a0_1, .int .i64 a0_2, .int .i64 a0_3, .int .i64 a0_4]) (t := 64) ?hr ?_; (case hd => rfl); (case hg => rfl); (case hr => first | (go_simp; done) | (go_simp; rfl)); intro gb153 hg w9 hbox hb; have n0_ := Aside0.mk (below_step (by repeat (first | (with_reducible first | exact HB.out | apply below_alloc | apply pw_below_drewN | apply below_drew1) | exact HB.out)) hb); have n1_ := Aside0.mk (hbox); have n2_ := Aside0.mk ((by rw [hg]; exact (below_size (by repeat (first | (with_reducible first | exact HB.out | apply below_alloc | apply pw_below_drewN | apply below_drew1) | exact HB.out))) : w.heap.size ≤ gb153)); have n3_ := Aside0.mk ((by rw [hg]; exact (below_size (by repeat (first | (with_reducible first | exact HB.out | apply below_alloc | apply pw_below_drewN | apply below_drew1) | exact HB.out))) : w.heap.size ≤ gb153)); clear HB; have HB := n0_; have BK153 := n1_; have GW153 := n2_; have GE153 := n3_; clear n0_ n1_ n2_ n3_; clear hb hbox hg; have hcz10_0 : w9.cell? ⟨gb153, 0, none⟩ = some (.int .i64 a0_0) := (blk_cell BK153.out 0).trans rfl; have hcz10_1 : w9.cell? ⟨gb153, 1, none⟩ = some (.int .i64 a0_1) := (blk_cell BK153.out 1).trans rfl; have hcz10_2 : w9.cell? ⟨gb153, 2, none⟩ = some (.int .i64 a0_2) := (blk_cell BK153.out 2).trans rfl; have hcz10_3 : w9.cell? ⟨gb153, 3, none⟩ = some (.int .i64 a0_3) := (blk_cell BK153.out 3).trans rfl; have hcz10_4 : w9.cell? ⟨gb153, 4, none⟩ = some (.int .i64 a0_4) := (blk_cell BK153.out 4).trans rfl; have hfz10_0 := blk_frozen BK153.out 0; have hfz10_1 := blk_frozen BK153.out 1; have hfz10_2 := blk_frozen BK153.out 2; have hfz10_3 := blk_frozen BK153.out 3; have hfz10_4 := blk_frozen BK153.out 4) | (go_at_call 63; (with_reducible refine (field_right.calls k a0_0 a0_1 a0_2 a0_3 a0_4 a1 false _ A3.out).mono ?_); rintro e w11 ⟨rfl, hb⟩; have n0_ := Aside0.mk (blk_below (g := gb153) (o := .cells #[.int .i64 a0_0, .int .i64 a0_1, .int .i64 a0_2, .int .i64 a0_3, .int .i64 a0_4] 64 (0, 0)) (by (with_reducible repeat (first | refine blk_drewN ?_ _ | refine blk_drew ?_ | refine blk_alloc ?_ _)); exact BK153.out) hb); have n1_ := Aside0.mk (below_step (by repeat (first | (with_reducible first | exact HB.out | apply below_alloc | apply pw_below_drewN | apply below_drew1 | refine below_set ?_ GE153.out) | exact HB.out)) hb); clear BK153; clear HB; have BK153 := n0_; have HB := n1_; clear n0_ n1_; (try clear hb); (try clear hb2); (try clear hk); (try clear hi))); try go_wp2_with (first | ((with_reducible refine gate_dst (N := 2) rfl ?_); refine box_event ?hg (N := 2) ?hd (cs := #[.int .i64 a0_0, .int .i64 a0_1, .int .i64 a0_2, .int .i64 a0_3, .int .i64 a0_4]) (t := 64) ?hr ?_; (case hd => rfl); (case hg => rfl); (case hr => first | (go_simp; done) | (go_simp; rfl)); intro gb153 hg w9 hbox hb; have n0_ := Aside0.mk (below_step (by repeat (first | (with_reducible first | exact HB.out | apply below_alloc | apply pw_below_drewN | apply below_drew1) | exact HB.out)) hb); have n1_ := Aside0.mk (hbox); have n2_ := Aside0.mk ((by rw [hg]; exact (below_size (by repeat (first | (with_reducible first | exact HB.out | apply below_alloc | apply pw_below_drewN | apply below_drew1) | exact HB.out))) : w.heap.size ≤ gb153)); have n3_ := Aside0.mk ((by rw [hg]; exact (below_size (by repeat (first | (with_reducible first | exact HB.out | apply below_alloc | apply pw_below_drewN | apply below_drew1) | exact HB.out))) : w.heap.size ≤ gb153)); clear HB; have HB := n0_; have BK153 := n1_; have GW153 := n2_; have GE153 := n3_; clear n0_ n1_ n2_ n3_; clear hb hbox hg; have hcz10_0 : w9.cell? ⟨gb153, 0, none⟩ = some (.int .i64 a0_0) := (blk_cell BK153.out 0).trans rfl; have hcz10_1 : w9.cell? ⟨gb153, 1, none⟩ = some (.int .i64 a0_1) := (blk_cell BK153.out 1).trans rfl; have hcz10_2 : w9.cell? ⟨gb153, 2, none⟩ = some (.int .i64 a0_2) := (blk_cell BK153.out 2).trans rfl; have hcz10_3 : w9.cell? ⟨gb153, 3, none⟩ = some (.int .i64 a0_3) := (blk_cell BK153.out 3).trans rfl; have hcz10_4 : w9.cell? ⟨gb153, 4, none⟩ = some (.int .i64 a0_4) := (blk_cell BK153.out 4).trans rfl; have hfz10_0 := blk_frozen BK153.out 0; have hfz10_1 := blk_frozen BK153.out 1; have hfz10_2 := blk_frozen BK153.out 2; have hfz10_3 := blk_frozen BK153.out 3; have hfz10_4 := blk_frozen BK153.out 4) | (go_at_call 63; (with_reducible refine (field_right.calls k a0_0 a0_1 a0_2 a0_3 a0_4 a1 false _ A3.out).mono ?_); rintro e w11 ⟨rfl, hb⟩; have n0_ := Aside0.mk (blk_below (g := gb153) (o := .cells #[.int .i64 a0_0, .int .i64 a0_1, .int .i64 a0_2, .int .i64 a0_3, .int .i64 a0_4] 64 (0, 0)) (by (with_reducible repeat (first | refine blk_drewN ?_ _ | refine blk_drew ?_ | refine blk_alloc ?_ _)); exact BK153.out) hb); have n1_ := Aside0.mk (below_step (by repeat (first | (with_reducible first | exact HB.out | apply below_alloc | apply pw_below_drewN | apply below_drew1 | refine below_set ?_ GE153.out) | exact HB.out)) hb); clear BK153; clear HB; have BK153 := n0_; have HB := n1_; clear n0_ n1_; (try clear hb); (try clear hb2); (try clear hk); (try clear hi))))
    go_ret3
    exact ⟨by first | rfl | (simp [errW_none, errW_some] <;> rfl) | (simp [*, errW_none, errW_some] <;> rfl), by repeat (first | (with_reducible first | exact HB.out | apply below_alloc | apply pw_below_drewN | apply below_drew1 | refine below_set ?_ GE153.out) | exact HB.out)⟩

/-! ### mortiseref08_Bytes: function 47 -/
def mortiseref08_Bytes.l0 : Nat → List Int → List Int → Int → Option (Bool)
  | 0, _, _, _ => none
  | k + 1, x0, x1, x5 => if x5 < (x0.length : Int) then (if 0 ≤ x5 then (if x5 < (x1.length : Int) then (if (rd x0 x5) = (rd x1 x5) then (mortiseref08_Bytes.l0 k x0 x1 (wrap64 (x5 + 1))) else (some false)) else (none)) else (none)) else (some true)
def mortiseref08_Bytes.f (k : Nat) (l0 : List Int) (l1 : List Int) : Option (Bool) := if (l0.length : Int) = (l1.length : Int) then (mortiseref08_Bytes.l0 k l0 l1 0) else (some false)
theorem mortiseref08_Bytes.mono_l : ∀ k, (∀ y0 y1 y2, LeO (mortiseref08_Bytes.l0 k y0 y1 y2) (mortiseref08_Bytes.l0 (k + 1) y0 y1 y2))
  | 0 => fun _ _ _ r h => by simp [mortiseref08_Bytes.l0] at h
  | k + 1 => by
    have ih0 := mortiseref08_Bytes.mono_l k
    · intro y0 y1 y2
      unfold mortiseref08_Bytes.l0
      repeat' first
      | (with_reducible exact ih0 _ _ _)
      | (with_reducible exact LeO.refl _)
      | (with_reducible exact LeO.none _)
      | (with_reducible refine LeO.ite ?_ ?_)
      | (with_reducible refine LeO.bind ?_ (fun _ => ?_))
      | exact ih0 _ _ _
      | exact LeO.none _
      | refine LeO.ite ?_ ?_
      | refine LeO.bind ?_ (fun _ => ?_)
theorem mortiseref08_Bytes.mono : ∀ a0 a1 k, LeO (mortiseref08_Bytes.f k a0 a1) (mortiseref08_Bytes.f (k + 1) a0 a1) := by
  intro a0 a1 k
  have ih0 := mortiseref08_Bytes.mono_l k
  unfold mortiseref08_Bytes.f
  repeat' first
      | (with_reducible exact ih0 _ _ _)
      | (with_reducible exact LeO.refl _)
      | (with_reducible exact LeO.none _)
      | (with_reducible refine LeO.ite ?_ ?_)
      | (with_reducible refine LeO.bind ?_ (fun _ => ?_))
      | exact ih0 _ _ _
      | exact LeO.none _
      | refine LeO.ite ?_ ?_
      | refine LeO.bind ?_ (fun _ => ?_)
set_option maxHeartbeats 8000000 in
set_option maxRecDepth 100000 in
theorem mortiseref08_Bytes.calls (k : Nat) (A0 : Option Addr) (c0 : Nat) (l0 : List Int) (A1 : Option Addr) (c1 : Nat) (l1 : List Int) (r : Bool) (w : World) (hr0 : Kd.C (Kd.int .u8) w A0 l0.length l0) (hc0 : l0.length ≤ c0) (hr1 : Kd.C (Kd.int .u8) w A1 l1.length l1) (hc1 : l1.length ≤ c1) (h : mortiseref08_Bytes.f k l0 l1 = some r) :
    Calls Try.prog 47 #[.slice A0 l0.length c0, .slice A1 l1.length c1] w fun e w' => e = .returned (.bool r) ∧ Drawn0 w w' := by
  have HR0 := Aside0.mk hr0
  have HC0 := Aside0.mk hc0
  clear hr0 hc0
  have HR1 := Aside0.mk hr1
  have HC1 := Aside0.mk hc1
  clear hr1 hc1
  have H : (if (l0.length : Int) = (l1.length : Int) then (mortiseref08_Bytes.l0 k l0 l1 0) else (some false)) = some r := h
  clear h
  by_cases c3 : (l0.length : Int) = (l1.length : Int)
  · rw [if_pos c3] at H
    have c3b0 : ((l0.length : Int) == (l1.length : Int)) = true := beq_iff_eq.mpr c3
    have c3b1 : ((l0.length : Int) != (l1.length : Int)) = false := bne_eq_false_iff_eq.mpr c3
    have c3b2 : (l0.length == l1.length) = true := by first | simpa using c3 | (simp at c3 ⊢; omega)
    clear c3
    have H' := Aside0.mk H
    clear H
    go_enter Try.func47, Try.ntmps47
    go_wp2
    repeat (go_quiet (fail); try go_wp2)
    go_loopg [5] k (fun kq v5 w' => ∃ (x5_1 : Int), v5 = .int .i64 x5_1 ∧ Aside0 (mortiseref08_Bytes.l0 kq l0 l1 x5_1 = some r) ∧ Aside0 (kq ≤ k) ∧ Drawn0 w w')
    case atStart => exact ⟨(0), (by first | rfl | (simp; done) | (simp [*]; done)), H', ⟨Nat.le_refl _⟩, by repeat (first | exact Drawn0.refl _ | apply Drawn0.step)⟩
    case round =>
      clear H'
      try clear c1
      try clear p2
      try clear c3
      try clear c3b0
      try clear c3b1
      try clear c3b2
      obtain ⟨x5_1, rfl, HA, HK1, ⟨m1, rfl⟩⟩ := hrel
      cases gk with
      | zero => exact absurd HA.out (by simp [mortiseref08_Bytes.l0])
      | succ k1 =>
        have H := HA.out
        clear HA
        simp only [mortiseref08_Bytes.l0] at H
        by_cases c4 : x5_1 < (l0.length : Int)
        · rw [if_pos c4] at H
          have c4b0 : decide (x5_1 < (l0.length : Int)) = true := decide_eq_true c4
          clear c4
          by_cases c5 : 0 ≤ x5_1
          · rw [if_pos c5] at H
            have c5b0 : decide (0 ≤ x5_1) = true := decide_eq_true c5
            clear c5
            by_cases c6 : x5_1 < (l1.length : Int)
            · rw [if_pos c6] at H
              have c6b0 : decide (x5_1 < (l1.length : Int)) = true := decide_eq_true c6
              clear c6
              by_cases c7 : (rd l0 x5_1) = (rd l1 x5_1)
              · rw [if_pos c7] at H
                have c7b0 : ((rd l0 x5_1) == (rd l1 x5_1)) = true := beq_iff_eq.mpr c7
                have c7b1 : ((rd l0 x5_1) != (rd l1 x5_1)) = false := bne_eq_false_iff_eq.mpr c7
                clear c7
                have H' := Aside0.mk H
                clear H
                have p155 : 0 ≤ (x5_1 : Int) := of_decide_eq_true (by first | (with_reducible assumption) | assumption)
                have q155 : x5_1 < (l0.length : Int) := of_decide_eq_true (by first | (with_reducible assumption) | assumption)
                obtain ⟨ad155, e155, hx155_0⟩ := Kd.at_int HR0.out x5_1 p155 q155
                cases e155
                replace p155 := eq_true p155
                replace q155 := eq_true q155
                have p156 : 0 ≤ (x5_1 : Int) := of_decide_eq_true (by first | (with_reducible assumption) | assumption)
                have q156 : x5_1 < (l1.length : Int) := of_decide_eq_true (by first | (with_reducible assumption) | assumption)
                obtain ⟨ad156, e156, hx156_0⟩ := Kd.at_int HR1.out x5_1 p156 q156
                cases e156
                replace p156 := eq_true p156
                replace q156 := eq_true q156
                go_wp2
                repeat (go_quiet (fail); try go_wp2)
                go_roundg k1
                case measure => have := HK1.out; omega
                case rel => exact ⟨(wrap64 (x5_1 + 1)), (by first | rfl | (simp; done) | (simp [*]; done)), H', ⟨by have := HK1.out; omega⟩, by repeat (first | exact Drawn0.refl _ | apply Drawn0.step)⟩
              · rw [if_neg c7] at H
                have c7b0 : ((rd l0 x5_1) == (rd l1 x5_1)) = false := beq_eq_false_iff_ne.mpr c7
                have c7b1 : ((rd l0 x5_1) != (rd l1 x5_1)) = true := bne_iff_ne.mpr c7
                obtain rfl := Option.some.inj H
                have p155 : 0 ≤ (x5_1 : Int) := of_decide_eq_true (by first | (with_reducible assumption) | assumption)
                have q155 : x5_1 < (l0.length : Int) := of_decide_eq_true (by first | (with_reducible assumption) | assumption)
                obtain ⟨ad155, e155, hx155_0⟩ := Kd.at_int HR0.out x5_1 p155 q155
                cases e155
                replace p155 := eq_true p155
                replace q155 := eq_true q155
                have p156 : 0 ≤ (x5_1 : Int) := of_decide_eq_true (by first | (with_reducible assumption) | assumption)
                have q156 : x5_1 < (l1.length : Int) := of_decide_eq_true (by first | (with_reducible assumption) | assumption)
                obtain ⟨ad156, e156, hx156_0⟩ := Kd.at_int HR1.out x5_1 p156 q156
                cases e156
                replace p156 := eq_true p156
                replace q156 := eq_true q156
                go_wp2
                repeat (go_quiet (fail); try go_wp2)
                go_ret
                exact ⟨by first | rfl | (simp; done) | (simp [*]; done), by repeat (first | exact Drawn0.refl _ | apply Drawn0.step)⟩
            · rw [if_neg c6] at H
              exact absurd H (by simp)
          · rw [if_neg c5] at H
            exact absurd H (by simp)
        · rw [if_neg c4] at H
          have c4b0 : decide (x5_1 < (l0.length : Int)) = false := decide_eq_false c4
          clear c4
          obtain rfl := Option.some.inj H
          go_wp2
          repeat (go_quiet (fail); try go_wp2)
          go_ret
          exact ⟨by first | rfl | (simp; done) | (simp [*]; done), by repeat (first | exact Drawn0.refl _ | apply Drawn0.step)⟩
  · rw [if_neg c3] at H
    have c3b0 : ((l0.length : Int) == (l1.length : Int)) = false := beq_eq_false_iff_ne.mpr c3
    have c3b1 : ((l0.length : Int) != (l1.length : Int)) = true := bne_iff_ne.mpr c3
    have c3b2 : (l0.length == l1.length) = false := by first | simpa using c3 | (simp at c3 ⊢; omega)
    obtain rfl := Option.some.inj H
    go_enter Try.func47, Try.ntmps47
    go_wp2
    repeat (go_quiet (fail); try go_wp2)
    go_ret
    exact ⟨by first | rfl | (simp; done) | (simp [*]; done), by repeat (first | exact Drawn0.refl _ | apply Drawn0.step)⟩

/-! ### mortiselaw08_heads: function 31 -/
def mortiselaw08_heads.f (k : Nat)  : Option (Bool) := (field_Mask.f 3 5).bind fun bt157 => ((field_Get.f 43981 4294967295 4 8 true).bind fun bt159 => ((field_Get.f 43981 240 4 8 true).bind fun bt162 => ((field_Put.f 0 0 4 4 18).bind fun bt165 => ((field_Value.f k 8 3 5).bind fun bt168 => ((field_Write.f k (([0, 0, 0, 0] : List Int)) 0 0 0 6 4 8 15).bind fun bt173 => ((field_Touched.f k 0 0 0 6 4 8).bind fun bt177 => ((field_Value.f k 2 2 0).bind fun bt180 => ((mortiselaw08_num.f bt157.2).bind fun t182 => (if t182 = 0 then (if bt157.1 = 248 then ((mortiselaw08_num.f bt159.2.2).bind fun t183 => (if t183 = 0 then (if bt159.2.1 = true then (if bt159.1 = 4294967228 then ((mortiselaw08_num.f bt162.2.2).bind fun t184 => (if t184 = 0 then (if bt162.2.1 = true then (none) else ((mortiselaw08_num.f bt165.2.2).bind fun t185 => (if t185 = 0 then (if bt165.1 = 32 then (if bt165.2.1 = 240 then ((mortiselaw08_num.f bt168.2).bind fun t186 => (if t186 = 0 then (if bt168.1 = 4294967293 then ((mortiselaw08_num.f bt173.2).bind fun t187 => (if t187 = 0 then ((mortiseref08_Bytes.f k bt173.1 (([192, 3, 0, 0] : List Int))).bind fun t191 => (if t191 = true then ((mortiselaw08_num.f bt177.2.2).bind fun t192 => (if t192 = 0 then (if bt177.1 = 0 then (if bt177.2.1 = 2 then ((mortiselaw08_num.f bt180.2).bind fun t193 => (some (t193 == 80))) else (none)) else (none)) else (none))) else (none))) else (none))) else (none)) else (none))) else (none)) else (none)) else (none)))) else (none))) else (none)) else (none)) else (none))) else (none)) else (none))))))))))
theorem mortiselaw08_heads.mono : ∀ k, LeO (mortiselaw08_heads.f k ) (mortiselaw08_heads.f (k + 1) ) := by
  intro  k
  unfold mortiselaw08_heads.f
  repeat' first
      | (with_reducible exact field_Touched.mono _ _ _ _ _ _ _)
      | (with_reducible exact field_Value.mono _ _ _ _)
      | (with_reducible exact field_Write.mono _ _ _ _ _ _ _ _ _)
      | (with_reducible exact mortiseref08_Bytes.mono _ _ _)
      | (with_reducible exact LeO.refl _)
      | (with_reducible exact LeO.none _)
      | (with_reducible refine LeO.ite ?_ ?_)
      | (with_reducible refine LeO.bind ?_ (fun _ => ?_))
      | exact field_Touched.mono _ _ _ _ _ _ _
      | exact field_Value.mono _ _ _ _
      | exact field_Write.mono _ _ _ _ _ _ _ _ _
      | exact mortiseref08_Bytes.mono _ _ _
      | exact LeO.none _
      | refine LeO.ite ?_ ?_
      | refine LeO.bind ?_ (fun _ => ?_)
set_option maxHeartbeats 8000000 in
set_option maxRecDepth 100000 in
theorem mortiselaw08_heads.calls (k : Nat)  (r : Bool) (w : World) (h : mortiselaw08_heads.f k  = some r) :
    Calls Try.prog 31 #[] w fun e w' => e = .returned (.bool r) ∧ Below w.heap.size w w' := by
  have hu64 := Try.underlying64
  have HB := Aside0.mk (Below.refl w.heap.size w)
  have H : ((field_Mask.f 3 5).bind fun bt157 => ((field_Get.f 43981 4294967295 4 8 true).bind fun bt159 => ((field_Get.f 43981 240 4 8 true).bind fun bt162 => ((field_Put.f 0 0 4 4 18).bind fun bt165 => ((field_Value.f k 8 3 5).bind fun bt168 => ((field_Write.f k (([0, 0, 0, 0] : List Int)) 0 0 0 6 4 8 15).bind fun bt173 => ((field_Touched.f k 0 0 0 6 4 8).bind fun bt177 => ((field_Value.f k 2 2 0).bind fun bt180 => ((mortiselaw08_num.f bt157.2).bind fun t182 => (if t182 = 0 then (if bt157.1 = 248 then ((mortiselaw08_num.f bt159.2.2).bind fun t183 => (if t183 = 0 then (if bt159.2.1 = true then (if bt159.1 = 4294967228 then ((mortiselaw08_num.f bt162.2.2).bind fun t184 => (if t184 = 0 then (if bt162.2.1 = true then (none) else ((mortiselaw08_num.f bt165.2.2).bind fun t185 => (if t185 = 0 then (if bt165.1 = 32 then (if bt165.2.1 = 240 then ((mortiselaw08_num.f bt168.2).bind fun t186 => (if t186 = 0 then (if bt168.1 = 4294967293 then ((mortiselaw08_num.f bt173.2).bind fun t187 => (if t187 = 0 then ((mortiseref08_Bytes.f k bt173.1 (([192, 3, 0, 0] : List Int))).bind fun t191 => (if t191 = true then ((mortiselaw08_num.f bt177.2.2).bind fun t192 => (if t192 = 0 then (if bt177.1 = 0 then (if bt177.2.1 = 2 then ((mortiselaw08_num.f bt180.2).bind fun t193 => (some (t193 == 80))) else (none)) else (none)) else (none))) else (none))) else (none))) else (none)) else (none))) else (none)) else (none)) else (none)))) else (none))) else (none)) else (none)) else (none))) else (none)) else (none))))))))))) = some r := h
  clear h
  replace H := Option.bind_eq_some_iff.mp H
  obtain ⟨⟨t157, t158⟩, A10, H⟩ := H
  replace H : ((field_Get.f 43981 4294967295 4 8 true).bind fun bt159 => ((field_Get.f 43981 240 4 8 true).bind fun bt162 => ((field_Put.f 0 0 4 4 18).bind fun bt165 => ((field_Value.f k 8 3 5).bind fun bt168 => ((field_Write.f k (([0, 0, 0, 0] : List Int)) 0 0 0 6 4 8 15).bind fun bt173 => ((field_Touched.f k 0 0 0 6 4 8).bind fun bt177 => ((field_Value.f k 2 2 0).bind fun bt180 => ((mortiselaw08_num.f t158).bind fun t182 => (if t182 = 0 then (if t157 = 248 then ((mortiselaw08_num.f bt159.2.2).bind fun t183 => (if t183 = 0 then (if bt159.2.1 = true then (if bt159.1 = 4294967228 then ((mortiselaw08_num.f bt162.2.2).bind fun t184 => (if t184 = 0 then (if bt162.2.1 = true then (none) else ((mortiselaw08_num.f bt165.2.2).bind fun t185 => (if t185 = 0 then (if bt165.1 = 32 then (if bt165.2.1 = 240 then ((mortiselaw08_num.f bt168.2).bind fun t186 => (if t186 = 0 then (if bt168.1 = 4294967293 then ((mortiselaw08_num.f bt173.2).bind fun t187 => (if t187 = 0 then ((mortiseref08_Bytes.f k bt173.1 (([192, 3, 0, 0] : List Int))).bind fun t191 => (if t191 = true then ((mortiselaw08_num.f bt177.2.2).bind fun t192 => (if t192 = 0 then (if bt177.1 = 0 then (if bt177.2.1 = 2 then ((mortiselaw08_num.f bt180.2).bind fun t193 => (some (t193 == 80))) else (none)) else (none)) else (none))) else (none))) else (none))) else (none)) else (none))) else (none)) else (none)) else (none)))) else (none))) else (none)) else (none)) else (none))) else (none)) else (none)))))))))) = some r := H
  have A1 := Aside0.mk A10
  clear A10
  replace H := Option.bind_eq_some_iff.mp H
  obtain ⟨⟨t159, t160, t161⟩, A20, H⟩ := H
  replace H : ((field_Get.f 43981 240 4 8 true).bind fun bt162 => ((field_Put.f 0 0 4 4 18).bind fun bt165 => ((field_Value.f k 8 3 5).bind fun bt168 => ((field_Write.f k (([0, 0, 0, 0] : List Int)) 0 0 0 6 4 8 15).bind fun bt173 => ((field_Touched.f k 0 0 0 6 4 8).bind fun bt177 => ((field_Value.f k 2 2 0).bind fun bt180 => ((mortiselaw08_num.f t158).bind fun t182 => (if t182 = 0 then (if t157 = 248 then ((mortiselaw08_num.f t161).bind fun t183 => (if t183 = 0 then (if t160 = true then (if t159 = 4294967228 then ((mortiselaw08_num.f bt162.2.2).bind fun t184 => (if t184 = 0 then (if bt162.2.1 = true then (none) else ((mortiselaw08_num.f bt165.2.2).bind fun t185 => (if t185 = 0 then (if bt165.1 = 32 then (if bt165.2.1 = 240 then ((mortiselaw08_num.f bt168.2).bind fun t186 => (if t186 = 0 then (if bt168.1 = 4294967293 then ((mortiselaw08_num.f bt173.2).bind fun t187 => (if t187 = 0 then ((mortiseref08_Bytes.f k bt173.1 (([192, 3, 0, 0] : List Int))).bind fun t191 => (if t191 = true then ((mortiselaw08_num.f bt177.2.2).bind fun t192 => (if t192 = 0 then (if bt177.1 = 0 then (if bt177.2.1 = 2 then ((mortiselaw08_num.f bt180.2).bind fun t193 => (some (t193 == 80))) else (none)) else (none)) else (none))) else (none))) else (none))) else (none)) else (none))) else (none)) else (none)) else (none)))) else (none))) else (none)) else (none)) else (none))) else (none)) else (none))))))))) = some r := H
  have A2 := Aside0.mk A20
  clear A20
  replace H := Option.bind_eq_some_iff.mp H
  obtain ⟨⟨t162, t163, t164⟩, A30, H⟩ := H
  replace H : ((field_Put.f 0 0 4 4 18).bind fun bt165 => ((field_Value.f k 8 3 5).bind fun bt168 => ((field_Write.f k (([0, 0, 0, 0] : List Int)) 0 0 0 6 4 8 15).bind fun bt173 => ((field_Touched.f k 0 0 0 6 4 8).bind fun bt177 => ((field_Value.f k 2 2 0).bind fun bt180 => ((mortiselaw08_num.f t158).bind fun t182 => (if t182 = 0 then (if t157 = 248 then ((mortiselaw08_num.f t161).bind fun t183 => (if t183 = 0 then (if t160 = true then (if t159 = 4294967228 then ((mortiselaw08_num.f t164).bind fun t184 => (if t184 = 0 then (if t163 = true then (none) else ((mortiselaw08_num.f bt165.2.2).bind fun t185 => (if t185 = 0 then (if bt165.1 = 32 then (if bt165.2.1 = 240 then ((mortiselaw08_num.f bt168.2).bind fun t186 => (if t186 = 0 then (if bt168.1 = 4294967293 then ((mortiselaw08_num.f bt173.2).bind fun t187 => (if t187 = 0 then ((mortiseref08_Bytes.f k bt173.1 (([192, 3, 0, 0] : List Int))).bind fun t191 => (if t191 = true then ((mortiselaw08_num.f bt177.2.2).bind fun t192 => (if t192 = 0 then (if bt177.1 = 0 then (if bt177.2.1 = 2 then ((mortiselaw08_num.f bt180.2).bind fun t193 => (some (t193 == 80))) else (none)) else (none)) else (none))) else (none))) else (none))) else (none)) else (none))) else (none)) else (none)) else (none)))) else (none))) else (none)) else (none)) else (none))) else (none)) else (none)))))))) = some r := H
  have A3 := Aside0.mk A30
  clear A30
  replace H := Option.bind_eq_some_iff.mp H
  obtain ⟨⟨t165, t166, t167⟩, A40, H⟩ := H
  replace H : ((field_Value.f k 8 3 5).bind fun bt168 => ((field_Write.f k (([0, 0, 0, 0] : List Int)) 0 0 0 6 4 8 15).bind fun bt173 => ((field_Touched.f k 0 0 0 6 4 8).bind fun bt177 => ((field_Value.f k 2 2 0).bind fun bt180 => ((mortiselaw08_num.f t158).bind fun t182 => (if t182 = 0 then (if t157 = 248 then ((mortiselaw08_num.f t161).bind fun t183 => (if t183 = 0 then (if t160 = true then (if t159 = 4294967228 then ((mortiselaw08_num.f t164).bind fun t184 => (if t184 = 0 then (if t163 = true then (none) else ((mortiselaw08_num.f t167).bind fun t185 => (if t185 = 0 then (if t165 = 32 then (if t166 = 240 then ((mortiselaw08_num.f bt168.2).bind fun t186 => (if t186 = 0 then (if bt168.1 = 4294967293 then ((mortiselaw08_num.f bt173.2).bind fun t187 => (if t187 = 0 then ((mortiseref08_Bytes.f k bt173.1 (([192, 3, 0, 0] : List Int))).bind fun t191 => (if t191 = true then ((mortiselaw08_num.f bt177.2.2).bind fun t192 => (if t192 = 0 then (if bt177.1 = 0 then (if bt177.2.1 = 2 then ((mortiselaw08_num.f bt180.2).bind fun t193 => (some (t193 == 80))) else (none)) else (none)) else (none))) else (none))) else (none))) else (none)) else (none))) else (none)) else (none)) else (none)))) else (none))) else (none)) else (none)) else (none))) else (none)) else (none))))))) = some r := H
  have A4 := Aside0.mk A40
  clear A40
  replace H := Option.bind_eq_some_iff.mp H
  obtain ⟨⟨t168, t169⟩, A50, H⟩ := H
  replace H : ((field_Write.f k (([0, 0, 0, 0] : List Int)) 0 0 0 6 4 8 15).bind fun bt173 => ((field_Touched.f k 0 0 0 6 4 8).bind fun bt177 => ((field_Value.f k 2 2 0).bind fun bt180 => ((mortiselaw08_num.f t158).bind fun t182 => (if t182 = 0 then (if t157 = 248 then ((mortiselaw08_num.f t161).bind fun t183 => (if t183 = 0 then (if t160 = true then (if t159 = 4294967228 then ((mortiselaw08_num.f t164).bind fun t184 => (if t184 = 0 then (if t163 = true then (none) else ((mortiselaw08_num.f t167).bind fun t185 => (if t185 = 0 then (if t165 = 32 then (if t166 = 240 then ((mortiselaw08_num.f t169).bind fun t186 => (if t186 = 0 then (if t168 = 4294967293 then ((mortiselaw08_num.f bt173.2).bind fun t187 => (if t187 = 0 then ((mortiseref08_Bytes.f k bt173.1 (([192, 3, 0, 0] : List Int))).bind fun t191 => (if t191 = true then ((mortiselaw08_num.f bt177.2.2).bind fun t192 => (if t192 = 0 then (if bt177.1 = 0 then (if bt177.2.1 = 2 then ((mortiselaw08_num.f bt180.2).bind fun t193 => (some (t193 == 80))) else (none)) else (none)) else (none))) else (none))) else (none))) else (none)) else (none))) else (none)) else (none)) else (none)))) else (none))) else (none)) else (none)) else (none))) else (none)) else (none)))))) = some r := H
  have A5 := Aside0.mk A50
  clear A50
  obtain ⟨y170, hy170⟩ : ∃ y_ : List Int, y_ = (([0, 0, 0, 0] : List Int)) := ⟨_, rfl⟩
  replace H : ((field_Write.f k y170 0 0 0 6 4 8 15).bind fun bt173 => ((field_Touched.f k 0 0 0 6 4 8).bind fun bt177 => ((field_Value.f k 2 2 0).bind fun bt180 => ((mortiselaw08_num.f t158).bind fun t182 => (if t182 = 0 then (if t157 = 248 then ((mortiselaw08_num.f t161).bind fun t183 => (if t183 = 0 then (if t160 = true then (if t159 = 4294967228 then ((mortiselaw08_num.f t164).bind fun t184 => (if t184 = 0 then (if t163 = true then (none) else ((mortiselaw08_num.f t167).bind fun t185 => (if t185 = 0 then (if t165 = 32 then (if t166 = 240 then ((mortiselaw08_num.f t169).bind fun t186 => (if t186 = 0 then (if t168 = 4294967293 then ((mortiselaw08_num.f bt173.2).bind fun t187 => (if t187 = 0 then ((mortiseref08_Bytes.f k bt173.1 (([192, 3, 0, 0] : List Int))).bind fun t191 => (if t191 = true then ((mortiselaw08_num.f bt177.2.2).bind fun t192 => (if t192 = 0 then (if bt177.1 = 0 then (if bt177.2.1 = 2 then ((mortiselaw08_num.f bt180.2).bind fun t193 => (some (t193 == 80))) else (none)) else (none)) else (none))) else (none))) else (none))) else (none)) else (none))) else (none)) else (none)) else (none)))) else (none))) else (none)) else (none)) else (none))) else (none)) else (none)))))) = some r := by first | (rw [hy170]; with_reducible exact H) | (have H2_ := (Option.bind_some _ _).symm.trans H; rw [hy170]; with_reducible exact H2_) | (have H2_ := (Option.bind_some _ _).symm.trans H; with_reducible exact H2_) | with_reducible exact H | (rw [hy170]; exact H) | exact H
  have Ny170 := Aside0.mk hy170
  clear hy170
  replace H := Option.bind_eq_some_iff.mp H
  obtain ⟨⟨t173, t176⟩, A60, H⟩ := H
  replace H : ((field_Touched.f k 0 0 0 6 4 8).bind fun bt177 => ((field_Value.f k 2 2 0).bind fun bt180 => ((mortiselaw08_num.f t158).bind fun t182 => (if t182 = 0 then (if t157 = 248 then ((mortiselaw08_num.f t161).bind fun t183 => (if t183 = 0 then (if t160 = true then (if t159 = 4294967228 then ((mortiselaw08_num.f t164).bind fun t184 => (if t184 = 0 then (if t163 = true then (none) else ((mortiselaw08_num.f t167).bind fun t185 => (if t185 = 0 then (if t165 = 32 then (if t166 = 240 then ((mortiselaw08_num.f t169).bind fun t186 => (if t186 = 0 then (if t168 = 4294967293 then ((mortiselaw08_num.f t176).bind fun t187 => (if t187 = 0 then ((mortiseref08_Bytes.f k t173 (([192, 3, 0, 0] : List Int))).bind fun t191 => (if t191 = true then ((mortiselaw08_num.f bt177.2.2).bind fun t192 => (if t192 = 0 then (if bt177.1 = 0 then (if bt177.2.1 = 2 then ((mortiselaw08_num.f bt180.2).bind fun t193 => (some (t193 == 80))) else (none)) else (none)) else (none))) else (none))) else (none))) else (none)) else (none))) else (none)) else (none)) else (none)))) else (none))) else (none)) else (none)) else (none))) else (none)) else (none))))) = some r := H
  have A6 := Aside0.mk A60
  clear A60
  replace H := Option.bind_eq_some_iff.mp H
  obtain ⟨⟨t177, t178, t179⟩, A70, H⟩ := H
  replace H : ((field_Value.f k 2 2 0).bind fun bt180 => ((mortiselaw08_num.f t158).bind fun t182 => (if t182 = 0 then (if t157 = 248 then ((mortiselaw08_num.f t161).bind fun t183 => (if t183 = 0 then (if t160 = true then (if t159 = 4294967228 then ((mortiselaw08_num.f t164).bind fun t184 => (if t184 = 0 then (if t163 = true then (none) else ((mortiselaw08_num.f t167).bind fun t185 => (if t185 = 0 then (if t165 = 32 then (if t166 = 240 then ((mortiselaw08_num.f t169).bind fun t186 => (if t186 = 0 then (if t168 = 4294967293 then ((mortiselaw08_num.f t176).bind fun t187 => (if t187 = 0 then ((mortiseref08_Bytes.f k t173 (([192, 3, 0, 0] : List Int))).bind fun t191 => (if t191 = true then ((mortiselaw08_num.f t179).bind fun t192 => (if t192 = 0 then (if t177 = 0 then (if t178 = 2 then ((mortiselaw08_num.f bt180.2).bind fun t193 => (some (t193 == 80))) else (none)) else (none)) else (none))) else (none))) else (none))) else (none)) else (none))) else (none)) else (none)) else (none)))) else (none))) else (none)) else (none)) else (none))) else (none)) else (none)))) = some r := H
  have A7 := Aside0.mk A70
  clear A70
  replace H := Option.bind_eq_some_iff.mp H
  obtain ⟨⟨t180, t181⟩, A80, H⟩ := H
  replace H : ((mortiselaw08_num.f t158).bind fun t182 => (if t182 = 0 then (if t157 = 248 then ((mortiselaw08_num.f t161).bind fun t183 => (if t183 = 0 then (if t160 = true then (if t159 = 4294967228 then ((mortiselaw08_num.f t164).bind fun t184 => (if t184 = 0 then (if t163 = true then (none) else ((mortiselaw08_num.f t167).bind fun t185 => (if t185 = 0 then (if t165 = 32 then (if t166 = 240 then ((mortiselaw08_num.f t169).bind fun t186 => (if t186 = 0 then (if t168 = 4294967293 then ((mortiselaw08_num.f t176).bind fun t187 => (if t187 = 0 then ((mortiseref08_Bytes.f k t173 (([192, 3, 0, 0] : List Int))).bind fun t191 => (if t191 = true then ((mortiselaw08_num.f t179).bind fun t192 => (if t192 = 0 then (if t177 = 0 then (if t178 = 2 then ((mortiselaw08_num.f t181).bind fun t193 => (some (t193 == 80))) else (none)) else (none)) else (none))) else (none))) else (none))) else (none)) else (none))) else (none)) else (none)) else (none)))) else (none))) else (none)) else (none)) else (none))) else (none)) else (none))) = some r := H
  have A8 := Aside0.mk A80
  clear A80
  replace H := Option.bind_eq_some_iff.mp H
  obtain ⟨t182, A90, H⟩ := H
  replace H : (if t182 = 0 then (if t157 = 248 then ((mortiselaw08_num.f t161).bind fun t183 => (if t183 = 0 then (if t160 = true then (if t159 = 4294967228 then ((mortiselaw08_num.f t164).bind fun t184 => (if t184 = 0 then (if t163 = true then (none) else ((mortiselaw08_num.f t167).bind fun t185 => (if t185 = 0 then (if t165 = 32 then (if t166 = 240 then ((mortiselaw08_num.f t169).bind fun t186 => (if t186 = 0 then (if t168 = 4294967293 then ((mortiselaw08_num.f t176).bind fun t187 => (if t187 = 0 then ((mortiseref08_Bytes.f k t173 (([192, 3, 0, 0] : List Int))).bind fun t191 => (if t191 = true then ((mortiselaw08_num.f t179).bind fun t192 => (if t192 = 0 then (if t177 = 0 then (if t178 = 2 then ((mortiselaw08_num.f t181).bind fun t193 => (some (t193 == 80))) else (none)) else (none)) else (none))) else (none))) else (none))) else (none)) else (none))) else (none)) else (none)) else (none)))) else (none))) else (none)) else (none)) else (none))) else (none)) else (none)) = some r := H
  have A9 := Aside0.mk A90
  clear A90
  by_cases c10 : t182 = 0
  · rw [if_pos c10] at H
    have c10b0 : (t182 == 0) = true := beq_iff_eq.mpr c10
    have c10b1 : (t182 != 0) = false := bne_eq_false_iff_eq.mpr c10
    clear c10
    by_cases c11 : t157 = 248
    · rw [if_pos c11] at H
      have c11b0 : (t157 == 248) = true := beq_iff_eq.mpr c11
      have c11b1 : (t157 != 248) = false := bne_eq_false_iff_eq.mpr c11
      clear c11
      replace H := Option.bind_eq_some_iff.mp H
      obtain ⟨t183, A120, H⟩ := H
      replace H : (if t183 = 0 then (if t160 = true then (if t159 = 4294967228 then ((mortiselaw08_num.f t164).bind fun t184 => (if t184 = 0 then (if t163 = true then (none) else ((mortiselaw08_num.f t167).bind fun t185 => (if t185 = 0 then (if t165 = 32 then (if t166 = 240 then ((mortiselaw08_num.f t169).bind fun t186 => (if t186 = 0 then (if t168 = 4294967293 then ((mortiselaw08_num.f t176).bind fun t187 => (if t187 = 0 then ((mortiseref08_Bytes.f k t173 (([192, 3, 0, 0] : List Int))).bind fun t191 => (if t191 = true then ((mortiselaw08_num.f t179).bind fun t192 => (if t192 = 0 then (if t177 = 0 then (if t178 = 2 then ((mortiselaw08_num.f t181).bind fun t193 => (some (t193 == 80))) else (none)) else (none)) else (none))) else (none))) else (none))) else (none)) else (none))) else (none)) else (none)) else (none)))) else (none))) else (none)) else (none)) else (none)) = some r := H
      have A12 := Aside0.mk A120
      clear A120
      by_cases c13 : t183 = 0
      · rw [if_pos c13] at H
        have c13b0 : (t183 == 0) = true := beq_iff_eq.mpr c13
        have c13b1 : (t183 != 0) = false := bne_eq_false_iff_eq.mpr c13
        clear c13
        by_cases c14 : t160 = true
        · subst c14
          have H1 : (if t159 = 4294967228 then ((mortiselaw08_num.f t164).bind fun t184 => (if t184 = 0 then (if t163 = true then (none) else ((mortiselaw08_num.f t167).bind fun t185 => (if t185 = 0 then (if t165 = 32 then (if t166 = 240 then ((mortiselaw08_num.f t169).bind fun t186 => (if t186 = 0 then (if t168 = 4294967293 then ((mortiselaw08_num.f t176).bind fun t187 => (if t187 = 0 then ((mortiseref08_Bytes.f k t173 (([192, 3, 0, 0] : List Int))).bind fun t191 => (if t191 = true then ((mortiselaw08_num.f t179).bind fun t192 => (if t192 = 0 then (if t177 = 0 then (if t178 = 2 then ((mortiselaw08_num.f t181).bind fun t193 => (some (t193 == 80))) else (none)) else (none)) else (none))) else (none))) else (none))) else (none)) else (none))) else (none)) else (none)) else (none)))) else (none))) else (none)) = some r := by rw [if_pos rfl] at H; exact H
          clear H
          have H := H1
          clear H1
          by_cases c15 : t159 = 4294967228
          · rw [if_pos c15] at H
            have c15b0 : (t159 == 4294967228) = true := beq_iff_eq.mpr c15
            have c15b1 : (t159 != 4294967228) = false := bne_eq_false_iff_eq.mpr c15
            clear c15
            replace H := Option.bind_eq_some_iff.mp H
            obtain ⟨t184, A160, H⟩ := H
            replace H : (if t184 = 0 then (if t163 = true then (none) else ((mortiselaw08_num.f t167).bind fun t185 => (if t185 = 0 then (if t165 = 32 then (if t166 = 240 then ((mortiselaw08_num.f t169).bind fun t186 => (if t186 = 0 then (if t168 = 4294967293 then ((mortiselaw08_num.f t176).bind fun t187 => (if t187 = 0 then ((mortiseref08_Bytes.f k t173 (([192, 3, 0, 0] : List Int))).bind fun t191 => (if t191 = true then ((mortiselaw08_num.f t179).bind fun t192 => (if t192 = 0 then (if t177 = 0 then (if t178 = 2 then ((mortiselaw08_num.f t181).bind fun t193 => (some (t193 == 80))) else (none)) else (none)) else (none))) else (none))) else (none))) else (none)) else (none))) else (none)) else (none)) else (none)))) else (none)) = some r := H
            have A16 := Aside0.mk A160
            clear A160
            by_cases c17 : t184 = 0
            · rw [if_pos c17] at H
              have c17b0 : (t184 == 0) = true := beq_iff_eq.mpr c17
              have c17b1 : (t184 != 0) = false := bne_eq_false_iff_eq.mpr c17
              clear c17
              by_cases c18 : t163 = true
              · subst c18
                have H1 : (none) = some r := by rw [if_pos rfl] at H; exact H
                clear H
                have H := H1
                clear H1
                exact absurd H (by simp)
              · replace c18 := Bool.eq_false_iff.mpr c18
                subst c18
                have H1 : ((mortiselaw08_num.f t167).bind fun t185 => (if t185 = 0 then (if t165 = 32 then (if t166 = 240 then ((mortiselaw08_num.f t169).bind fun t186 => (if t186 = 0 then (if t168 = 4294967293 then ((mortiselaw08_num.f t176).bind fun t187 => (if t187 = 0 then ((mortiseref08_Bytes.f k t173 (([192, 3, 0, 0] : List Int))).bind fun t191 => (if t191 = true then ((mortiselaw08_num.f t179).bind fun t192 => (if t192 = 0 then (if t177 = 0 then (if t178 = 2 then ((mortiselaw08_num.f t181).bind fun t193 => (some (t193 == 80))) else (none)) else (none)) else (none))) else (none))) else (none))) else (none)) else (none))) else (none)) else (none)) else (none))) = some r := by rw [if_neg (show ¬ (false = true) by decide)] at H; exact H
                clear H
                have H := H1
                clear H1
                replace H := Option.bind_eq_some_iff.mp H
                obtain ⟨t185, A190, H⟩ := H
                replace H : (if t185 = 0 then (if t165 = 32 then (if t166 = 240 then ((mortiselaw08_num.f t169).bind fun t186 => (if t186 = 0 then (if t168 = 4294967293 then ((mortiselaw08_num.f t176).bind fun t187 => (if t187 = 0 then ((mortiseref08_Bytes.f k t173 (([192, 3, 0, 0] : List Int))).bind fun t191 => (if t191 = true then ((mortiselaw08_num.f t179).bind fun t192 => (if t192 = 0 then (if t177 = 0 then (if t178 = 2 then ((mortiselaw08_num.f t181).bind fun t193 => (some (t193 == 80))) else (none)) else (none)) else (none))) else (none))) else (none))) else (none)) else (none))) else (none)) else (none)) else (none)) = some r := H
                have A19 := Aside0.mk A190
                clear A190
                by_cases c20 : t185 = 0
                · rw [if_pos c20] at H
                  have c20b0 : (t185 == 0) = true := beq_iff_eq.mpr c20
                  have c20b1 : (t185 != 0) = false := bne_eq_false_iff_eq.mpr c20
                  clear c20
                  by_cases c21 : t165 = 32
                  · rw [if_pos c21] at H
                    have c21b0 : (t165 == 32) = true := beq_iff_eq.mpr c21
                    have c21b1 : (t165 != 32) = false := bne_eq_false_iff_eq.mpr c21
                    clear c21
                    by_cases c22 : t166 = 240
                    · rw [if_pos c22] at H
                      have c22b0 : (t166 == 240) = true := beq_iff_eq.mpr c22
                      have c22b1 : (t166 != 240) = false := bne_eq_false_iff_eq.mpr c22
                      clear c22
                      replace H := Option.bind_eq_some_iff.mp H
                      obtain ⟨t186, A230, H⟩ := H
                      replace H : (if t186 = 0 then (if t168 = 4294967293 then ((mortiselaw08_num.f t176).bind fun t187 => (if t187 = 0 then ((mortiseref08_Bytes.f k t173 (([192, 3, 0, 0] : List Int))).bind fun t191 => (if t191 = true then ((mortiselaw08_num.f t179).bind fun t192 => (if t192 = 0 then (if t177 = 0 then (if t178 = 2 then ((mortiselaw08_num.f t181).bind fun t193 => (some (t193 == 80))) else (none)) else (none)) else (none))) else (none))) else (none))) else (none)) else (none)) = some r := H
                      have A23 := Aside0.mk A230
                      clear A230
                      by_cases c24 : t186 = 0
                      · rw [if_pos c24] at H
                        have c24b0 : (t186 == 0) = true := beq_iff_eq.mpr c24
                        have c24b1 : (t186 != 0) = false := bne_eq_false_iff_eq.mpr c24
                        clear c24
                        by_cases c25 : t168 = 4294967293
                        · rw [if_pos c25] at H
                          have c25b0 : (t168 == 4294967293) = true := beq_iff_eq.mpr c25
                          have c25b1 : (t168 != 4294967293) = false := bne_eq_false_iff_eq.mpr c25
                          clear c25
                          replace H := Option.bind_eq_some_iff.mp H
                          obtain ⟨t187, A260, H⟩ := H
                          replace H : (if t187 = 0 then ((mortiseref08_Bytes.f k t173 (([192, 3, 0, 0] : List Int))).bind fun t191 => (if t191 = true then ((mortiselaw08_num.f t179).bind fun t192 => (if t192 = 0 then (if t177 = 0 then (if t178 = 2 then ((mortiselaw08_num.f t181).bind fun t193 => (some (t193 == 80))) else (none)) else (none)) else (none))) else (none))) else (none)) = some r := H
                          have A26 := Aside0.mk A260
                          clear A260
                          by_cases c27 : t187 = 0
                          · rw [if_pos c27] at H
                            have c27b0 : (t187 == 0) = true := beq_iff_eq.mpr c27
                            have c27b1 : (t187 != 0) = false := bne_eq_false_iff_eq.mpr c27
                            clear c27
                            obtain ⟨y188, hy188⟩ : ∃ y_ : List Int, y_ = (([192, 3, 0, 0] : List Int)) := ⟨_, rfl⟩
                            replace H : ((mortiseref08_Bytes.f k t173 y188).bind fun t191 => (if t191 = true then ((mortiselaw08_num.f t179).bind fun t192 => (if t192 = 0 then (if t177 = 0 then (if t178 = 2 then ((mortiselaw08_num.f t181).bind fun t193 => (some (t193 == 80))) else (none)) else (none)) else (none))) else (none))) = some r := by first | (rw [hy188]; with_reducible exact H) | (have H2_ := (Option.bind_some _ _).symm.trans H; rw [hy188]; with_reducible exact H2_) | (have H2_ := (Option.bind_some _ _).symm.trans H; with_reducible exact H2_) | with_reducible exact H | (rw [hy188]; exact H) | exact H
                            have Ny188 := Aside0.mk hy188
                            clear hy188
                            replace H := Option.bind_eq_some_iff.mp H
                            obtain ⟨t191, A280, H⟩ := H
                            replace H : (if t191 = true then ((mortiselaw08_num.f t179).bind fun t192 => (if t192 = 0 then (if t177 = 0 then (if t178 = 2 then ((mortiselaw08_num.f t181).bind fun t193 => (some (t193 == 80))) else (none)) else (none)) else (none))) else (none)) = some r := H
                            have A28 := Aside0.mk A280
                            clear A280
                            by_cases c29 : t191 = true
                            · subst c29
                              have H1 : ((mortiselaw08_num.f t179).bind fun t192 => (if t192 = 0 then (if t177 = 0 then (if t178 = 2 then ((mortiselaw08_num.f t181).bind fun t193 => (some (t193 == 80))) else (none)) else (none)) else (none))) = some r := by rw [if_pos rfl] at H; exact H
                              clear H
                              have H := H1
                              clear H1
                              replace H := Option.bind_eq_some_iff.mp H
                              obtain ⟨t192, A300, H⟩ := H
                              replace H : (if t192 = 0 then (if t177 = 0 then (if t178 = 2 then ((mortiselaw08_num.f t181).bind fun t193 => (some (t193 == 80))) else (none)) else (none)) else (none)) = some r := H
                              have A30 := Aside0.mk A300
                              clear A300
                              by_cases c31 : t192 = 0
                              · rw [if_pos c31] at H
                                have c31b0 : (t192 == 0) = true := beq_iff_eq.mpr c31
                                have c31b1 : (t192 != 0) = false := bne_eq_false_iff_eq.mpr c31
                                clear c31
                                by_cases c32 : t177 = 0
                                · rw [if_pos c32] at H
                                  have c32b0 : (t177 == 0) = true := beq_iff_eq.mpr c32
                                  have c32b1 : (t177 != 0) = false := bne_eq_false_iff_eq.mpr c32
                                  clear c32
                                  by_cases c33 : t178 = 2
                                  · rw [if_pos c33] at H
                                    have c33b0 : (t178 == 2) = true := beq_iff_eq.mpr c33
                                    have c33b1 : (t178 != 2) = false := bne_eq_false_iff_eq.mpr c33
                                    clear c33
                                    replace H := Option.bind_eq_some_iff.mp H
                                    obtain ⟨t193, A340, H⟩ := H
                                    replace H : (some (t193 == 80)) = some r := H
                                    have A34 := Aside0.mk A340
                                    clear A340
                                    obtain rfl := Option.some.inj H
                                    go_enter Try.func31, Try.ntmps31
                                    go_wp2_with (first | ((with_reducible refine gate_callee (f := 24) rfl ?_); refine goesL_ (some 22) rfl rfl Try.func24 (by kernel_rfl) rfl #[.int .i64 3, .int .i64 5] rfl (by (try simp only [List.map_toArray, List.map_cons, List.map_nil]); first | done | rfl | (simp only [List.length_drop, List.length_take]; rfl)) ?_; (with_reducible refine (field_Mask.calls 3 5 t157 t158 _ A1.out).mono ?_); rintro e w' ⟨rfl, ⟨nd, rfl⟩⟩; refine ⟨_, rfl, ?_⟩) | ((with_reducible refine gate_callee (f := 26) rfl ?_); refine goesL_ (some 26) rfl rfl Try.func26 (by kernel_rfl) rfl #[.int .u32 43981, .int .u32 4294967295, .int .i64 4, .int .i64 8, .bool true] rfl (by (try simp only [List.map_toArray, List.map_cons, List.map_nil]); first | done | rfl | (simp only [List.length_drop, List.length_take]; rfl)) ?_; (with_reducible refine (field_Get.calls 43981 4294967295 4 8 true t159 true t161 _ A2.out).mono ?_); rintro e w' ⟨rfl, ⟨nd, rfl⟩⟩; refine ⟨_, rfl, ?_⟩) | ((with_reducible refine gate_callee (f := 26) rfl ?_); refine goesL_ (some 31) rfl rfl Try.func26 (by kernel_rfl) rfl #[.int .u32 43981, .int .u32 240, .int .i64 4, .int .i64 8, .bool true] rfl (by (try simp only [List.map_toArray, List.map_cons, List.map_nil]); first | done | rfl | (simp only [List.length_drop, List.length_take]; rfl)) ?_; (with_reducible refine (field_Get.calls 43981 240 4 8 true t162 false t164 _ A3.out).mono ?_); rintro e w' ⟨rfl, ⟨nd, rfl⟩⟩; refine ⟨_, rfl, ?_⟩) | ((with_reducible refine gate_callee (f := 28) rfl ?_); refine goesL_ (some 36) rfl rfl Try.func28 (by kernel_rfl) rfl #[.int .u32 0, .int .u32 0, .int .i64 4, .int .i64 4, .int .u32 18] rfl (by (try simp only [List.map_toArray, List.map_cons, List.map_nil]); first | done | rfl | (simp only [List.length_drop, List.length_take]; rfl)) ?_; (with_reducible refine (field_Put.calls 0 0 4 4 18 t165 t166 t167 _ A4.out).mono ?_); rintro e w' ⟨rfl, ⟨nd, rfl⟩⟩; refine ⟨_, rfl, ?_⟩) | ((with_reducible refine gate_callee (f := 32) rfl ?_); refine goesL_ (some 41) rfl rfl Try.func32 (by kernel_rfl) rfl #[.int .i64 8, .int .i64 3, .int .u32 5] rfl (by (try simp only [List.map_toArray, List.map_cons, List.map_nil]); first | done | rfl | (simp only [List.length_drop, List.length_take]; rfl)) ?_; (with_reducible refine (field_Value.calls k 8 3 5 t168 t169 _ A5.out).mono ?_); rintro e w' ⟨rfl, ⟨nd, rfl⟩⟩; refine ⟨_, rfl, ?_⟩) | ((with_reducible refine gate_dst (N := 45) rfl ?_); (try (refine gate_guard (by rfl) ?_; dsimp only)); refine Kd.R_lit (Kd.int .u8) _ 5 ?hg (N := 45) ?hd (xs := ([0, 0, 0, 0] : List Int)) (inner := [.int .u8 0, .int .u8 0, .int .u8 0, .int .u8 0]) (ok := fun _ => True) (okp := fun _ => True) ?hr ?hp (fun _ hk => hk) trivial (Below.refl _ _) (Nat.le_refl _) (by simp) ?_; (case hd => rfl); (case hg => rfl); (case hr => first | (go_simp; done) | (go_simp; rfl)); (case hp => exact (Reps.one (show Kd.M (Kd.int .u8) _ _ _ 0 [.int .u8 0] from rfl) (Reps.one (show Kd.M (Kd.int .u8) _ _ _ 0 [.int .u8 0] from rfl) (Reps.one (show Kd.M (Kd.int .u8) _ _ _ 0 [.int .u8 0] from rfl) (Reps.one (show Kd.M (Kd.int .u8) _ _ _ 0 [.int .u8 0] from rfl) (Reps.none _ _)))))); intro v171 w35 ho36 hb hg_ hnew_; clear hg_ hnew_; (first | rw [← Ny170.out] at ho36 | (simp only [Int.reduceToNat] at ho36; rw [← Ny170.out] at ho36)); have n0_ := Aside0.mk (Kd.R_lower ho36 (below_size (by repeat (first | (with_reducible first | exact HB.out | apply below_alloc | apply pw_below_drewN | apply below_drew1) | exact HB.out)))); have n1_ := Aside0.mk (below_step (by repeat (first | (with_reducible first | exact HB.out | apply below_alloc | apply pw_below_drewN | apply below_drew1) | exact HB.out)) hb); clear HB; have HO172 := n0_; have HB := n1_; clear n0_ n1_; clear hb ho36; obtain ⟨Ao37, co37, eo37⟩ := Kd.R_slice HO172.out; subst eo37) | ((with_reducible refine gate_callee (f := 44) rfl ?_); refine goesL_ (some 47) rfl rfl Try.func44 (by kernel_rfl) rfl #[.slice Ao37 y170.length co37, .agg #[.int .i64 0, .int .i64 0, .int .i64 0, .int .i64 6, .int .i64 4], .int .i64 8, .int .u32 15] rfl (by (try simp only [List.map_toArray, List.map_cons, List.map_nil]); first | done | rfl | (simp only [List.length_drop, List.length_take]; rfl)) ?_; (with_reducible refine (field_Write.calls k _ _ y170 0 0 0 6 4 8 15 t173 t176 _ ?side1 ?side2 A6.out).mono ?_); (case side1 => repeat (first | exact (Kd.R_reads' HO172.out).2.2 | (with_reducible refine Kd.C_alloc ?_ _) | (with_reducible refine Kd.C_drewN ?_ _) | (with_reducible refine Kd.C_drew ?_))); (case side2 => exact (Kd.R_reads' HO172.out).2.1); rintro e w38 ⟨v174, rfl, ho0, hb⟩; refine ⟨_, rfl, ?_⟩; have n0_ := Aside0.mk (Kd.R_elder' (by (with_reducible repeat (first | apply Kd.R_alloc | apply Kd.R_drewN | apply Kd.R_drew)); exact HO172.out) (Kd.R_base ho0) hb); have n1_ := Aside0.mk (Kd.R_lower (Kd.R_new' ho0 (Kd.R_lt (by (with_reducible repeat (first | apply Kd.R_alloc | apply Kd.R_drewN | apply Kd.R_drew)); exact HO172.out))) (below_size (by repeat (first | (with_reducible first | exact HB.out | apply below_alloc | apply pw_below_drewN | apply below_drew1) | exact HB.out)))); have n2_ := Aside0.mk (below_step (by repeat (first | (with_reducible first | exact HB.out | apply below_alloc | apply pw_below_drewN | apply below_drew1) | exact HB.out)) hb); clear HO172; clear HB; have HO172 := n0_; have HO175 := n1_; have HB := n2_; clear n0_ n1_ n2_; (try clear hb); (try clear hb2); (try clear hk); (try clear hi); (try clear ho0)) | ((with_reducible refine gate_callee (f := 46) rfl ?_); refine goesL_ (some 52) rfl rfl Try.func46 (by kernel_rfl) rfl #[.agg #[.int .i64 0, .int .i64 0, .int .i64 0, .int .i64 6, .int .i64 4], .int .i64 8] rfl (by (try simp only [List.map_toArray, List.map_cons, List.map_nil]); first | done | rfl | (simp only [List.length_drop, List.length_take]; rfl)) ?_; (with_reducible refine (field_Touched.calls k 0 0 0 6 4 8 t177 t178 t179 _ A7.out).mono ?_); rintro e w39 ⟨rfl, hb⟩; refine ⟨_, rfl, ?_⟩; have n0_ := Aside0.mk (Kd.R_below (by (with_reducible repeat (first | apply Kd.R_alloc | apply Kd.R_drewN | apply Kd.R_drew)); exact HO172.out) hb); have n1_ := Aside0.mk (Kd.R_below (by (with_reducible repeat (first | apply Kd.R_alloc | apply Kd.R_drewN | apply Kd.R_drew)); exact HO175.out) hb); have n2_ := Aside0.mk (below_step (by repeat (first | (with_reducible first | exact HB.out | apply below_alloc | apply pw_below_drewN | apply below_drew1) | exact HB.out)) hb); clear HO172; clear HO175; clear HB; have HO172 := n0_; have HO175 := n1_; have HB := n2_; clear n0_ n1_ n2_; (try clear hb); (try clear hb2); (try clear hk); (try clear hi)) | ((with_reducible refine gate_callee (f := 32) rfl ?_); refine goesL_ (some 57) rfl rfl Try.func32 (by kernel_rfl) rfl #[.int .i64 2, .int .i64 2, .int .u32 0] rfl (by (try simp only [List.map_toArray, List.map_cons, List.map_nil]); first | done | rfl | (simp only [List.length_drop, List.length_take]; rfl)) ?_; (with_reducible refine (field_Value.calls k 2 2 0 t180 t181 _ A8.out).mono ?_); rintro e w' ⟨rfl, ⟨nd, rfl⟩⟩; refine ⟨_, rfl, ?_⟩) | ((with_reducible refine gate_callee (f := 30) rfl ?_); refine goesL_ (some 61) rfl rfl Try.func30 (by kernel_rfl) rfl #[.int .i64 t158] rfl (by (try simp only [List.map_toArray, List.map_cons, List.map_nil]); first | done | rfl | (simp only [List.length_drop, List.length_take]; rfl)) ?_; (with_reducible refine (mortiselaw08_num.calls t158 t182 _ A9.out).mono ?_); rintro e w' ⟨rfl, ⟨nd, rfl⟩⟩; refine ⟨_, rfl, ?_⟩) | (go_at_call 30; (with_reducible refine (mortiselaw08_num.calls t161 t183 _ A12.out).mono ?_); rintro e w' ⟨rfl, ⟨nd, rfl⟩⟩) | (go_at_call 30; (with_reducible refine (mortiselaw08_num.calls t164 t184 _ A16.out).mono ?_); rintro e w' ⟨rfl, ⟨nd, rfl⟩⟩) | (go_at_call 30; (with_reducible refine (mortiselaw08_num.calls t167 t185 _ A19.out).mono ?_); rintro e w' ⟨rfl, ⟨nd, rfl⟩⟩) | (go_at_call 30; (with_reducible refine (mortiselaw08_num.calls t169 t186 _ A23.out).mono ?_); rintro e w' ⟨rfl, ⟨nd, rfl⟩⟩) | (go_at_call 30; (with_reducible refine (mortiselaw08_num.calls t176 t187 _ A26.out).mono ?_); rintro e w' ⟨rfl, ⟨nd, rfl⟩⟩) | ((with_reducible refine gate_dst (N := 117) rfl ?_); (try (refine gate_guard (by rfl) ?_; dsimp only)); refine Kd.R_lit (Kd.int .u8) _ 5 ?hg (N := 117) ?hd (xs := ([192, 3, 0, 0] : List Int)) (inner := [.int .u8 192, .int .u8 3, .int .u8 0, .int .u8 0]) (ok := fun _ => True) (okp := fun _ => True) ?hr ?hp (fun _ hk => hk) trivial (Below.refl _ _) (Nat.le_refl _) (by simp) ?_; (case hd => rfl); (case hg => rfl); (case hr => first | (go_simp; done) | (go_simp; rfl)); (case hp => exact (Reps.one (show Kd.M (Kd.int .u8) _ _ _ 192 [.int .u8 192] from rfl) (Reps.one (show Kd.M (Kd.int .u8) _ _ _ 3 [.int .u8 3] from rfl) (Reps.one (show Kd.M (Kd.int .u8) _ _ _ 0 [.int .u8 0] from rfl) (Reps.one (show Kd.M (Kd.int .u8) _ _ _ 0 [.int .u8 0] from rfl) (Reps.none _ _)))))); intro v189 w40 ho41 hb hg_ hnew_; clear hg_ hnew_; (first | rw [← Ny188.out] at ho41 | (simp only [Int.reduceToNat] at ho41; rw [← Ny188.out] at ho41)); have n0_ := Aside0.mk (Kd.R_elder' (by (with_reducible repeat (first | apply Kd.R_alloc | apply Kd.R_drewN | apply Kd.R_drew)); exact HO172.out) (Kd.R_base ho41) hb); have n1_ := Aside0.mk (Kd.R_elder' (by (with_reducible repeat (first | apply Kd.R_alloc | apply Kd.R_drewN | apply Kd.R_drew)); exact HO175.out) (Kd.R_base ho41) hb); have n2_ := Aside0.mk (Kd.R_lower (Kd.R_new' (Kd.R_new' ho41 (Kd.R_lt (by (with_reducible repeat (first | apply Kd.R_alloc | apply Kd.R_drewN | apply Kd.R_drew)); exact HO172.out))) (Kd.R_lt (by (with_reducible repeat (first | apply Kd.R_alloc | apply Kd.R_drewN | apply Kd.R_drew)); exact HO175.out))) (below_size (by repeat (first | (with_reducible first | exact HB.out | apply below_alloc | apply pw_below_drewN | apply below_drew1) | exact HB.out)))); have n3_ := Aside0.mk (below_step (by repeat (first | (with_reducible first | exact HB.out | apply below_alloc | apply pw_below_drewN | apply below_drew1) | exact HB.out)) hb); clear HO172; clear HO175; clear HB; have HO172 := n0_; have HO175 := n1_; have HO190 := n2_; have HB := n3_; clear n0_ n1_ n2_ n3_; clear hb ho41; obtain ⟨Ao42, co42, eo42⟩ := Kd.R_slice HO175.out; subst eo42; obtain ⟨Ao43, co43, eo43⟩ := Kd.R_slice HO190.out; subst eo43) | (go_at_call 47; (with_reducible refine (mortiseref08_Bytes.calls k _ _ t173 _ _ y188 true _ ?side1 ?side2 ?side3 ?side4 A28.out).mono ?_); (case side1 => repeat (first | exact (Kd.R_reads' HO175.out).2.2 | (with_reducible refine Kd.C_alloc ?_ _) | (with_reducible refine Kd.C_drewN ?_ _) | (with_reducible refine Kd.C_drew ?_))); (case side2 => exact (Kd.R_reads' HO175.out).2.1); (case side3 => repeat (first | exact (Kd.R_reads' HO190.out).2.2 | (with_reducible refine Kd.C_alloc ?_ _) | (with_reducible refine Kd.C_drewN ?_ _) | (with_reducible refine Kd.C_drew ?_))); (case side4 => exact (Kd.R_reads' HO190.out).2.1); rintro e w' ⟨rfl, ⟨nd, rfl⟩⟩) | (go_at_call 30; (with_reducible refine (mortiselaw08_num.calls t179 t192 _ A30.out).mono ?_); rintro e w' ⟨rfl, ⟨nd, rfl⟩⟩) | (go_at_call 30; (with_reducible refine (mortiselaw08_num.calls t181 t193 _ A34.out).mono ?_); rintro e w' ⟨rfl, ⟨nd, rfl⟩⟩) | (go_at_call 24; (with_reducible refine (field_Mask.calls 3 5 t157 t158 _ A1.out).mono ?_); rintro e w' ⟨rfl, ⟨nd, rfl⟩⟩) | (go_at_call 26; (with_reducible refine (field_Get.calls 43981 4294967295 4 8 true t159 true t161 _ A2.out).mono ?_); rintro e w' ⟨rfl, ⟨nd, rfl⟩⟩) | (go_at_call 26; (with_reducible refine (field_Get.calls 43981 240 4 8 true t162 false t164 _ A3.out).mono ?_); rintro e w' ⟨rfl, ⟨nd, rfl⟩⟩) | (go_at_call 28; (with_reducible refine (field_Put.calls 0 0 4 4 18 t165 t166 t167 _ A4.out).mono ?_); rintro e w' ⟨rfl, ⟨nd, rfl⟩⟩) | (go_at_call 32; (with_reducible refine (field_Value.calls k 8 3 5 t168 t169 _ A5.out).mono ?_); rintro e w' ⟨rfl, ⟨nd, rfl⟩⟩) | (go_at_call 44; (with_reducible refine (field_Write.calls k _ _ y170 0 0 0 6 4 8 15 t173 t176 _ ?side1 ?side2 A6.out).mono ?_); (case side1 => repeat (first | exact (Kd.R_reads' HO172.out).2.2 | (with_reducible refine Kd.C_alloc ?_ _) | (with_reducible refine Kd.C_drewN ?_ _) | (with_reducible refine Kd.C_drew ?_))); (case side2 => exact (Kd.R_reads' HO172.out).2.1); rintro e w38 ⟨v174, rfl, ho0, hb⟩; have n0_ := Aside0.mk (Kd.R_elder' (by (with_reducible repeat (first | apply Kd.R_alloc | apply Kd.R_drewN | apply Kd.R_drew)); exact HO172.out) (Kd.R_base ho0) hb); have n1_ := Aside0.mk (Kd.R_lower (Kd.R_new' ho0 (Kd.R_lt (by (with_reducible repeat (first | apply Kd.R_alloc | apply Kd.R_drewN | apply Kd.R_drew)); exact HO172.out))) (below_size (by repeat (first | (with_reducible first | exact HB.out | apply below_alloc | apply pw_below_drewN | apply below_drew1) | exact HB.out)))); have n2_ := Aside0.mk (below_step (by repeat (first | (with_reducible first | exact HB.out | apply below_alloc | apply pw_below_drewN | apply below_drew1) | exact HB.out)) hb); clear HO172; clear HB; have HO172 := n0_; have HO175 := n1_; have HB := n2_; clear n0_ n1_ n2_; (try clear hb); (try clear hb2); (try clear hk); (try clear hi); (try clear ho0)) | (go_at_call 46; (with_reducible refine (field_Touched.calls k 0 0 0 6 4 8 t177 t178 t179 _ A7.out).mono ?_); rintro e w39 ⟨rfl, hb⟩; have n0_ := Aside0.mk (Kd.R_below (by (with_reducible repeat (first | apply Kd.R_alloc | apply Kd.R_drewN | apply Kd.R_drew)); exact HO172.out) hb); have n1_ := Aside0.mk (Kd.R_below (by (with_reducible repeat (first | apply Kd.R_alloc | apply Kd.R_drewN | apply Kd.R_drew)); exact HO175.out) hb); have n2_ := Aside0.mk (below_step (by repeat (first | (with_reducible first | exact HB.out | apply below_alloc | apply pw_below_drewN | apply below_drew1) | exact HB.out)) hb); clear HO172; clear HO175; clear HB; have HO172 := n0_; have HO175 := n1_; have HB := n2_; clear n0_ n1_ n2_; (try clear hb); (try clear hb2); (try clear hk); (try clear hi)) | (go_at_call 32; (with_reducible refine (field_Value.calls k 2 2 0 t180 t181 _ A8.out).mono ?_); rintro e w' ⟨rfl, ⟨nd, rfl⟩⟩) | (go_at_call 30; (with_reducible refine (mortiselaw08_num.calls t158 t182 _ A9.out).mono ?_); rintro e w' ⟨rfl, ⟨nd, rfl⟩⟩))
                                    go_ret
                                    exact ⟨by first | rfl | (simp [errW_none, errW_some] <;> rfl) | (simp [*, errW_none, errW_some] <;> rfl), by repeat (first | (with_reducible first | exact HB.out | apply below_alloc | apply pw_below_drewN | apply below_drew1) | exact HB.out)⟩
                                  · rw [if_neg c33] at H
                                    exact absurd H (by simp)
                                · rw [if_neg c32] at H
                                  exact absurd H (by simp)
                              · rw [if_neg c31] at H
                                exact absurd H (by simp)
                            · replace c29 := Bool.eq_false_iff.mpr c29
                              subst c29
                              have H1 : (none) = some r := by rw [if_neg (show ¬ (false = true) by decide)] at H; exact H
                              clear H
                              have H := H1
                              clear H1
                              exact absurd H (by simp)
                          · rw [if_neg c27] at H
                            exact absurd H (by simp)
                        · rw [if_neg c25] at H
                          exact absurd H (by simp)
                      · rw [if_neg c24] at H
                        exact absurd H (by simp)
                    · rw [if_neg c22] at H
                      exact absurd H (by simp)
                  · rw [if_neg c21] at H
                    exact absurd H (by simp)
                · rw [if_neg c20] at H
                  exact absurd H (by simp)
            · rw [if_neg c17] at H
              exact absurd H (by simp)
          · rw [if_neg c15] at H
            exact absurd H (by simp)
        · replace c14 := Bool.eq_false_iff.mpr c14
          subst c14
          have H1 : (none) = some r := by rw [if_neg (show ¬ (false = true) by decide)] at H; exact H
          clear H
          have H := H1
          clear H1
          exact absurd H (by simp)
      · rw [if_neg c13] at H
        exact absurd H (by simp)
    · rw [if_neg c11] at H
      exact absurd H (by simp)
  · rw [if_neg c10] at H
    exact absurd H (by simp)

end Go.Proofs.Ytmkhfedemoccoaa.PFd
