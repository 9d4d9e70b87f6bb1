/- Step: the error's type read, the fetch joined. No condition beyond those each theorem names. And more of the kind: 3 texts in one. -/
import Derived.Test.YtejhnlljddjicaaDoorVGf
import Derived.Test.YtejhnlljddjicaaDoorVGg
namespace Go.Proofs.YtejhnlljddjicaaDoor.Ma
open Go.RowKit Go.Proofs.YtejhnlljddjicaaDoor.PEm Go.Proofs.YtejhnlljddjicaaDoorW.PrintWords Go.Proofs.YtejhnlljddjicaaDoorW.PrintLast Go.Proofs.YtejhnlljddjicaaDoorW.PrintMore Go.Proofs.YtejhnlljddjicaaDoor.La Go.Proofs.YtejhnlljddjicaaDoor.Ea
set_option linter.unusedVariables false
set_option linter.unusedSimpArgs false
variable {w w' : World} {c pg : Nat} {ps ps' : Pages} {S S' : Cpu} {inp out inp' out' : List Int}
theorem held_ext {F : Nat → Prop} (h : Held w) (x : Ext F w w') (h0 : ¬ F 0) : Held w' := by
  have := x.block 0 (Held.lt h) h0
  unfold Held World.cell? at h ⊢
  simp only [this] at h ⊢
  exact h
theorem held_did (h : Held w) (d : Did w w' c pg ps S ps' S' inp' out') (h0 : 0 ∉ foot c pg ps S) : Held w' ∧ 0 ∉ foot c pg ps' S' :=
  ⟨held_ext h d.ext h0, fun k => (d.new 0 k).elim h0 (fun q => by have := Held.lt h; omega)⟩
theorem held_below (h : Held w) (b : Below w.heap.size w w') : Held w'   := held_ext h (Ext.of_below (F := fun _ => False) b) id
theorem as_trap2 (n : Int) (g : Nat) (o0 : Int) (hg : Held w) (h5 : w.heap[g]? = some (.cells #[.int .i64 o0] 77 (0, 0))) :
    Calls Tryd.prog 30 #[.iface 77 (.agg #[.int .i64 n]), .iface 81 (.pointer (some ⟨g, 0, none⟩))] w fun ev w' => ev = .returned (.bool true) ∧ w'.heap[g]? = some (.cells #[.int .i64 n] 77 (0, 0)) ∧ Ext (fun i => i = g) w w' := by
  refine (as_trap n g (.int .i64 o0) w hg ((blk_cell h5 0).trans rfl) (blk_frozen h5 0)).mono ?_
  rintro e w' ⟨rfl, rfl⟩
  refine ⟨rfl, ?_, ?_⟩
  · exact blk_set (blk_alloc (blk_alloc (blk_alloc (blk_alloc h5 _) _) _) _) 0 _
  · refine Ext.setCell (F := fun i => i = g) (p := ⟨g, 0, none⟩) ?_ (.inl rfl) _
    exact Ext.of_below (below_alloc (below_alloc (below_alloc (below_alloc (Below.refl _ _) _) _) _) _)
theorem as_stopped2 (a b : Int) (g : Nat) (o0 o1 : Int) (hg : Held w) (h5 : w.heap[g]? = some (.cells #[.int .i64 o0, .int .i64 o1] 79 (0, 0))) :
    Calls Tryd.prog 30 #[.iface 79 (.agg #[.int .i64 a, .int .i64 b]), .iface 82 (.pointer (some ⟨g, 0, none⟩))] w fun ev w' => ev = .returned (.bool true) ∧ w'.heap[g]? = some (.cells #[.int .i64 a, .int .i64 b] 79 (0, 0)) ∧ Ext (fun i => i = g) w w' := by
  refine (as_stopped a b g (.int .i64 o0) (.int .i64 o1) w hg ((blk_cell h5 0).trans rfl) (blk_frozen h5 0) ((blk_cell h5 1).trans rfl) (blk_frozen h5 1)).mono ?_
  rintro e w' ⟨rfl, rfl⟩
  refine ⟨rfl, ?_, ?_⟩
  · exact blk_set (blk_set (blk_alloc (blk_alloc (blk_alloc (blk_alloc h5 _) _) _) _) 0 _) 1 _
  · refine Ext.setCell (F := fun i => i = g) (p := ⟨g, 1, none⟩) (Ext.setCell (F := fun i => i = g) (p := ⟨g, 0, none⟩) ?_ (.inl rfl) _) (.inl rfl) _
    exact Ext.of_below (below_alloc (below_alloc (below_alloc (below_alloc (Below.refl _ _) _) _) _) _)
theorem as_missed2 (a b : Int) (g : Nat) (hg : Held w) :
    Calls Tryd.prog 30 #[.iface 79 (.agg #[.int .i64 a, .int .i64 b]), .iface 81 (.pointer (some ⟨g, 0, none⟩))] w fun ev w' => ev = .returned (.bool false) ∧ Below w.heap.size w w' := by
  refine (as_missed a b g w hg).mono ?_
  rintro e w' ⟨rfl, rfl⟩
  exact ⟨rfl, below_alloc (below_alloc (below_alloc (Below.refl _ _) _) _) _⟩
theorem fetch_yes (h : EM w c pg ps S inp out) (at_ : Int) (h0 : 0 ≤ at_) (h1 : at_ < 4294967296) {x : I5} (hf : fetchF ps S at_ = some x) :
    Calls Tryd.prog 28 #[.pointer (some ⟨c, 0, none⟩), .int .i64 at_] w fun e w' => e = .returned (.tuple #[x.enc, .nilIface]) ∧ Below w.heap.size w w' := by
  unfold fetchF at hf
  split at hf
  · cases hf
  · next hc => exact fetch_y h at_ h0 h1 (by omega) (by omega) (by omega) hf
theorem fetch_no (h : EM w c pg ps S inp out) (at_ : Int) (h0 : 0 ≤ at_) (h1 : at_ < 4294967296) (hf : fetchF ps S at_ = none) :
    Calls Tryd.prog 28 #[.pointer (some ⟨c, 0, none⟩), .int .i64 at_] w fun e w' => e = .returned (.tuple #[.agg #[.int .i64 0, .int .i64 0, .int .i64 0, .int .i64 0, .int .i64 0], .iface 77 (.agg #[.int .i64 3])]) ∧ Below w.heap.size w w' := by
  unfold fetchF at hf
  by_cases a : at_ % 4 = 0
  · by_cases b : at_ < 4096
    · exact fetch_b h at_ h0 h1 a b
    · by_cases d : at_ > 4096 + S.code - 4
      · exact fetch_c h at_ h0 h1 a b d
      · rw [if_neg (by omega)] at hf
        exact fetch_d h at_ h0 h1 a b d hf
  · exact fetch_a h at_ h0 h1 a
theorem fetch_okay {at_ : Int} {x : I5} (hf : fetchF ps S at_ = some x) : Okay x := by
  unfold fetchF at hf
  split at hf
  · cases hf
  · exact (dec_op (wordF_range _ _ _ _) hf).2
/-- What a run's end an error means: the stop and its number. -/
def endOf (v : Value) : Option (Int × Int) := match v with
  | .iface 77 (.agg cs) => (match cs.toList with
    | [.int .i64 n] => some (6, n)
    | _ => none)
  | .iface 79 (.agg cs) => (match cs.toList with
    | [.int .i64 a, .int .i64 b] => some (a, b)
    | _ => none)
  | _ => none
/-- What a step makes of a machine. -/
def stepF (ps : Pages) (S : Cpu) (inp out : List Int) : Ran :=
  if S.ended ≠ 0 then ⟨.nilIface, S, byteAt ps, inp, out⟩ else
  match fetchF ps S S.pc with
  | none => ⟨.nilIface, { S with steps := S.steps + 1, ended := 6, exit := 3 }, byteAt ps, inp, out⟩
  | some x =>
    match endOf (doF ps { S with steps := S.steps + 1, pc := (S.pc + 4) % 4294967296 } x inp out).err with
    | none => doF ps { S with steps := S.steps + 1, pc := (S.pc + 4) % 4294967296 } x inp out
    | some (a, b) => { doF ps { S with steps := S.steps + 1, pc := (S.pc + 4) % 4294967296 } x inp out with S := { (doF ps { S with steps := S.steps + 1, pc := (S.pc + 4) % 4294967296 } x inp out).S with ended := a, exit := b } }
def Ends (v : Value) : Prop := v = .nilIface ∨ (∃ n, v = .iface 77 (.agg #[.int .i64 n])) ∨ ∃ a b, v = .iface 79 (.agg #[.int .i64 a, .int .i64 b])
theorem do_ends (ps : Pages) (S : Cpu) (x : I5) (inp out : List Int) : Ends (doF ps S x inp out).err := by
  have e1 : ∀ n, Ends (errT n) := by
    intro n
    unfold errT
    split
    · exact .inl rfl
    · exact .inr (.inl ⟨_, rfl⟩)
  have e2 : ∀ b : Bool, Ends (if b = true then .nilIface else stopV 2 0) := by
    intro b
    cases b
    · exact .inr (.inr ⟨2, 0, rfl⟩)
    · exact .inl rfl
  unfold doF
  by_cases c : 1 ≤ x.op ∧ x.op ≤ 19
  · rw [if_pos c]; first | exact e2 _ | exact e1 _ | exact .inl rfl | (split; exact e1 4; exact .inl rfl) | (cases inp <;> exact .inl rfl)
  rw [if_neg c]; clear c
  by_cases c : 33 ≤ x.op ∧ x.op ≤ 51
  · rw [if_pos c]; first | exact e2 _ | exact e1 _ | exact .inl rfl | (split; exact e1 4; exact .inl rfl) | (cases inp <;> exact .inl rfl)
  rw [if_neg c]; clear c
  by_cases c : (80 ≤ x.op ∧ x.op ≤ 84) ∨ (88 ≤ x.op ∧ x.op ≤ 90)
  · rw [if_pos c]; first | exact e2 _ | exact e1 _ | exact .inl rfl | (split; exact e1 4; exact .inl rfl) | (cases inp <;> exact .inl rfl)
  rw [if_neg c]; clear c
  by_cases c : x.op = 64
  · rw [if_pos c]; first | exact e2 _ | exact e1 _ | exact .inl rfl | (split; exact e1 4; exact .inl rfl) | (cases inp <;> exact .inl rfl)
  rw [if_neg c]; clear c
  by_cases c : x.op = 65
  · rw [if_pos c]; first | exact e2 _ | exact e1 _ | exact .inl rfl | (split; exact e1 4; exact .inl rfl) | (cases inp <;> exact .inl rfl)
  rw [if_neg c]; clear c
  by_cases c : x.op = 96
  · rw [if_pos c]; first | exact e2 _ | exact e1 _ | exact .inl rfl | (split; exact e1 4; exact .inl rfl) | (cases inp <;> exact .inl rfl)
  rw [if_neg c]; clear c
  by_cases c : x.op = 97
  · rw [if_pos c]; first | exact e2 _ | exact e1 _ | exact .inl rfl | (split; exact e1 4; exact .inl rfl) | (cases inp <;> exact .inl rfl)
  rw [if_neg c]; clear c
  by_cases c : x.op = 98
  · rw [if_pos c]; first | exact e2 _ | exact e1 _ | exact .inl rfl | (split; exact e1 4; exact .inl rfl) | (cases inp <;> exact .inl rfl)
  rw [if_neg c]; clear c
  by_cases c : x.op = 99
  · rw [if_pos c]; first | exact e2 _ | exact e1 _ | exact .inl rfl | (split; exact e1 4; exact .inl rfl) | (cases inp <;> exact .inl rfl)
  rw [if_neg c]; clear c
  by_cases c : x.op = 100
  · rw [if_pos c]; first | exact e2 _ | exact e1 _ | exact .inl rfl | (split; exact e1 4; exact .inl rfl) | (cases inp <;> exact .inl rfl)
  rw [if_neg c]; clear c
  by_cases c : x.op = 104
  · rw [if_pos c]; first | exact e2 _ | exact e1 _ | exact .inl rfl | (split; exact e1 4; exact .inl rfl) | (cases inp <;> exact .inl rfl)
  rw [if_neg c]; clear c
  by_cases c : x.op = 105
  · rw [if_pos c]; first | exact e2 _ | exact e1 _ | exact .inl rfl | (split; exact e1 4; exact .inl rfl) | (cases inp <;> exact .inl rfl)
  rw [if_neg c]; clear c
  by_cases c : x.op = 112
  · rw [if_pos c]; first | exact e2 _ | exact e1 _ | exact .inl rfl | (split; exact e1 4; exact .inl rfl) | (cases inp <;> exact .inl rfl)
  rw [if_neg c]; clear c
  by_cases c : x.op = 113
  · rw [if_pos c]; first | exact e2 _ | exact e1 _ | exact .inl rfl | (split; exact e1 4; exact .inl rfl) | (cases inp <;> exact .inl rfl)
  rw [if_neg c]; clear c
  exact .inr (.inr ⟨1, _, rfl⟩)
end Go.Proofs.YtejhnlljddjicaaDoor.Ma
namespace Go.Proofs.YtejhnlljddjicaaDoor.Ma
open Go.RowKit Go.Proofs.YtejhnlljddjicaaDoor.PEm Go.Proofs.YtejhnlljddjicaaDoorW.PrintWords Go.Proofs.YtejhnlljddjicaaDoorW.PrintLast Go.Proofs.YtejhnlljddjicaaDoorW.PrintMore Go.Proofs.YtejhnlljddjicaaDoor.La Go.Proofs.YtejhnlljddjicaaDoor.Ea
set_option linter.unusedVariables false
set_option linter.unusedSimpArgs false
variable {w w' : World} {c pg : Nat} {ps ps' : Pages} {S S' : Cpu} {inp out inp' out' : List Int}
set_option maxHeartbeats 4000000 in
set_option maxRecDepth 100000 in
theorem step_ended (h : EM w c pg ps S inp out) (he : S.ended ≠ 0) : Calls Tryd.prog 16 #[.pointer (some ⟨c, 0, none⟩)] w fun e w' => e = .returned (.int .i64 S.ended) ∧ w' = w := by
  have H := Aside0.mk h
  have k22 := h.k22
  clear h
  go_enter Tryd.func16, Tryd.ntmps16
  go_wp2_with (first | (go_at_call 27; refine (alive_yes H.out).mono ?_; rintro e w' ⟨rfl, rfl⟩))
  go_ret
  exact ⟨rfl, rfl⟩
set_option maxHeartbeats 4000000 in
set_option maxRecDepth 100000 in
theorem step_none (h : EM w c pg ps S inp out) (hh : Held w) (h0 : 0 ∉ foot c pg ps S) (he : S.ended = 0) (hst : 0 ≤ S.steps ∧ S.steps < 4611686018427387904) (hf : fetchF ps S S.pc = none) :
    Calls Tryd.prog 16 #[.pointer (some ⟨c, 0, none⟩)] w fun e w' => e = .returned (.int .i64 6) ∧ Did w w' c pg ps S ps { S with steps := S.steps + 1, ended := 6, exit := 3 } inp out := by
  have HF := Aside0.mk hf
  clear hf
  have H := Aside0.mk h
  have HH := Aside0.mk hh
  have H00 := Aside0.mk h0
  have HP := Aside0.mk h.pcIn
  have k22 : w.cell? ⟨c, 22, none⟩ = some (.int .i64 0) := he ▸ h.k22
  have k19 := h.k19
  have f19 := h.fz 19
  have hw : IntKind.i64.wrap (S.steps + 1) = S.steps + 1 := IntWalk.i64_in _ (by omega)
  have HE := Aside0.mk he
  clear h hh h0 he hst
  go_enter Tryd.func16, Tryd.ntmps16
  go_upto_region 6 with (first | (go_at_call 27; refine (alive_yes H.out).mono ?_; rintro e w ⟨rfl, rfl⟩))
  have D1 := Aside0.mk (H.out.set_steps (S.steps + 1))
  have HH1 := Aside0.mk (held_did HH.out D1.out H00.out)
  clear k22 k19 f19 hw
  generalize w.setCell ⟨c, 19, none⟩ (.int .i64 (S.steps + 1)) = W1 at D1 HH1 ⊢
  have k2 := D1.out.em.k2
  have wp : IntKind.i64.wrap S.pc = S.pc := IntWalk.i64_in _ (by have := HP.out; omega)
  go_upto_region 10 with (first | (go_at_call 28; refine (fetch_no D1.out.em S.pc HP.out.1 HP.out.2 HF.out).mono ?_; rintro e Y ⟨rfl, hb⟩))
  have D3 := Aside0.mk (D1.out.then_below (below_alloc hb (.cells #[.int .i64 0, .int .i64 0, .int .i64 0, .int .i64 0, .int .i64 0] 67)))
  have HH3 := Aside0.mk (held_did HH.out D3.out H00.out).1
  generalize Y.alloc (.cells #[.int .i64 0, .int .i64 0, .int .i64 0, .int .i64 0, .int .i64 0] 67) = W3 at D3 HH3 ⊢
  clear k2 wp hb D1 HH1
  go_upto_region 12 with (fail)
  have R5 := Aside0.mk (show ((W3.alloc (.cells #[.int .i64 0] 77)).alloc (.cells #[.int .i64 0, .int .i64 0] 79)).heap[W3.heap.size]? = some (.cells #[.int .i64 0] 77 (0, 0)) from blk_alloc (heap_at _ _ _ rfl) _)
  have R6 := Aside0.mk (show ((W3.alloc (.cells #[.int .i64 0] 77)).alloc (.cells #[.int .i64 0, .int .i64 0] 79)).heap[W3.heap.size + 1]? = some (.cells #[.int .i64 0, .int .i64 0] 79 (0, 0)) from heap_at _ _ _ (by simp))
  have B4 := Aside0.mk (show Below W3.heap.size W3 ((W3.alloc (.cells #[.int .i64 0] 77)).alloc (.cells #[.int .i64 0, .int .i64 0] 79)) from below_alloc (below_alloc (Below.refl _ _) _) _)
  have HH4 := Aside0.mk (held_below HH3.out B4.out)
  generalize ((W3.alloc (.cells #[.int .i64 0] 77)).alloc (.cells #[.int .i64 0, .int .i64 0] 79)) = W4 at R5 R6 B4 HH4 ⊢
  have G5 := Aside0.mk (show W3.heap.size ≤ W3.heap.size from Nat.le_refl _)
  have G6 := Aside0.mk (show W3.heap.size ≤ W3.heap.size + 1 by omega)
  generalize hg6 : W3.heap.size + 1 = g6 at R6 G6 ⊢
  generalize hg5 : W3.heap.size = g5 at R5 ⊢
  clear hg6
  go_wp2_with (first | (go_at_call 30; refine (as_trap2 _ g5 0 HH4.out R5.out).mono ?_; rintro e W5 ⟨rfl, r5, x5⟩; have B5 := B4.out.trans (x5.below_of B4.out.size (fun i hi => by rw [hi, ← hg5]; exact Nat.le_refl _)); have EM5 := D3.out.em.below B5; have k22 := EM5.k22; have k23 := EM5.k23; have f22 := EM5.fz 22; have f23 := EM5.fz 23; have b0 := (blk_cell r5 0).trans rfl; have BB := Aside0.mk B5; clear r5 x5 B5 EM5))
  go_ret
  have E6 := D3.out.then_below BB.out
  have E7 := E6.trans (E6.em.set_ended 6)
  have E8 := E7.trans (E7.em.set_exit 3)
  exact ⟨rfl, E8⟩
set_option maxHeartbeats 4000000 in
set_option maxRecDepth 100000 in
theorem step_nil (h : EM w c pg ps S inp out) (hh : Held w) (h0 : 0 ∉ foot c pg ps S) (he : S.ended = 0) (hst : 0 ≤ S.steps ∧ S.steps < 4611686018427387904) {x : I5} (hf : fetchF ps S S.pc = some x) (hin : ∀ v ∈ inp, 0 ≤ v ∧ v < 256) (hout : out.length + 1 ≤ 140737488355328) (hd : (doF ps { S with steps := S.steps + 1, pc := (S.pc + 4) % 4294967296 } x inp out).err = .nilIface) :
    Calls Tryd.prog 16 #[.pointer (some ⟨c, 0, none⟩)] w fun e w' => e = .returned (.int .i64 (doF ps { S with steps := S.steps + 1, pc := (S.pc + 4) % 4294967296 } x inp out).S.ended) ∧ (doF ps { S with steps := S.steps + 1, pc := (S.pc + 4) % 4294967296 } x inp out).did w w' c pg ps S := by
  have ok := fetch_okay hf
  obtain ⟨op, a, b, d, imm⟩ := x
  have HF := Aside0.mk hf
  have HIN := Aside0.mk hin
  have HOUT := Aside0.mk hout
  have HD := Aside0.mk hd
  have OK := Aside0.mk ok
  have wq : IntKind.u32.wrap (S.pc + 4) = (S.pc + 4) % 4294967296 := IntKind.wrap_u32 _
  clear hf hin hout hd ok
  have H := Aside0.mk h
  have HH := Aside0.mk hh
  have H00 := Aside0.mk h0
  have HP := Aside0.mk h.pcIn
  have k22 : w.cell? ⟨c, 22, none⟩ = some (.int .i64 0) := he ▸ h.k22
  have k19 := h.k19
  have f19 := h.fz 19
  have hw : IntKind.i64.wrap (S.steps + 1) = S.steps + 1 := IntWalk.i64_in _ (by omega)
  have HE := Aside0.mk he
  clear h hh h0 he hst
  go_enter Tryd.func16, Tryd.ntmps16
  go_upto_region 6 with (first | (go_at_call 27; refine (alive_yes H.out).mono ?_; rintro e w ⟨rfl, rfl⟩))
  have D1 := Aside0.mk (H.out.set_steps (S.steps + 1))
  have HH1 := Aside0.mk (held_did HH.out D1.out H00.out)
  clear k22 k19 f19 hw
  generalize w.setCell ⟨c, 19, none⟩ (.int .i64 (S.steps + 1)) = W1 at D1 HH1 ⊢
  have k2 := D1.out.em.k2
  have wp : IntKind.i64.wrap S.pc = S.pc := IntWalk.i64_in _ (by have := HP.out; omega)
  have f2 := D1.out.em.fz 2
  go_upto_region 8 with (first | (go_at_call 28; refine (fetch_yes D1.out.em S.pc HP.out.1 HP.out.2 HF.out).mono ?_; rintro e Y ⟨rfl, hb⟩; simp only [I5.enc]; have k2 := (D1.out.em.below hb).k2; have f2 := (D1.out.em.below hb).fz 2))
  have D2 := Aside0.mk (D1.out.then_below (below_alloc hb (.cells #[.int .i64 op, .int .i64 a, .int .i64 b, .int .i64 d, .int .i64 imm] 67)))
  have R3 := Aside0.mk (show (Y.alloc (.cells #[.int .i64 op, .int .i64 a, .int .i64 b, .int .i64 d, .int .i64 imm] 67)).heap[Y.heap.size]? = some (.cells #[.int .i64 op, .int .i64 a, .int .i64 b, .int .i64 d, .int .i64 imm] 67 (0, 0)) from heap_at _ _ _ rfl)
  have NC := Aside0.mk (show Y.heap.size ≠ c from fun e => by have := (D1.out.em.below hb).foot_lt c (by simp [foot]); omega)
  clear k2 f2
  generalize Y.alloc (.cells #[.int .i64 op, .int .i64 a, .int .i64 b, .int .i64 d, .int .i64 imm] 67) = W2 at D2 R3 ⊢
  generalize Y.heap.size = g3 at R3 NC ⊢
  have k2 := D2.out.em.k2
  have f2 := D2.out.em.fz 2
  go_upto_region 9 with (fail)
  have EP := Aside0.mk (D2.out.trans (D2.out.em.set_pc ((S.pc + 4) % 4294967296) (by omega) (by omega)))
  have R4 := Aside0.mk (blk_far R3.out (p := ⟨c, 2, none⟩) NC.out (.int .u32 ((S.pc + 4) % 4294967296)))
  clear k2 f2 wq wp
  generalize W2.setCell ⟨c, 2, none⟩ (.int .u32 ((S.pc + 4) % 4294967296)) = WP at EP R4 ⊢
  have c0 := (blk_cell R4.out 0).trans rfl
  have c1 := (blk_cell R4.out 1).trans rfl
  have c2 := (blk_cell R4.out 2).trans rfl
  have c3 := (blk_cell R4.out 3).trans rfl
  have c4 := (blk_cell R4.out 4).trans rfl
  go_upto_region 10 with (first | (go_at_call 29; refine (do_calls EP.out.em ⟨op, a, b, d, imm⟩ OK.out HIN.out HOUT.out).mono ?_; rintro e W3 ⟨rfl, hdid⟩; rw [HD.out]))
  clear c0 c1 c2 c3 c4
  obtain ⟨iv, ov, ps', DD, hm⟩ := hdid
  have D3 := Aside0.mk (EP.out.trans DD)
  have HM := Aside0.mk hm
  have HH3 := Aside0.mk (held_did HH.out D3.out H00.out).1
  clear hb D1 HH1 DD D2 EP R3 R4 hm
  go_upto_region 12 with (fail)
  have R5 := Aside0.mk (show ((W3.alloc (.cells #[.int .i64 0] 77)).alloc (.cells #[.int .i64 0, .int .i64 0] 79)).heap[W3.heap.size]? = some (.cells #[.int .i64 0] 77 (0, 0)) from blk_alloc (heap_at _ _ _ rfl) _)
  have R6 := Aside0.mk (show ((W3.alloc (.cells #[.int .i64 0] 77)).alloc (.cells #[.int .i64 0, .int .i64 0] 79)).heap[W3.heap.size + 1]? = some (.cells #[.int .i64 0, .int .i64 0] 79 (0, 0)) from heap_at _ _ _ (by simp))
  have B4 := Aside0.mk (show Below W3.heap.size W3 ((W3.alloc (.cells #[.int .i64 0] 77)).alloc (.cells #[.int .i64 0, .int .i64 0] 79)) from below_alloc (below_alloc (Below.refl _ _) _) _)
  have HH4 := Aside0.mk (held_below HH3.out B4.out)
  generalize ((W3.alloc (.cells #[.int .i64 0] 77)).alloc (.cells #[.int .i64 0, .int .i64 0] 79)) = W4 at R5 R6 B4 HH4 ⊢
  have G5 := Aside0.mk (show W3.heap.size ≤ W3.heap.size from Nat.le_refl _)
  have G6 := Aside0.mk (show W3.heap.size ≤ W3.heap.size + 1 by omega)
  generalize hg6 : W3.heap.size + 1 = g6 at R6 G6 ⊢
  generalize hg5 : W3.heap.size = g5 at R5 ⊢
  clear hg6
  have EM5 := D3.out.em.below B4.out
  have k22 := EM5.k22
  have BB := Aside0.mk B4.out
  clear EM5
  go_wp2_with (first | (go_at_call 30; refine (as_nil _ _).mono ?_; rintro e W6 ⟨rfl, rfl⟩))
  go_ret
  all_goals exact ⟨rfl, iv, ov, ps', D3.out.then_below BB.out, HM.out⟩
set_option maxHeartbeats 4000000 in
set_option maxRecDepth 100000 in
theorem step_trap (h : EM w c pg ps S inp out) (hh : Held w) (h0 : 0 ∉ foot c pg ps S) (he : S.ended = 0) (hst : 0 ≤ S.steps ∧ S.steps < 4611686018427387904) {x : I5} (hf : fetchF ps S S.pc = some x) (hin : ∀ v ∈ inp, 0 ≤ v ∧ v < 256) (hout : out.length + 1 ≤ 140737488355328) {n : Int} (hd : (doF ps { S with steps := S.steps + 1, pc := (S.pc + 4) % 4294967296 } x inp out).err = .iface 77 (.agg #[.int .i64 n])) :
    Calls Tryd.prog 16 #[.pointer (some ⟨c, 0, none⟩)] w fun e w' => e = .returned (.int .i64 6) ∧ (Ran.mk .nilIface { (doF ps { S with steps := S.steps + 1, pc := (S.pc + 4) % 4294967296 } x inp out).S with ended := 6, exit := n } (doF ps { S with steps := S.steps + 1, pc := (S.pc + 4) % 4294967296 } x inp out).m (doF ps { S with steps := S.steps + 1, pc := (S.pc + 4) % 4294967296 } x inp out).inp (doF ps { S with steps := S.steps + 1, pc := (S.pc + 4) % 4294967296 } x inp out).out).did w w' c pg ps S := by
  have ok := fetch_okay hf
  obtain ⟨op, a, b, d, imm⟩ := x
  have HF := Aside0.mk hf
  have HIN := Aside0.mk hin
  have HOUT := Aside0.mk hout
  have HD := Aside0.mk hd
  have OK := Aside0.mk ok
  have wq : IntKind.u32.wrap (S.pc + 4) = (S.pc + 4) % 4294967296 := IntKind.wrap_u32 _
  clear hf hin hout hd ok
  have H := Aside0.mk h
  have HH := Aside0.mk hh
  have H00 := Aside0.mk h0
  have HP := Aside0.mk h.pcIn
  have k22 : w.cell? ⟨c, 22, none⟩ = some (.int .i64 0) := he ▸ h.k22
  have k19 := h.k19
  have f19 := h.fz 19
  have hw : IntKind.i64.wrap (S.steps + 1) = S.steps + 1 := IntWalk.i64_in _ (by omega)
  have HE := Aside0.mk he
  clear h hh h0 he hst
  go_enter Tryd.func16, Tryd.ntmps16
  go_upto_region 6 with (first | (go_at_call 27; refine (alive_yes H.out).mono ?_; rintro e w ⟨rfl, rfl⟩))
  have D1 := Aside0.mk (H.out.set_steps (S.steps + 1))
  have HH1 := Aside0.mk (held_did HH.out D1.out H00.out)
  clear k22 k19 f19 hw
  generalize w.setCell ⟨c, 19, none⟩ (.int .i64 (S.steps + 1)) = W1 at D1 HH1 ⊢
  have k2 := D1.out.em.k2
  have wp : IntKind.i64.wrap S.pc = S.pc := IntWalk.i64_in _ (by have := HP.out; omega)
  have f2 := D1.out.em.fz 2
  go_upto_region 8 with (first | (go_at_call 28; refine (fetch_yes D1.out.em S.pc HP.out.1 HP.out.2 HF.out).mono ?_; rintro e Y ⟨rfl, hb⟩; simp only [I5.enc]; have k2 := (D1.out.em.below hb).k2; have f2 := (D1.out.em.below hb).fz 2))
  have D2 := Aside0.mk (D1.out.then_below (below_alloc hb (.cells #[.int .i64 op, .int .i64 a, .int .i64 b, .int .i64 d, .int .i64 imm] 67)))
  have R3 := Aside0.mk (show (Y.alloc (.cells #[.int .i64 op, .int .i64 a, .int .i64 b, .int .i64 d, .int .i64 imm] 67)).heap[Y.heap.size]? = some (.cells #[.int .i64 op, .int .i64 a, .int .i64 b, .int .i64 d, .int .i64 imm] 67 (0, 0)) from heap_at _ _ _ rfl)
  have NC := Aside0.mk (show Y.heap.size ≠ c from fun e => by have := (D1.out.em.below hb).foot_lt c (by simp [foot]); omega)
  clear k2 f2
  generalize Y.alloc (.cells #[.int .i64 op, .int .i64 a, .int .i64 b, .int .i64 d, .int .i64 imm] 67) = W2 at D2 R3 ⊢
  generalize Y.heap.size = g3 at R3 NC ⊢
  have k2 := D2.out.em.k2
  have f2 := D2.out.em.fz 2
  go_upto_region 9 with (fail)
  have EP := Aside0.mk (D2.out.trans (D2.out.em.set_pc ((S.pc + 4) % 4294967296) (by omega) (by omega)))
  have R4 := Aside0.mk (blk_far R3.out (p := ⟨c, 2, none⟩) NC.out (.int .u32 ((S.pc + 4) % 4294967296)))
  clear k2 f2 wq wp
  generalize W2.setCell ⟨c, 2, none⟩ (.int .u32 ((S.pc + 4) % 4294967296)) = WP at EP R4 ⊢
  have c0 := (blk_cell R4.out 0).trans rfl
  have c1 := (blk_cell R4.out 1).trans rfl
  have c2 := (blk_cell R4.out 2).trans rfl
  have c3 := (blk_cell R4.out 3).trans rfl
  have c4 := (blk_cell R4.out 4).trans rfl
  go_upto_region 10 with (first | (go_at_call 29; refine (do_calls EP.out.em ⟨op, a, b, d, imm⟩ OK.out HIN.out HOUT.out).mono ?_; rintro e W3 ⟨rfl, hdid⟩; rw [HD.out]))
  clear c0 c1 c2 c3 c4
  obtain ⟨iv, ov, ps', DD, hm⟩ := hdid
  have D3 := Aside0.mk (EP.out.trans DD)
  have HM := Aside0.mk hm
  have HH3 := Aside0.mk (held_did HH.out D3.out H00.out).1
  clear hb D1 HH1 DD D2 EP R3 R4 hm
  go_upto_region 12 with (fail)
  have R5 := Aside0.mk (show ((W3.alloc (.cells #[.int .i64 0] 77)).alloc (.cells #[.int .i64 0, .int .i64 0] 79)).heap[W3.heap.size]? = some (.cells #[.int .i64 0] 77 (0, 0)) from blk_alloc (heap_at _ _ _ rfl) _)
  have R6 := Aside0.mk (show ((W3.alloc (.cells #[.int .i64 0] 77)).alloc (.cells #[.int .i64 0, .int .i64 0] 79)).heap[W3.heap.size + 1]? = some (.cells #[.int .i64 0, .int .i64 0] 79 (0, 0)) from heap_at _ _ _ (by simp))
  have B4 := Aside0.mk (show Below W3.heap.size W3 ((W3.alloc (.cells #[.int .i64 0] 77)).alloc (.cells #[.int .i64 0, .int .i64 0] 79)) from below_alloc (below_alloc (Below.refl _ _) _) _)
  have HH4 := Aside0.mk (held_below HH3.out B4.out)
  generalize ((W3.alloc (.cells #[.int .i64 0] 77)).alloc (.cells #[.int .i64 0, .int .i64 0] 79)) = W4 at R5 R6 B4 HH4 ⊢
  have G5 := Aside0.mk (show W3.heap.size ≤ W3.heap.size from Nat.le_refl _)
  have G6 := Aside0.mk (show W3.heap.size ≤ W3.heap.size + 1 by omega)
  generalize hg6 : W3.heap.size + 1 = g6 at R6 G6 ⊢
  generalize hg5 : W3.heap.size = g5 at R5 ⊢
  clear hg6
  go_wp2_with (first | (go_at_call 30; refine (as_trap2 _ g5 0 HH4.out R5.out).mono ?_; rintro e W5 ⟨rfl, r5, x5⟩; have B5 := B4.out.trans (x5.below_of B4.out.size (fun i hi => by rw [hi, ← hg5]; exact Nat.le_refl _)); have EM5 := D3.out.em.below B5; have k22 := EM5.k22; have k23 := EM5.k23; have f22 := EM5.fz 22; have f23 := EM5.fz 23; have b0 := (blk_cell r5 0).trans rfl; have BB := Aside0.mk B5; clear r5 x5 B5 EM5))
  go_ret
  have E6 := D3.out.then_below BB.out
  have E7 := E6.trans (E6.em.set_ended 6)
  have E8 := E7.trans (E7.em.set_exit n)
  exact ⟨rfl, iv, ov, ps', E8, HM.out⟩
set_option maxHeartbeats 4000000 in
set_option maxRecDepth 100000 in
theorem step_stop (h : EM w c pg ps S inp out) (hh : Held w) (h0 : 0 ∉ foot c pg ps S) (he : S.ended = 0) (hst : 0 ≤ S.steps ∧ S.steps < 4611686018427387904) {x : I5} (hf : fetchF ps S S.pc = some x) (hin : ∀ v ∈ inp, 0 ≤ v ∧ v < 256) (hout : out.length + 1 ≤ 140737488355328) {p q : Int} (hd : (doF ps { S with steps := S.steps + 1, pc := (S.pc + 4) % 4294967296 } x inp out).err = .iface 79 (.agg #[.int .i64 p, .int .i64 q])) :
    Calls Tryd.prog 16 #[.pointer (some ⟨c, 0, none⟩)] w fun e w' => e = .returned (.int .i64 p) ∧ (Ran.mk .nilIface { (doF ps { S with steps := S.steps + 1, pc := (S.pc + 4) % 4294967296 } x inp out).S with ended := p, exit := q } (doF ps { S with steps := S.steps + 1, pc := (S.pc + 4) % 4294967296 } x inp out).m (doF ps { S with steps := S.steps + 1, pc := (S.pc + 4) % 4294967296 } x inp out).inp (doF ps { S with steps := S.steps + 1, pc := (S.pc + 4) % 4294967296 } x inp out).out).did w w' c pg ps S := by
  have ok := fetch_okay hf
  obtain ⟨op, a, b, d, imm⟩ := x
  have HF := Aside0.mk hf
  have HIN := Aside0.mk hin
  have HOUT := Aside0.mk hout
  have HD := Aside0.mk hd
  have OK := Aside0.mk ok
  have wq : IntKind.u32.wrap (S.pc + 4) = (S.pc + 4) % 4294967296 := IntKind.wrap_u32 _
  clear hf hin hout hd ok
  have H := Aside0.mk h
  have HH := Aside0.mk hh
  have H00 := Aside0.mk h0
  have HP := Aside0.mk h.pcIn
  have k22 : w.cell? ⟨c, 22, none⟩ = some (.int .i64 0) := he ▸ h.k22
  have k19 := h.k19
  have f19 := h.fz 19
  have hw : IntKind.i64.wrap (S.steps + 1) = S.steps + 1 := IntWalk.i64_in _ (by omega)
  have HE := Aside0.mk he
  clear h hh h0 he hst
  go_enter Tryd.func16, Tryd.ntmps16
  go_upto_region 6 with (first | (go_at_call 27; refine (alive_yes H.out).mono ?_; rintro e w ⟨rfl, rfl⟩))
  have D1 := Aside0.mk (H.out.set_steps (S.steps + 1))
  have HH1 := Aside0.mk (held_did HH.out D1.out H00.out)
  clear k22 k19 f19 hw
  generalize w.setCell ⟨c, 19, none⟩ (.int .i64 (S.steps + 1)) = W1 at D1 HH1 ⊢
  have k2 := D1.out.em.k2
  have wp : IntKind.i64.wrap S.pc = S.pc := IntWalk.i64_in _ (by have := HP.out; omega)
  have f2 := D1.out.em.fz 2
  go_upto_region 8 with (first | (go_at_call 28; refine (fetch_yes D1.out.em S.pc HP.out.1 HP.out.2 HF.out).mono ?_; rintro e Y ⟨rfl, hb⟩; simp only [I5.enc]; have k2 := (D1.out.em.below hb).k2; have f2 := (D1.out.em.below hb).fz 2))
  have D2 := Aside0.mk (D1.out.then_below (below_alloc hb (.cells #[.int .i64 op, .int .i64 a, .int .i64 b, .int .i64 d, .int .i64 imm] 67)))
  have R3 := Aside0.mk (show (Y.alloc (.cells #[.int .i64 op, .int .i64 a, .int .i64 b, .int .i64 d, .int .i64 imm] 67)).heap[Y.heap.size]? = some (.cells #[.int .i64 op, .int .i64 a, .int .i64 b, .int .i64 d, .int .i64 imm] 67 (0, 0)) from heap_at _ _ _ rfl)
  have NC := Aside0.mk (show Y.heap.size ≠ c from fun e => by have := (D1.out.em.below hb).foot_lt c (by simp [foot]); omega)
  clear k2 f2
  generalize Y.alloc (.cells #[.int .i64 op, .int .i64 a, .int .i64 b, .int .i64 d, .int .i64 imm] 67) = W2 at D2 R3 ⊢
  generalize Y.heap.size = g3 at R3 NC ⊢
  have k2 := D2.out.em.k2
  have f2 := D2.out.em.fz 2
  go_upto_region 9 with (fail)
  have EP := Aside0.mk (D2.out.trans (D2.out.em.set_pc ((S.pc + 4) % 4294967296) (by omega) (by omega)))
  have R4 := Aside0.mk (blk_far R3.out (p := ⟨c, 2, none⟩) NC.out (.int .u32 ((S.pc + 4) % 4294967296)))
  clear k2 f2 wq wp
  generalize W2.setCell ⟨c, 2, none⟩ (.int .u32 ((S.pc + 4) % 4294967296)) = WP at EP R4 ⊢
  have c0 := (blk_cell R4.out 0).trans rfl
  have c1 := (blk_cell R4.out 1).trans rfl
  have c2 := (blk_cell R4.out 2).trans rfl
  have c3 := (blk_cell R4.out 3).trans rfl
  have c4 := (blk_cell R4.out 4).trans rfl
  go_upto_region 10 with (first | (go_at_call 29; refine (do_calls EP.out.em ⟨op, a, b, d, imm⟩ OK.out HIN.out HOUT.out).mono ?_; rintro e W3 ⟨rfl, hdid⟩; rw [HD.out]))
  clear c0 c1 c2 c3 c4
  obtain ⟨iv, ov, ps', DD, hm⟩ := hdid
  have D3 := Aside0.mk (EP.out.trans DD)
  have HM := Aside0.mk hm
  have HH3 := Aside0.mk (held_did HH.out D3.out H00.out).1
  clear hb D1 HH1 DD D2 EP R3 R4 hm
  go_upto_region 12 with (fail)
  have R5 := Aside0.mk (show ((W3.alloc (.cells #[.int .i64 0] 77)).alloc (.cells #[.int .i64 0, .int .i64 0] 79)).heap[W3.heap.size]? = some (.cells #[.int .i64 0] 77 (0, 0)) from blk_alloc (heap_at _ _ _ rfl) _)
  have R6 := Aside0.mk (show ((W3.alloc (.cells #[.int .i64 0] 77)).alloc (.cells #[.int .i64 0, .int .i64 0] 79)).heap[W3.heap.size + 1]? = some (.cells #[.int .i64 0, .int .i64 0] 79 (0, 0)) from heap_at _ _ _ (by simp))
  have B4 := Aside0.mk (show Below W3.heap.size W3 ((W3.alloc (.cells #[.int .i64 0] 77)).alloc (.cells #[.int .i64 0, .int .i64 0] 79)) from below_alloc (below_alloc (Below.refl _ _) _) _)
  have HH4 := Aside0.mk (held_below HH3.out B4.out)
  generalize ((W3.alloc (.cells #[.int .i64 0] 77)).alloc (.cells #[.int .i64 0, .int .i64 0] 79)) = W4 at R5 R6 B4 HH4 ⊢
  have G5 := Aside0.mk (show W3.heap.size ≤ W3.heap.size from Nat.le_refl _)
  have G6 := Aside0.mk (show W3.heap.size ≤ W3.heap.size + 1 by omega)
  generalize hg6 : W3.heap.size + 1 = g6 at R6 G6 ⊢
  generalize hg5 : W3.heap.size = g5 at R5 ⊢
  clear hg6
  go_wp2_with (first | (go_at_call 30; refine (as_missed2 _ _ g5 HH4.out).mono ?_; rintro e W5 ⟨rfl, b5⟩; have N4 := Aside0.mk (B4.out.trans (b5.mono B4.out.size)); have N6 := Aside0.mk (blk_below R6.out b5); have NH := Aside0.mk (held_below HH4.out b5); clear B4 R5 R6 HH4 b5; have B4 := N4; have R6 := N6; have HH7 := NH; clear N4 N6 NH) | (go_at_call 30; refine (as_stopped2 _ _ g6 0 0 HH7.out R6.out).mono ?_; rintro e W5 ⟨rfl, r5, x5⟩; have B5 := B4.out.trans (x5.below_of B4.out.size (fun i hi => by rw [hi]; exact G6.out)); have EM5 := D3.out.em.below B5; have k22 := EM5.k22; have k23 := EM5.k23; have f22 := EM5.fz 22; have f23 := EM5.fz 23; have b0 := (blk_cell r5 0).trans rfl; have b1 := (blk_cell r5 1).trans rfl; have BB := Aside0.mk B5; clear r5 x5 B5 EM5))
  go_ret
  have E6 := D3.out.then_below BB.out
  have E7 := E6.trans (E6.em.set_ended p)
  have E8 := E7.trans (E7.em.set_exit q)
  exact ⟨rfl, iv, ov, ps', E8, HM.out⟩
end Go.Proofs.YtejhnlljddjicaaDoor.Ma
namespace Go.Proofs.YtejhnlljddjicaaDoor.Ma
open Go.RowKit Go.Proofs.YtejhnlljddjicaaDoor.PEm Go.Proofs.YtejhnlljddjicaaDoorW.PrintWords Go.Proofs.YtejhnlljddjicaaDoorW.PrintLast Go.Proofs.YtejhnlljddjicaaDoorW.PrintMore Go.Proofs.YtejhnlljddjicaaDoor.La Go.Proofs.YtejhnlljddjicaaDoor.Ea
set_option linter.unusedVariables false
set_option linter.unusedSimpArgs false
variable {w w' : World} {c pg : Nat} {ps ps' : Pages} {S S' : Cpu} {inp out inp' out' : List Int}
theorem Step_calls (h : EM w c pg ps S inp out) (hh : Held w) (h0 : 0 ∉ foot c pg ps S) (hst : 0 ≤ S.steps ∧ S.steps < 4611686018427387904) (hin : ∀ v ∈ inp, 0 ≤ v ∧ v < 256) (hout : out.length + 1 ≤ 140737488355328) :
    Calls Tryd.prog 16 #[.pointer (some ⟨c, 0, none⟩)] w fun e w' => e = .returned (.int .i64 (stepF ps S inp out).S.ended) ∧ (stepF ps S inp out).did w w' c pg ps S := by
  by_cases he : S.ended = 0
  · cases hf : fetchF ps S S.pc with
    | none =>
      have e : stepF ps S inp out = ⟨.nilIface, { S with steps := S.steps + 1, ended := 6, exit := 3 }, byteAt ps, inp, out⟩ := by
        unfold stepF
        rw [if_neg (by simp [he]), hf]
      rw [e]
      refine (step_none h hh h0 he hst hf).mono ?_
      rintro e w' ⟨rfl, d⟩
      exact ⟨rfl, did_of d fun _ => rfl⟩
    | some x =>
      have e : stepF ps S inp out = (match endOf (doF ps { S with steps := S.steps + 1, pc := (S.pc + 4) % 4294967296 } x inp out).err with
        | none => doF ps { S with steps := S.steps + 1, pc := (S.pc + 4) % 4294967296 } x inp out
        | some (a, b) => { doF ps { S with steps := S.steps + 1, pc := (S.pc + 4) % 4294967296 } x inp out with S := { (doF ps { S with steps := S.steps + 1, pc := (S.pc + 4) % 4294967296 } x inp out).S with ended := a, exit := b } }) := by
        unfold stepF
        rw [if_neg (by simp [he]), hf]
        all_goals rfl
      rw [e]
      rcases do_ends ps { S with steps := S.steps + 1, pc := (S.pc + 4) % 4294967296 } x inp out with k | ⟨n, k⟩ | ⟨p, q, k⟩
      · rw [show endOf (doF ps { S with steps := S.steps + 1, pc := (S.pc + 4) % 4294967296 } x inp out).err = none by rw [k]; rfl]
        exact step_nil h hh h0 he hst hf hin hout k
      · rw [show endOf (doF ps { S with steps := S.steps + 1, pc := (S.pc + 4) % 4294967296 } x inp out).err = some (6, n) by rw [k]; rfl]
        exact step_trap h hh h0 he hst hf hin hout k
      · rw [show endOf (doF ps { S with steps := S.steps + 1, pc := (S.pc + 4) % 4294967296 } x inp out).err = some (p, q) by rw [k]; rfl]
        exact step_stop h hh h0 he hst hf hin hout k
  · have e : stepF ps S inp out = ⟨.nilIface, S, byteAt ps, inp, out⟩ := by unfold stepF; rw [if_pos he]
    rw [e]
    refine (step_ended h he).mono ?_
    rintro e w' ⟨rfl, rfl⟩
    exact ⟨rfl, did_of (Did.same h (Below.refl _ _)) fun _ => rfl⟩
end Go.Proofs.YtejhnlljddjicaaDoor.Ma
