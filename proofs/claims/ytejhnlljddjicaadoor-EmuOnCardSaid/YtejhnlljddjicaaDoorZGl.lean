/- EmuFirst: Check, New, State, get, Peek at any image; the walk of the law. No condition beyond those each theorem names. -/
import Derived.Test.YtejhnlljddjicaaDoorZGk
import Derived.Deep.RegionLaw
import Derived.Laws.CopyOwn
namespace Go.Proofs.YtejhnlljddjicaaDoor.Ma
open Go.RowKit Go.Proofs.YtejhnlljddjicaaDoor.PEm Go.Proofs.YtejhnlljddjicaaDoorW.PrintWords Go.Proofs.YtejhnlljddjicaaDoorW.PrintLast Go.Proofs.YtejhnlljddjicaaDoorW.PrintMore
set_option linter.unusedVariables false
set_option linter.unusedSimpArgs false
variable {w w' : World} {c pg : Nat} {ps ps' : Pages} {S S' : Cpu} {inp out inp' out' : List Int}
def stateV (S : Cpu) : Value := .agg (([.int .u32 S.pc] : List Value) ++ (S.regs.map (Value.int .u32 ·) ++ ([.int .i64 S.steps] : List Value))).toArray
set_option maxHeartbeats 4000000 in
set_option maxRecDepth 100000 in
theorem State_calls (h : EM w c pg ps S inp out) : Calls Tryd.prog 18 #[.pointer (some ⟨c, 0, none⟩)] w fun e w' => e = .returned (stateV S) ∧ Below w.heap.size w w' := by
  have H := Aside0.mk h
  obtain ⟨r0, r1, r2, r3, r4, r5, r6, r7, r8, r9, r10, r11, r12, r13, r14, r15, hr⟩ := regs16 h.nreg
  have hC : ∀ i, i < 24 → (w.alloc (.cells #[.int .u32 0, .int .u32 0, .int .u32 0, .int .u32 0, .int .u32 0, .int .u32 0, .int .u32 0, .int .u32 0, .int .u32 0, .int .u32 0, .int .u32 0, .int .u32 0, .int .u32 0, .int .u32 0, .int .u32 0, .int .u32 0, .int .u32 0, .int .i64 0] 48)).cell? ⟨c, i, none⟩ = (cpuRow pg S)[i]? := fun i _ => cpu_cell (blk_alloc h.head _) i
  unfold stateV
  rw [hr]
  unfold cpuRow at hC
  rw [hr] at hC
  have k2 := hC 2 (by omega)
  have k3 := hC 3 (by omega)
  have k4 := hC 4 (by omega)
  have k5 := hC 5 (by omega)
  have k6 := hC 6 (by omega)
  have k7 := hC 7 (by omega)
  have k8 := hC 8 (by omega)
  have k9 := hC 9 (by omega)
  have k10 := hC 10 (by omega)
  have k11 := hC 11 (by omega)
  have k12 := hC 12 (by omega)
  have k13 := hC 13 (by omega)
  have k14 := hC 14 (by omega)
  have k15 := hC 15 (by omega)
  have k16 := hC 16 (by omega)
  have k17 := hC 17 (by omega)
  have k18 := hC 18 (by omega)
  have k19 := hC 19 (by omega)
  clear h hC hr
  generalize S.pc = pc at *
  generalize S.steps = st at *
  go_enter Tryd.func18, Tryd.ntmps18
  go_wp2_with (first | (go_at_call 27; refine (alive_yes (H.out.below (by first | assumption | (repeat (first | (with_reducible exact Below.refl _ _) | (with_reducible assumption) | with_reducible apply below_alloc | with_reducible apply pw_below_drewN | with_reducible apply below_drew1))))).mono ?_; rintro e w' ⟨rfl, rfl⟩) | (refine wpList_store_row rfl 48 _ _ rfl _ _ rfl rfl 48 _ (heap_alloc_last w _) (by as_aux_lemma => kernel_rfl) (by as_aux_lemma => kernel_rfl) (by as_aux_lemma => kernel_rfl) ?_; rw [World.setRow_alloc_new]))
  (try simp only [Exit.inBlock, Exit.then])
  refine bodyPost_ret (results_cell1 (p := 2) (ty := 48) rfl _ _ _ _ ⟨w.heap.size, 0, none⟩ _ (by rfl) (run_loadVar_row _ w.heap.size 48 48 _ (0, 0) _ (heap_at _ _ _ rfl) Tryd.underlying48 (by rfl) (by kernel_rfl))) rfl ?_
  exact ⟨rfl, by (repeat (first | (with_reducible exact Below.refl _ _) | (with_reducible assumption) | with_reducible apply below_alloc | with_reducible apply pw_below_drewN | with_reducible apply below_drew1))⟩
end Go.Proofs.YtejhnlljddjicaaDoor.Ma
namespace Go.Proofs.YtejhnlljddjicaaDoor.Ma
open Go.RowKit Go.Proofs.YtejhnlljddjicaaDoor.PEm Go.Proofs.YtejhnlljddjicaaDoorW.PrintWords Go.Proofs.YtejhnlljddjicaaDoorW.PrintLast Go.Proofs.YtejhnlljddjicaaDoorW.PrintMore Go.Proofs.YtejhnlljddjicaaDoor.La Go.Proofs.YtejhnlljddjicaaDoor.Ea
set_option linter.unusedVariables false
set_option linter.unusedSimpArgs false
variable {w w' : World} {c pg : Nat} {ps ps' : Pages} {S S' : Cpu} {inp out inp' out' : List Int}
theorem neq22n (W : World) : (binOp .neq 22 (.slice none 0 0) (.slice none 0 0)).run Tryd.prog W = .ok (.bool false) W := by kernel_rfl
theorem neq22s (W : World) (ad : Addr) (n c : Nat) : (binOp .neq 22 (.slice (some ad) n c) (.slice none 0 0)).run Tryd.prog W = .ok (.bool true) W := by kernel_rfl
theorem own_cut (g n j : Nat) (hj : (j : Int) < (n : Int)) (W : World) : (Instr.slice 22 (.slice (some ⟨g, 0, none⟩) n n) (some (.int .i64 j)) none none).run Tryd.prog W = .ok (.slice (some ⟨g, j, none⟩) (n - j) (n - j)) W := by
  rw [cut_run _ _ _ _ (by omega)]
  unfold cutA
  rw [if_neg (by omega)]
  simp only [Option.map_some, Addr.add]
  split
  · next e => simp_all
  · simp
theorem page_cut2 (g o k f : Nat) (hf : f = o + k) (ho : o < 4096) (hk : o + k ≤ 4096) (W : World) : (Instr.slice 22 (.slice (some ⟨g, 0, none⟩) 4096 4096) (some (.int .i64 o)) (some (.int .i64 (f : Int))) none).run Tryd.prog W = .ok (.slice (some ⟨g, o, none⟩) k (4096 - o)) W := by
  obtain ⟨i, hi, hz, hs, hb⟩ := info5
  have hel : Tryd.prog.elem 22 = 5 := by simp [Program.elem, Tryd.underlying22]
  have hu : Tryd.prog.underlying 22 = some (.slice (Tryd.prog.elem 22)) := by rw [hel]; exact Tryd.underlying22
  rw [run_slice_lh W 22 (some ⟨g, 0, none⟩) 4096 4096 hu .i64 .i64 o (f : Int) (by omega) (by omega) (by omega), hel]
  simp [sizeOf, typeInfo, hi, hs, sliced, Result.andThen, Addr.add]
  refine ⟨?_, by omega⟩
  rw [if_neg (by omega)]
  split <;> simp_all
theorem bytes_eq {l1 l2 : List Int} (hl : l1.length = l2.length) (h : ∀ i, i < l1.length → (l1[i]?).getD 0 = (l2[i]?).getD 0) : l1 = l2 :=
  List.ext_getElem hl (fun i h1 h2 => by have := h i h1; simpa [h1, h2] using this)
theorem memL_get {a n : Nat} (i : Nat) (hi : i < n) : ((memL ps a n)[i]?).getD 0 = byteAt ps (a + i) := by simp [memL, List.getElem?_map, List.getElem?_range hi]
theorem new_len (n : Nat) : (memL ps 0 n).length = n := by simp [memL]
set_option maxHeartbeats 4000000 in
set_option maxRecDepth 100000 in
theorem get_calls (h : EM w c pg ps S inp out) (at0 n : Nat) (hn : n ≤ 65536) (hat : at0 + n ≤ 8388608) :
    Calls Tryd.prog 31 #[.pointer (some ⟨c, 0, none⟩), .int .i64 at0, .int .i64 n] w fun e w' => e = .returned (.slice (some ⟨w.heap.size, 0, none⟩) n n) ∧ Below w.heap.size w w' ∧ w'.heap[w.heap.size]? = some (.cells (byteRow (memL ps at0 n)) 5 (0, 0)) := by
  have hmk := run_make5 (n : Int) (by omega) (by omega)
  simp only [Int.toNat_natCast] at hmk
  have H := Aside0.mk h
  have HN := Aside0.mk hn
  have HAT := Aside0.mk hat
  clear h hn hat
  go_enter Tryd.func31, Tryd.ntmps31
  go_upto_region 2 with (fail)
  have B0 := Aside0.mk (show Below w.heap.size w (w.alloc (.cells (byteRow (List.replicate n 0)) 5)) from below_alloc (Below.refl _ _) _)
  have R0 := Aside0.mk (show (w.alloc (.cells (byteRow (List.replicate n 0)) 5)).heap[w.heap.size]? = some (.cells (byteRow (List.replicate n 0)) 5 (0, 0)) from heap_at _ _ _ rfl)
  clear hmk
  go_upto_region 3 with (fail)
  generalize w.alloc (.cells (byteRow (List.replicate n 0)) 5) = W0 at B0 R0 ⊢
  have HG := Aside0.mk (Nat.le_refl w.heap.size)
  have HFT := Aside0.mk (H.out.foot_lt)
  generalize hg0 : w.heap.size = g0 at R0 ⊢
  have HG0 := Aside0.mk hg0
  clear hg0
  go_loopg [8] n (fun kq v8 wr => ∃ (j : Nat) (bsj : List Int), j + kq = n ∧ v8 = .int .i64 (j : Int) ∧ Aside0 (Below w.heap.size w wr) ∧ Aside0 (wr.heap[g0]? = some (.cells (byteRow bsj) 5 (0, 0))) ∧ Aside0 (bsj.length = n) ∧ Aside0 (∀ i, i < n → (bsj[i]?).getD 0 = if i < j then byteAt ps (at0 + i) else 0))
  case atStart => exact ⟨0, List.replicate n 0, by omega, rfl, ⟨B0.out⟩, ⟨R0.out⟩, ⟨by simp⟩, ⟨fun i hi => by rw [if_neg (by omega)]; simp [List.getElem?_replicate, hi]⟩⟩
  case round =>
    obtain ⟨j, bsj, hj, rfl, HB, HR, HL, HP⟩ := hrel
    by_cases hlt : j < n
    · have HJ := Aside0.mk hj
      have HLT := Aside0.mk hlt
      have hl0 : (j : Int) < (n : Int) := by omega
      obtain ⟨q, hq⟩ : ∃ q, q = at0 + j := ⟨_, rfl⟩
      have hq2 : q < 8388608 := by have := HAT.out; omega
      have hw0 : IntKind.i64.wrap ((at0 : Int) + (j : Int)) = (q : Int) := by rw [hq]; exact IntWalk.i64_in _ (by omega)
      obtain ⟨fr, hfr⟩ : ∃ fr, fr = q % 4096 := ⟨_, rfl⟩
      obtain ⟨pi, hpi⟩ : ∃ pi, pi = q / 4096 := ⟨_, rfl⟩
      obtain ⟨rm, hrm⟩ : ∃ rm, rm = 4096 - fr := ⟨_, rfl⟩
      obtain ⟨r, hr⟩ : ∃ r, r = n - j := ⟨_, rfl⟩
      obtain ⟨k, hk⟩ : ∃ k, k = min r rm := ⟨_, rfl⟩
      have hm : Int.tmod ((q : Nat) : Int) 4096 = (fr : Int) := by rw [Int.tmod_eq_emod_of_nonneg (by omega)]; omega
      have hd : Int.tdiv ((q : Nat) : Int) 4096 = (pi : Int) := by rw [Int.tdiv_eq_ediv_of_nonneg (by omega)]; omega
      have hw1 : IntKind.i64.wrap ((n : Int) - (j : Int)) = (r : Int) := by rw [IntWalk.i64_in _ (by have := HN.out; omega)]; omega
      have hw2 : IntKind.i64.wrap (4096 - (fr : Int)) = (rm : Int) := by rw [IntWalk.i64_in _ (by omega)]; omega
      have hmin : (if rm < r then (rm : Int) else (r : Int)) = (k : Int) := by split <;> omega
      obtain ⟨fk, hfk⟩ : ∃ fk, fk = fr + k := ⟨_, rfl⟩
      have hw3 : IntKind.i64.wrap ((fr : Int) + (k : Int)) = (fk : Int) := by rw [IntWalk.i64_in _ (by omega)]; omega
      have hw4 : IntKind.i64.wrap ((j : Int) + (k : Int)) = ((j + k : Nat) : Int) := by rw [IntWalk.i64_in _ (by have := HN.out; omega)]; omega
      have hpi2 : ((pi : Nat) : Int) < ((2048 : Nat) : Int) := by omega
      have HQ := Aside0.mk (And.intro hq hq2)
      have FK := Aside0.mk hfk
      have HF := Aside0.mk (And.intro hfr (And.intro hpi (And.intro hrm (And.intro hr hk))))
      clear hj hlt hfk hq hq2 hfr hpi hrm hr hk
      go_upto_region 6 with (fail)
      clear hmin
      have EW := Aside0.mk (H.out.below HB.out)
      have k0 := EW.out.k0
      have kp := EW.out.pgcell pi
      have hpl : pi < ps.length := by have := HF.out.2.1; have := HQ.out.2; have := EW.out.npg; omega
      have e1 := neq22n
      have e2 := neq22s
      cases hp : ps[pi]? with
      | none => exact absurd hp (by rw [List.getElem?_eq_getElem hpl]; simp)
      | some o =>
        rw [hp] at kp
        have HPI := Aside0.mk hp
        clear hp
        cases o with
        | none =>
          simp only [Option.map_some, pgVal] at kp
          go_wp2_with (fail)
          go_roundg (n - (j + k))
          case measure => have := HJ.out; have := HLT.out; have := HF.out; omega
          case rel =>
            have hf := HF.out
            have hq := HQ.out
            refine ⟨j + k, bsj, by have := HJ.out; have := HLT.out; omega, rfl, ⟨HB.out⟩, ⟨HR.out⟩, ⟨HL.out⟩, ⟨fun i hi => ?_⟩⟩
            rw [HP.out i hi]
            by_cases h1 : i < j
            · rw [if_pos h1, if_pos (by omega)]
            · rw [if_neg h1]
              by_cases h2 : i < j + k
              · rw [if_pos h2, byte_out (by rw [show (at0 + i) / 4096 = pi by omega]; exact HPI.out)]
              · rw [if_neg h2]
        | some gb =>
          obtain ⟨g, bs⟩ := gb
          simp only [Option.map_some, pgVal] at kp
          obtain ⟨hg, hlen, hbs⟩ := EW.out.page g bs (List.mem_of_getElem? HPI.out)
          have PG := Aside0.mk hg
          have PL := Aside0.mk (And.intro hlen hbs)
          have s1 := own_cut g0 n j hl0
          have s2 := page_cut2 g fr k fk FK.out (by have := HF.out; omega) (by have := HF.out; omega)
          clear hg hlen hbs
          go_upto_region 8 with (fail)
          have in5 := Aside0.mk (show (Tryd.prog.info? 5).map (·.size) = some 1 by kernel_rfl)
          refine wp_region_still_tail 9 (by kernel_rfl) (by kernel_rfl) ?_
          simp only [List.take_succ_cons, List.take_zero, List.drop_succ_cons, List.drop_zero]
          repeat (with_reducible refine wpStill_step (fun K hK => ?_); go_simp; with_reducible refine hK _ ?_; clear hK K)
          with_reducible refine wpStill_nil ?_
          change wpList _ _ _ _ _ wr.drew
          clear s1 s2 kp k0 e1 e2
          have hC := page_C (w := wr) PG.out PL.out.1 (a := q) (n := k) (by rw [show q / 4096 = pi by have := HF.out; omega]; exact HPI.out) (by have := HF.out; omega)
          rw [show q % 4096 = fr by have := HF.out; omega] at hC
          obtain ⟨ad, ea, hsrc⟩ := C_src hC (m := k) (Nat.le_refl _) (by have := HF.out; have := HLT.out; omega)
          injection ea with ea
          subst ea
          rw [List.take_of_length_le (by simp [memL])] at hsrc
          have hcl : ((memL ps q k).map (Value.int .u8 ·)).length = k := by simp [memL]
          refine wpList_copy_own rfl (.tmp 41) (.tmp 47) 22 22 rfl 5 Tryd.underlying22 in5.out g0 j (n - j) (n - j) ⟨g, fr, none⟩ k (4096 - fr) rfl rfl (byteRow bsj) 5 HR.out ((memL ps q k).map (Value.int .u8 ·)) (by rw [hcl]; have := HF.out; show k = min k (n - j); omega) hsrc (by rw [hcl]; simp only [byteRow, List.size_toArray, List.length_map]; have := HL.out; have := HF.out; have := HLT.out; omega) (by intro v hv; simp only [List.mem_map] at hv; obtain ⟨b, _, rfl⟩ := hv; rfl) ?_
          rw [splB_row]
          have NB := Aside0.mk (below_setRow (HB.out.drew) (Nat.le_of_eq HG0.out) (byteRow (splB bsj j (memL ps q k))))
          have NR := Aside0.mk (setRow_heap wr.drew g0 _ (byteRow (splB bsj j (memL ps q k))) 5 (0, 0) HR.out)
          generalize wr.drew.setRow g0 (byteRow (splB bsj j (memL ps q k))) = WZ at NB NR ⊢
          rw [hcl]
          clear hsrc hC hcl
          go_wp2_with (fail)
          go_roundg (n - (j + k))
          case measure => have := HJ.out; have := HLT.out; have := HF.out; omega
          case rel =>
            have hf := HF.out
            have hq := HQ.out
            have hjl := HLT.out
            have hll := HL.out
            have hml : (memL ps q k).length = k := by simp [memL]
            refine ⟨j + k, splB bsj j (memL ps q k), by have := HJ.out; omega, rfl, ⟨NB.out⟩, ⟨NR.out⟩, ⟨by rw [splB_len (by omega)]; exact hll⟩, ⟨fun i hi => ?_⟩⟩
            rw [splB_get (by omega), hml]
            by_cases h1 : j ≤ i ∧ i < j + k
            · rw [if_pos h1, if_pos (by omega), memL_get _ (by omega)]
              congr 1; omega
            · rw [if_neg h1, HP.out i hi]
              by_cases h2 : i < j
              · rw [if_pos h2, if_pos (by omega)]
              · rw [if_neg h2, if_neg (by omega)]
    · have hj2 : j = n := by omega
      subst hj2
      clear hlt hj
      go_wp2_with (fail)
      all_goals go_ret
      all_goals refine ⟨by first | rfl | (rw [HG0.out]; rfl), HB.out, ?_⟩
      all_goals (rw [HG0.out, HR.out])
      all_goals (rw [show bsj = memL ps at0 j from bytes_eq (by rw [HL.out]; simp [memL]) (fun i hi => by
        have hi' : i < j := by rw [HL.out] at hi; exact hi
        rw [HP.out i hi', if_pos hi', memL_get i hi'])])
end Go.Proofs.YtejhnlljddjicaaDoor.Ma
namespace Go.Proofs.YtejhnlljddjicaaDoor.Ma
open Go.RowKit Go.Proofs.YtejhnlljddjicaaDoor.PEm Go.Proofs.YtejhnlljddjicaaDoorW.PrintWords Go.Proofs.YtejhnlljddjicaaDoorW.PrintLast Go.Proofs.YtejhnlljddjicaaDoorW.PrintMore Go.Proofs.YtejhnlljddjicaaDoor.La Go.Proofs.YtejhnlljddjicaaDoor.Ea
set_option linter.unusedVariables false
set_option linter.unusedSimpArgs false
variable {w w' : World} {c pg : Nat} {ps ps' : Pages} {S S' : Cpu} {inp out inp' out' : List Int}
set_option maxHeartbeats 4000000 in
set_option maxRecDepth 100000 in
theorem peek_yes (h : EM w c pg ps S inp out) (a n : Nat) (hn : n ≤ 65536) (hat : a + n ≤ 8388608) : Calls Tryd.prog 17 #[.pointer (some ⟨c, 0, none⟩), .int .u32 a, .int .i64 n] w fun e w' => e = .returned (.tuple #[.slice (some ⟨w.heap.size, 0, none⟩) n n, .int .i64 0]) ∧ Below w.heap.size w w' ∧ w'.heap[w.heap.size]? = some (.cells (byteRow (memL ps a n)) 5 (0, 0)) := by
  have H := Aside0.mk h
  have h1 : ¬ ((n : Int) < 0) := by omega
  have h2 : ¬ ((n : Int) > 65536) := by omega
  have h3 : ¬ ((a : Int) > 8388608 - (n : Int)) := by omega
  have w1 : IntKind.i64.wrap (a : Int) = (a : Int) := IntWalk.i64_in _ (by omega)
  have w2 : IntKind.i64.wrap (8388608 - (n : Int)) = 8388608 - (n : Int) := IntWalk.i64_in _ (by omega)
  have HN := Aside0.mk hn
  have HAT := Aside0.mk hat
  clear h hn hat
  go_enter Tryd.func17, Tryd.ntmps17
  go_wp2_with (first | (go_at_call 27; refine (alive_yes H.out).mono ?_; rintro e w' ⟨rfl, rfl⟩) | (go_at_call 31; refine (get_calls H.out a n HN.out HAT.out).mono ?_; rintro e w5 ⟨rfl, hb, hr⟩))
  go_ret2
  exact ⟨rfl, hb, hr⟩
end Go.Proofs.YtejhnlljddjicaaDoor.Ma
namespace Go.Proofs.YtejhnlljddjicaaDoor.Ma
open Go.RowKit Go.Proofs.YtejhnlljddjicaaDoor.PEm Go.Proofs.YtejhnlljddjicaaDoorW.PrintWords Go.Proofs.YtejhnlljddjicaaDoorW.PrintLast Go.Proofs.YtejhnlljddjicaaDoorW.PrintMore Go.Proofs.YtejhnlljddjicaaDoor.La Go.Proofs.YtejhnlljddjicaaDoor.Ea
set_option linter.unusedVariables false
set_option linter.unusedSimpArgs false
variable {w w' : World} {c pg : Nat} {ps ps' : Pages} {S S' : Cpu} {inp out inp' out' : List Int}
theorem check_bad {bs : List Int} {code entry : Int} (h : ¬ okImg bs.length code entry) (hl : bs.length ≤ 9223372036854775807) : emu_Check.f 1 bs code entry = some 2 := by
  unfold emu_Check.f
  by_cases h1 : code < 4
  · rw [if_pos h1]; rfl
  rw [if_neg h1]
  by_cases h2 : code % 4 = 0
  · rw [if_pos ((tmod4 _).2 h2)]
    by_cases h3 : code > bs.length
    · rw [if_pos h3]; rfl
    rw [if_neg h3]
    by_cases h4 : (bs.length : Int) > 1048576
    · rw [show decide ((bs.length : Int) > 1048576) = true by simp; omega]; rfl
    rw [show decide ((bs.length : Int) > 1048576) = false by simp; omega]
    simp only [emu_Check.j0]
    rw [if_neg (by decide)]
    by_cases h5 : entry % 4 = 0
    · rw [if_pos ((tmod4 _).2 h5)]
      by_cases h6 : entry < 4096
      · rw [if_pos h6]
      rw [if_neg h6, if_pos]
      unfold okImg at h
      unfold wrap64
      omega
    · rw [if_neg (fun q => h5 ((tmod4 _).1 q))]
  · rw [if_neg (fun q => h2 ((tmod4 _).1 q))]; rfl
end Go.Proofs.YtejhnlljddjicaaDoor.Ma
namespace Go.Proofs.YtejhnlljddjicaaDoor.Ma
open Go.RowKit Go.Proofs.YtejhnlljddjicaaDoor.PEm Go.Proofs.YtejhnlljddjicaaDoorW.PrintWords Go.Proofs.YtejhnlljddjicaaDoorW.PrintLast Go.Proofs.YtejhnlljddjicaaDoorW.PrintMore Go.Proofs.YtejhnlljddjicaaDoor.La Go.Proofs.YtejhnlljddjicaaDoor.Ea
set_option linter.unusedVariables false
set_option linter.unusedSimpArgs false
variable {w w' : World} {c pg : Nat} {ps ps' : Pages} {S S' : Cpu} {inp out inp' out' : List Int}
set_option maxHeartbeats 4000000 in
set_option maxRecDepth 100000 in
theorem new_no (w : World) (A : Option Addr) (k : Nat) (bs : List Int) (code entry : Int) (iv : Value) (hC : Kd.C (Kd.int .u8) w A bs.length bs) (hk : bs.length ≤ k) (ho : ¬ okImg bs.length code entry) :
    Calls Tryd.prog 15 #[.agg #[.slice A bs.length k, .int .i64 code, .int .i64 entry], iv] w fun e w' => e = .returned (.tuple #[.pointer none, .int .i64 2]) ∧ Below w.heap.size w w' := by
  have HO := Aside0.mk (check_bad ho hC.2.1)
  clear ho
  have B0 := Aside0.mk (show Below w.heap.size w (w.alloc (.cells #[.slice A bs.length k, .int .i64 code, .int .i64 entry] 24)) from below_alloc (Below.refl _ _) _)
  have R0 := Aside0.mk (show (w.alloc (.cells #[.slice A bs.length k, .int .i64 code, .int .i64 entry] 24)).heap[w.heap.size]? = some (.cells #[.slice A bs.length k, .int .i64 code, .int .i64 entry] 24 (0, 0)) from heap_at _ _ _ rfl)
  have HC := Aside0.mk hC
  have HK := Aside0.mk hk
  clear hC hk
  go_enter Tryd.func15, Tryd.ntmps15
  go_upto_region 1 with (fail)
  generalize w.alloc (.cells #[.slice A bs.length k, .int .i64 code, .int .i64 entry] 24) = W0 at B0 R0 ⊢
  generalize hg2 : w.heap.size = g2 at R0 ⊢
  have c0 := (blk_cell R0.out 0).trans rfl
  have c1 := (blk_cell R0.out 1).trans rfl
  have c2 := (blk_cell R0.out 2).trans rfl
  go_wp2_with (first | (go_at_call 11; refine (emu_Check.calls 1 A k bs code entry 2 _ (Kd.C_below HC.out B0.out) HK.out HO.out).mono ?_; rintro e Y ⟨rfl, hb⟩; have BB := Aside0.mk (pm_chain B0.out hb); clear hb))
  go_ret2
  exact ⟨rfl, BB.out⟩
end Go.Proofs.YtejhnlljddjicaaDoor.Ma
namespace Go.Proofs.YtejhnlljddjicaaDoor.Ma
open Go.RowKit Go.Proofs.YtejhnlljddjicaaDoor.PEm Go.Proofs.YtejhnlljddjicaaDoorW.PrintWords Go.Proofs.YtejhnlljddjicaaDoorW.PrintLast Go.Proofs.YtejhnlljddjicaaDoorW.PrintMore Go.Proofs.YtejhnlljddjicaaDoor.La Go.Proofs.YtejhnlljddjicaaDoor.Ea
set_option linter.unusedVariables false
set_option linter.unusedSimpArgs false
variable {w w' : World} {c pg : Nat} {ps ps' : Pages} {S S' : Cpu} {inp out inp' out' : List Int}
theorem same_from (l : List Int) (hl : l.length < 9223372036854775807) (d : Nat) : ∀ (k : Nat) (i : Int), 0 ≤ i → i ≤ l.length → (l.length : Int) - i = d → d < k → mortiseref01_Same.l0 k l l i = some true := by
  induction d with
  | zero =>
    intro k i h0 h1 hd hk
    obtain ⟨k, rfl⟩ : ∃ m, k = m + 1 := ⟨k - 1, by omega⟩
    simp only [mortiseref01_Same.l0]; rw [if_neg (by omega)]
  | succ d ih =>
    intro k i h0 h1 hd hk
    obtain ⟨k, rfl⟩ : ∃ m, k = m + 1 := ⟨k - 1, by omega⟩
    have hw : wrap64 (i + 1) = i + 1 := by unfold wrap64; omega
    simp only [mortiseref01_Same.l0]
    rw [if_pos (by omega), if_pos h0, hw, if_true]
    exact (if_pos (by omega)).trans (ih k (i + 1) (by omega) (by omega) (by omega) (by omega))
theorem same_self (l : List Int) (hl : l.length < 9223372036854775807) (k : Nat) (hk : l.length < k) : mortiseref01_Same.f k l l = some true := by
  unfold mortiseref01_Same.f
  rw [if_pos rfl]
  exact same_from l hl l.length k 0 (by omega) (by omega) (by omega) hk
theorem C_row {g : Nat} {bs : List Int} (h : w.heap[g]? = some (.cells (byteRow bs) 5 (0, 0))) (hl : bs.length ≤ 9223372036854775807) : Kd.C (Kd.int .u8) w (some ⟨g, 0, none⟩) bs.length bs := by
  refine Kd.C_of_reads (enc := Value.int .u8) (d := (0 : Int)) (h1 := fun _ => rfl) ⟨rfl, hl, fun _ => ⟨_, rfl, fun j hj => ?_⟩⟩
  rw [add0, blk_cell h]
  simp [byteRow, hj]
theorem memL_len (a n : Nat) : (memL ps a n).length = n := by simp [memL]
theorem laid_first (bs : List Int) (n : Nat) (hn : n ≤ bs.length) (h : ∀ i, byteAt ps i = laidF (fun _ => 0) 4096 bs i) : memL ps 4096 n = bs.take n := by
  refine bytes_eq (by simp [memL, hn]) (fun i hi => ?_)
  rw [memL_len] at hi
  rw [memL_get i hi, h, List.getElem?_take, if_pos hi]
  unfold laidF
  rw [if_pos (by omega), show 4096 + i - 4096 = i by omega]
theorem laid_zero (bs : List Int) (a n : Nat) (ha : a + n ≤ 4096 ∨ 4096 + bs.length ≤ a) (h : ∀ i, byteAt ps i = laidF (fun _ => 0) 4096 bs i) : ∀ i, i < n → (memL ps a n)[i]? = some 0 := by
  intro i hi
  simp only [memL, List.getElem?_map, List.getElem?_range hi, Option.map_some, h]
  unfold laidF
  rw [if_neg (by omega)]
end Go.Proofs.YtejhnlljddjicaaDoor.Ma
namespace Go.Proofs.YtejhnlljddjicaaDoor.Ma
open Go.RowKit Go.Proofs.YtejhnlljddjicaaDoor.PEm Go.Proofs.YtejhnlljddjicaaDoorW.PrintWords Go.Proofs.YtejhnlljddjicaaDoorW.PrintLast Go.Proofs.YtejhnlljddjicaaDoorW.PrintMore Go.Proofs.YtejhnlljddjicaaDoor.La Go.Proofs.YtejhnlljddjicaaDoor.Ea
set_option linter.unusedVariables false
set_option linter.unusedSimpArgs false
variable {w w' : World} {c pg : Nat} {ps ps' : Pages} {S S' : Cpu} {inp out inp' out' : List Int}
theorem peek_a (h : EM w c pg ps S inp out) (n : Nat) (hn : n ≤ 65536) : Calls Tryd.prog 17 #[.pointer (some ⟨c, 0, none⟩), .int .u32 4096, .int .i64 n] w fun e w' => e = .returned (.tuple #[.slice (some ⟨w.heap.size, 0, none⟩) n n, .int .i64 0]) ∧ Below w.heap.size w w' ∧ w'.heap[w.heap.size]? = some (.cells (byteRow (memL ps 4096 n)) 5 (0, 0)) := by
  have q := peek_yes h 4096 n hn (by omega)
  rw [show ((4096 : Nat) : Int) = 4096 from rfl] at q
  exact q
theorem peek_b (h : EM w c pg ps S inp out) (a : Nat) (ha : a + 64 ≤ 8388608) : Calls Tryd.prog 17 #[.pointer (some ⟨c, 0, none⟩), .int .u32 a, .int .i64 64] w fun e w' => e = .returned (.tuple #[.slice (some ⟨w.heap.size, 0, none⟩) 64 64, .int .i64 0]) ∧ Below w.heap.size w w' ∧ w'.heap[w.heap.size]? = some (.cells (byteRow (memL ps a 64)) 5 (0, 0)) := by
  have q := peek_yes h a 64 (by decide) ha
  rw [show ((64 : Nat) : Int) = 64 from rfl] at q
  exact q
theorem peek_c (h : EM w c pg ps S inp out)  : Calls Tryd.prog 17 #[.pointer (some ⟨c, 0, none⟩), .int .u32 0, .int .i64 4096] w fun e w' => e = .returned (.tuple #[.slice (some ⟨w.heap.size, 0, none⟩) 4096 4096, .int .i64 0]) ∧ Below w.heap.size w w' ∧ w'.heap[w.heap.size]? = some (.cells (byteRow (memL ps 0 4096)) 5 (0, 0)) := by
  have q := peek_yes h 0 4096 (by decide) (by decide)
  rw [show ((4096 : Nat) : Int) = 4096 from rfl, show ((0 : Nat) : Int) = 0 from rfl] at q
  exact q
theorem cut_hi (A : Option Addr) (l k n : Nat) (hn : n ≤ k) (W : World) : (Instr.slice 22 (.slice A l k) none (some (.int .i64 (n : Int))) none).run Tryd.prog W = .ok (.slice A n k) W := by
  obtain ⟨i, hi, hz, hs, hb⟩ := info5
  have hel : Tryd.prog.elem 22 = 5 := by simp [Program.elem, Tryd.underlying22]
  have hu : Tryd.prog.underlying 22 = some (.slice (Tryd.prog.elem 22)) := by rw [hel]; exact Tryd.underlying22
  rw [run_slice_h W 22 A l k hu .i64 (n : Int) (by omega) (by omega), hel]
  cases A with
  | none => simp [sizeOf, typeInfo, hi, hs, sliced, Result.andThen]
  | some ad =>
    have h0 : ad.add 0 = ad := by simp [Addr.add]
    simp [sizeOf, typeInfo, hi, hs, sliced, Result.andThen, h0]
theorem C_take2 {A : Option Addr} {l n : Nat} {xs : List Int} (h : Kd.C (Kd.int .u8) w A l xs) (hn : n ≤ l) : Kd.C (Kd.int .u8) w A n (xs.take n) := by
  obtain ⟨h1, h2, h3⟩ := h
  refine ⟨by rw [List.length_take]; omega, by omega, fun h0 => ?_⟩
  obtain ⟨ad, e, hx⟩ := h3 (by omega)
  refine ⟨ad, e, fun j p hj => hx j p ?_⟩
  rw [List.getElem?_take] at hj
  split at hj
  · exact hj
  · cases hj
theorem same_take (g : Nat) (A : Option Addr) (k n : Nat) (xs : List Int) (hl : xs.length = n) (h1 : Kd.C (Kd.int .u8) w (some ⟨g, 0, none⟩) xs.length xs) (h2 : Kd.C (Kd.int .u8) w A n xs) (hk : n ≤ k) (hn : n ≤ 65536) : Calls Tryd.prog 13 #[.slice (some ⟨g, 0, none⟩) n n, .slice A n k] w fun e w' => e = .returned (.bool true) ∧ Below w.heap.size w w' := by
  subst hl
  refine (mortiseref01_Same.calls 70000 (some ⟨g, 0, none⟩) xs.length xs A k xs true w h1 (Nat.le_refl _) h2 hk (same_self xs (by omega) 70000 (by omega))).mono ?_
  rintro e w' ⟨rfl, hd⟩
  exact ⟨rfl, dn0_below hd⟩
theorem zero_cells {g : Nat} {l : List Int} {n : Nat} (h : w.heap[g]? = some (.cells (byteRow l) 5 (0, 0))) (hz : ∀ i, i < n → l[i]? = some 0) : ∀ i, i < n → w.cell? ⟨g, i, none⟩ = some (.int .u8 0) := by
  intro i hi
  rw [blk_cell h]
  simp [byteRow, hz i hi]
theorem ptr39a (W : World) : (binOp .eql 39 (.pointer none) (.pointer none)).run Tryd.prog W = .ok (.bool true) W := by kernel_rfl
theorem ptr39b (W : World) (ad : Addr) : (binOp .eql 39 (.pointer (some ad)) (.pointer none)).run Tryd.prog W = .ok (.bool false) W := by kernel_rfl
set_option maxHeartbeats 4000000 in
set_option maxRecDepth 100000 in
theorem first_no (w : World) (hh : Held w) (A : Option Addr) (k : Nat) (bs : List Int) (code entry : Int) (iv : Value) (hC : Kd.C (Kd.int .u8) w A bs.length bs) (hk : bs.length ≤ k) (ho : ¬ okImg bs.length code entry) :
    Calls Tryd.prog 5 #[.agg #[.slice A bs.length k, .int .i64 code, .int .i64 entry], iv] w fun e w' => e = .returned (.bool true) ∧ Below w.heap.size w w' := by
  have HO := Aside0.mk ho
  have hp := ptr39a
  clear ho
  have B1 := Aside0.mk (show Below w.heap.size w (w.alloc (.cells #[.slice A bs.length k, .int .i64 code, .int .i64 entry] 24)) from below_alloc (Below.refl _ _) _)
  have R2 := Aside0.mk (show (w.alloc (.cells #[.slice A bs.length k, .int .i64 code, .int .i64 entry] 24)).heap[w.heap.size]? = some (.cells #[.slice A bs.length k, .int .i64 code, .int .i64 entry] 24 (0, 0)) from heap_at _ _ _ rfl)
  have HC := Aside0.mk hC
  have HK := Aside0.mk hk
  have HH := Aside0.mk hh
  clear hC hk hh
  go_enter Tryd.func5, Tryd.ntmps5
  go_upto_region 1 with (fail)
  generalize w.alloc (.cells #[.slice A bs.length k, .int .i64 code, .int .i64 entry] 24) = W1 at B1 R2 ⊢
  generalize hg2 : w.heap.size = g2 at R2 ⊢
  have c0 := (blk_cell R2.out 0).trans rfl
  have c1 := (blk_cell R2.out 1).trans rfl
  have c2 := (blk_cell R2.out 2).trans rfl
  go_wp2_with (first | (go_at_call 15; refine (new_no _ A k bs code entry iv (Kd.C_below HC.out B1.out) HK.out HO.out).mono ?_; rintro e Y ⟨rfl, hb⟩; have BB := Aside0.mk (pm_chain B1.out hb); clear hb) | (go_at_call 14; refine (heads_calls _ (held_below HH.out BB.out)).mono ?_; rintro e Y3 ⟨rfl, hb3⟩; have B3 := Aside0.mk (pm_chain BB.out hb3)))
  go_ret
  exact ⟨rfl, B3.out⟩
set_option maxHeartbeats 4000000 in
set_option maxRecDepth 100000 in
theorem first_yes (w : World) (hh : Held w) (A : Option Addr) (k : Nat) (bs : List Int) (code entry : Int) (Ai : Option Addr) (ki : Nat) (inp : List Int) (hC : Kd.C (Kd.int .u8) w A bs.length bs) (hk : bs.length ≤ k) (ho : okImg bs.length code entry)
    (hx : ∀ b ∈ bs, 0 ≤ b ∧ b < 256) (hCi : Kd.C (Kd.int .u8) w Ai inp.length inp) (hi : inp.length ≤ 140737488355328) :
    Calls Tryd.prog 5 #[.agg #[.slice A bs.length k, .int .i64 code, .int .i64 entry], .slice Ai inp.length ki] w fun e w' => e = .returned (.bool true) ∧ Below w.heap.size w w' := by
  have HO := Aside0.mk ho
  have HX := Aside0.mk hx
  have HCI := Aside0.mk hCi
  have HI := Aside0.mk hi
  have hp := ptr39b
  have LN := Aside0.mk (show 4 ≤ bs.length ∧ bs.length ≤ 1048576 ∧ 4096 ≤ entry ∧ entry ≤ 1052672 by unfold okImg at ho; omega)
  clear ho hx hCi hi
  have B1 := Aside0.mk (show Below w.heap.size w (w.alloc (.cells #[.slice A bs.length k, .int .i64 code, .int .i64 entry] 24)) from below_alloc (Below.refl _ _) _)
  have R2 := Aside0.mk (show (w.alloc (.cells #[.slice A bs.length k, .int .i64 code, .int .i64 entry] 24)).heap[w.heap.size]? = some (.cells #[.slice A bs.length k, .int .i64 code, .int .i64 entry] 24 (0, 0)) from heap_at _ _ _ rfl)
  have HC := Aside0.mk hC
  have HK := Aside0.mk hk
  have HH := Aside0.mk hh
  clear hC hk hh
  go_enter Tryd.func5, Tryd.ntmps5
  go_upto_region 1 with (fail)
  generalize w.alloc (.cells #[.slice A bs.length k, .int .i64 code, .int .i64 entry] 24) = W1 at B1 R2 ⊢
  generalize hg2 : w.heap.size = g2 at R2 ⊢
  have c0 := (blk_cell R2.out 0).trans rfl
  have c1 := (blk_cell R2.out 1).trans rfl
  have c2 := (blk_cell R2.out 2).trans rfl
  go_upto_region 6 with (first | (go_at_call 15; refine (new_yes _ A k bs code entry Ai ki inp (Kd.C_below HC.out B1.out) HK.out HO.out HX.out (Kd.C_below HCI.out B1.out) HI.out).mono ?_; rintro e Y ⟨c, pg, ps, S, rfl, hem, hb, hfo, ⟨iv, rfl⟩, hby⟩; have BB := Aside0.mk (pm_chain B1.out hb); have R3 := Aside0.mk (blk_below R2.out hb); have EM1 := Aside0.mk hem; have BY := Aside0.mk hby; clear hem hb hfo hby))
  clear c0 c1 c2 hp
  have EV : stateV (⟨code, entry, List.replicate 15 0 ++ [8388608], 0, iv, .slice none 0 0, 0, 0⟩ : Cpu) = .agg #[.int .u32 entry, .int .u32 0, .int .u32 0, .int .u32 0, .int .u32 0, .int .u32 0, .int .u32 0, .int .u32 0, .int .u32 0, .int .u32 0, .int .u32 0, .int .u32 0, .int .u32 0, .int .u32 0, .int .u32 0, .int .u32 0, .int .u32 8388608, .int .i64 0] := rfl
  go_upto_region 7 with (first | (go_at_call 18; refine (State_calls EM1.out).mono ?_; rintro e Y2 ⟨rfl, hb2⟩; rw [EV]) | (refine wpList_store_row rfl 48 _ _ rfl Y2.heap.size _ rfl rfl 48 _ (heap_alloc_last Y2 _) (by as_aux_lemma => kernel_rfl) (by as_aux_lemma => kernel_rfl) (by as_aux_lemma => kernel_rfl) ?_; rw [World.setRow_alloc_new]))
  clear EV
  have B7 := Aside0.mk (show Below w.heap.size w (Y2.alloc (.cells #[.int .u32 entry, .int .u32 0, .int .u32 0, .int .u32 0, .int .u32 0, .int .u32 0, .int .u32 0, .int .u32 0, .int .u32 0, .int .u32 0, .int .u32 0, .int .u32 0, .int .u32 0, .int .u32 0, .int .u32 0, .int .u32 0, .int .u32 8388608, .int .i64 0] 48)) from below_alloc (pm_chain BB.out hb2) _)
  have R7 := Aside0.mk (show (Y2.alloc (.cells #[.int .u32 entry, .int .u32 0, .int .u32 0, .int .u32 0, .int .u32 0, .int .u32 0, .int .u32 0, .int .u32 0, .int .u32 0, .int .u32 0, .int .u32 0, .int .u32 0, .int .u32 0, .int .u32 0, .int .u32 0, .int .u32 0, .int .u32 8388608, .int .i64 0] 48)).heap[Y2.heap.size]? = some (.cells #[.int .u32 entry, .int .u32 0, .int .u32 0, .int .u32 0, .int .u32 0, .int .u32 0, .int .u32 0, .int .u32 0, .int .u32 0, .int .u32 0, .int .u32 0, .int .u32 0, .int .u32 0, .int .u32 0, .int .u32 0, .int .u32 0, .int .u32 8388608, .int .i64 0] 48 (0, 0)) from heap_at _ _ _ rfl)
  have R8 := Aside0.mk (blk_alloc (blk_below R3.out hb2) (.cells #[.int .u32 entry, .int .u32 0, .int .u32 0, .int .u32 0, .int .u32 0, .int .u32 0, .int .u32 0, .int .u32 0, .int .u32 0, .int .u32 0, .int .u32 0, .int .u32 0, .int .u32 0, .int .u32 0, .int .u32 0, .int .u32 0, .int .u32 8388608, .int .i64 0] 48))
  have EM2 := Aside0.mk (EM1.out.below (below_alloc hb2 (.cells #[.int .u32 entry, .int .u32 0, .int .u32 0, .int .u32 0, .int .u32 0, .int .u32 0, .int .u32 0, .int .u32 0, .int .u32 0, .int .u32 0, .int .u32 0, .int .u32 0, .int .u32 0, .int .u32 0, .int .u32 0, .int .u32 0, .int .u32 8388608, .int .i64 0] 48)))
  clear hb2
  generalize Y2.alloc (.cells #[.int .u32 entry, .int .u32 0, .int .u32 0, .int .u32 0, .int .u32 0, .int .u32 0, .int .u32 0, .int .u32 0, .int .u32 0, .int .u32 0, .int .u32 0, .int .u32 0, .int .u32 0, .int .u32 0, .int .u32 0, .int .u32 0, .int .u32 8388608, .int .i64 0] 48) = W3 at B7 R7 R8 EM2 ⊢
  generalize Y2.heap.size = g7 at R7 ⊢
  have d0 := (blk_cell R7.out 0).trans rfl
  have d16 := (blk_cell R7.out 16).trans rfl
  have d17 := (blk_cell R7.out 17).trans rfl
  have c2 := (blk_cell R8.out 2).trans rfl
  have hwe : IntKind.i64.wrap entry = entry := IntWalk.i64_in _ (by have := LN.out; omega)
  go_upto_region 9 with (fail)
  clear d0 d16 d17 c2 hwe
  have Z7 := Aside0.mk (show ∀ j, j < 15 → W3.cell? ⟨g7, 1 + j, none⟩ = some (.int .u32 0) from fun j hj => by
    rw [blk_cell R7.out]
    rcases j with _ | _ | _ | _ | _ | _ | _ | _ | _ | _ | _ | _ | _ | _ | _ | j <;> first | rfl | omega)
  go_wp2_with (fail)
  go_loopg [8] 15 (fun kq v8 wr => ∃ (j : Nat), j + kq = 15 ∧ v8 = .int .i64 (j : Int) ∧ wr = W3)
  case atStart => exact ⟨0, by omega, rfl, rfl⟩
  case round =>
    obtain ⟨j, hj, rfl, rfl⟩ := hrel
    by_cases hlt : j < 15
    · have hl2 : (j : Int) < 15 := by omega
      have hl3 : (j : Int) < 16 := by omega
      have hw4 : IntKind.i64.wrap ((j : Int) + 1) = ((j + 1 : Nat) : Int) := by rw [IntWalk.i64_in _ (by omega)]; omega
      have dz := Z7.out j hlt
      have HJ := Aside0.mk (And.intro hj hlt)
      clear hj hlt
      go_wp2_with (fail)
      go_roundg (15 - (j + 1))
      case measure => have := HJ.out; omega
      case rel => exact ⟨j + 1, by have := HJ.out; omega, by simp, rfl⟩
    · have hj2 : j = 15 := by omega
      subst hj2
      clear hlt hj
      go_upto_region 14 with (fail)
      obtain ⟨n, hn⟩ : ∃ n, n = min bs.length 65536 := ⟨_, rfl⟩
      have hmin : (if (65536 : Int) < (bs.length : Int) then (65536 : Int) else (bs.length : Int)) = (n : Int) := by split <;> omega
      have HN := Aside0.mk (show n ≤ bs.length ∧ n ≤ 65536 by omega)
      clear hn
      have c0 := (blk_cell R8.out 0).trans rfl
      go_upto_region 15 with (fail)
      clear hmin c0
      go_upto_region 16 with (first | (go_at_call 17; refine (peek_a EM2.out n HN.out.2).mono ?_; rintro e P1 ⟨rfl, hb1_, hr1_⟩; have hb1 := Aside0.mk hb1_; have hr1 := Aside0.mk hr1_; clear hb1_ hr1_))
      have EM3 := Aside0.mk (EM2.out.below hb1.out)
      have BP1 := Aside0.mk (pm_chain B7.out hb1.out)
      have R9 := Aside0.mk (blk_below R8.out hb1.out)
      have RA := Aside0.mk (laid_first bs n HN.out.1 BY.out ▸ hr1.out)
      clear hb1 hr1
      generalize wr.heap.size = s1 at RA ⊢
      have c0 := (blk_cell R9.out 0).trans rfl
      obtain ⟨q, hq⟩ : ∃ q, q = 4096 + bs.length := ⟨_, rfl⟩
      have HQ := Aside0.mk hq
      have hwA : IntKind.i64.wrap (4096 + (bs.length : Int)) = (q : Int) := by rw [IntWalk.i64_in _ (by have := LN.out; omega)]; omega
      have hwB : IntKind.u32.wrap (q : Int) = (q : Int) := by rw [IntKind.wrap_u32]; have := LN.out; omega
      clear hq
      go_upto_region 17 with (first | (go_at_call 17; refine (peek_b EM3.out q (by have := HQ.out; have := LN.out; omega)).mono ?_; rintro e P2 ⟨rfl, hb2_, hr2_⟩; have hb2 := Aside0.mk hb2_; have hr2 := Aside0.mk hr2_; clear hb2_ hr2_))
      clear c0 hwA hwB
      have EM4 := Aside0.mk (EM3.out.below hb2.out)
      have BP2 := Aside0.mk (pm_chain BP1.out hb2.out)
      have R10 := Aside0.mk (blk_below R9.out hb2.out)
      have RA2 := Aside0.mk (blk_below RA.out hb2.out)
      have RB := Aside0.mk hr2.out
      clear hb2 hr2
      generalize P1.heap.size = s2 at RB ⊢
      go_upto_region 18 with (first | (go_at_call 17; refine (peek_c EM4.out).mono ?_; rintro e P3 ⟨rfl, hb3_, hr3_⟩; have hb3 := Aside0.mk hb3_; have hr3 := Aside0.mk hr3_; clear hb3_ hr3_))
      have BP3 := Aside0.mk (pm_chain BP2.out hb3.out)
      have R11 := Aside0.mk (blk_below R10.out hb3.out)
      have RA3 := Aside0.mk (blk_below RA2.out hb3.out)
      have RB3 := Aside0.mk (blk_below RB.out hb3.out)
      have RC := Aside0.mk hr3.out
      clear hb3 hr3
      generalize P2.heap.size = s3 at RC ⊢
      have c0 := (blk_cell R11.out 0).trans rfl
      have ZB := Aside0.mk (laid_zero bs q 64 (.inr (by have := HQ.out; omega)) BY.out)
      have ZC := Aside0.mk (laid_zero bs 0 4096 (.inl (by omega)) BY.out)
      have hcut := cut_hi A bs.length k n (by have := HN.out; have := HK.out; omega)
      have CS := Aside0.mk (C_row RA3.out (by have := HN.out; simp; omega))
      have CT := Aside0.mk (C_take2 (Kd.C_below HC.out BP3.out) HN.out.1)
      have TL := Aside0.mk (show (bs.take n).length = n by have := HN.out; simp; omega)
      go_upto_region 20 with (first | (go_at_call 13; refine (same_take (w := P3) s1 A k n (bs.take n) TL.out CS.out CT.out (by have := HN.out; have := HK.out; omega) HN.out.2).mono ?_; rintro e P4 ⟨rfl, hb4⟩; have BP4 := Aside0.mk hb4))
      have BP5 := Aside0.mk (pm_chain BP3.out BP4.out)
      have XB := Aside0.mk (zero_cells (blk_below RB3.out BP4.out) ZB.out)
      have XC := Aside0.mk (zero_cells (blk_below RC.out BP4.out) ZC.out)
      have HH5 := Aside0.mk (held_below HH.out BP5.out)
      clear c0 hcut
      go_wp2_with (fail)
      go_loopg [16] 64 (fun kq v wq => ∃ (j : Nat), j + kq = 64 ∧ v = .int .i64 (j : Int) ∧ wq = P4)
      case atStart => exact ⟨0, by omega, rfl, rfl⟩
      case round =>
        obtain ⟨j, hj, rfl, e4⟩ := hrel
        have e5 := e4.symm
        subst e5
        by_cases hlt : j < 64
        · have hl2 : (j : Int) < 64 := by omega
          have hw4 : IntKind.i64.wrap ((j : Int) + 1) = ((j + 1 : Nat) : Int) := by rw [IntWalk.i64_in _ (by omega)]; omega
          have dz := XB.out j hlt
          have HJ := Aside0.mk (And.intro hj hlt)
          clear hj hlt
          go_wp2_with (fail)
          go_roundg (64 - (j + 1))
          case measure => have := HJ.out; omega
          case rel => exact ⟨j + 1, by have := HJ.out; omega, by simp, rfl⟩
        · have hj2 : j = 64 := by omega
          subst hj2
          clear hlt hj
          go_wp2_with (fail)
          go_loopg [17] 4096 (fun kq v wq => ∃ (j : Nat), j + kq = 4096 ∧ v = .int .i64 (j : Int) ∧ wq = P4)
          case atStart => exact ⟨0, by omega, rfl, rfl⟩
          case round =>
            obtain ⟨j, hj, rfl, e4⟩ := hrel
            have e5 := e4.symm
            subst e5
            by_cases hlt : j < 4096
            · have hl2 : (j : Int) < 4096 := by omega
              have hw4 : IntKind.i64.wrap ((j : Int) + 1) = ((j + 1 : Nat) : Int) := by rw [IntWalk.i64_in _ (by omega)]; omega
              have dz := XC.out j hlt
              have HJ := Aside0.mk (And.intro hj hlt)
              clear hj hlt
              go_wp2_with (fail)
              go_roundg (4096 - (j + 1))
              case measure => have := HJ.out; omega
              case rel => exact ⟨j + 1, by have := HJ.out; omega, by simp, rfl⟩
            · have hj2 : j = 4096 := by omega
              subst hj2
              clear hlt hj
              go_wp2_with (first | (go_at_call 14; refine (heads_calls _ HH5.out).mono ?_; rintro e P6 ⟨rfl, hb6⟩; have B6 := Aside0.mk (pm_chain BP5.out hb6); clear hb6))
              go_ret
              exact ⟨rfl, B6.out⟩
theorem emuFirst_calls (w : World) (hh : Held w) (A : Option Addr) (k : Nat) (bs : List Int) (code entry : Int) (Ai : Option Addr) (ki : Nat) (inp : List Int) (hC : Kd.C (Kd.int .u8) w A bs.length bs) (hk : bs.length ≤ k)
    (hx : ∀ b ∈ bs, 0 ≤ b ∧ b < 256) (hCi : Kd.C (Kd.int .u8) w Ai inp.length inp) (hi : inp.length ≤ 140737488355328) :
    Calls Tryd.prog 5 #[.agg #[.slice A bs.length k, .int .i64 code, .int .i64 entry], .slice Ai inp.length ki] w fun e w' => e = .returned (.bool true) ∧ Below w.heap.size w w' := by
  by_cases ho : okImg bs.length code entry
  · exact first_yes w hh A k bs code entry Ai ki inp hC hk ho hx hCi hi
  · exact first_no w hh A k bs code entry _ hC hk ho
end Go.Proofs.YtejhnlljddjicaaDoor.Ma
