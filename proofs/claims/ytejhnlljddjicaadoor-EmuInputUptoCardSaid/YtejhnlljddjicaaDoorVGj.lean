/- get: bytes of the memory; Peek. No condition beyond those each theorem names. And more of the kind: 7 texts in one. -/
import Derived.Test.YtejhnlljddjicaaDoorVGi
import Derived.Test.YtejhnlljddjicaaDoorVPEmx1
import Derived.Deep.RegionLaw
import Derived.Test.YtejhnlljddjicaaDoorVGh
import Derived.Test.YtejhnlljddjicaaDoorVGf
namespace Go.Proofs.YtejhnlljddjicaaDoor.Ma
open Go.RowKit Go.Proofs.YtejhnlljddjicaaDoor.PEm Go.Proofs.YtejhnlljddjicaaDoorW.PrintWords Go.Proofs.YtejhnlljddjicaaDoorW.PrintLast Go.Proofs.YtejhnlljddjicaaDoorW.PrintMore Go.Proofs.YtejhnlljddjicaaDoor.La Go.Proofs.YtejhnlljddjicaaDoor.Ea
set_option linter.unusedVariables false
set_option linter.unusedSimpArgs false
variable {w w' : World} {c pg : Nat} {ps ps' : Pages} {S S' : Cpu} {inp out inp' out' : List Int}
theorem neq22n (W : World) : (binOp .neq 22 (.slice none 0 0) (.slice none 0 0)).run Tryd.prog W = .ok (.bool false) W := by kernel_rfl
theorem neq22s (W : World) (ad : Addr) (n c : Nat) : (binOp .neq 22 (.slice (some ad) n c) (.slice none 0 0)).run Tryd.prog W = .ok (.bool true) W := by kernel_rfl
theorem own_cut (g n j : Nat) (hj : (j : Int) < (n : Int)) (W : World) : (Instr.slice 22 (.slice (some ⟨g, 0, none⟩) n n) (some (.int .i64 j)) none none).run Tryd.prog W = .ok (.slice (some ⟨g, j, none⟩) (n - j) (n - j)) W := by
  rw [cut_run _ _ _ _ (by omega)]
  unfold cutA
  rw [if_neg (by omega)]
  simp only [Option.map_some, Addr.add]
  split
  · next e => simp_all
  · simp
theorem page_cut2 (g o k f : Nat) (hf : f = o + k) (ho : o < 4096) (hk : o + k ≤ 4096) (W : World) : (Instr.slice 22 (.slice (some ⟨g, 0, none⟩) 4096 4096) (some (.int .i64 o)) (some (.int .i64 (f : Int))) none).run Tryd.prog W = .ok (.slice (some ⟨g, o, none⟩) k (4096 - o)) W := by
  obtain ⟨i, hi, hz, hs, hb⟩ := info5
  have hel : Tryd.prog.elem 22 = 5 := by simp [Program.elem, Tryd.underlying22]
  have hu : Tryd.prog.underlying 22 = some (.slice (Tryd.prog.elem 22)) := by rw [hel]; exact Tryd.underlying22
  rw [run_slice_lh W 22 (some ⟨g, 0, none⟩) 4096 4096 hu .i64 .i64 o (f : Int) (by omega) (by omega) (by omega), hel]
  simp [sizeOf, typeInfo, hi, hs, sliced, Result.andThen, Addr.add]
  refine ⟨?_, by omega⟩
  rw [if_neg (by omega)]
  split <;> simp_all
theorem bytes_eq {l1 l2 : List Int} (hl : l1.length = l2.length) (h : ∀ i, i < l1.length → (l1[i]?).getD 0 = (l2[i]?).getD 0) : l1 = l2 :=
  List.ext_getElem hl (fun i h1 h2 => by have := h i h1; simpa [h1, h2] using this)
theorem memL_get {a n : Nat} (i : Nat) (hi : i < n) : ((memL ps a n)[i]?).getD 0 = byteAt ps (a + i) := by simp [memL, List.getElem?_map, List.getElem?_range hi]
set_option maxHeartbeats 4000000 in
set_option maxRecDepth 100000 in
theorem get_calls (h : EM w c pg ps S inp out) (at0 n : Nat) (hn : n ≤ 65536) (hat : at0 + n ≤ 8388608) :
    Calls Tryd.prog 31 #[.pointer (some ⟨c, 0, none⟩), .int .i64 at0, .int .i64 n] w fun e w' => e = .returned (.slice (some ⟨w.heap.size, 0, none⟩) n n) ∧ Below w.heap.size w w' ∧ w'.heap[w.heap.size]? = some (.cells (byteRow (memL ps at0 n)) 5 (0, 0)) := by
  have hmk := run_make5 (n : Int) (by omega) (by omega)
  simp only [Int.toNat_natCast] at hmk
  have H := Aside0.mk h
  have HN := Aside0.mk hn
  have HAT := Aside0.mk hat
  clear h hn hat
  go_enter Tryd.func31, Tryd.ntmps31
  go_upto_region 2 with (fail)
  have B0 := Aside0.mk (show Below w.heap.size w (w.alloc (.cells (byteRow (List.replicate n 0)) 5)) from below_alloc (Below.refl _ _) _)
  have R0 := Aside0.mk (show (w.alloc (.cells (byteRow (List.replicate n 0)) 5)).heap[w.heap.size]? = some (.cells (byteRow (List.replicate n 0)) 5 (0, 0)) from heap_at _ _ _ rfl)
  clear hmk
  go_upto_region 3 with (fail)
  generalize w.alloc (.cells (byteRow (List.replicate n 0)) 5) = W0 at B0 R0 ⊢
  have HG := Aside0.mk (Nat.le_refl w.heap.size)
  have HFT := Aside0.mk (H.out.foot_lt)
  generalize hg0 : w.heap.size = g0 at R0 ⊢
  have HG0 := Aside0.mk hg0
  clear hg0
  go_loopg [8] n (fun kq v8 wr => ∃ (j : Nat) (bsj : List Int), j + kq = n ∧ v8 = .int .i64 (j : Int) ∧ Aside0 (Below w.heap.size w wr) ∧ Aside0 (wr.heap[g0]? = some (.cells (byteRow bsj) 5 (0, 0))) ∧ Aside0 (bsj.length = n) ∧ Aside0 (∀ i, i < n → (bsj[i]?).getD 0 = if i < j then byteAt ps (at0 + i) else 0))
  case atStart => exact ⟨0, List.replicate n 0, by omega, rfl, ⟨B0.out⟩, ⟨R0.out⟩, ⟨by simp⟩, ⟨fun i hi => by rw [if_neg (by omega)]; simp [List.getElem?_replicate, hi]⟩⟩
  case round =>
    obtain ⟨j, bsj, hj, rfl, HB, HR, HL, HP⟩ := hrel
    by_cases hlt : j < n
    · have HJ := Aside0.mk hj
      have HLT := Aside0.mk hlt
      have hl0 : (j : Int) < (n : Int) := by omega
      obtain ⟨q, hq⟩ : ∃ q, q = at0 + j := ⟨_, rfl⟩
      have hq2 : q < 8388608 := by have := HAT.out; omega
      have hw0 : IntKind.i64.wrap ((at0 : Int) + (j : Int)) = (q : Int) := by rw [hq]; exact IntWalk.i64_in _ (by omega)
      obtain ⟨fr, hfr⟩ : ∃ fr, fr = q % 4096 := ⟨_, rfl⟩
      obtain ⟨pi, hpi⟩ : ∃ pi, pi = q / 4096 := ⟨_, rfl⟩
      obtain ⟨rm, hrm⟩ : ∃ rm, rm = 4096 - fr := ⟨_, rfl⟩
      obtain ⟨r, hr⟩ : ∃ r, r = n - j := ⟨_, rfl⟩
      obtain ⟨k, hk⟩ : ∃ k, k = min r rm := ⟨_, rfl⟩
      have hm : Int.tmod ((q : Nat) : Int) 4096 = (fr : Int) := by rw [Int.tmod_eq_emod_of_nonneg (by omega)]; omega
      have hd : Int.tdiv ((q : Nat) : Int) 4096 = (pi : Int) := by rw [Int.tdiv_eq_ediv_of_nonneg (by omega)]; omega
      have hw1 : IntKind.i64.wrap ((n : Int) - (j : Int)) = (r : Int) := by rw [IntWalk.i64_in _ (by have := HN.out; omega)]; omega
      have hw2 : IntKind.i64.wrap (4096 - (fr : Int)) = (rm : Int) := by rw [IntWalk.i64_in _ (by omega)]; omega
      have hmin : (if rm < r then (rm : Int) else (r : Int)) = (k : Int) := by split <;> omega
      obtain ⟨fk, hfk⟩ : ∃ fk, fk = fr + k := ⟨_, rfl⟩
      have hw3 : IntKind.i64.wrap ((fr : Int) + (k : Int)) = (fk : Int) := by rw [IntWalk.i64_in _ (by omega)]; omega
      have hw4 : IntKind.i64.wrap ((j : Int) + (k : Int)) = ((j + k : Nat) : Int) := by rw [IntWalk.i64_in _ (by have := HN.out; omega)]; omega
      have hpi2 : ((pi : Nat) : Int) < ((2048 : Nat) : Int) := by omega
      have HQ := Aside0.mk (And.intro hq hq2)
      have FK := Aside0.mk hfk
      have HF := Aside0.mk (And.intro hfr (And.intro hpi (And.intro hrm (And.intro hr hk))))
      clear hj hlt hfk hq hq2 hfr hpi hrm hr hk
      go_upto_region 6 with (fail)
      clear hmin
      have EW := Aside0.mk (H.out.below HB.out)
      have k0 := EW.out.k0
      have kp := EW.out.pgcell pi
      have hpl : pi < ps.length := by have := HF.out.2.1; have := HQ.out.2; have := EW.out.npg; omega
      have e1 := neq22n
      have e2 := neq22s
      cases hp : ps[pi]? with
      | none => exact absurd hp (by rw [List.getElem?_eq_getElem hpl]; simp)
      | some o =>
        rw [hp] at kp
        have HPI := Aside0.mk hp
        clear hp
        cases o with
        | none =>
          simp only [Option.map_some, pgVal] at kp
          go_wp2_with (fail)
          go_roundg (n - (j + k))
          case measure => have := HJ.out; have := HLT.out; have := HF.out; omega
          case rel =>
            have hf := HF.out
            have hq := HQ.out
            refine ⟨j + k, bsj, by have := HJ.out; have := HLT.out; omega, rfl, ⟨HB.out⟩, ⟨HR.out⟩, ⟨HL.out⟩, ⟨fun i hi => ?_⟩⟩
            rw [HP.out i hi]
            by_cases h1 : i < j
            · rw [if_pos h1, if_pos (by omega)]
            · rw [if_neg h1]
              by_cases h2 : i < j + k
              · rw [if_pos h2, byte_out (by rw [show (at0 + i) / 4096 = pi by omega]; exact HPI.out)]
              · rw [if_neg h2]
        | some gb =>
          obtain ⟨g, bs⟩ := gb
          simp only [Option.map_some, pgVal] at kp
          obtain ⟨hg, hlen, hbs⟩ := EW.out.page g bs (List.mem_of_getElem? HPI.out)
          have PG := Aside0.mk hg
          have PL := Aside0.mk (And.intro hlen hbs)
          have s1 := own_cut g0 n j hl0
          have s2 := page_cut2 g fr k fk FK.out (by have := HF.out; omega) (by have := HF.out; omega)
          clear hg hlen hbs
          go_upto_region 8 with (fail)
          have in5 := Aside0.mk (show (Tryd.prog.info? 5).map (·.size) = some 1 by kernel_rfl)
          refine wp_region_still_tail 9 (by kernel_rfl) (by kernel_rfl) ?_
          simp only [List.take_succ_cons, List.take_zero, List.drop_succ_cons, List.drop_zero]
          repeat (with_reducible refine wpStill_step (fun K hK => ?_); go_simp; with_reducible refine hK _ ?_; clear hK K)
          with_reducible refine wpStill_nil ?_
          change wpList _ _ _ _ _ wr.drew
          clear s1 s2 kp k0 e1 e2
          have hC := page_C (w := wr) PG.out PL.out.1 (a := q) (n := k) (by rw [show q / 4096 = pi by have := HF.out; omega]; exact HPI.out) (by have := HF.out; omega)
          rw [show q % 4096 = fr by have := HF.out; omega] at hC
          obtain ⟨ad, ea, hsrc⟩ := C_src hC (m := k) (Nat.le_refl _) (by have := HF.out; have := HLT.out; omega)
          injection ea with ea
          subst ea
          rw [List.take_of_length_le (by simp [memL])] at hsrc
          have hcl : ((memL ps q k).map (Value.int .u8 ·)).length = k := by simp [memL]
          refine wpList_copy_own rfl (.tmp 41) (.tmp 47) 22 22 rfl 5 Tryd.underlying22 in5.out g0 j (n - j) (n - j) ⟨g, fr, none⟩ k (4096 - fr) rfl rfl (byteRow bsj) 5 HR.out ((memL ps q k).map (Value.int .u8 ·)) (by rw [hcl]; have := HF.out; show k = min k (n - j); omega) hsrc (by rw [hcl]; simp only [byteRow, List.size_toArray, List.length_map]; have := HL.out; have := HF.out; have := HLT.out; omega) (by intro v hv; simp only [List.mem_map] at hv; obtain ⟨b, _, rfl⟩ := hv; rfl) ?_
          rw [splB_row]
          have NB := Aside0.mk (below_setRow (HB.out.drew) (Nat.le_of_eq HG0.out) (byteRow (splB bsj j (memL ps q k))))
          have NR := Aside0.mk (setRow_heap wr.drew g0 _ (byteRow (splB bsj j (memL ps q k))) 5 (0, 0) HR.out)
          generalize wr.drew.setRow g0 (byteRow (splB bsj j (memL ps q k))) = WZ at NB NR ⊢
          rw [hcl]
          clear hsrc hC hcl
          go_wp2_with (fail)
          go_roundg (n - (j + k))
          case measure => have := HJ.out; have := HLT.out; have := HF.out; omega
          case rel =>
            have hf := HF.out
            have hq := HQ.out
            have hjl := HLT.out
            have hll := HL.out
            have hml : (memL ps q k).length = k := by simp [memL]
            refine ⟨j + k, splB bsj j (memL ps q k), by have := HJ.out; omega, rfl, ⟨NB.out⟩, ⟨NR.out⟩, ⟨by rw [splB_len (by omega)]; exact hll⟩, ⟨fun i hi => ?_⟩⟩
            rw [splB_get (by omega), hml]
            by_cases h1 : j ≤ i ∧ i < j + k
            · rw [if_pos h1, if_pos (by omega), memL_get _ (by omega)]
              congr 1; omega
            · rw [if_neg h1, HP.out i hi]
              by_cases h2 : i < j
              · rw [if_pos h2, if_pos (by omega)]
              · rw [if_neg h2, if_neg (by omega)]
    · have hj2 : j = n := by omega
      subst hj2
      clear hlt hj
      go_wp2_with (fail)
      all_goals go_ret
      all_goals refine ⟨by first | rfl | (rw [HG0.out]; rfl), HB.out, ?_⟩
      all_goals (rw [HG0.out, HR.out])
      all_goals (rw [show bsj = memL ps at0 j from bytes_eq (by rw [HL.out]; simp [memL]) (fun i hi => by
        have hi' : i < j := by rw [HL.out] at hi; exact hi
        rw [HP.out i hi', if_pos hi', memL_get i hi'])])
end Go.Proofs.YtejhnlljddjicaaDoor.Ma
namespace Go.Proofs.YtejhnlljddjicaaDoor.Ma
open Go.RowKit Go.Proofs.YtejhnlljddjicaaDoor.PEm Go.Proofs.YtejhnlljddjicaaDoorW.PrintWords Go.Proofs.YtejhnlljddjicaaDoorW.PrintLast Go.Proofs.YtejhnlljddjicaaDoorW.PrintMore Go.Proofs.YtejhnlljddjicaaDoor.La Go.Proofs.YtejhnlljddjicaaDoor.Ea
set_option linter.unusedVariables false
set_option linter.unusedSimpArgs false
variable {w w' : World} {c pg : Nat} {ps ps' : Pages} {S S' : Cpu} {inp out inp' out' : List Int}
set_option maxHeartbeats 4000000 in
set_option maxRecDepth 100000 in
theorem peek_no (h : EM w c pg ps S inp out) (a n : Int) (ha : 0 ≤ a ∧ a < 4294967296) (hn : n < 0 ∨ n > 65536 ∨ a > 8388608 - n) : Calls Tryd.prog 17 #[.pointer (some ⟨c, 0, none⟩), .int .u32 a, .int .i64 n] w fun e w' => e = .returned (.tuple #[.slice none 0 0, .int .i64 2]) ∧ w' = w := by
  have H := Aside0.mk h
  by_cases h1 : n < 0
  · clear h hn ha
    go_enter Tryd.func17, Tryd.ntmps17
    go_wp2_with (first | (go_at_call 27; refine (alive_yes H.out).mono ?_; rintro e w' ⟨rfl, rfl⟩))
    go_ret2
    exact ⟨rfl, rfl⟩
  · by_cases h2 : n > 65536
    · clear h hn ha
      go_enter Tryd.func17, Tryd.ntmps17
      go_wp2_with (first | (go_at_call 27; refine (alive_yes H.out).mono ?_; rintro e w' ⟨rfl, rfl⟩))
      go_ret2
      exact ⟨rfl, rfl⟩
    · have h3 : a > 8388608 - n := by omega
      have w1 : IntKind.i64.wrap a = a := IntWalk.i64_in _ (by omega)
      have w2 : IntKind.i64.wrap (8388608 - n) = 8388608 - n := IntWalk.i64_in _ (by omega)
      clear h hn ha
      go_enter Tryd.func17, Tryd.ntmps17
      go_wp2_with (first | (go_at_call 27; refine (alive_yes H.out).mono ?_; rintro e w' ⟨rfl, rfl⟩))
      go_ret2
      exact ⟨rfl, rfl⟩
set_option maxHeartbeats 4000000 in
set_option maxRecDepth 100000 in
theorem peek_yes (h : EM w c pg ps S inp out) (a n : Nat) (hn : n ≤ 65536) (hat : a + n ≤ 8388608) : Calls Tryd.prog 17 #[.pointer (some ⟨c, 0, none⟩), .int .u32 a, .int .i64 n] w fun e w' => e = .returned (.tuple #[.slice (some ⟨w.heap.size, 0, none⟩) n n, .int .i64 0]) ∧ Below w.heap.size w w' ∧ w'.heap[w.heap.size]? = some (.cells (byteRow (memL ps a n)) 5 (0, 0)) := by
  have H := Aside0.mk h
  have h1 : ¬ ((n : Int) < 0) := by omega
  have h2 : ¬ ((n : Int) > 65536) := by omega
  have h3 : ¬ ((a : Int) > 8388608 - (n : Int)) := by omega
  have w1 : IntKind.i64.wrap (a : Int) = (a : Int) := IntWalk.i64_in _ (by omega)
  have w2 : IntKind.i64.wrap (8388608 - (n : Int)) = 8388608 - (n : Int) := IntWalk.i64_in _ (by omega)
  have HN := Aside0.mk hn
  have HAT := Aside0.mk hat
  clear h hn hat
  go_enter Tryd.func17, Tryd.ntmps17
  go_wp2_with (first | (go_at_call 27; refine (alive_yes H.out).mono ?_; rintro e w' ⟨rfl, rfl⟩) | (go_at_call 31; refine (get_calls H.out a n HN.out HAT.out).mono ?_; rintro e w5 ⟨rfl, hb, hr⟩))
  go_ret2
  exact ⟨rfl, hb, hr⟩
end Go.Proofs.YtejhnlljddjicaaDoor.Ma
namespace Go.Proofs.YtejhnlljddjicaaDoor.Ma
open Go.RowKit Go.Proofs.YtejhnlljddjicaaDoor.PEm Go.Proofs.YtejhnlljddjicaaDoorW.PrintWords Go.Proofs.YtejhnlljddjicaaDoorW.PrintLast Go.Proofs.YtejhnlljddjicaaDoorW.PrintMore Go.Proofs.YtejhnlljddjicaaDoor.La Go.Proofs.YtejhnlljddjicaaDoor.Ea
set_option linter.unusedVariables false
set_option linter.unusedSimpArgs false
variable {w w' : World} {c pg : Nat} {ps ps' : Pages} {S S' : Cpu} {inp out inp' out' : List Int}
theorem info22 : ∃ i, Tryd.prog.info? 22 = some i ∧ i.zero = some (.slice none 0 0) ∧ i.size = 1 ∧ i.bytes ≤ 24 := by
  have h : (Tryd.prog.info? 22).map (fun i => (i.zero, i.size, decide (i.bytes ≤ 24))) = some (some (.slice none 0 0), 1, true) := by kernel_rfl
  cases hi : Tryd.prog.info? 22 with
  | none => rw [hi] at h; cases h
  | some i =>
    rw [hi] at h
    simp only [Option.map_some, Option.some.injEq, Prod.mk.injEq, decide_eq_true_eq] at h
    exact ⟨i, rfl, h⟩
def noPages : Pages := List.replicate 2048 none
theorem made_pagesN (n : Nat) : madeCells #[.slice none 0 0] (n * 1) = (((List.replicate n none : Pages)).map pgVal).toArray := by
  apply Array.ext
  · simp [madeCells]
  · intro i h1 h2
    simp [madeCells, Nat.mod_one, pgVal]
theorem made_pages : madeCells #[.slice none 0 0] (2048 * 1) = (noPages.map pgVal).toArray := made_pagesN 2048
theorem run_make53 (W : World) : (Instr.makeSlice 53 (.int .i64 2048) (.int .i64 2048)).run Tryd.prog W = .ok (.slice (some ⟨W.heap.size, 0, none⟩) 2048 2048) (W.alloc (.cells (noPages.map pgVal).toArray 22)) := by
  obtain ⟨i, hi, hz, hs, hb⟩ := info22
  rw [run_make W 53 22 i _ Tryd.underlying53 hi hz .i64 .i64 2048 2048 (by omega) (by omega) (by omega) (by omega), hs]
  rw [show (Value.slice none 0 0).cells = #[.slice none 0 0] from rfl]
  rw [show (2048 : Int).toNat = 2048 from rfl, made_pages]
/-- A machine at the beginning, before the image is put in. -/
def cpu0 (code : Int) (v : Value) : Cpu := ⟨code, 0, List.replicate 16 0, 0, v, .slice none 0 0, 0, 0⟩
theorem byte_no (i : Nat) : byteAt noPages i = 0 := by
  unfold byteAt noPages
  rw [List.getElem?_replicate]
  split <;> simp_all
theorem blocks_none (n : Nat) : blocks (List.replicate n none) = [] := by
  unfold blocks; rw [List.filterMap_eq_nil_iff]; intro x hx; rw [List.eq_of_mem_replicate hx]; rfl
theorem EM.fresh {code : Int} {A : Option Addr} {k : Nat} (hc : w.heap[c]? = some (.cells (cpuRow pg (cpu0 code (.slice A inp.length k))).toArray 55 (0, 0))) (hp : w.heap[pg]? = some (.cells (noPages.map pgVal).toArray 22 (0, 0))) (hne : c ≠ pg) (h4 : 4 ≤ code ∧ code ≤ 1048576)
    (hk : inp.length ≤ k) (hC : Kd.C (Kd.int .u8) w A inp.length inp) (hA : ∀ ad, A = some ad → ad.block ≠ c ∧ ad.block ≠ pg ∧ ad.block < w.heap.size) : EM w c pg noPages (cpu0 code (.slice A inp.length k)) inp [] := by
  have hb : blocks noPages = [] := blocks_none 2048
  have hf : foot c pg noPages (cpu0 code (.slice A inp.length k)) = [c, pg] := by unfold foot; rw [hb]; simp [cpu0, Value.ownBlock]
  refine ⟨hc, by simp [cpu0], ?_, by simp [cpu0], h4, hp, List.length_replicate, ?_, ?_, ⟨A, k, rfl, hk, hC, ?_⟩, ⟨0, Kd.R_nil _ _ _ _ _⟩⟩
  · intro v hv
    simp only [cpu0] at hv
    rw [List.eq_of_mem_replicate hv]; omega
  · intro g bs hm
    unfold noPages at hm
    have := List.eq_of_mem_replicate hm
    cases this
  · rw [hf]; simp [hne]
  · intro ad ha
    rw [hf]
    obtain ⟨a1, a2, a3⟩ := hA ad ha
    exact ⟨by simp [a1, a2], a3⟩
/-- An image that may be run. -/
def okImg (n : Nat) (code entry : Int) : Prop := 4 ≤ code ∧ code % 4 = 0 ∧ code ≤ n ∧ n ≤ 1048576 ∧ entry % 4 = 0 ∧ 4096 ≤ entry ∧ entry ≤ 4096 + code - 4
theorem tmod4 (a : Int) : Int.tmod a 4 = 0 ↔ a % 4 = 0 := by
  rw [← Int.dvd_iff_tmod_eq_zero, ← Int.dvd_iff_emod_eq_zero]
theorem check_ok {bs : List Int} {code entry : Int} (h : okImg bs.length code entry) : emu_Check.f 1 bs code entry = some 0 := by
  obtain ⟨h1, h2, h3, h4, h5, h6, h7⟩ := h
  unfold emu_Check.f
  rw [if_neg (by omega), if_pos ((tmod4 _).2 h2), if_neg (by omega), show decide ((bs.length : Int) > 1048576) = false by simp; omega]
  simp only [emu_Check.j0]
  rw [if_neg (by decide), if_pos ((tmod4 _).2 h5), if_neg (by omega), if_neg (by unfold wrap64; omega)]
theorem check_bad {bs : List Int} {code entry : Int} (h : ¬ okImg bs.length code entry) (hl : bs.length ≤ 9223372036854775807) : emu_Check.f 1 bs code entry = some 2 := by
  unfold emu_Check.f
  by_cases h1 : code < 4
  · rw [if_pos h1]; rfl
  rw [if_neg h1]
  by_cases h2 : code % 4 = 0
  · rw [if_pos ((tmod4 _).2 h2)]
    by_cases h3 : code > bs.length
    · rw [if_pos h3]; rfl
    rw [if_neg h3]
    by_cases h4 : (bs.length : Int) > 1048576
    · rw [show decide ((bs.length : Int) > 1048576) = true by simp; omega]; rfl
    rw [show decide ((bs.length : Int) > 1048576) = false by simp; omega]
    simp only [emu_Check.j0]
    rw [if_neg (by decide)]
    by_cases h5 : entry % 4 = 0
    · rw [if_pos ((tmod4 _).2 h5)]
      by_cases h6 : entry < 4096
      · rw [if_pos h6]
      rw [if_neg h6, if_pos]
      unfold okImg at h
      unfold wrap64
      omega
    · rw [if_neg (fun q => h5 ((tmod4 _).1 q))]
  · rw [if_neg (fun q => h2 ((tmod4 _).1 q))]; rfl
end Go.Proofs.YtejhnlljddjicaaDoor.Ma
namespace Go.Proofs.YtejhnlljddjicaaDoor.Ma
open Go.RowKit Go.Proofs.YtejhnlljddjicaaDoor.PEm Go.Proofs.YtejhnlljddjicaaDoorW.PrintWords Go.Proofs.YtejhnlljddjicaaDoorW.PrintLast Go.Proofs.YtejhnlljddjicaaDoorW.PrintMore Go.Proofs.YtejhnlljddjicaaDoor.La Go.Proofs.YtejhnlljddjicaaDoor.Ea
set_option linter.unusedVariables false
set_option linter.unusedSimpArgs false
variable {w w' : World} {c pg : Nat} {ps ps' : Pages} {S S' : Cpu} {inp out inp' out' : List Int}
theorem C_lt {W : World} {A : Option Addr} {n : Nat} {xs : List Int} (h : Kd.C (Kd.int .u8) W A n xs) (hn : 0 < n) {ad : Addr} (ha : A = some ad) : ad.block < W.heap.size := by
  obtain ⟨ad', e, hs⟩ := C_src h (Nat.le_refl n) hn
  rw [ha] at e
  injection e with e
  subst e
  have hl := h.1
  have := hs 0 (.int .u8 (xs[0]'(by omega))) (by simp [List.getElem?_take, hn])
  have := cell_lt this
  rwa [show (ad.add 0) = ad by simp [Addr.add]] at this
theorem made_em {base pg : Nat} {code : Int} {A : Option Addr} {n k : Nat} {inp : List Int} {W : World} (hp : W.heap[pg]? = some (.cells (noPages.map pgVal).toArray 22 (0, 0))) (hV : Kd.R (Kd.int .u8) 5 W base (fun _ => True) (.slice A n k) inp) (h4 : 4 ≤ code ∧ code ≤ 1048576) :
    EM (W.alloc (.cells (cpuRow pg (cpu0 code (.slice A n k))).toArray 55)) W.heap.size pg noPages (cpu0 code (.slice A n k)) inp [] := by
  obtain ⟨rfl, hk, hC⟩ := Kd.R_reads' hV
  refine EM.fresh (heap_at _ _ _ rfl) (blk_alloc hp _) (fun e => by have := lt_of_at hp; omega) h4 hk (Kd.C_below hC (below_alloc (Below.refl _ _) _)) (fun ad ha => ?_)
  have ho : (Value.slice A inp.length k).ownBlock = some ad.block := by rw [ha]; rfl
  have hl := Kd.R_lt hV _ ho
  obtain ⟨cells, ht⟩ := Kd.R_typed hV _ ho
  refine ⟨by omega, fun e => ?_, by simp; omega⟩
  rw [e, hp] at ht
  injection ht with ht
  injection ht with _ ht
  cases ht
set_option maxHeartbeats 4000000 in
set_option maxRecDepth 100000 in
theorem new_no (w : World) (A : Option Addr) (k : Nat) (bs : List Int) (code entry : Int) (iv : Value) (hC : Kd.C (Kd.int .u8) w A bs.length bs) (hk : bs.length ≤ k) (ho : ¬ okImg bs.length code entry) :
    Calls Tryd.prog 15 #[.agg #[.slice A bs.length k, .int .i64 code, .int .i64 entry], iv] w fun e w' => e = .returned (.tuple #[.pointer none, .int .i64 2]) ∧ Below w.heap.size w w' := by
  have HO := Aside0.mk (check_bad ho hC.2.1)
  clear ho
  have B0 := Aside0.mk (show Below w.heap.size w (w.alloc (.cells #[.slice A bs.length k, .int .i64 code, .int .i64 entry] 24)) from below_alloc (Below.refl _ _) _)
  have R0 := Aside0.mk (show (w.alloc (.cells #[.slice A bs.length k, .int .i64 code, .int .i64 entry] 24)).heap[w.heap.size]? = some (.cells #[.slice A bs.length k, .int .i64 code, .int .i64 entry] 24 (0, 0)) from heap_at _ _ _ rfl)
  have HC := Aside0.mk hC
  have HK := Aside0.mk hk
  clear hC hk
  go_enter Tryd.func15, Tryd.ntmps15
  go_upto_region 1 with (fail)
  generalize w.alloc (.cells #[.slice A bs.length k, .int .i64 code, .int .i64 entry] 24) = W0 at B0 R0 ⊢
  generalize hg2 : w.heap.size = g2 at R0 ⊢
  have c0 := (blk_cell R0.out 0).trans rfl
  have c1 := (blk_cell R0.out 1).trans rfl
  have c2 := (blk_cell R0.out 2).trans rfl
  go_wp2_with (first | (go_at_call 11; refine (emu_Check.calls 1 A k bs code entry 2 _ (Kd.C_below HC.out B0.out) HK.out HO.out).mono ?_; rintro e Y ⟨rfl, hb⟩; have BB := Aside0.mk (pm_chain B0.out hb); clear hb))
  go_ret2
  exact ⟨rfl, BB.out⟩
set_option maxHeartbeats 4000000 in
set_option maxRecDepth 100000 in
theorem new_yes (w : World) (A : Option Addr) (k : Nat) (bs : List Int) (code entry : Int) (Ai : Option Addr) (ki : Nat) (inp : List Int) (hC : Kd.C (Kd.int .u8) w A bs.length bs) (hk : bs.length ≤ k) (ho : okImg bs.length code entry)
    (hx : ∀ b ∈ bs, 0 ≤ b ∧ b < 256) (hCi : Kd.C (Kd.int .u8) w Ai inp.length inp) (hi : inp.length ≤ 140737488355328) :
    Calls Tryd.prog 15 #[.agg #[.slice A bs.length k, .int .i64 code, .int .i64 entry], .slice Ai inp.length ki] w fun e w' => ∃ c pg ps S, e = .returned (.tuple #[.pointer (some ⟨c, 0, none⟩), .int .i64 0]) ∧ EM w' c pg ps S inp [] ∧ Below w.heap.size w w' ∧ (∀ i ∈ foot c pg ps S, w.heap.size ≤ i) ∧ (∃ iv, S = ⟨code, entry, List.replicate 15 0 ++ [8388608], 0, iv, .slice none 0 0, 0, 0⟩) ∧ ∀ i, byteAt ps i = laidF (fun _ => 0) 4096 bs i := by
  have HO := Aside0.mk (check_ok ho)
  have OK := Aside0.mk ho
  have HX := Aside0.mk hx
  have HCI := Aside0.mk hCi
  have HI := Aside0.mk hi
  clear ho hx hCi hi
  have B0 := Aside0.mk (show Below w.heap.size w (w.alloc (.cells #[.slice A bs.length k, .int .i64 code, .int .i64 entry] 24)) from below_alloc (Below.refl _ _) _)
  have R0 := Aside0.mk (show (w.alloc (.cells #[.slice A bs.length k, .int .i64 code, .int .i64 entry] 24)).heap[w.heap.size]? = some (.cells #[.slice A bs.length k, .int .i64 code, .int .i64 entry] 24 (0, 0)) from heap_at _ _ _ rfl)
  have HC := Aside0.mk hC
  have HK := Aside0.mk hk
  clear hC hk
  go_enter Tryd.func15, Tryd.ntmps15
  go_upto_region 1 with (fail)
  generalize w.alloc (.cells #[.slice A bs.length k, .int .i64 code, .int .i64 entry] 24) = W0 at B0 R0 ⊢
  generalize hg2 : w.heap.size = g2 at R0 ⊢
  have c0 := (blk_cell R0.out 0).trans rfl
  have c1 := (blk_cell R0.out 1).trans rfl
  have c2 := (blk_cell R0.out 2).trans rfl
  go_upto_region 4 with (first | (go_at_call 11; refine (emu_Check.calls 1 A k bs code entry 0 _ (Kd.C_below HC.out B0.out) HK.out HO.out).mono ?_; rintro e Y ⟨rfl, hb⟩; have BB := Aside0.mk (pm_chain B0.out hb); have RR := Aside0.mk (blk_below R0.out hb); clear hb R0 B0 c0 c1 c2))
  have hmk := run_make53
  have c1 := (blk_cell RR.out 1).trans rfl
  have j1 : Y.drew.cell? ⟨g2, 1, none⟩ = some (.int .i64 code) := c1
  have a1 : (Y.alloc (.cells (noPages.map pgVal).toArray 22)).drew.cell? ⟨g2, 1, none⟩ = some (.int .i64 code) := pw_cell_below (show Below Y.heap.size Y (Y.alloc (.cells (noPages.map pgVal).toArray 22)) from below_alloc (Below.refl _ _) _) c1
  have aB := Aside0.mk (show Below Y.heap.size Y (Y.alloc (.cells (noPages.map pgVal).toArray 22)).drew from (below_alloc (Below.refl _ _) _).drew)
  have CI := Aside0.mk (show Kd.C (Kd.int .u8) Y Ai inp.length inp from Kd.C_below HCI.out BB.out)
  have CJ := Aside0.mk (show Kd.C (Kd.int .u8) Y.drew Ai inp.length inp from Kd.C_below CI.out (Below.refl _ _).drew)
  have NP := Aside0.mk (show (noPages.map pgVal).toArray = (noPages.map pgVal).toArray from rfl)
  clear NP
  generalize hnp : (noPages.map pgVal).toArray = NPG at hmk a1 aB ⊢
  have HNP := Aside0.mk hnp
  clear hnp
  go_cut [7] (fun v7 wc => ∃ (c pg : Nat) (iv : Value), v7 = .pointer (some ⟨c, 0, none⟩) ∧ Aside0 (EM wc c pg noPages (cpu0 code iv) inp []) ∧ Aside0 (Below Y.heap.size Y wc) ∧ Aside0 (Y.heap.size ≤ c ∧ Y.heap.size ≤ pg))
  case first =>
    have L4 := Aside0.mk (show 4 ≤ code ∧ code ≤ 1048576 by have := OK.out; unfold okImg at this; omega)
    go_region_with ((go_at_call 25; first | (refine (clone_calls Y.drew Ai inp.length ki inp CJ.out HI.out).mono ?_; rintro e WX ⟨v, rfl, hV, hB⟩; obtain ⟨A2, k2, rfl⟩ := Kd.R_slice hV; have x1 := pw_cell_below hB j1; have x1b := pw_cell_below (show Below WX.heap.size WX (WX.alloc (.cells NPG 22)) from below_alloc (Below.refl _ _) _) x1) | (refine (clone_calls (Y.alloc (.cells NPG 22)).drew Ai inp.length ki inp (Kd.C_below CI.out aB.out) HI.out).mono ?_; rintro e WX ⟨v, rfl, hV, hB⟩; obtain ⟨A2, k2, rfl⟩ := Kd.R_slice hV; have x1 := pw_cell_below hB a1)))
    all_goals (go_wp2_with (fail); go_meet)
    all_goals first
      | (have hq : WX.heap[Y.heap.size]? = some (.cells (noPages.map pgVal).toArray 22 (0, 0)) := (by rw [HNP.out]; exact blk_below (show (Y.alloc (.cells NPG 22)).drew.heap[Y.heap.size]? = some (.cells NPG 22 (0, 0)) from heap_at _ _ _ rfl) hB)
         exact ⟨WX.heap.size, Y.heap.size, _, rfl, ⟨made_em hq hV L4.out⟩, ⟨below_alloc (pm_chain aB.out hB) _⟩, ⟨Nat.le_trans aB.out.size hB.size, Nat.le_refl _⟩⟩)
      | (have hq : (WX.alloc (.cells NPG 22)).heap[WX.heap.size]? = some (.cells (noPages.map pgVal).toArray 22 (0, 0)) := (by rw [HNP.out]; exact heap_at _ _ _ rfl)
         have es : (WX.alloc (.cells NPG 22)).heap.size = WX.heap.size + 1 := by simp
         have qm := made_em hq (Kd.R_alloc hV (.cells NPG 22)) L4.out
         rw [es] at qm
         exact ⟨_, WX.heap.size, _, rfl, ⟨qm⟩, ⟨below_alloc (below_alloc (pm_chain (Below.refl Y.heap.size Y).drew hB) _) _⟩, ⟨Nat.le_succ_of_le hB.size, hB.size⟩⟩)
  case rest =>
    obtain ⟨c, pg, iv, rfl, HE, HB, HCP⟩ := hcut
    have hfo : foot c pg noPages (cpu0 code iv) = c :: pg :: ([] ++ (cpu0 code iv).outV.ownBlock.toList) := by unfold foot; rw [show blocks noPages = [] from blocks_none 2048]
    have hfo2 : ∀ i ∈ foot c pg noPages (cpu0 code iv), i = c ∨ i = pg := by intro i hi; rw [hfo] at hi; simpa [cpu0, Value.ownBlock] using hi
    have HW := Aside0.mk (pm_chain BB.out HB.out)
    have LN := Aside0.mk (show 0 < bs.length ∧ bs.length ≤ 1048576 ∧ 4096 ≤ entry ∧ entry ≤ 1052672 by have := OK.out; unfold okImg at this; omega)
    have HA := Aside0.mk (fun ad (ha : A = some ad) => C_lt HC.out LN.out.1 ha)
    have HAF := Aside0.mk (show ∀ ad, A = some ad → ad.block ∉ foot c pg noPages (cpu0 code iv) ∧ ad.block < wc.heap.size from fun ad ha => by
      have h1 := HA.out ad ha
      have h2 := HCP.out
      have h3 := BB.out.size
      have h4 := HB.out.size
      refine ⟨fun hm => ?_, by omega⟩
      rcases hfo2 _ hm with e | e <;> omega)
    have R8 := Aside0.mk (blk_below RR.out HB.out)
    have HFO := Aside0.mk hfo2
    clear hfo hfo2 hmk c1 j1 a1
    have c0 := (blk_cell R8.out 0).trans rfl
    go_upto_region 6 with (first | (go_at_call 26; refine (put_calls HE.out 4096 A k bs (Kd.C_below HC.out HW.out) HK.out HAF.out HX.out (by have := LN.out; omega)).mono ?_; rintro e W5 ⟨rfl, ps5, d5, hm5⟩))
    have D5 := Aside0.mk d5
    have M5 := Aside0.mk hm5
    have NG := Aside0.mk (show ¬ g2 ∈ foot c pg noPages (cpu0 code iv) from fun hm => by
      have h1 := lt_of_at RR.out
      have h2 := HCP.out
      rcases HFO.out _ hm with e | e <;> omega)
    have R9 := Aside0.mk (d5.ext.at R8.out NG.out)
    clear d5 hm5 c0
    have c2 := (blk_cell R9.out 2).trans rfl
    have k2 := D5.out.em.k2
    have f2 := D5.out.em.fz 2
    have hw : IntKind.u32.wrap entry = entry := by rw [IntKind.wrap_u32]; have := LN.out; omega
    go_upto_region 7 with (fail)
    have D6 := Aside0.mk (D5.out.trans (D5.out.em.set_pc entry (by have := LN.out; omega) (by have := LN.out; omega)))
    generalize W5.setCell ⟨c, 2, none⟩ (.int .u32 entry) = W6 at D6 ⊢
    clear c2 k2 f2 hw
    have k18 := D6.out.em.kr (a := 15) (v := 0) rfl
    have f18 := D6.out.em.fz (3 + 15)
    go_wp2_with (fail)
    go_ret2
    have D7 := D6.out.trans (D6.out.em.set_reg 15 (by decide) 8388608 (by decide) (by decide))
    refine ⟨c, pg, ps5, _, rfl, D7.em, ?_, ?_, ⟨iv, rfl⟩, fun i => ?_⟩
    · refine HW.out.trans (D7.ext.below_of HW.out.size (fun i hi => ?_))
      have h2 := HCP.out
      have h3 := BB.out.size
      rcases HFO.out _ hi with e | e <;> omega
    · intro i hi
      have h2 := HCP.out
      have h3 := BB.out.size
      have h4 := HW.out.size
      rcases D7.new i hi with h5 | h5
      · rcases HFO.out _ h5 with e | e <;> omega
      · omega
    · rw [M5.out]
      unfold laidF
      simp only [byte_no]
end Go.Proofs.YtejhnlljddjicaaDoor.Ma
namespace Go.Proofs.YtejhnlljddjicaaDoor.Ma
open Go.RowKit Go.Proofs.YtejhnlljddjicaaDoor.PEm Go.Proofs.YtejhnlljddjicaaDoorW.PrintWords Go.Proofs.YtejhnlljddjicaaDoorW.PrintLast Go.Proofs.YtejhnlljddjicaaDoorW.PrintMore Go.Proofs.YtejhnlljddjicaaDoor.La Go.Proofs.YtejhnlljddjicaaDoor.Ea
set_option linter.unusedVariables false
set_option linter.unusedSimpArgs false
variable {w w' : World} {c pg : Nat} {ps ps' : Pages} {S S' : Cpu} {inp out inp' out' : List Int}
def wordM (m : Nat → Int) (a : Nat) (n : Int) (sg : Bool) : Int :=
  if n = 1 then lowv (val1 (m a)) 1 sg else if n = 2 then lowv (val2 (m a) (m (a + 1))) 2 sg
  else lowv (val4 (m a) (m (a + 1)) (m (a + 2)) (m (a + 3))) 4 sg
def loadM (m : Nat → Int) (S : Cpu) (x : I5) (n : Int) (sg : Bool) : Cpu := if mayF S.code (addrF S x) n false = 0 then { S with regs := S.regs.set x.a (wordM m (addrF S x).toNat n sg) } else S
def accCM (m : Nat → Int) (S : Cpu) (x : I5) : Cpu := if accL x.op then loadM m S x (accN x.op) (accS x.op) else S
def accMM (m : Nat → Int) (S : Cpu) (x : I5) (i : Nat) : Int := if accL x.op then m i else if accE S x = 0 then putF m (addrF S x).toNat (accN x.op).toNat ((S.regs[x.a]?).getD 0) i else m i
def doM (m : Nat → Int) (S : Cpu) (x : I5) (inp out : List Int) : Ran :=
  if 1 ≤ x.op ∧ x.op ≤ 19 then ⟨if (binP x.op (regV S x.b) (regV S x.c)).2 then .nilIface else stopV 2 0, reckF S x.op x.a (regV S x.b) (regV S x.c), m, inp, out⟩
  else if 33 ≤ x.op ∧ x.op ≤ 51 then ⟨if (binP (x.op - 32) (regV S x.b) (x.imm % 4294967296)).2 then .nilIface else stopV 2 0, reckF S (x.op - 32) x.a (regV S x.b) (x.imm % 4294967296), m, inp, out⟩
  else if (80 ≤ x.op ∧ x.op ≤ 84) ∨ (88 ≤ x.op ∧ x.op ≤ 90) then ⟨errT (accE S x), accCM m S x, accMM m S x, inp, out⟩
  else if x.op = 64 then ⟨.nilIface, setR S x.a (x.imm % 4294967296), m, inp, out⟩
  else if x.op = 65 then ⟨.nilIface, setR S x.a (bits .or .u32 (bits .and .u32 (regV S x.a) 65535) (shl .u32 (x.imm % 4294967296) 16)), m, inp, out⟩
  else if x.op = 96 then ⟨.nilIface, { S with pc := jumpF S.pc x.imm }, m, inp, out⟩
  else if x.op = 97 then ⟨.nilIface, if regV S x.a = 0 then { S with pc := jumpF S.pc x.imm } else S, m, inp, out⟩
  else if x.op = 98 then ⟨.nilIface, if regV S x.a = 0 then S else { S with pc := jumpF S.pc x.imm }, m, inp, out⟩
  else if x.op = 99 then ⟨.nilIface, { setR S 14 S.pc with pc := jumpF S.pc x.imm }, m, inp, out⟩
  else if x.op = 100 then ⟨.nilIface, { S with pc := regV S x.a }, m, inp, out⟩
  else if x.op = 104 then
    if regV S 15 < x.imm % 4294967296 ∨ regV S 15 - x.imm % 4294967296 < 4194304 then ⟨errT 4, S, m, inp, out⟩ else ⟨.nilIface, setR S 15 (regV S 15 - x.imm % 4294967296), m, inp, out⟩
  else if x.op = 105 then ⟨.nilIface, setR S 15 ((regV S 15 + x.imm % 4294967296) % 4294967296), m, inp, out⟩
  else if x.op = 112 then ⟨.nilIface, S, m, inp, out ++ [regV S x.a % 256]⟩
  else if x.op = 113 then (match inp with
    | [] => ⟨.nilIface, setR S x.a 4294967295, m, inp, out⟩
    | b :: rest => ⟨.nilIface, setR S x.a b, m, rest, out⟩)
  else ⟨stopV 1 (if regV S x.a < 2147483648 then regV S x.a else regV S x.a - 4294967296), S, m, inp, out⟩
def fetchM (m : Nat → Int) (code : Int) (at_ : Int) : Option I5 := if at_ % 4 ≠ 0 ∨ at_ < 4096 ∨ at_ > 4096 + code - 4 then none else decF (wordM m at_.toNat 4 false)
def endM (r : Ran) : Ran := match endOf r.err with
  | none => r
  | some (a, b) => { r with S := { r.S with ended := a, exit := b } }
def stepM (m : Nat → Int) (S : Cpu) (inp out : List Int) : Ran :=
  if S.ended ≠ 0 then ⟨.nilIface, S, m, inp, out⟩ else
  match fetchM m S.code S.pc with
  | none => ⟨.nilIface, { S with steps := S.steps + 1, ended := 6, exit := 3 }, m, inp, out⟩
  | some x => endM (doM m { S with steps := S.steps + 1, pc := (S.pc + 4) % 4294967296 } x inp out)
theorem step_m (ps : Pages) (S : Cpu) (inp out : List Int) : stepF ps S inp out = stepM (byteAt ps) S inp out := rfl
/-- A run of at most n steps. -/
def runM : Nat → Ran → Ran
  | 0, r => r
  | n + 1, r => if r.S.ended ≠ 0 then r else runM n (stepM r.m r.S r.inp r.out)
/-- Where the input and the output lie does not matter. -/
def reV (S : Cpu) (a b : Value) : Cpu := { S with inV := a, outV := b }
theorem reck_v (S : Cpu) (a b : Value) (op : Int) (k : Nat) (x y : Int) : reckF (reV S a b) op k x y = reV (reckF S op k x y) a b := by unfold reckF; split <;> rfl
theorem load_v (m : Nat → Int) (S : Cpu) (a b : Value) (x : I5) (n : Int) (sg : Bool) : loadM m (reV S a b) x n sg = reV (loadM m S x n sg) a b := by
  show (if mayF S.code (addrF S x) n false = 0 then _ else _) = reV (if mayF S.code (addrF S x) n false = 0 then _ else _) a b
  split <;> rfl
theorem accC_v (m : Nat → Int) (S : Cpu) (a b : Value) (x : I5) : accCM m (reV S a b) x = reV (accCM m S x) a b := by
  unfold accCM
  split
  · exact load_v ..
  · rfl
def Ran.reV (r : Ran) (a b : Value) : Ran := { r with S := Ma.reV r.S a b }
theorem do_v (m : Nat → Int) (S : Cpu) (a b : Value) (x : I5) (inp out : List Int) : doM m (reV S a b) x inp out = (doM m S x inp out).reV a b := by
  have r1 : ∀ k, regV (reV S a b) k = regV S k := fun _ => rfl
  unfold doM
  by_cases c : 1 ≤ x.op ∧ x.op ≤ 19
  · rw [if_pos c, if_pos c]; first | rfl | (show Ran.mk _ _ _ _ _ = Ran.mk _ _ _ _ _; congr 1; first | exact reck_v .. | exact accC_v ..) | (simp only [r1]; split <;> rfl) | (cases inp <;> rfl)
  rw [if_neg c, if_neg c]; clear c
  by_cases c : 33 ≤ x.op ∧ x.op ≤ 51
  · rw [if_pos c, if_pos c]; first | rfl | (show Ran.mk _ _ _ _ _ = Ran.mk _ _ _ _ _; congr 1; first | exact reck_v .. | exact accC_v ..) | (simp only [r1]; split <;> rfl) | (cases inp <;> rfl)
  rw [if_neg c, if_neg c]; clear c
  by_cases c : (80 ≤ x.op ∧ x.op ≤ 84) ∨ (88 ≤ x.op ∧ x.op ≤ 90)
  · rw [if_pos c, if_pos c]; first | rfl | (show Ran.mk _ _ _ _ _ = Ran.mk _ _ _ _ _; congr 1; first | exact reck_v .. | exact accC_v ..) | (simp only [r1]; split <;> rfl) | (cases inp <;> rfl)
  rw [if_neg c, if_neg c]; clear c
  by_cases c : x.op = 64
  · rw [if_pos c, if_pos c]; first | rfl | (show Ran.mk _ _ _ _ _ = Ran.mk _ _ _ _ _; congr 1; first | exact reck_v .. | exact accC_v ..) | (simp only [r1]; split <;> rfl) | (cases inp <;> rfl)
  rw [if_neg c, if_neg c]; clear c
  by_cases c : x.op = 65
  · rw [if_pos c, if_pos c]; first | rfl | (show Ran.mk _ _ _ _ _ = Ran.mk _ _ _ _ _; congr 1; first | exact reck_v .. | exact accC_v ..) | (simp only [r1]; split <;> rfl) | (cases inp <;> rfl)
  rw [if_neg c, if_neg c]; clear c
  by_cases c : x.op = 96
  · rw [if_pos c, if_pos c]; first | rfl | (show Ran.mk _ _ _ _ _ = Ran.mk _ _ _ _ _; congr 1; first | exact reck_v .. | exact accC_v ..) | (simp only [r1]; split <;> rfl) | (cases inp <;> rfl)
  rw [if_neg c, if_neg c]; clear c
  by_cases c : x.op = 97
  · rw [if_pos c, if_pos c]; first | rfl | (show Ran.mk _ _ _ _ _ = Ran.mk _ _ _ _ _; congr 1; first | exact reck_v .. | exact accC_v ..) | (simp only [r1]; split <;> rfl) | (cases inp <;> rfl)
  rw [if_neg c, if_neg c]; clear c
  by_cases c : x.op = 98
  · rw [if_pos c, if_pos c]; first | rfl | (show Ran.mk _ _ _ _ _ = Ran.mk _ _ _ _ _; congr 1; first | exact reck_v .. | exact accC_v ..) | (simp only [r1]; split <;> rfl) | (cases inp <;> rfl)
  rw [if_neg c, if_neg c]; clear c
  by_cases c : x.op = 99
  · rw [if_pos c, if_pos c]; first | rfl | (show Ran.mk _ _ _ _ _ = Ran.mk _ _ _ _ _; congr 1; first | exact reck_v .. | exact accC_v ..) | (simp only [r1]; split <;> rfl) | (cases inp <;> rfl)
  rw [if_neg c, if_neg c]; clear c
  by_cases c : x.op = 100
  · rw [if_pos c, if_pos c]; first | rfl | (show Ran.mk _ _ _ _ _ = Ran.mk _ _ _ _ _; congr 1; first | exact reck_v .. | exact accC_v ..) | (simp only [r1]; split <;> rfl) | (cases inp <;> rfl)
  rw [if_neg c, if_neg c]; clear c
  by_cases c : x.op = 104
  · rw [if_pos c, if_pos c]; first | rfl | (show Ran.mk _ _ _ _ _ = Ran.mk _ _ _ _ _; congr 1; first | exact reck_v .. | exact accC_v ..) | (simp only [r1]; split <;> rfl) | (cases inp <;> rfl)
  rw [if_neg c, if_neg c]; clear c
  by_cases c : x.op = 105
  · rw [if_pos c, if_pos c]; first | rfl | (show Ran.mk _ _ _ _ _ = Ran.mk _ _ _ _ _; congr 1; first | exact reck_v .. | exact accC_v ..) | (simp only [r1]; split <;> rfl) | (cases inp <;> rfl)
  rw [if_neg c, if_neg c]; clear c
  by_cases c : x.op = 112
  · rw [if_pos c, if_pos c]; first | rfl | (show Ran.mk _ _ _ _ _ = Ran.mk _ _ _ _ _; congr 1; first | exact reck_v .. | exact accC_v ..) | (simp only [r1]; split <;> rfl) | (cases inp <;> rfl)
  rw [if_neg c, if_neg c]; clear c
  by_cases c : x.op = 113
  · rw [if_pos c, if_pos c]; first | rfl | (show Ran.mk _ _ _ _ _ = Ran.mk _ _ _ _ _; congr 1; first | exact reck_v .. | exact accC_v ..) | (simp only [r1]; split <;> rfl) | (cases inp <;> rfl)
  rw [if_neg c, if_neg c]; clear c
  rfl
theorem end_v (r : Ran) (a b : Value) : endM (r.reV a b) = (endM r).reV a b := by
  unfold endM
  show (match endOf r.err with | none => _ | some (p, q) => _) = Ran.reV (match endOf r.err with | none => _ | some (p, q) => _) a b
  cases endOf r.err with
  | none => rfl
  | some pq => rfl
theorem step_v (m : Nat → Int) (S : Cpu) (a b : Value) (inp out : List Int) : stepM m (reV S a b) inp out = (stepM m S inp out).reV a b := by
  unfold stepM
  by_cases h : S.ended ≠ 0
  · rw [if_pos h, if_pos (show (reV S a b).ended ≠ 0 from h)]; rfl
  · rw [if_neg h, if_neg (show ¬ (reV S a b).ended ≠ 0 from h)]
    show (match fetchM m S.code S.pc with | none => _ | some x => _) = Ran.reV (match fetchM m S.code S.pc with | none => _ | some x => _) a b
    cases fetchM m S.code S.pc with
    | none => rfl
    | some x =>
      show endM (doM m (reV { S with steps := S.steps + 1, pc := (S.pc + 4) % 4294967296 } a b) x inp out) = _
      rw [do_v, end_v]
/-- What an instruction leaves as it was. -/
theorem do_keeps (m : Nat → Int) (S : Cpu) (x : I5) (inp out : List Int) : (doM m S x inp out).S.steps = S.steps ∧ (doM m S x inp out).S.code = S.code ∧ ((doM m S x inp out).out = out ∨ ∃ v, (doM m S x inp out).out = out ++ [v]) ∧ ((doM m S x inp out).inp = inp ∨ ∃ v, inp = v :: (doM m S x inp out).inp) := by
  have k1 : ∀ op k a b, (reckF S op k a b).steps = S.steps ∧ (reckF S op k a b).code = S.code := by intro op k a b; unfold reckF; split <;> exact ⟨rfl, rfl⟩
  have k2 : (accCM m S x).steps = S.steps ∧ (accCM m S x).code = S.code := by
    unfold accCM
    split
    · unfold loadM; split <;> exact ⟨rfl, rfl⟩
    · exact ⟨rfl, rfl⟩
  unfold doM
  by_cases c : 1 ≤ x.op ∧ x.op ≤ 19
  · rw [if_pos c]; first | exact ⟨(k1 _ _ _ _).1, (k1 _ _ _ _).2, .inl rfl, .inl rfl⟩ | exact ⟨k2.1, k2.2, .inl rfl, .inl rfl⟩ | exact ⟨rfl, rfl, .inl rfl, .inl rfl⟩ | exact ⟨rfl, rfl, .inr ⟨_, rfl⟩, .inl rfl⟩ | (split; exact ⟨rfl, rfl, .inl rfl, .inl rfl⟩; exact ⟨rfl, rfl, .inl rfl, .inl rfl⟩) | (cases inp; exact ⟨rfl, rfl, .inl rfl, .inl rfl⟩; exact ⟨rfl, rfl, .inl rfl, .inr ⟨_, rfl⟩⟩)
  rw [if_neg c]; clear c
  by_cases c : 33 ≤ x.op ∧ x.op ≤ 51
  · rw [if_pos c]; first | exact ⟨(k1 _ _ _ _).1, (k1 _ _ _ _).2, .inl rfl, .inl rfl⟩ | exact ⟨k2.1, k2.2, .inl rfl, .inl rfl⟩ | exact ⟨rfl, rfl, .inl rfl, .inl rfl⟩ | exact ⟨rfl, rfl, .inr ⟨_, rfl⟩, .inl rfl⟩ | (split; exact ⟨rfl, rfl, .inl rfl, .inl rfl⟩; exact ⟨rfl, rfl, .inl rfl, .inl rfl⟩) | (cases inp; exact ⟨rfl, rfl, .inl rfl, .inl rfl⟩; exact ⟨rfl, rfl, .inl rfl, .inr ⟨_, rfl⟩⟩)
  rw [if_neg c]; clear c
  by_cases c : (80 ≤ x.op ∧ x.op ≤ 84) ∨ (88 ≤ x.op ∧ x.op ≤ 90)
  · rw [if_pos c]; first | exact ⟨(k1 _ _ _ _).1, (k1 _ _ _ _).2, .inl rfl, .inl rfl⟩ | exact ⟨k2.1, k2.2, .inl rfl, .inl rfl⟩ | exact ⟨rfl, rfl, .inl rfl, .inl rfl⟩ | exact ⟨rfl, rfl, .inr ⟨_, rfl⟩, .inl rfl⟩ | (split; exact ⟨rfl, rfl, .inl rfl, .inl rfl⟩; exact ⟨rfl, rfl, .inl rfl, .inl rfl⟩) | (cases inp; exact ⟨rfl, rfl, .inl rfl, .inl rfl⟩; exact ⟨rfl, rfl, .inl rfl, .inr ⟨_, rfl⟩⟩)
  rw [if_neg c]; clear c
  by_cases c : x.op = 64
  · rw [if_pos c]; first | exact ⟨(k1 _ _ _ _).1, (k1 _ _ _ _).2, .inl rfl, .inl rfl⟩ | exact ⟨k2.1, k2.2, .inl rfl, .inl rfl⟩ | exact ⟨rfl, rfl, .inl rfl, .inl rfl⟩ | exact ⟨rfl, rfl, .inr ⟨_, rfl⟩, .inl rfl⟩ | (split; exact ⟨rfl, rfl, .inl rfl, .inl rfl⟩; exact ⟨rfl, rfl, .inl rfl, .inl rfl⟩) | (cases inp; exact ⟨rfl, rfl, .inl rfl, .inl rfl⟩; exact ⟨rfl, rfl, .inl rfl, .inr ⟨_, rfl⟩⟩)
  rw [if_neg c]; clear c
  by_cases c : x.op = 65
  · rw [if_pos c]; first | exact ⟨(k1 _ _ _ _).1, (k1 _ _ _ _).2, .inl rfl, .inl rfl⟩ | exact ⟨k2.1, k2.2, .inl rfl, .inl rfl⟩ | exact ⟨rfl, rfl, .inl rfl, .inl rfl⟩ | exact ⟨rfl, rfl, .inr ⟨_, rfl⟩, .inl rfl⟩ | (split; exact ⟨rfl, rfl, .inl rfl, .inl rfl⟩; exact ⟨rfl, rfl, .inl rfl, .inl rfl⟩) | (cases inp; exact ⟨rfl, rfl, .inl rfl, .inl rfl⟩; exact ⟨rfl, rfl, .inl rfl, .inr ⟨_, rfl⟩⟩)
  rw [if_neg c]; clear c
  by_cases c : x.op = 96
  · rw [if_pos c]; first | exact ⟨(k1 _ _ _ _).1, (k1 _ _ _ _).2, .inl rfl, .inl rfl⟩ | exact ⟨k2.1, k2.2, .inl rfl, .inl rfl⟩ | exact ⟨rfl, rfl, .inl rfl, .inl rfl⟩ | exact ⟨rfl, rfl, .inr ⟨_, rfl⟩, .inl rfl⟩ | (split; exact ⟨rfl, rfl, .inl rfl, .inl rfl⟩; exact ⟨rfl, rfl, .inl rfl, .inl rfl⟩) | (cases inp; exact ⟨rfl, rfl, .inl rfl, .inl rfl⟩; exact ⟨rfl, rfl, .inl rfl, .inr ⟨_, rfl⟩⟩)
  rw [if_neg c]; clear c
  by_cases c : x.op = 97
  · rw [if_pos c]; first | exact ⟨(k1 _ _ _ _).1, (k1 _ _ _ _).2, .inl rfl, .inl rfl⟩ | exact ⟨k2.1, k2.2, .inl rfl, .inl rfl⟩ | exact ⟨rfl, rfl, .inl rfl, .inl rfl⟩ | exact ⟨rfl, rfl, .inr ⟨_, rfl⟩, .inl rfl⟩ | (split; exact ⟨rfl, rfl, .inl rfl, .inl rfl⟩; exact ⟨rfl, rfl, .inl rfl, .inl rfl⟩) | (cases inp; exact ⟨rfl, rfl, .inl rfl, .inl rfl⟩; exact ⟨rfl, rfl, .inl rfl, .inr ⟨_, rfl⟩⟩)
  rw [if_neg c]; clear c
  by_cases c : x.op = 98
  · rw [if_pos c]; first | exact ⟨(k1 _ _ _ _).1, (k1 _ _ _ _).2, .inl rfl, .inl rfl⟩ | exact ⟨k2.1, k2.2, .inl rfl, .inl rfl⟩ | exact ⟨rfl, rfl, .inl rfl, .inl rfl⟩ | exact ⟨rfl, rfl, .inr ⟨_, rfl⟩, .inl rfl⟩ | (split; exact ⟨rfl, rfl, .inl rfl, .inl rfl⟩; exact ⟨rfl, rfl, .inl rfl, .inl rfl⟩) | (cases inp; exact ⟨rfl, rfl, .inl rfl, .inl rfl⟩; exact ⟨rfl, rfl, .inl rfl, .inr ⟨_, rfl⟩⟩)
  rw [if_neg c]; clear c
  by_cases c : x.op = 99
  · rw [if_pos c]; first | exact ⟨(k1 _ _ _ _).1, (k1 _ _ _ _).2, .inl rfl, .inl rfl⟩ | exact ⟨k2.1, k2.2, .inl rfl, .inl rfl⟩ | exact ⟨rfl, rfl, .inl rfl, .inl rfl⟩ | exact ⟨rfl, rfl, .inr ⟨_, rfl⟩, .inl rfl⟩ | (split; exact ⟨rfl, rfl, .inl rfl, .inl rfl⟩; exact ⟨rfl, rfl, .inl rfl, .inl rfl⟩) | (cases inp; exact ⟨rfl, rfl, .inl rfl, .inl rfl⟩; exact ⟨rfl, rfl, .inl rfl, .inr ⟨_, rfl⟩⟩)
  rw [if_neg c]; clear c
  by_cases c : x.op = 100
  · rw [if_pos c]; first | exact ⟨(k1 _ _ _ _).1, (k1 _ _ _ _).2, .inl rfl, .inl rfl⟩ | exact ⟨k2.1, k2.2, .inl rfl, .inl rfl⟩ | exact ⟨rfl, rfl, .inl rfl, .inl rfl⟩ | exact ⟨rfl, rfl, .inr ⟨_, rfl⟩, .inl rfl⟩ | (split; exact ⟨rfl, rfl, .inl rfl, .inl rfl⟩; exact ⟨rfl, rfl, .inl rfl, .inl rfl⟩) | (cases inp; exact ⟨rfl, rfl, .inl rfl, .inl rfl⟩; exact ⟨rfl, rfl, .inl rfl, .inr ⟨_, rfl⟩⟩)
  rw [if_neg c]; clear c
  by_cases c : x.op = 104
  · rw [if_pos c]; first | exact ⟨(k1 _ _ _ _).1, (k1 _ _ _ _).2, .inl rfl, .inl rfl⟩ | exact ⟨k2.1, k2.2, .inl rfl, .inl rfl⟩ | exact ⟨rfl, rfl, .inl rfl, .inl rfl⟩ | exact ⟨rfl, rfl, .inr ⟨_, rfl⟩, .inl rfl⟩ | (split; exact ⟨rfl, rfl, .inl rfl, .inl rfl⟩; exact ⟨rfl, rfl, .inl rfl, .inl rfl⟩) | (cases inp; exact ⟨rfl, rfl, .inl rfl, .inl rfl⟩; exact ⟨rfl, rfl, .inl rfl, .inr ⟨_, rfl⟩⟩)
  rw [if_neg c]; clear c
  by_cases c : x.op = 105
  · rw [if_pos c]; first | exact ⟨(k1 _ _ _ _).1, (k1 _ _ _ _).2, .inl rfl, .inl rfl⟩ | exact ⟨k2.1, k2.2, .inl rfl, .inl rfl⟩ | exact ⟨rfl, rfl, .inl rfl, .inl rfl⟩ | exact ⟨rfl, rfl, .inr ⟨_, rfl⟩, .inl rfl⟩ | (split; exact ⟨rfl, rfl, .inl rfl, .inl rfl⟩; exact ⟨rfl, rfl, .inl rfl, .inl rfl⟩) | (cases inp; exact ⟨rfl, rfl, .inl rfl, .inl rfl⟩; exact ⟨rfl, rfl, .inl rfl, .inr ⟨_, rfl⟩⟩)
  rw [if_neg c]; clear c
  by_cases c : x.op = 112
  · rw [if_pos c]; first | exact ⟨(k1 _ _ _ _).1, (k1 _ _ _ _).2, .inl rfl, .inl rfl⟩ | exact ⟨k2.1, k2.2, .inl rfl, .inl rfl⟩ | exact ⟨rfl, rfl, .inl rfl, .inl rfl⟩ | exact ⟨rfl, rfl, .inr ⟨_, rfl⟩, .inl rfl⟩ | (split; exact ⟨rfl, rfl, .inl rfl, .inl rfl⟩; exact ⟨rfl, rfl, .inl rfl, .inl rfl⟩) | (cases inp; exact ⟨rfl, rfl, .inl rfl, .inl rfl⟩; exact ⟨rfl, rfl, .inl rfl, .inr ⟨_, rfl⟩⟩)
  rw [if_neg c]; clear c
  by_cases c : x.op = 113
  · rw [if_pos c]; first | exact ⟨(k1 _ _ _ _).1, (k1 _ _ _ _).2, .inl rfl, .inl rfl⟩ | exact ⟨k2.1, k2.2, .inl rfl, .inl rfl⟩ | exact ⟨rfl, rfl, .inl rfl, .inl rfl⟩ | exact ⟨rfl, rfl, .inr ⟨_, rfl⟩, .inl rfl⟩ | (split; exact ⟨rfl, rfl, .inl rfl, .inl rfl⟩; exact ⟨rfl, rfl, .inl rfl, .inl rfl⟩) | (cases inp; exact ⟨rfl, rfl, .inl rfl, .inl rfl⟩; exact ⟨rfl, rfl, .inl rfl, .inr ⟨_, rfl⟩⟩)
  rw [if_neg c]; clear c
  exact ⟨rfl, rfl, .inl rfl, .inl rfl⟩
theorem end_keeps (r : Ran) : (endM r).S.steps = r.S.steps ∧ (endM r).S.code = r.S.code ∧ (endM r).out = r.out ∧ (endM r).inp = r.inp := by
  unfold endM
  split <;> exact ⟨rfl, rfl, rfl, rfl⟩
theorem step_keeps (m : Nat → Int) (S : Cpu) (inp out : List Int) (h : S.ended = 0) : (stepM m S inp out).S.steps = S.steps + 1 ∧ (stepM m S inp out).S.code = S.code ∧ ((stepM m S inp out).out = out ∨ ∃ v, (stepM m S inp out).out = out ++ [v]) ∧ ((stepM m S inp out).inp = inp ∨ ∃ v, inp = v :: (stepM m S inp out).inp) := by
  unfold stepM
  rw [if_neg (by simp [h])]
  cases fetchM m S.code S.pc with
  | none => exact ⟨rfl, rfl, .inl rfl, .inl rfl⟩
  | some x =>
    obtain ⟨a1, a2, a3, a4⟩ := end_keeps (doM m { S with steps := S.steps + 1, pc := (S.pc + 4) % 4294967296 } x inp out)
    obtain ⟨b1, b2, b3, b4⟩ := do_keeps m { S with steps := S.steps + 1, pc := (S.pc + 4) % 4294967296 } x inp out
    simp only [a1, a2, a3, a4]
    exact ⟨b1, b2, b3, b4⟩
end Go.Proofs.YtejhnlljddjicaaDoor.Ma
namespace Go.Proofs.YtejhnlljddjicaaDoor.Ma
open Go.RowKit Go.Proofs.YtejhnlljddjicaaDoor.PEm Go.Proofs.YtejhnlljddjicaaDoorW.PrintWords Go.Proofs.YtejhnlljddjicaaDoorW.PrintLast Go.Proofs.YtejhnlljddjicaaDoorW.PrintMore Go.Proofs.YtejhnlljddjicaaDoor.La Go.Proofs.YtejhnlljddjicaaDoor.Ea
set_option linter.unusedVariables false
set_option linter.unusedSimpArgs false
variable {w w' : World} {c pg : Nat} {ps ps' : Pages} {S S' : Cpu} {inp out inp' out' : List Int}
set_option maxHeartbeats 4000000 in
set_option maxRecDepth 100000 in
theorem run_no (w : World) (A : Option Addr) (k : Nat) (bs : List Int) (code entry : Int) (iv : Value) (fuel : Int) (hC : Kd.C (Kd.int .u8) w A bs.length bs) (hk : bs.length ≤ k) (ho : ¬ okImg bs.length code entry) :
    Calls Tryd.prog 8 #[.agg #[.slice A bs.length k, .int .i64 code, .int .i64 entry], iv, .int .i64 fuel] w fun e w' => e = .returned (.tuple #[.agg #[.int .i64 0, .int .i64 0, .slice none 0 0, .int .i64 0], .int .i64 2]) ∧ Below w.heap.size w w' := by
  have HO := Aside0.mk ho
  clear ho
  have B1 := Aside0.mk (show Below w.heap.size w ((w.alloc (.cells #[.slice A bs.length k, .int .i64 code, .int .i64 entry] 24)).alloc (.cells #[.int .i64 0, .int .i64 0, .slice none 0 0, .int .i64 0] 27)) from below_alloc (below_alloc (Below.refl _ _) _) _)
  have R3 := Aside0.mk (show ((w.alloc (.cells #[.slice A bs.length k, .int .i64 code, .int .i64 entry] 24)).alloc (.cells #[.int .i64 0, .int .i64 0, .slice none 0 0, .int .i64 0] 27)).heap[w.heap.size]? = some (.cells #[.slice A bs.length k, .int .i64 code, .int .i64 entry] 24 (0, 0)) from blk_alloc (heap_at _ _ _ rfl) _)
  have R6 := Aside0.mk (show ((w.alloc (.cells #[.slice A bs.length k, .int .i64 code, .int .i64 entry] 24)).alloc (.cells #[.int .i64 0, .int .i64 0, .slice none 0 0, .int .i64 0] 27)).heap[w.heap.size + 1]? = some (.cells #[.int .i64 0, .int .i64 0, .slice none 0 0, .int .i64 0] 27 (0, 0)) from heap_at _ _ _ (by simp))
  have HC := Aside0.mk hC
  have HK := Aside0.mk hk
  have G6 := Aside0.mk (show w.heap.size ≤ w.heap.size + 1 by omega)
  clear hC hk
  go_enter Tryd.func8, Tryd.ntmps8
  go_upto_region 1 with (fail)
  generalize (w.alloc (.cells #[.slice A bs.length k, .int .i64 code, .int .i64 entry] 24)).alloc (.cells #[.int .i64 0, .int .i64 0, .slice none 0 0, .int .i64 0] 27) = W1 at B1 R3 R6 ⊢
  generalize hg6 : w.heap.size + 1 = g6 at R6 G6 ⊢
  generalize hg3 : w.heap.size = g3 at R3 ⊢
  clear hg6
  have c0 := (blk_cell R3.out 0).trans rfl
  have c1 := (blk_cell R3.out 1).trans rfl
  have c2 := (blk_cell R3.out 2).trans rfl
  go_wp2_with (first | (go_at_call 15; refine (new_no _ A k bs code entry iv (Kd.C_below HC.out B1.out) HK.out HO.out).mono ?_; rintro e Y ⟨rfl, hb⟩; have BB := Aside0.mk (pm_chain B1.out hb); have R7 := Aside0.mk (blk_below R6.out hb); clear hb) | (refine wpList_store_row rfl 27 _ _ rfl g6 _ rfl rfl 27 _ (R7.out) (by as_aux_lemma => kernel_rfl) (by as_aux_lemma => kernel_rfl) (by as_aux_lemma => kernel_rfl) ?_))
  (try simp only [Exit.inBlock, Exit.then])
  refine bodyPost_ret (results_cell2 (p := 6) (q := 7) (ty := 27) rfl _ _ _ _ ⟨g6, 0, none⟩ _ _ (by rfl) (run_loadVar_row _ g6 27 27 _ (0, 0) _ (setRow_heap _ _ _ _ _ _ (R7.out)) Tryd.underlying27 (by rfl) (by kernel_rfl)) (by rfl)) rfl ?_
  exact ⟨rfl, below_setRow BB.out (by have := G6.out; omega) _⟩
/-- A run's beginning. -/
def startR (bs : List Int) (code entry : Int) (inp : List Int) : Ran := ⟨.nilIface, ⟨code, entry, List.replicate 15 0 ++ [8388608], 0, .nilIface, .nilIface, 0, 0⟩, laidF (fun _ => 0) 4096 bs, inp, []⟩
def stopOf (r : Ran) : Int := if r.S.ended ≠ 0 then r.S.ended else 4
set_option maxHeartbeats 4000000 in
set_option maxRecDepth 100000 in
theorem run_fuel (w : World) (A : Option Addr) (k : Nat) (bs : List Int) (code entry : Int) (Ai : Option Addr) (ki : Nat) (inp : List Int) (fuel : Int) (hC : Kd.C (Kd.int .u8) w A bs.length bs) (hk : bs.length ≤ k) (ho : okImg bs.length code entry)
    (hx : ∀ b ∈ bs, 0 ≤ b ∧ b < 256) (hCi : Kd.C (Kd.int .u8) w Ai inp.length inp) (hi : inp.length ≤ 140737488355328) (hf : fuel < 1 ∨ fuel > 4194304) :
    Calls Tryd.prog 8 #[.agg #[.slice A bs.length k, .int .i64 code, .int .i64 entry], .slice Ai inp.length ki, .int .i64 fuel] w fun e w' => e = .returned (.tuple #[.agg #[.int .i64 0, .int .i64 0, .slice none 0 0, .int .i64 0], .int .i64 2]) ∧ Below w.heap.size w w' := by
  have HO := Aside0.mk ho
  have HX := Aside0.mk hx
  have HCI := Aside0.mk hCi
  have HI := Aside0.mk hi
  by_cases h1 : fuel < 1
  · clear ho hx hCi hi hf
    have B1 := Aside0.mk (show Below w.heap.size w ((w.alloc (.cells #[.slice A bs.length k, .int .i64 code, .int .i64 entry] 24)).alloc (.cells #[.int .i64 0, .int .i64 0, .slice none 0 0, .int .i64 0] 27)) from below_alloc (below_alloc (Below.refl _ _) _) _)
    have R3 := Aside0.mk (show ((w.alloc (.cells #[.slice A bs.length k, .int .i64 code, .int .i64 entry] 24)).alloc (.cells #[.int .i64 0, .int .i64 0, .slice none 0 0, .int .i64 0] 27)).heap[w.heap.size]? = some (.cells #[.slice A bs.length k, .int .i64 code, .int .i64 entry] 24 (0, 0)) from blk_alloc (heap_at _ _ _ rfl) _)
    have R6 := Aside0.mk (show ((w.alloc (.cells #[.slice A bs.length k, .int .i64 code, .int .i64 entry] 24)).alloc (.cells #[.int .i64 0, .int .i64 0, .slice none 0 0, .int .i64 0] 27)).heap[w.heap.size + 1]? = some (.cells #[.int .i64 0, .int .i64 0, .slice none 0 0, .int .i64 0] 27 (0, 0)) from heap_at _ _ _ (by simp))
    have HC := Aside0.mk hC
    have HK := Aside0.mk hk
    have G6 := Aside0.mk (show w.heap.size ≤ w.heap.size + 1 by omega)
    clear hC hk
    go_enter Tryd.func8, Tryd.ntmps8
    go_upto_region 1 with (fail)
    generalize (w.alloc (.cells #[.slice A bs.length k, .int .i64 code, .int .i64 entry] 24)).alloc (.cells #[.int .i64 0, .int .i64 0, .slice none 0 0, .int .i64 0] 27) = W1 at B1 R3 R6 ⊢
    generalize hg6 : w.heap.size + 1 = g6 at R6 G6 ⊢
    generalize hg3 : w.heap.size = g3 at R3 ⊢
    clear hg6
    have c0 := (blk_cell R3.out 0).trans rfl
    have c1 := (blk_cell R3.out 1).trans rfl
    have c2 := (blk_cell R3.out 2).trans rfl
    go_wp2_with (first | (go_at_call 15; refine (new_yes _ A k bs code entry Ai ki inp (Kd.C_below HC.out B1.out) HK.out HO.out HX.out (Kd.C_below HCI.out B1.out) HI.out).mono ?_; rintro e Y ⟨c, pg, ps, S, rfl, hem, hb, hfo, hS, hby⟩; have BB := Aside0.mk (pm_chain B1.out hb); have R7 := Aside0.mk (blk_below R6.out hb); clear hem hb hfo hS hby) | (refine wpList_store_row rfl 27 _ _ rfl g6 _ rfl rfl 27 _ (R7.out) (by as_aux_lemma => kernel_rfl) (by as_aux_lemma => kernel_rfl) (by as_aux_lemma => kernel_rfl) ?_))
    (try simp only [Exit.inBlock, Exit.then])
    refine bodyPost_ret (results_cell2 (p := 6) (q := 7) (ty := 27) rfl _ _ _ _ ⟨g6, 0, none⟩ _ _ (by rfl) (run_loadVar_row _ g6 27 27 _ (0, 0) _ (setRow_heap _ _ _ _ _ _ (R7.out)) Tryd.underlying27 (by rfl) (by kernel_rfl)) (by rfl)) rfl ?_
    exact ⟨rfl, below_setRow BB.out (by have := G6.out; omega) _⟩
  · have h2 : fuel > 4194304 := by omega
    clear ho hx hCi hi hf
    have B1 := Aside0.mk (show Below w.heap.size w ((w.alloc (.cells #[.slice A bs.length k, .int .i64 code, .int .i64 entry] 24)).alloc (.cells #[.int .i64 0, .int .i64 0, .slice none 0 0, .int .i64 0] 27)) from below_alloc (below_alloc (Below.refl _ _) _) _)
    have R3 := Aside0.mk (show ((w.alloc (.cells #[.slice A bs.length k, .int .i64 code, .int .i64 entry] 24)).alloc (.cells #[.int .i64 0, .int .i64 0, .slice none 0 0, .int .i64 0] 27)).heap[w.heap.size]? = some (.cells #[.slice A bs.length k, .int .i64 code, .int .i64 entry] 24 (0, 0)) from blk_alloc (heap_at _ _ _ rfl) _)
    have R6 := Aside0.mk (show ((w.alloc (.cells #[.slice A bs.length k, .int .i64 code, .int .i64 entry] 24)).alloc (.cells #[.int .i64 0, .int .i64 0, .slice none 0 0, .int .i64 0] 27)).heap[w.heap.size + 1]? = some (.cells #[.int .i64 0, .int .i64 0, .slice none 0 0, .int .i64 0] 27 (0, 0)) from heap_at _ _ _ (by simp))
    have HC := Aside0.mk hC
    have HK := Aside0.mk hk
    have G6 := Aside0.mk (show w.heap.size ≤ w.heap.size + 1 by omega)
    clear hC hk
    go_enter Tryd.func8, Tryd.ntmps8
    go_upto_region 1 with (fail)
    generalize (w.alloc (.cells #[.slice A bs.length k, .int .i64 code, .int .i64 entry] 24)).alloc (.cells #[.int .i64 0, .int .i64 0, .slice none 0 0, .int .i64 0] 27) = W1 at B1 R3 R6 ⊢
    generalize hg6 : w.heap.size + 1 = g6 at R6 G6 ⊢
    generalize hg3 : w.heap.size = g3 at R3 ⊢
    clear hg6
    have c0 := (blk_cell R3.out 0).trans rfl
    have c1 := (blk_cell R3.out 1).trans rfl
    have c2 := (blk_cell R3.out 2).trans rfl
    go_wp2_with (first | (go_at_call 15; refine (new_yes _ A k bs code entry Ai ki inp (Kd.C_below HC.out B1.out) HK.out HO.out HX.out (Kd.C_below HCI.out B1.out) HI.out).mono ?_; rintro e Y ⟨c, pg, ps, S, rfl, hem, hb, hfo, hS, hby⟩; have BB := Aside0.mk (pm_chain B1.out hb); have R7 := Aside0.mk (blk_below R6.out hb); clear hem hb hfo hS hby) | (refine wpList_store_row rfl 27 _ _ rfl g6 _ rfl rfl 27 _ (R7.out) (by as_aux_lemma => kernel_rfl) (by as_aux_lemma => kernel_rfl) (by as_aux_lemma => kernel_rfl) ?_))
    (try simp only [Exit.inBlock, Exit.then])
    refine bodyPost_ret (results_cell2 (p := 6) (q := 7) (ty := 27) rfl _ _ _ _ ⟨g6, 0, none⟩ _ _ (by rfl) (run_loadVar_row _ g6 27 27 _ (0, 0) _ (setRow_heap _ _ _ _ _ _ (R7.out)) Tryd.underlying27 (by rfl) (by kernel_rfl)) (by rfl)) rfl ?_
    exact ⟨rfl, below_setRow BB.out (by have := G6.out; omega) _⟩
end Go.Proofs.YtejhnlljddjicaaDoor.Ma
namespace Go.Proofs.YtejhnlljddjicaaDoor.Ma
open Go.RowKit Go.Proofs.YtejhnlljddjicaaDoor.PEm Go.Proofs.YtejhnlljddjicaaDoorW.PrintWords Go.Proofs.YtejhnlljddjicaaDoorW.PrintLast Go.Proofs.YtejhnlljddjicaaDoorW.PrintMore Go.Proofs.YtejhnlljddjicaaDoor.La Go.Proofs.YtejhnlljddjicaaDoor.Ea
set_option linter.unusedVariables false
set_option linter.unusedSimpArgs false
variable {w w' : World} {c pg : Nat} {ps ps' : Pages} {S S' : Cpu} {inp out inp' out' : List Int}
theorem R_row {W : World} {base b2 g : Nat} {v : Value} {xs : List Int} (hV : Kd.R (Kd.int .u8) 5 W base (fun _ => True) v xs) (hg : g < base) (hb : b2 ≤ base) (cs : Array Value) : Kd.R (Kd.int .u8) 5 (W.setRow g cs) b2 (fun _ => True) v xs :=
  Kd.R_mono (Kd.R_lower (Kd.R_step (Kd.R_tight rfl hV) (fun k hk _ => setRow_other W g k cs (by have := Kd.R_base hV k hk.symm; omega))) hb) (fun _ _ => trivial)
/-- A step, as the pure machine has it. -/
theorem step_q {r : Ran} {a b : Value} (h : EM w c pg ps (reV r.S a b) r.inp r.out) (hm : byteAt ps = r.m) (hh : Held w) (h0 : 0 ∉ foot c pg ps (reV r.S a b)) (hst : 0 ≤ r.S.steps ∧ r.S.steps < 4611686018427387904) (hin : ∀ v ∈ r.inp, 0 ≤ v ∧ v < 256) (hout : r.out.length + 1 ≤ 140737488355328) :
    Calls Tryd.prog 16 #[.pointer (some ⟨c, 0, none⟩)] w fun e w' => e = .returned (.int .i64 (stepM r.m r.S r.inp r.out).S.ended) ∧ ∃ iv ov ps', Did w w' c pg ps (reV r.S a b) ps' (reV (stepM r.m r.S r.inp r.out).S iv ov) (stepM r.m r.S r.inp r.out).inp (stepM r.m r.S r.inp r.out).out ∧ byteAt ps' = (stepM r.m r.S r.inp r.out).m := by
  have e : stepF ps (reV r.S a b) r.inp r.out = (stepM r.m r.S r.inp r.out).reV a b := by rw [step_m, hm, step_v]
  refine (Step_calls h hh h0 hst hin hout).mono ?_
  rintro e' w' ⟨rfl, hd⟩
  rw [e] at hd ⊢
  obtain ⟨iv, ov, ps', D, hb⟩ := hd
  exact ⟨rfl, iv, ov, ps', D, funext hb⟩
theorem run_still (n : Nat) (r : Ran) (h : r.S.ended ≠ 0) : runM n r = r := by
  cases n with
  | zero => rfl
  | succ n => unfold runM; rw [if_pos h]
set_option maxHeartbeats 4000000 in
set_option maxRecDepth 100000 in
theorem run_yes (w : World) (hh : Held w) (A : Option Addr) (k : Nat) (bs : List Int) (code entry : Int) (Ai : Option Addr) (ki : Nat) (inp : List Int) (F : Nat) (hC : Kd.C (Kd.int .u8) w A bs.length bs) (hk : bs.length ≤ k) (ho : okImg bs.length code entry)
    (hx : ∀ b ∈ bs, 0 ≤ b ∧ b < 256) (hCi : Kd.C (Kd.int .u8) w Ai inp.length inp) (hi : inp.length ≤ 140737488355328) (hxi : ∀ b ∈ inp, 0 ≤ b ∧ b < 256) (hf : 1 ≤ F ∧ F ≤ 4194304) :
    Calls Tryd.prog 8 #[.agg #[.slice A bs.length k, .int .i64 code, .int .i64 entry], .slice Ai inp.length ki, .int .i64 F] w fun e w' => ∃ v, e = .returned (.tuple #[.agg #[.int .i64 (stopOf (runM F (startR bs code entry inp))), .int .i64 (runM F (startR bs code entry inp)).S.exit, v, .int .i64 (runM F (startR bs code entry inp)).S.steps], .int .i64 0]) ∧ Kd.R (Kd.int .u8) 5 w' w.heap.size (fun _ => True) v (runM F (startR bs code entry inp)).out ∧ Below w.heap.size w w' := by
  obtain ⟨RR, hRR⟩ : ∃ RR, runM F (startR bs code entry inp) = RR := ⟨_, rfl⟩
  rw [hRR]
  have HRR := Aside0.mk hRR
  have HO := Aside0.mk ho
  have HX := Aside0.mk hx
  have HCI := Aside0.mk hCi
  have HI := Aside0.mk hi
  have HXI := Aside0.mk hxi
  have HH := Aside0.mk hh
  have HF := Aside0.mk hf
  have f1 : ¬ ((F : Int) < 1) := by omega
  have f2 : ¬ ((F : Int) > 4194304) := by omega
  clear ho hx hCi hi hxi hh hf hRR
  have B1 := Aside0.mk (show Below w.heap.size w ((w.alloc (.cells #[.slice A bs.length k, .int .i64 code, .int .i64 entry] 24)).alloc (.cells #[.int .i64 0, .int .i64 0, .slice none 0 0, .int .i64 0] 27)) from below_alloc (below_alloc (Below.refl _ _) _) _)
  have R3 := Aside0.mk (show ((w.alloc (.cells #[.slice A bs.length k, .int .i64 code, .int .i64 entry] 24)).alloc (.cells #[.int .i64 0, .int .i64 0, .slice none 0 0, .int .i64 0] 27)).heap[w.heap.size]? = some (.cells #[.slice A bs.length k, .int .i64 code, .int .i64 entry] 24 (0, 0)) from blk_alloc (heap_at _ _ _ rfl) _)
  have R6 := Aside0.mk (show ((w.alloc (.cells #[.slice A bs.length k, .int .i64 code, .int .i64 entry] 24)).alloc (.cells #[.int .i64 0, .int .i64 0, .slice none 0 0, .int .i64 0] 27)).heap[w.heap.size + 1]? = some (.cells #[.int .i64 0, .int .i64 0, .slice none 0 0, .int .i64 0] 27 (0, 0)) from heap_at _ _ _ (by simp))
  have HC := Aside0.mk hC
  have HK := Aside0.mk hk
  have G6 := Aside0.mk (show w.heap.size ≤ w.heap.size + 1 by omega)
  clear hC hk
  go_enter Tryd.func8, Tryd.ntmps8
  go_upto_region 1 with (fail)
  generalize (w.alloc (.cells #[.slice A bs.length k, .int .i64 code, .int .i64 entry] 24)).alloc (.cells #[.int .i64 0, .int .i64 0, .slice none 0 0, .int .i64 0] 27) = W1 at B1 R3 R6 ⊢
  generalize hg6 : w.heap.size + 1 = g6 at R6 G6 ⊢
  generalize hg3 : w.heap.size = g3 at R3 ⊢
  clear hg6
  have c0 := (blk_cell R3.out 0).trans rfl
  have c1 := (blk_cell R3.out 1).trans rfl
  have c2 := (blk_cell R3.out 2).trans rfl
  have HG3 := Aside0.mk hg3
  go_upto_region 6 with (first | (go_at_call 15; refine (new_yes _ A k bs code entry Ai ki inp (Kd.C_below HC.out B1.out) HK.out HO.out HX.out (Kd.C_below HCI.out B1.out) HI.out).mono ?_; rintro e Y ⟨c, pg, ps, S, rfl, hem, hb, hfo, hS, hby⟩; have BB := Aside0.mk (pm_chain B1.out hb); have R7 := Aside0.mk (blk_below R6.out hb)))
  clear c0 c1 c2 f1 f2
  have Y0 := Aside0.mk hem
  have YF := Aside0.mk hfo
  have YS := Aside0.mk hS
  have YB := Aside0.mk hby
  have Bb := Aside0.mk hb
  clear hem hfo hS hby hb
  have L6 := Aside0.mk (lt_of_at R6.out)
  have HW1 := Aside0.mk (held_below HH.out B1.out)
  go_wp2_with (fail)
  go_loopg [31] F (fun kq v31 wr => ∃ (j : Nat) (r : Ran) (psj : Pages) (a b : Value), j + kq = F ∧ v31 = .int .i64 (j : Int) ∧ Aside0 (EM wr c pg psj (reV r.S a b) r.inp r.out) ∧ Aside0 (Below W1.heap.size W1 wr) ∧ Aside0 (∀ i ∈ foot c pg psj (reV r.S a b), W1.heap.size ≤ i) ∧ Aside0 (byteAt psj = r.m) ∧ Aside0 (r.S.ended = 0 ∧ r.S.steps = j ∧ r.out.length ≤ j) ∧ Aside0 (∀ v ∈ r.inp, 0 ≤ v ∧ v < 256) ∧ Aside0 (runM kq r = RR))
  case atStart =>
    obtain ⟨iv, hiv⟩ := YS.out
    subst hiv
    exact ⟨0, startR bs code entry inp, ps, iv, .slice none 0 0, by omega, rfl, ⟨Y0.out⟩, ⟨Bb.out⟩, ⟨YF.out⟩, ⟨funext YB.out⟩, ⟨rfl, rfl, Nat.le_refl 0⟩, ⟨HXI.out⟩, ⟨HRR.out⟩⟩
  case round =>
    obtain ⟨j, r, psj, a, b, hj, rfl, HE, HB, HFO, HM, HS, HIN, HRJ⟩ := hrel
    have HWr := Aside0.mk (held_below HW1.out HB.out)
    have H00 := Aside0.mk (show 0 ∉ foot c pg psj (reV r.S a b) from fun h => by have := HFO.out 0 h; have := L6.out; omega)
    have R8 := Aside0.mk (blk_below R6.out HB.out)
    by_cases hlt : j < F
    · have hlt2 : (j : Int) < (F : Int) := by omega
      have HJ := Aside0.mk (And.intro hj hlt)
      have hw4 : IntKind.i64.wrap ((j : Int) + 1) = ((j + 1 : Nat) : Int) := by rw [IntWalk.i64_in _ (by have := HF.out; omega)]; omega
      clear hj hlt
      obtain ⟨q, hq⟩ : ∃ q, q = stepM r.m r.S r.inp r.out := ⟨_, rfl⟩
      have STEP := Aside0.mk (step_q HE.out HM.out HWr.out H00.out (by have := HS.out.2.1; have := HJ.out; have := HF.out; omega) HIN.out (by have := HS.out.2.2; have := HJ.out; have := HF.out; omega))
      rw [← hq] at STEP
      have KEEP := Aside0.mk (step_keeps r.m r.S r.inp r.out HS.out.1)
      rw [← hq] at KEEP
      have HQ := Aside0.mk hq
      clear hq
      have HLQ := Aside0.mk (show q.out.length ≤ j + 1 by
        have := HS.out.2.2
        rcases KEEP.out.2.2.1 with e | ⟨v, e⟩ <;> rw [e] <;> simp <;> omega)
      have HRQ := Aside0.mk (show runM (gk - 1) q = RR by
        have h1 := HRJ.out
        have h2 := HJ.out
        obtain ⟨g', hg'⟩ : ∃ g', gk = g' + 1 := ⟨gk - 1, by omega⟩
        rw [hg'] at h1 ⊢
        unfold runM at h1
        rw [if_neg (by simp [HS.out.1])] at h1
        rw [HQ.out]; exact h1)
      by_cases hz : q.S.ended = 0
      · have HZ := Aside0.mk hz
        clear hz
        go_wp2_with (first | (go_at_call 16; refine STEP.out.mono ?_; rintro e W5 ⟨rfl, hd5⟩; rw [HZ.out]))
        obtain ⟨iv, ov, ps', D, hb5⟩ := hd5
        go_roundg (F - (j + 1))
        case measure => have := HJ.out; omega
        case rel =>
          have h1 := HJ.out
          refine ⟨j + 1, q, ps', iv, ov, by omega, by simp, ⟨D.em⟩, ⟨HB.out.trans (D.ext.below_of HB.out.size (fun i hi => HFO.out i hi))⟩, ⟨fun i hi => ?_⟩, ⟨hb5⟩, ⟨HZ.out, ?_, HLQ.out⟩, ⟨fun v hv => ?_⟩, ⟨?_⟩⟩
          · rcases D.new i hi with h5 | h5
            · exact HFO.out i h5
            · exact Nat.le_trans HB.out.size h5
          · rw [KEEP.out.1, HS.out.2.1]; simp
          · rcases KEEP.out.2.2.2 with e | ⟨u, e⟩
            · rw [e] at hv; exact HIN.out v hv
            · exact HIN.out v (by rw [e]; exact List.mem_cons_of_mem _ hv)
          · have := HRQ.out
            rw [show gk - 1 = F - (j + 1) by omega] at this
            exact this
      · have HZ := Aside0.mk hz
        have RQ := Aside0.mk (show RR = q from (HRQ.out.symm.trans (run_still _ _ hz)))
        go_wp2_with (first | (go_at_call 16; refine STEP.out.mono ?_; rintro e W5 ⟨rfl, iv, ov, ps', D, hb5⟩; have D5 := Aside0.mk D; clear D hb5) | (go_at_call 20; refine (outcome_calls D5.out.em (by have := HLQ.out; have := HJ.out; have := HF.out; omega)).mono ?_; rintro e W6 ⟨v, rfl, hV, hb6⟩; obtain ⟨A2, k2, rfl⟩ := Kd.R_slice hV; have B6 := Aside0.mk ((HB.out.trans (D5.out.ext.below_of HB.out.size (fun i hi => HFO.out i hi))).trans (hb6.mono (Nat.le_trans HB.out.size D5.out.ext.size))); have R9 := Aside0.mk (blk_below R6.out B6.out); have HV := Aside0.mk hV; clear hV hb6) | (refine wpList_store_row rfl 27 _ _ rfl g6 _ rfl rfl 27 _ (R9.out) (by as_aux_lemma => kernel_rfl) (by as_aux_lemma => kernel_rfl) (by as_aux_lemma => kernel_rfl) ?_))
        (try simp only [Exit.inBlock, Exit.then])
        refine bodyPost_ret (results_cell2 (p := 6) (q := 7) (ty := 27) rfl _ _ _ _ ⟨g6, 0, none⟩ _ _ (by rfl) (run_loadVar_row _ g6 27 27 _ (0, 0) _ (setRow_heap _ _ _ _ _ _ (R9.out)) Tryd.underlying27 (by rfl) (by kernel_rfl)) (by rfl)) rfl ?_
        rw [RQ.out]
        have hs : stopOf q = q.S.ended := by unfold stopOf; rw [if_pos hz]
        refine ⟨.slice A2 q.out.length k2, by rw [hs]; rfl, R_row HV.out (by have := L6.out; have := HB.out.size; have := D5.out.ext.size; omega) (by have := B1.out.size; have := HB.out.size; have := D5.out.ext.size; omega) _, below_setRow (pm_chain B1.out B6.out) (by have := G6.out; have := HG3.out; omega) _⟩
    · have hj2 : j = F := by omega
      subst hj2
      have hk0 : gk = 0 := by omega
      have RQ := Aside0.mk (show RR = r by have := HRJ.out; rw [hk0] at this; exact this.symm)
      clear hlt hj hk0
      go_upto_region 12 with (first | (go_at_call 20; refine (outcome_calls HE.out (by have := HS.out.2.2; have := HF.out; omega)).mono ?_; rintro e W6 ⟨v, rfl, hV, hb6⟩; obtain ⟨A2, k2, rfl⟩ := Kd.R_slice hV; have B6 := Aside0.mk (HB.out.trans (hb6.mono HB.out.size)); have HV := Aside0.mk hV; have HN6 := Aside0.mk hb6.size; clear hV hb6))
      have e0 : (reV r.S a b).ended = 0 := HS.out.1
      rw [e0]
      clear e0
      have R10 := Aside0.mk (show (W6.alloc (.cells #[.int .i64 0, .int .i64 (reV r.S a b).exit, .slice A2 r.out.length k2, .int .i64 (reV r.S a b).steps] 27)).heap[W6.heap.size]? = some (.cells #[.int .i64 0, .int .i64 (reV r.S a b).exit, .slice A2 r.out.length k2, .int .i64 (reV r.S a b).steps] 27 (0, 0)) from heap_at _ _ _ rfl)
      have B7 := Aside0.mk (below_alloc B6.out (.cells #[.int .i64 0, .int .i64 (reV r.S a b).exit, .slice A2 r.out.length k2, .int .i64 (reV r.S a b).steps] 27))
      have V7 := Aside0.mk (Kd.R_alloc HV.out (.cells #[.int .i64 0, .int .i64 (reV r.S a b).exit, .slice A2 r.out.length k2, .int .i64 (reV r.S a b).steps] 27))
      have G10 := Aside0.mk (show W1.heap.size ≤ W6.heap.size from B6.out.size)
      have N10 := Aside0.mk (show ∀ q, some q = (Value.slice A2 r.out.length k2).ownBlock → q ≠ W6.heap.size from fun q hq e => by have := Kd.R_lt HV.out q hq.symm; omega)
      generalize W6.alloc (.cells #[.int .i64 0, .int .i64 (reV r.S a b).exit, .slice A2 r.out.length k2, .int .i64 (reV r.S a b).steps] 27) = W7 at R10 B7 V7 ⊢
      clear HV
      generalize W6.heap.size = g10 at R10 G10 N10 ⊢
      have d0 := (blk_cell R10.out 0).trans rfl
      have z0 := blk_frozen R10.out 0
      go_upto_region 13 with (fail)
      have R11 := Aside0.mk (show (W7.setCell ⟨g10, 0, none⟩ (.int .i64 4)).heap[g10]? = some (.cells #[.int .i64 4, .int .i64 (reV r.S a b).exit, .slice A2 r.out.length k2, .int .i64 (reV r.S a b).steps] 27 (0, 0)) from blk_set R10.out 0 _)
      have B8 := Aside0.mk (B7.out.setCell (p := ⟨g10, 0, none⟩) G10.out (.int .i64 4))
      have V8 := Aside0.mk (Kd.R_mono (ok' := fun _ => True) (Kd.R_far (p := ⟨g10, 0, none⟩) (Kd.R_tight rfl V7.out) N10.out (.int .i64 4)) (fun _ _ => trivial))
      clear d0 z0 R10 B7 V7
      generalize W7.setCell ⟨g10, 0, none⟩ (.int .i64 4) = W8 at R11 B8 V8 ⊢
      have R12 := Aside0.mk (blk_below R6.out B8.out)
      have d0 := (blk_cell R11.out 0).trans rfl
      have d1 := (blk_cell R11.out 1).trans rfl
      have d2 := (blk_cell R11.out 2).trans rfl
      have d3 := (blk_cell R11.out 3).trans rfl
      go_wp2_with (first | (refine wpList_store_row rfl 27 _ _ rfl g6 _ rfl rfl 27 _ (R12.out) (by as_aux_lemma => kernel_rfl) (by as_aux_lemma => kernel_rfl) (by as_aux_lemma => kernel_rfl) ?_))
      (try simp only [Exit.inBlock, Exit.then])
      refine bodyPost_ret (results_cell2 (p := 6) (q := 7) (ty := 27) rfl _ _ _ _ ⟨g6, 0, none⟩ _ _ (by rfl) (run_loadVar_row _ g6 27 27 _ (0, 0) _ (setRow_heap _ _ _ _ _ _ (R12.out)) Tryd.underlying27 (by rfl) (by kernel_rfl)) (by rfl)) rfl ?_
      rw [RQ.out]
      have hs : stopOf r = 4 := by unfold stopOf; rw [if_neg (by simp [HS.out.1])]
      refine ⟨.slice A2 r.out.length k2, by rw [hs]; rfl, R_row V8.out (by have := L6.out; have := HB.out.size; omega) (by have := B1.out.size; have := HB.out.size; omega) _, below_setRow (pm_chain B1.out B8.out) (by have := G6.out; have := HG3.out; omega) _⟩
end Go.Proofs.YtejhnlljddjicaaDoor.Ma
