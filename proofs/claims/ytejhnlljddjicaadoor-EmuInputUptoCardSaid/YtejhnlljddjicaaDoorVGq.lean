/- EmuInput's walk. No condition beyond those each theorem names. And more of the kind: 2 texts in one. -/
import Derived.Test.YtejhnlljddjicaaDoorVGk
import Derived.Test.YtejhnlljddjicaaDoorVGl
namespace Go.Proofs.YtejhnlljddjicaaDoor.Ma
open Go.RowKit Go.Proofs.YtejhnlljddjicaaDoor.PEm Go.Proofs.YtejhnlljddjicaaDoorW.PrintWords Go.Proofs.YtejhnlljddjicaaDoorW.PrintLast Go.Proofs.YtejhnlljddjicaaDoorW.PrintMore Go.Proofs.YtejhnlljddjicaaDoor.La Go.Proofs.YtejhnlljddjicaaDoor.Ea
set_option linter.unusedVariables false
set_option linter.unusedSimpArgs false
variable {w w' : World} {c pg : Nat} {ps ps' : Pages} {S S' : Cpu} {inp out inp' out' : List Int}
set_option maxHeartbeats 4000000 in
set_option maxRecDepth 100000 in
theorem input_no (w : World) (hh : Held w) (A : Option Addr) (k : Nat) (bs : List Int) (code entry : Int) (iv mv fv : Value) (hC : Kd.C (Kd.int .u8) w A bs.length bs) (hk : bs.length ≤ k) (hr : ∀ W, Below w.heap.size w W → Refused W (.agg #[.slice A bs.length k, .int .i64 code, .int .i64 entry]) iv fv) :
    Calls Tryd.prog 6 #[.agg #[.slice A bs.length k, .int .i64 code, .int .i64 entry], iv, mv, fv] w fun e w' => e = .returned (.bool true) ∧ Below w.heap.size w w' := by
  have HR := Aside0.mk hr
  clear hr
  have B1 := Aside0.mk (show Below w.heap.size w (w.alloc (.cells #[.slice A bs.length k, .int .i64 code, .int .i64 entry] 24)) from below_alloc (Below.refl _ _) _)
  have R2 := Aside0.mk (show (w.alloc (.cells #[.slice A bs.length k, .int .i64 code, .int .i64 entry] 24)).heap[w.heap.size]? = some (.cells #[.slice A bs.length k, .int .i64 code, .int .i64 entry] 24 (0, 0)) from heap_at _ _ _ rfl)
  have HC := Aside0.mk hC
  have HK := Aside0.mk hk
  have HH := Aside0.mk hh
  clear hC hk hh
  go_enter Tryd.func6, Tryd.ntmps6
  go_upto_region 1 with (fail)
  generalize w.alloc (.cells #[.slice A bs.length k, .int .i64 code, .int .i64 entry] 24) = W1 at B1 R2 ⊢
  generalize hg2 : w.heap.size = g2 at R2 ⊢
  have HH1 := Aside0.mk (held_below HH.out B1.out)
  have c0 := (blk_cell R2.out 0).trans rfl
  have c1 := (blk_cell R2.out 1).trans rfl
  have c2 := (blk_cell R2.out 2).trans rfl
  go_wp2_with (first | (go_at_call 8; refine (HR.out _ B1.out).mono ?_; rintro e Y ⟨rfl, hb⟩; have BB := Aside0.mk (below_alloc (pm_chain B1.out hb) (.cells #[.int .i64 0, .int .i64 0, .slice none 0 0, .int .i64 0] 27)); clear hb) | (go_at_call 14; refine (heads_calls _ (held_below HH.out BB.out)).mono ?_; rintro e Y3 ⟨rfl, hb3⟩; have B6 := Aside0.mk (pm_chain BB.out hb3)))
  go_ret
  exact ⟨rfl, B6.out⟩
theorem state_row (h : EM w c pg ps S inp out) : Calls Tryd.prog 18 #[.pointer (some ⟨c, 0, none⟩)] w fun e w' => (∃ r0 r1 r2 r3 r4 r5 r6 r7 r8 r9 r10 r11 r12 r13 r14 r15 : Int, e = .returned (.agg #[.int .u32 S.pc, .int .u32 r0, .int .u32 r1, .int .u32 r2, .int .u32 r3, .int .u32 r4, .int .u32 r5, .int .u32 r6, .int .u32 r7, .int .u32 r8, .int .u32 r9, .int .u32 r10, .int .u32 r11, .int .u32 r12, .int .u32 r13, .int .u32 r14, .int .u32 r15, .int .i64 S.steps])) ∧ Below w.heap.size w w' := by
  refine (State_calls h).mono ?_
  rintro e w' ⟨rfl, hb⟩
  obtain ⟨r0, r1, r2, r3, r4, r5, r6, r7, r8, r9, r10, r11, r12, r13, r14, r15, hr⟩ := regs16 h.nreg
  unfold stateV
  rw [hr]
  exact ⟨⟨r0, r1, r2, r3, r4, r5, r6, r7, r8, r9, r10, r11, r12, r13, r14, r15, rfl⟩, hb⟩
theorem peek_d (h : EM w c pg ps S inp out) (pc : Int) (hp : 0 ≤ pc ∧ pc < 4294967296) : Calls Tryd.prog 17 #[.pointer (some ⟨c, 0, none⟩), .int .u32 pc, .int .i64 4] w fun e w' => ∃ A n g, e = .returned (.tuple #[.slice A n n, .int .i64 g]) ∧ Below w.heap.size w w' ∧ ((g = 2 ∧ A = none ∧ n = 0 ∧ 8388604 < pc) ∨ (g = 0 ∧ n = 4 ∧ pc ≤ 8388604 ∧ ∃ b, A = some ⟨b, 0, none⟩ ∧ w'.cell? ⟨b, 0, none⟩ = some (.int .u8 (byteAt ps pc.toNat)))) := by
  by_cases hc : pc ≤ 8388604
  · have q := peek_yes h pc.toNat 4 (by decide) (by omega)
    rw [show ((4 : Nat) : Int) = 4 from rfl, show ((pc.toNat : Nat) : Int) = pc by omega] at q
    refine q.mono ?_
    rintro e w' ⟨rfl, hb, hr⟩
    refine ⟨_, 4, 0, rfl, hb, .inr ⟨rfl, rfl, hc, _, rfl, ?_⟩⟩
    rw [blk_cell hr]
    simp [byteRow, memL]
  · refine (peek_no h pc 4 hp (by omega)).mono ?_
    rintro e w' ⟨rfl, rfl⟩
    exact ⟨none, 0, 2, rfl, Below.refl _ _, .inl ⟨rfl, rfl, rfl, by omega⟩⟩
theorem run_ar (w : World) (hh : Held w) (A : Option Addr) (k : Nat) (bs : List Int) (code entry : Int) (Ai : Option Addr) (ki : Nat) (inp : List Int) (F : Nat) (hC : Kd.C (Kd.int .u8) w A bs.length bs) (hk : bs.length ≤ k) (ho : okImg bs.length code entry)
    (hx : ∀ b ∈ bs, 0 ≤ b ∧ b < 256) (hCi : Kd.C (Kd.int .u8) w Ai inp.length inp) (hi : inp.length ≤ 140737488355328) (hxi : ∀ b ∈ inp, 0 ≤ b ∧ b < 256) (hf : 1 ≤ F ∧ F ≤ 4194304) {q : Ran} (hq : runM F (startR bs code entry inp) = q) {a b d : Int} {xs : List Int} (ha : stopOf q = a) (hb : q.S.exit = b) (hxs : q.out = xs) (hd : q.S.steps = d) :
    Calls Tryd.prog 8 #[.agg #[.slice A bs.length k, .int .i64 code, .int .i64 entry], .slice Ai inp.length ki, .int .i64 F] w fun e w' => ∃ A2 k2, e = .returned (.tuple #[.agg #[.int .i64 a, .int .i64 b, .slice A2 xs.length k2, .int .i64 d], .int .i64 0]) ∧ Kd.R (Kd.int .u8) 5 w' w.heap.size (fun _ => True) (.slice A2 xs.length k2) xs ∧ Below w.heap.size w w' := by
  subst ha hb hxs hd
  refine (run_yes w hh A k bs code entry Ai ki inp F hC hk ho hx hCi hi hxi hf).mono ?_
  rintro e w' ⟨v, rfl, hV, hb⟩
  rw [hq] at hV ⊢
  obtain ⟨A2, k2, rfl⟩ := Kd.R_slice hV
  exact ⟨A2, k2, rfl, hV, hb⟩
theorem R_C {A : Option Addr} {l c base : Nat} {xs : List Int} (h : Kd.R (Kd.int .u8) 5 w base (fun _ => True) (.slice A l c) xs) (hl : l = xs.length) : Kd.C (Kd.int .u8) w A xs.length xs := by
  subst hl
  exact (Kd.R_reads' h).2.2
set_option maxHeartbeats 4000000 in
set_option maxRecDepth 100000 in
theorem input_yes (w : World) (hh : Held w) (A : Option Addr) (k : Nat) (bs : List Int) (code entry : Int) (Ai : Option Addr) (ki : Nat) (inp : List Int) (Am : Option Addr) (km : Nat) (more : List Int) (F : Nat) (hC : Kd.C (Kd.int .u8) w A bs.length bs) (hk : bs.length ≤ k) (ho : okImg bs.length code entry)
    (hx : ∀ b ∈ bs, 0 ≤ b ∧ b < 256) (hCi : Kd.C (Kd.int .u8) w Ai inp.length inp) (hi : inp.length + more.length ≤ 140737488355328) (hxi : ∀ b ∈ inp, 0 ≤ b ∧ b < 256) (hCm : Kd.C (Kd.int .u8) w Am more.length more) (hxm : ∀ b ∈ more, 0 ≤ b ∧ b < 256) (hf : 1 ≤ F ∧ F ≤ 4194304) :
    Calls Tryd.prog 6 #[.agg #[.slice A bs.length k, .int .i64 code, .int .i64 entry], .slice Ai inp.length ki, .slice Am more.length km, .int .i64 F] w fun e w' => e = .returned (.bool true) ∧ Below w.heap.size w w' := by
  obtain ⟨st, hst⟩ : ∃ r, startR bs code entry inp = r := ⟨_, rfl⟩
  obtain ⟨r1, hr1⟩ : ∃ r, runM F st = r := ⟨_, rfl⟩
  have Q1 := Aside0.mk (show runM F (startR bs code entry inp) = r1 by rw [hst, hr1])
  have ST := Aside0.mk (show st.S.ended = 0 ∧ st.S.steps = 0 ∧ st.out = [] ∧ st.inp = inp by subst hst; exact ⟨rfl, rfl, rfl, rfl⟩)
  have FT := Aside0.mk (show fit st by subst hst; exact fit_start hx (by unfold okImg at ho; omega))
  have hcnt := run_counts F st
  rw [hr1, ST.out.2.1] at hcnt
  obtain ⟨sN, hsN⟩ : ∃ s : Nat, r1.S.steps = (s : Int) := ⟨r1.S.steps.toNat, by omega⟩
  have CN := Aside0.mk (show sN ≤ F ∧ 1 ≤ sN ∧ r1.out.length ≤ 4194304 by
    obtain ⟨a1, a2, a3, a4⟩ := hcnt
    have := a4 (by omega) ST.out.1
    rw [ST.out.2.2.1] at a3
    simp at a3
    omega)
  have HSN := Aside0.mk hsN
  have HST := Aside0.mk hst
  have HR1 := Aside0.mk hr1
  have FF := Aside0.mk hf
  have HO := Aside0.mk ho
  have HX := Aside0.mk hx
  have HCI := Aside0.mk hCi
  have HI := Aside0.mk (show inp.length ≤ 140737488355328 by omega)
  have HIM := Aside0.mk hi
  have HXI := Aside0.mk hxi
  have HCM := Aside0.mk hCm
  have HXM := Aside0.mk hxm
  clear hf ho hx hCi hi hxi hr1 hcnt hsN hst hCm hxm
  have B1 := Aside0.mk (show Below w.heap.size w (w.alloc (.cells #[.slice A bs.length k, .int .i64 code, .int .i64 entry] 24)) from below_alloc (Below.refl _ _) _)
  have R2 := Aside0.mk (show (w.alloc (.cells #[.slice A bs.length k, .int .i64 code, .int .i64 entry] 24)).heap[w.heap.size]? = some (.cells #[.slice A bs.length k, .int .i64 code, .int .i64 entry] 24 (0, 0)) from heap_at _ _ _ rfl)
  have HC := Aside0.mk hC
  have HK := Aside0.mk hk
  have HH := Aside0.mk hh
  clear hC hk hh
  go_enter Tryd.func6, Tryd.ntmps6
  go_upto_region 1 with (fail)
  generalize w.alloc (.cells #[.slice A bs.length k, .int .i64 code, .int .i64 entry] 24) = W1 at B1 R2 ⊢
  generalize hg2 : w.heap.size = g2 at R2 ⊢
  have HH1 := Aside0.mk (held_below HH.out B1.out)
  have c0 := (blk_cell R2.out 0).trans rfl
  have c1 := (blk_cell R2.out 1).trans rfl
  have c2 := (blk_cell R2.out 2).trans rfl
  go_upto_region 4 with (first | (go_at_call 8; refine (run_at W1 HH1.out A k bs code entry Ai ki inp F (Kd.C_below HC.out B1.out) HK.out HO.out HX.out (Kd.C_below HCI.out B1.out) HI.out HXI.out FF.out Q1.out).mono ?_; rintro e Y ⟨A2, k2, rfl, hC2, hk2, hb⟩; rw [HSN.out]))
  have C2 := Aside0.mk (Kd.C_below hC2 (below_alloc (Below.refl Y.heap.size Y) (.cells #[.int .i64 (stopOf r1), .int .i64 r1.S.exit, .slice A2 r1.out.length k2, .int .i64 (sN : Int)] 27)))
  have B2 := Aside0.mk (show Below w.heap.size w (Y.alloc (.cells #[.int .i64 (stopOf r1), .int .i64 r1.S.exit, .slice A2 r1.out.length k2, .int .i64 (sN : Int)] 27)) from below_alloc (pm_chain B1.out hb) _)
  have R7 := Aside0.mk (show (Y.alloc (.cells #[.int .i64 (stopOf r1), .int .i64 r1.S.exit, .slice A2 r1.out.length k2, .int .i64 (sN : Int)] 27)).heap[Y.heap.size]? = some (.cells #[.int .i64 (stopOf r1), .int .i64 r1.S.exit, .slice A2 r1.out.length k2, .int .i64 (sN : Int)] 27 (0, 0)) from heap_at _ _ _ rfl)
  have R3 := Aside0.mk (blk_alloc (blk_below R2.out hb) (.cells #[.int .i64 (stopOf r1), .int .i64 r1.S.exit, .slice A2 r1.out.length k2, .int .i64 (sN : Int)] 27))
  have K2 := Aside0.mk hk2
  clear hC2 hk2 hb c0 c1 c2
  generalize Y.alloc (.cells #[.int .i64 (stopOf r1), .int .i64 r1.S.exit, .slice A2 r1.out.length k2, .int .i64 (sN : Int)] 27) = W2 at C2 B2 R7 R3 ⊢
  generalize Y.heap.size = g7 at R7 ⊢
  have HH2 := Aside0.mk (held_below HH.out B2.out)
  have c0 := (blk_cell R3.out 0).trans rfl
  have c1 := (blk_cell R3.out 1).trans rfl
  have c2 := (blk_cell R3.out 2).trans rfl
  go_upto_region 7 with (first | (go_at_call 15; refine (new_yes _ A k bs code entry Ai ki inp (Kd.C_below HC.out B2.out) HK.out HO.out HX.out (Kd.C_below HCI.out B2.out) HI.out).mono ?_; rintro e Y6 ⟨c, pg, ps, S, rfl, hem, hb, hfo, hS, hby⟩; have R26 := Aside0.mk (blk_below R3.out hb); have R27 := Aside0.mk (blk_below R7.out hb); have EM1 := Aside0.mk hem; have BY := Aside0.mk hby; have HS := Aside0.mk hS; have FO := Aside0.mk hfo; have B8 := Aside0.mk hb; clear hem hb hfo hby hS))
  clear c0 c1 c2
  obtain ⟨iv, hiv⟩ := HS.out
  subst hiv
  clear HS
  have G25 := Aside0.mk (And.intro (lt_of_at R3.out) (lt_of_at R7.out))
  go_wp2_with (fail)
  go_loopg [13, 14] 300 (fun kq v13 v14 wr => ∃ (j aj : Nat) (r : Ran) (psj : Pages) (a b : Value), j + kq = 300 ∧ j ≤ sN ∧ v13 = .int .i64 (aj : Int) ∧ v14 = .int .i64 (j : Int) ∧ Aside0 (aj = asked j st ∧ aj ≤ j) ∧ Aside0 (r = runM j st) ∧ Aside0 (EM wr c pg psj (reV r.S a b) r.inp r.out) ∧ Aside0 (Below W2.heap.size W2 wr) ∧ Aside0 (∀ i ∈ foot c pg psj (reV r.S a b), W2.heap.size ≤ i) ∧ Aside0 (byteAt psj = r.m) ∧ Aside0 (∀ v ∈ r.inp, 0 ≤ v ∧ v < 256))
  case atStart =>
    have hst := HST.out
    subst hst
    exact ⟨0, 0, startR bs code entry inp, ps, iv, .slice none 0 0, by omega, by omega, rfl, rfl, ⟨rfl, by omega⟩, ⟨rfl⟩, ⟨EM1.out⟩, ⟨B8.out⟩, ⟨FO.out⟩, ⟨funext BY.out⟩, ⟨HXI.out⟩⟩
  case round =>
    clear EM1 B8 FO BY R26 R27
    obtain ⟨j, aj, r, psj, a, b, hj, hjs, rfl, rfl, HA, HRJ, HE, HB, HFO, HM, HIN⟩ := hrel
    have HWr := Aside0.mk (held_below HH2.out HB.out)
    have H00 := Aside0.mk (show 0 ∉ foot c pg psj (reV r.S a b) from fun h => by have := HFO.out 0 h; have := G25.out; omega)
    have R3 := Aside0.mk (blk_below R3.out HB.out)
    have R7 := Aside0.mk (blk_below R7.out HB.out)
    have d3 := (blk_cell R7.out 3).trans rfl
    by_cases hlt : j < sN
    · have hlt2 : (j : Int) < (sN : Int) := by omega
      by_cases h3 : j < 300
      · have h32 : (j : Int) < 300 := by omega
        have HJ := Aside0.mk (And.intro hj (And.intro hlt h3))
        have LV := Aside0.mk (run_lives F j st ST.out.1 (by rw [HR1.out, HSN.out, ST.out.2.1]; omega) (by have := CN.out; omega))
        rw [← HRJ.out, ST.out.2.1] at LV
        have OL := Aside0.mk (show r.out.length ≤ j by
          have h := (run_counts j st).2.2.1
          rw [← HRJ.out, ST.out.2.1, ST.out.2.2.1] at h
          have h2 := LV.out.2
          simp at h
          omega)
        have FR := Aside0.mk (show fit r by rw [HRJ.out]; exact fit_run j FT.out)
        have hw4 : IntKind.i64.wrap ((j : Int) + 1) = ((j + 1 : Nat) : Int) := by rw [IntWalk.i64_in _ (by omega)]; omega
        have hw5 : IntKind.i64.wrap ((aj : Int) + 1) = ((aj + 1 : Nat) : Int) := by rw [IntWalk.i64_in _ (by have := HA.out; omega)]; omega
        clear hj hlt h3
        obtain ⟨q, hq⟩ : ∃ q, q = stepM r.m r.S r.inp r.out := ⟨_, rfl⟩
        have STEP := Aside0.mk (step_q HE.out HM.out HWr.out H00.out (by have := LV.out; have := HJ.out; omega) HIN.out (by have := OL.out; have := HJ.out; omega))
        rw [← hq] at STEP
        have KEEP := Aside0.mk (step_keeps r.m r.S r.inp r.out LV.out.1)
        rw [← hq] at KEEP
        have NEXT := Aside0.mk (show runM (j + 1) st = q by rw [run_add, ← HRJ.out, run_next _ _ LV.out.1, hq]; rfl)
        have ASK := Aside0.mk (asked_next j st (by rw [← HRJ.out]; exact LV.out.1))
        rw [← HRJ.out] at ASK
        have HQ := Aside0.mk hq
        clear hq
        have PCI := Aside0.mk HE.out.pcIn
        go_upto_region 12 with (first | (go_at_call 18; refine (state_row HE.out).mono ?_; rintro e Z1 ⟨⟨r0x, r1x, r2x, r3x, r4x, r5x, r6x, r7x, r8x, r9x, r10x, r11x, r12x, r13x, r14x, r15x, rfl⟩, hb1⟩) | (refine wpList_store_row rfl 48 _ _ rfl Z1.heap.size _ rfl rfl 48 _ (heap_alloc_last Z1 _) (by as_aux_lemma => kernel_rfl) (by as_aux_lemma => kernel_rfl) (by as_aux_lemma => kernel_rfl) ?_; rw [World.setRow_alloc_new]))
        have PR := Aside0.mk (show (Z1.alloc (.cells #[.int .u32 (reV r.S a b).pc, .int .u32 r0x, .int .u32 r1x, .int .u32 r2x, .int .u32 r3x, .int .u32 r4x, .int .u32 r5x, .int .u32 r6x, .int .u32 r7x, .int .u32 r8x, .int .u32 r9x, .int .u32 r10x, .int .u32 r11x, .int .u32 r12x, .int .u32 r13x, .int .u32 r14x, .int .u32 r15x, .int .i64 (reV r.S a b).steps] 48)).heap[Z1.heap.size]? = some (.cells #[.int .u32 (reV r.S a b).pc, .int .u32 r0x, .int .u32 r1x, .int .u32 r2x, .int .u32 r3x, .int .u32 r4x, .int .u32 r5x, .int .u32 r6x, .int .u32 r7x, .int .u32 r8x, .int .u32 r9x, .int .u32 r10x, .int .u32 r11x, .int .u32 r12x, .int .u32 r13x, .int .u32 r14x, .int .u32 r15x, .int .i64 (reV r.S a b).steps] 48 (0, 0)) from heap_at _ _ _ rfl)
        have BZ := Aside0.mk (show Below wr.heap.size wr (Z1.alloc (.cells #[.int .u32 (reV r.S a b).pc, .int .u32 r0x, .int .u32 r1x, .int .u32 r2x, .int .u32 r3x, .int .u32 r4x, .int .u32 r5x, .int .u32 r6x, .int .u32 r7x, .int .u32 r8x, .int .u32 r9x, .int .u32 r10x, .int .u32 r11x, .int .u32 r12x, .int .u32 r13x, .int .u32 r14x, .int .u32 r15x, .int .i64 (reV r.S a b).steps] 48)) from below_alloc hb1 _)
        clear hb1 d3
        generalize Z1.alloc (.cells #[.int .u32 (reV r.S a b).pc, .int .u32 r0x, .int .u32 r1x, .int .u32 r2x, .int .u32 r3x, .int .u32 r4x, .int .u32 r5x, .int .u32 r6x, .int .u32 r7x, .int .u32 r8x, .int .u32 r9x, .int .u32 r10x, .int .u32 r11x, .int .u32 r12x, .int .u32 r13x, .int .u32 r14x, .int .u32 r15x, .int .i64 (reV r.S a b).steps] 48) = Z2 at PR BZ ⊢
        generalize Z1.heap.size = g15 at PR ⊢
        obtain ⟨pc, hpc⟩ : ∃ pc, r.S.pc = pc := ⟨_, rfl⟩
        have p0 : Z2.cell? ⟨g15, 0, none⟩ = some (.int .u32 pc) := by rw [← hpc]; exact (blk_cell PR.out 0).trans rfl
        have HPC := Aside0.mk hpc
        have PCI2 := Aside0.mk (show 0 ≤ pc ∧ pc < 4294967296 by have h := PCI.out; rw [← hpc]; exact h)
        clear hpc
        have EM2 := Aside0.mk (HE.out.below BZ.out)
        go_upto_region 13 with (first | (go_at_call 17; refine (peek_d EM2.out pc PCI2.out).mono ?_; rintro e Z3 ⟨PA, pn, pgg, rfl, hb3, hd3⟩; have BZ3 := Aside0.mk hb3; have DZ3 := Aside0.mk hd3; clear hb3 hd3))
        have p2 : Z3.cell? ⟨g15, 0, none⟩ = some (.int .u32 pc) := pw_cell_below BZ3.out p0
        have hmod : Int.tmod pc 4 = pc % 4 := Int.tmod_eq_emod_of_nonneg PCI2.out.1
        have MB := Aside0.mk (show byteAt psj pc.toNat = r.m pc.toNat by rw [HM.out])
        clear p0
        go_cut [75] (fun v75 wc => ∃ ab : Bool, v75 = .bool ab ∧ Aside0 (ab = true ↔ asks r) ∧ Aside0 (Below Z3.heap.size Z3 wc))
        case first =>
          obtain ⟨mb, hmb⟩ : ∃ mb, byteAt psj pc.toNat = mb := ⟨_, rfl⟩
          have MB2 := Aside0.mk (show asks r ↔ pc % 4 = 0 ∧ pc ≤ 8388604 ∧ mb = 113 by unfold asks; rw [HPC.out, ← MB.out, hmb])
          have DZ4 := DZ3.out
          rw [hmb] at DZ4
          clear hmb
          rcases DZ4 with ⟨rfl, rfl, rfl, hbig⟩ | ⟨rfl, rfl, hbig, pb, rfl, p3⟩
          · have NK := Aside0.mk (show (false = true ↔ asks r) by rw [MB2.out]; simp; omega)
            clear hbig hmod
            go_wp2_with (fail)
            all_goals go_meet
            case rel => exact ⟨false, rfl, ⟨NK.out⟩, ⟨Below.refl _ _⟩⟩
          · by_cases h113 : mb = 113
            · by_cases h4 : pc % 4 = 0
              · have NK := Aside0.mk hbig
                clear hbig
                subst h113
                go_wp2_with (fail)
                all_goals go_meet
                case rel => exact ⟨true, rfl, ⟨by rw [MB2.out]; have := NK.out; simp; omega⟩, ⟨Below.refl _ _⟩⟩
              · have NK := Aside0.mk hbig
                have H4 := Aside0.mk h4
                clear hbig
                subst h113
                go_wp2_with (fail)
                all_goals go_meet
                case rel => exact ⟨_, rfl, ⟨by rw [MB2.out]; have := NK.out; have := H4.out; simp; omega⟩, ⟨Below.refl _ _⟩⟩
            · have NK := Aside0.mk (show (false = true ↔ asks r) by rw [MB2.out]; simp; omega)
              clear hbig hmod
              go_wp2_with (fail)
              all_goals go_meet
              case rel => exact ⟨false, rfl, ⟨NK.out⟩, ⟨Below.refl _ _⟩⟩
        case rest =>
          obtain ⟨ab, rfl, HAB, BW⟩ := hcut
          have BY4 := Aside0.mk (pm_chain BZ.out (pm_chain BZ3.out BW.out))
          have STEP2 := Aside0.mk (step_q (HE.out.below BY4.out) HM.out (held_below HWr.out BY4.out) H00.out (by have := LV.out; have := HJ.out; omega) HIN.out (by have := OL.out; have := HJ.out; omega))
          cases ab
          · have AK := Aside0.mk (show aj = asked (j + 1) st by
              have h := ASK.out
              have h2 : ¬ asks r := fun h => by have := HAB.out.2 h; simp at this
              rw [if_neg h2] at h
              have := HA.out.1
              omega)
            go_wp2_with (first | (go_at_call 16; refine STEP2.out.mono ?_; rintro e W5 ⟨rfl, hd5⟩))
            obtain ⟨iv2, ov2, ps', D, hb5⟩ := hd5
            go_roundg (300 - (j + 1))
            case measure => have := HJ.out; omega
            case rel =>
              have h1 := HJ.out
              have h2 := HA.out
              have hbx := HB.out.trans (BY4.out.mono HB.out.size)
              have hb9 := hbx.trans (D.ext.below_of hbx.size (fun i hi => HFO.out i hi))
              refine ⟨j + 1, aj, q, ps', iv2, ov2, by omega, by omega, rfl, by simp, ⟨AK.out, by omega⟩, ⟨NEXT.out.symm⟩, ⟨by rw [HQ.out]; exact D.em⟩, ⟨hb9⟩, ⟨fun i hi => ?_⟩, ⟨by rw [HQ.out]; exact hb5⟩, ⟨fun v hv => ?_⟩⟩
              · rw [HQ.out] at hi
                rcases D.new i hi with h5 | h5
                · exact HFO.out i h5
                · exact Nat.le_trans hbx.size h5
              · rcases KEEP.out.2.2.2 with e | ⟨u, e⟩
                · rw [e] at hv; exact HIN.out v hv
                · exact HIN.out v (by rw [e]; exact List.mem_cons_of_mem _ hv)
          · have AK := Aside0.mk (show aj + 1 = asked (j + 1) st by
              have h := ASK.out
              rw [if_pos (HAB.out.1 rfl)] at h
              have := HA.out.1
              omega)
            go_wp2_with (first | (go_at_call 16; refine STEP2.out.mono ?_; rintro e W5 ⟨rfl, hd5⟩))
            obtain ⟨iv2, ov2, ps', D, hb5⟩ := hd5
            go_roundg (300 - (j + 1))
            case measure => have := HJ.out; omega
            case rel =>
              have h1 := HJ.out
              have h2 := HA.out
              have hbx := HB.out.trans (BY4.out.mono HB.out.size)
              have hb9 := hbx.trans (D.ext.below_of hbx.size (fun i hi => HFO.out i hi))
              refine ⟨j + 1, aj + 1, q, ps', iv2, ov2, by omega, by omega, by simp, by simp, ⟨AK.out, by omega⟩, ⟨NEXT.out.symm⟩, ⟨by rw [HQ.out]; exact D.em⟩, ⟨hb9⟩, ⟨fun i hi => ?_⟩, ⟨by rw [HQ.out]; exact hb5⟩, ⟨fun v hv => ?_⟩⟩
              · rw [HQ.out] at hi
                rcases D.new i hi with h5 | h5
                · exact HFO.out i h5
                · exact Nat.le_trans hbx.size h5
              · rcases KEEP.out.2.2.2 with e | ⟨u, e⟩
                · rw [e] at hv; exact HIN.out v hv
                · exact HIN.out v (by rw [e]; exact List.mem_cons_of_mem _ hv)
      · have hgt : (sN : Int) > 300 := by omega
        have h32 : ¬ (j : Int) < 300 := by omega
        clear hj hjs hlt h3
        go_wp2_with (first | (go_at_call 14; refine (heads_calls _ HWr.out).mono ?_; rintro e Z3 ⟨rfl, hb3⟩; have B6 := Aside0.mk (pm_chain B2.out (pm_chain HB.out hb3)); clear hb3))
        go_ret
        exact ⟨rfl, B6.out⟩
    · have hjn : j = sN := by omega
      have hlt2 : ¬ (j : Int) < (sN : Int) := by omega
      have hgt : ¬ ((sN : Int) > 300) := by omega
      have AJ := Aside0.mk (show aj = asked F st by
        rw [HA.out.1, hjn]
        refine (asked_all F sN st CN.out.1 ?_).symm
        rw [HR1.out, HSN.out, ST.out.2.1]
        omega)
      clear hj hjs hlt hjn
      by_cases hk : (aj : Int) > (inp.length : Int)
      · go_wp2_with (first | (go_at_call 14; refine (heads_calls _ HWr.out).mono ?_; rintro e Z3 ⟨rfl, hb3⟩; have B6 := Aside0.mk (pm_chain B2.out (pm_chain HB.out hb3)); clear hb3))
        go_ret
        exact ⟨rfl, B6.out⟩
      · have QM := Aside0.mk (show runM F (startR bs code entry (inp ++ more)) = r1.more more by
          rw [start_more, HST.out, ← HR1.out]
          exact run_more F st more FT.out (by rw [← AJ.out, ST.out.2.2.2]; omega))
        obtain ⟨im, him⟩ : ∃ im, inp ++ more = im := ⟨_, rfl⟩
        rw [him] at QM
        have IM := Aside0.mk him
        have HIL := Aside0.mk (show im.length ≤ 140737488355328 by rw [← him, List.length_append]; exact HIM.out)
        have HXIM := Aside0.mk (show ∀ b ∈ im, 0 ≤ b ∧ b < 256 from fun v hv => (List.mem_append.1 (him ▸ hv)).elim (HXI.out v) (HXM.out v))
        clear him
        go_upto_region 18 with (fail)
        clear hk hgt hlt2 d3
        have c0 := (blk_cell R3.out 0).trans rfl
        have c1 := (blk_cell R3.out 1).trans rfl
        have c2 := (blk_cell R3.out 2).trans rfl
        go_cut [18, 19] (fun v18 v19 wc => ∃ g18 A3 k3, v18 = .pointer (some ⟨g18, 0, none⟩) ∧ v19 = .int .i64 0 ∧ Aside0 (Below wr.heap.size wr wc) ∧ Aside0 (wc.heap[g18]? = some (.cells #[.int .i64 (stopOf r1), .int .i64 r1.S.exit, .slice A3 r1.out.length k3, .int .i64 (sN : Int)] 27 (0, 0))) ∧ Aside0 (Kd.C (Kd.int .u8) wc A3 r1.out.length r1.out ∧ r1.out.length ≤ k3))
        case first =>
          have CI := Aside0.mk (Kd.C_below HCI.out (pm_chain B2.out HB.out))
          have CM := Aside0.mk (Kd.C_below HCM.out (pm_chain B2.out HB.out))
          have CB := Aside0.mk (Kd.C_below HC.out (pm_chain B2.out HB.out))
          have QS := Aside0.mk (show stopOf (r1.more more) = stopOf r1 ∧ (r1.more more).S.exit = r1.S.exit ∧ (r1.more more).out = r1.out ∧ (r1.more more).S.steps = (sN : Int) from ⟨rfl, rfl, rfl, HSN.out⟩)
          go_region_held3 (fun w' => w'.cell? ⟨g2, 0, none⟩ = some (.slice A bs.length k) ∧ w'.cell? ⟨g2, 1, none⟩ = some (.int .i64 code) ∧ w'.cell? ⟨g2, 2, none⟩ = some (.int .i64 entry)) (first | (refine ⟨pw_cell_below ?_ c0, pw_cell_below ?_ c1, pw_cell_below ?_ c2⟩ <;> first | with_reducible exact hB5 | with_reducible exact (stored4 hzY hB5 hg2x hltz hV4 _ _ _).1 | exact (stored4 hzY hB5 hg2x hltz hV4 _ _ _).1 | ((repeat (first | (with_reducible exact Below.refl _ _) | (with_reducible assumption) | with_reducible apply below_alloc | with_reducible apply pw_below_drewN | with_reducible apply below_drew1)); done)) | fail) (first | ((fail_if_success clear hR1); refine app_step (w0 := wr) (by rfl) (.tmp 92) (.tmp 93) (by rfl) [] inp inp (List.nil_append _) Ai inp.length ki (R_empty wr.drew (Nat.le_refl _)) CI.out (by (repeat (first | (with_reducible exact Below.refl _ _) | (with_reducible assumption) | with_reducible apply below_alloc | with_reducible apply pw_below_drewN | with_reducible apply below_drew1))) (by have := HI.out; simp; omega) (by rfl) (by rfl) ?_; intro A1 k1 w1 hR1 hB1 hkp; clear hkp) | ((fail_if_success clear hR1); refine app_step (w0 := wr) (by rfl) (.tmp 92) (.tmp 93) (by rfl) [] inp inp (List.nil_append _) Ai inp.length ki (Kd.R_alloc (R_empty wr.drew (Nat.le_refl _)) (.cells #[.int .i64 0, .int .i64 0, .slice none 0 0, .int .i64 0] 27)) CI.out (by (repeat (first | (with_reducible exact Below.refl _ _) | (with_reducible assumption) | with_reducible apply below_alloc | with_reducible apply pw_below_drewN | with_reducible apply below_drew1))) (by have := HI.out; simp; omega) (by rfl) (by rfl) ?_; intro A1 k1 w1 hR1 hB1 hkp; have hz1 := hkp (wr.heap.size + 1) (.cells #[.int .i64 0, .int .i64 0, .slice none 0 0, .int .i64 0] 27 (0, 0)) (at_two wr _ _) (ne_two wr _ _); have hg1 : wr.heap.size ≤ wr.heap.size + 1 := (by omega); clear hkp) | ((fail_if_success clear hR1); refine app_step (w0 := wr) (by rfl) (.tmp 92) (.tmp 93) (by rfl) [] inp inp (List.nil_append _) Ai inp.length ki (R_empty2 wr (.cells #[.int .i64 0, .int .i64 0, .slice none 0 0, .int .i64 0] 27) (Nat.le_refl _)) CI.out (by (repeat (first | (with_reducible exact Below.refl _ _) | (with_reducible assumption) | with_reducible apply below_alloc | with_reducible apply pw_below_drewN | with_reducible apply below_drew1))) (by have := HI.out; simp; omega) (by rfl) (by rfl) ?_; intro A1 k1 w1 hR1 hB1 hkp; have hz1 := hkp wr.heap.size (.cells #[.int .i64 0, .int .i64 0, .slice none 0 0, .int .i64 0] 27 (0, 0)) (at_one wr _ _) (ne_one2 wr _ _); have hg1 : wr.heap.size ≤ wr.heap.size := (Nat.le_refl _); clear hkp) | ((fail_if_success clear hR2); have hg9 := hR1; clear hg9; refine app_step (w0 := wr) (by rfl) (.tmp 94) (.tmp 95) (by rfl) inp more im IM.out Am more.length km (hR1) CM.out (by (repeat (first | (with_reducible exact Below.refl _ _) | (with_reducible assumption) | with_reducible apply below_alloc | with_reducible apply pw_below_drewN | with_reducible apply below_drew1))) (by have := HIM.out; omega) (by rfl) (by rfl) ?_; intro A3x k3x w2 hR2 hB2 hkp; have hz2 := hkp _ _ hz1.1 hz1.2; have hg2x := hg1; clear hkp) | ((fail_if_success clear hR2); have hg9 := hR1; clear hg9; refine app_step (w0 := wr) (by rfl) (.tmp 94) (.tmp 95) (by rfl) inp more im IM.out Am more.length km (hR1) CM.out (by (repeat (first | (with_reducible exact Below.refl _ _) | (with_reducible assumption) | with_reducible apply below_alloc | with_reducible apply pw_below_drewN | with_reducible apply below_drew1))) (by have := HIM.out; omega) (by rfl) (by rfl) ?_; intro A3x k3x w2 hR2 hB2 hkp; clear hkp) | ((fail_if_success clear hR2); have hg9 := hR1; clear hg9; refine app_step (w0 := wr) (by rfl) (.tmp 94) (.tmp 95) (by rfl) inp more im IM.out Am more.length km (Kd.R_alloc hR1 (.cells #[.int .i64 0, .int .i64 0, .slice none 0 0, .int .i64 0] 27)) CM.out (by (repeat (first | (with_reducible exact Below.refl _ _) | (with_reducible assumption) | with_reducible apply below_alloc | with_reducible apply pw_below_drewN | with_reducible apply below_drew1))) (by have := HIM.out; omega) (by rfl) (by rfl) ?_; intro A3x k3x w2 hR2 hB2 hkp; have hz2 := hkp w1.heap.size (.cells #[.int .i64 0, .int .i64 0, .slice none 0 0, .int .i64 0] 27 (0, 0)) (heap_at _ _ _ rfl) (fun e => by have := Kd.R_lt hR1 _ e.symm; omega); have hg2x : wr.heap.size ≤ w1.heap.size := hB1.size; clear hkp) | (have hg9 := hR2; clear hg9; go_at_call 8; refine (run_ar w2 (held_below HWr.out hB2) A k bs code entry A3x k3x im F (Kd.C_below CB.out hB2) HK.out HO.out HX.out (R_C hR2 rfl) HIL.out HXIM.out FF.out QM.out QS.out.1 QS.out.2.1 QS.out.2.2.1 QS.out.2.2.2).mono ?_; rintro e Y ⟨A4, k4, rfl, hV4, hb4⟩; have hB5 := pm_chain hB2 hb4; have hzY := blk_below hz2.1 hb4; have hltz := lt_of_at hz2.1; have y0 := (blk_cell hzY 0).trans rfl; have y1 := (blk_cell hzY 1).trans rfl; have y2 := (blk_cell hzY 2).trans rfl; have y3 := (blk_cell hzY 3).trans rfl; have f0 := blk_frozen hzY 0; have f1 := blk_frozen hzY 1; have f2 := blk_frozen hzY 2; have f3 := blk_frozen hzY 3) | (have hg9 := hR2; clear hg9; go_at_call 8; refine (run_ar w2 (held_below HWr.out hB2) A k bs code entry A3x k3x im F (Kd.C_below CB.out hB2) HK.out HO.out HX.out (R_C hR2 rfl) HIL.out HXIM.out FF.out QM.out QS.out.1 QS.out.2.1 QS.out.2.2.1 QS.out.2.2.2).mono ?_; rintro e Y ⟨A4, k4, rfl, hV4, hb4⟩; have hB5 := pm_chain hB2 hb4; skip) | (have hg9 := hR2; clear hg9; go_at_call 8; refine (run_ar (w2.alloc (.cells #[.int .i64 0, .int .i64 0, .slice none 0 0, .int .i64 0] 27)) (held_below HWr.out (below_alloc hB2 (.cells #[.int .i64 0, .int .i64 0, .slice none 0 0, .int .i64 0] 27))) A k bs code entry A3x k3x im F (Kd.C_below CB.out (below_alloc hB2 (.cells #[.int .i64 0, .int .i64 0, .slice none 0 0, .int .i64 0] 27))) HK.out HO.out HX.out (R_C (Kd.R_alloc hR2 (.cells #[.int .i64 0, .int .i64 0, .slice none 0 0, .int .i64 0] 27)) rfl) HIL.out HXIM.out FF.out QM.out QS.out.1 QS.out.2.1 QS.out.2.2.1 QS.out.2.2.2).mono ?_; rintro e Y ⟨A4, k4, rfl, hV4, hb4⟩; have hB5 := pm_chain (below_alloc hB2 (.cells #[.int .i64 0, .int .i64 0, .slice none 0 0, .int .i64 0] 27)) hb4; have hz2 := (show (w2.alloc (.cells #[.int .i64 0, .int .i64 0, .slice none 0 0, .int .i64 0] 27)).heap[w2.heap.size]? = some (.cells #[.int .i64 0, .int .i64 0, .slice none 0 0, .int .i64 0] 27 (0, 0)) from heap_at _ _ _ rfl); have hg2x : wr.heap.size ≤ w2.heap.size := hB2.size; have hzY := blk_below hz2 hb4; have hltz := lt_of_at hz2; have y0 := (blk_cell hzY 0).trans rfl; have y1 := (blk_cell hzY 1).trans rfl; have y2 := (blk_cell hzY 2).trans rfl; have y3 := (blk_cell hzY 3).trans rfl; have f0 := blk_frozen hzY 0; have f1 := blk_frozen hzY 1; have f2 := blk_frozen hzY 2; have f3 := blk_frozen hzY 3) | fail)
          all_goals go_wp2_with (fail)
          all_goals go_meet
          all_goals first
            | exact ⟨Y.heap.size, A4, k4, rfl, rfl, ⟨below_alloc hB5 _⟩, ⟨heap_at _ _ _ rfl⟩, ⟨Kd.C_below (show Kd.C (Kd.int .u8) Y A4 r1.out.length r1.out from (Kd.R_reads' hV4).2.2) (below_alloc (Below.refl _ _) _), (Kd.R_reads' hV4).2.1⟩⟩
            | exact ⟨_, A4, k4, rfl, rfl, ⟨(stored4 hzY hB5 hg2x hltz hV4 (stopOf r1) r1.S.exit (sN : Int)).1⟩, ⟨(stored4 hzY hB5 hg2x hltz hV4 (stopOf r1) r1.S.exit (sN : Int)).2.1⟩, ⟨(stored4 hzY hB5 hg2x hltz hV4 (stopOf r1) r1.S.exit (sN : Int)).2.2⟩⟩
        case rest =>
          obtain ⟨g18, A3, k3, rfl, rfl, BC, RC, CC⟩ := hcut
          have RA := Aside0.mk (blk_below R7.out BC.out)
          have CA := Aside0.mk (Kd.C_below C2.out (pm_chain HB.out BC.out))
          have BT := Aside0.mk (pm_chain B2.out (pm_chain HB.out BC.out))
          clear c0 c1 c2
          have a0 := (blk_cell RA.out 0).trans rfl
          have a1 := (blk_cell RA.out 1).trans rfl
          have a2 := (blk_cell RA.out 2).trans rfl
          have a3 := (blk_cell RA.out 3).trans rfl
          have b0 := (blk_cell RC.out 0).trans rfl
          have b1 := (blk_cell RC.out 1).trans rfl
          have b2 := (blk_cell RC.out 2).trans rfl
          have b3 := (blk_cell RC.out 3).trans rfl
          go_wp2_with (first | (go_at_call 10; refine (mortiseref21_Same.calls 5000000 (stopOf r1) r1.S.exit A2 k2 r1.out sN (stopOf r1) r1.S.exit A3 k3 r1.out sN true _ CA.out K2.out CC.out.1 CC.out.2 (same21 _ _ _ r1.out CN.out.2.2)).mono ?_; rintro e Q1x ⟨rfl, h1⟩; have B5 := Aside0.mk (pm_chain BT.out h1); clear h1) | (go_at_call 14; refine (heads_calls _ (held_below HH.out B5.out)).mono ?_; rintro e Q2x ⟨rfl, h1⟩; have B6 := Aside0.mk (pm_chain B5.out h1); clear h1))
          go_ret
          exact ⟨rfl, B6.out⟩
end Go.Proofs.YtejhnlljddjicaaDoor.Ma
namespace Go.Proofs.YtejhnlljddjicaaDoor.Ma
open Go.RowKit Go.Proofs.YtejhnlljddjicaaDoor.PEm Go.Proofs.YtejhnlljddjicaaDoorW.PrintWords Go.Proofs.YtejhnlljddjicaaDoorW.PrintLast Go.Proofs.YtejhnlljddjicaaDoorW.PrintMore Go.Proofs.YtejhnlljddjicaaDoor.La Go.Proofs.YtejhnlljddjicaaDoor.Ea
set_option linter.unusedVariables false
set_option linter.unusedSimpArgs false
variable {w w' : World} {c pg : Nat} {ps ps' : Pages} {S S' : Cpu} {inp out inp' out' : List Int}
theorem emuInput_calls (w : World) (hh : Held w) (A : Option Addr) (k : Nat) (bs : List Int) (code entry : Int) (Ai : Option Addr) (ki : Nat) (inp : List Int) (Am : Option Addr) (km : Nat) (more : List Int) (fuel : Int) (hC : Kd.C (Kd.int .u8) w A bs.length bs) (hk : bs.length ≤ k)
    (hx : ∀ b ∈ bs, 0 ≤ b ∧ b < 256) (hCi : Kd.C (Kd.int .u8) w Ai inp.length inp) (hi : inp.length + more.length ≤ 140737488355328) (hxi : ∀ b ∈ inp, 0 ≤ b ∧ b < 256) (hCm : Kd.C (Kd.int .u8) w Am more.length more) (hxm : ∀ b ∈ more, 0 ≤ b ∧ b < 256) :
    Calls Tryd.prog 6 #[.agg #[.slice A bs.length k, .int .i64 code, .int .i64 entry], .slice Ai inp.length ki, .slice Am more.length km, .int .i64 fuel] w fun e w' => e = .returned (.bool true) ∧ Below w.heap.size w w' := by
  by_cases ho : okImg bs.length code entry
  · by_cases hf : fuel < 1 ∨ fuel > 4194304
    · exact input_no w hh A k bs code entry _ _ _ hC hk (fun W hb => run_fuel W A k bs code entry Ai ki inp fuel (Kd.C_below hC hb) hk ho hx (Kd.C_below hCi hb) (by omega) hf)
    · obtain ⟨F, hF⟩ : ∃ F : Nat, fuel = (F : Int) := ⟨fuel.toNat, by omega⟩
      subst hF
      exact input_yes w hh A k bs code entry Ai ki inp Am km more F hC hk ho hx hCi hi hxi hCm hxm (by omega)
  · exact input_no w hh A k bs code entry _ _ _ hC hk (fun W hb => run_no W A k bs code entry _ fuel (Kd.C_below hC hb) hk ho)
end Go.Proofs.YtejhnlljddjicaaDoor.Ma
