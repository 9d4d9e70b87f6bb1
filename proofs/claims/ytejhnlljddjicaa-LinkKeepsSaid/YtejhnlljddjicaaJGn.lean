/- LinkKeeps: what no Fix tells of stays. No condition beyond those each theorem names. And more of the kind: 1 texts in one. -/
import Derived.Test.YtejhnlljddjicaaJGm
import Derived.Test.YtejhnlljddjicaaJGe
namespace Go.Proofs.Ytejhnlljddjicaa.Ma
open Go.RowKit Go.Maps Go.WideMaps Go.WideElems Go.ChangeMaps Go.ChangeShapes Go.WideShapes Go.Proofs.Ytejhnlljddjicaa.PLk Go.Proofs.YtejhnlljddjicaaW.PrintWords Go.Proofs.YtejhnlljddjicaaW.PrintLast Go.Proofs.YtejhnlljddjicaaW.PrintMore Go.Proofs.Ytejhnlljddjicaa.La
set_option linter.unusedVariables false
set_option linter.unusedSimpArgs false
variable {w w' W : World}
set_option maxHeartbeats 16000000 in
set_option maxRecDepth 100000 in
theorem keeps_calls (A : Option Addr) (cap : Nat) (ls : List ObjV) (hO : ObjsR w A ls) (hI : ∀ o ∈ ls, o.In) (hl : ls.length ≤ 1466015503700) (start : ByteArray) (hs : start.size ≤ 140737488355328) :
  Calls Try.prog 3 #[.slice A ls.length cap, .string start] w fun e w' => e = .returned (.bool true) ∧ Below w.heap.size w w' := by
 have HO := Aside0.mk hO
 have HI := Aside0.mk hI
 have LC := Aside0.mk (link_good (w := w) A cap ls hO hI hl start hs)
 obtain ⟨n, hn⟩ : ∃ n, ls.length = n := ⟨_, rfl⟩
 rw [hn] at LC
 have HN := Aside0.mk hn
 rw [hn]
 have hn2 : (n : Int) ≤ 1466015503700 := by omega
 clear hO hI hl hs hn
 go_enter Try.func3, Try.ntmps3
 go_upto_region 2 with (first | (go_at_call 4; refine LC.out.mono ?_; rintro e W2 ⟨hp, hb⟩; have B2 := Aside0.mk hb; clear hb; rcases hp with ⟨c, rfl, hc⟩ | ⟨g, img, N, cn, pl, rfl, hgd, him⟩) | (refine wpList_store_row rfl 25 _ _ rfl W2.heap.size _ rfl rfl 25 _ (heap_alloc_last W2 _) (by as_aux_lemma => kernel_rfl) (by as_aux_lemma => kernel_rfl) (by as_aux_lemma => kernel_rfl) ?_; rw [World.setRow_alloc_new]))
 ·have hcb : (c != 0) = true := by simpa using hc
  have R5 := Aside0.mk (show (W2.alloc (.cells #[.slice none 0 0, .int .i64 0, .int .i64 0] 25)).heap[W2.heap.size]? = some (.cells #[.slice none 0 0, .int .i64 0, .int .i64 0] 25 (0, 0)) from heap_at _ _ _ rfl)
  have B3 := Aside0.mk (below_alloc B2.out (.cells #[.slice none 0 0, .int .i64 0, .int .i64 0] 25))
  generalize W2.alloc (.cells #[.slice none 0 0, .int .i64 0, .int .i64 0] 25) = W3 at R5 B3 ⊢
  generalize W2.heap.size = g5 at R5 ⊢
  have c0 := (blk_cell R5.out 0).trans rfl
  have c1 := (blk_cell R5.out 1).trans rfl
  have c2 := (blk_cell R5.out 2).trans rfl
  clear hc
  go_wp2_with (first | (go_at_call 5; refine (heads_calls _).mono ?_; rintro e W4 ⟨rfl, hb⟩))
  go_ret
  exact ⟨rfl, pm_chain B3.out hb⟩
 ·have GD := Aside0.mk hgd
  have R5 := Aside0.mk (show (W2.alloc (.cells #[.slice (some ⟨g, 0, none⟩) N N, .int .i64 (4 * (cn : Int)), .int .i64 pl] 25)).heap[W2.heap.size]? = some (.cells #[.slice (some ⟨g, 0, none⟩) N N, .int .i64 (4 * (cn : Int)), .int .i64 pl] 25 (0, 0)) from heap_at _ _ _ rfl)
  have I5 := Aside0.mk (him.below (below_alloc (Below.refl W2.heap.size W2) (.cells #[.slice (some ⟨g, 0, none⟩) N N, .int .i64 (4 * (cn : Int)), .int .i64 pl] 25)))
  have B3 := Aside0.mk (below_alloc B2.out (.cells #[.slice (some ⟨g, 0, none⟩) N N, .int .i64 (4 * (cn : Int)), .int .i64 pl] 25))
  have hcm : (N : Int) ≤ 1048576 := by have := hgd.most; omega
  have hcn : 4 * (cn : Int) ≤ (N : Int) := by have := hgd.le; omega
  clear hgd him
  generalize W2.alloc (.cells #[.slice (some ⟨g, 0, none⟩) N N, .int .i64 (4 * (cn : Int)), .int .i64 pl] 25) = W3 at R5 I5 B3 ⊢
  generalize W2.heap.size = g5 at R5 ⊢
  have c0 := (blk_cell R5.out 0).trans rfl
  have c1 := (blk_cell R5.out 1).trans rfl
  have c2 := (blk_cell R5.out 2).trans rfl
  go_wp2_with (first | (go_at_call 6; refine (check_word GD.out I5.out).mono ?_; rintro e W4 ⟨rfl, hb⟩; have B4 := Aside0.mk hb; clear hb))
  clear c0 c1 c2
  go_loopg [7] cn (fun kq v7 wr => ∃ q : Nat, q + kq = cn ∧ v7 = .int .i64 (4 * (q : Int)) ∧ Aside0 (Below W3.heap.size W3 wr))
  case atStart => exact ⟨0, by omega, by simp, B4⟩
  case round =>
   obtain ⟨q, hq, rfl, HB⟩ := hrel
   have HQ := Aside0.mk hq
   clear hq
   have R5w := Aside0.mk (blk_below R5.out HB.out)
   have c1 := (blk_cell R5w.out 1).trans rfl
   have hw1 : wrap64 (4 * (q : Int) + 4) = 4 * (q : Int) + 4 := by unfold wrap64; have := HQ.out; omega
   by_cases hlt : q < cn
   ·have hlt2 : 4 * (q : Int) + 4 ≤ 4 * (cn : Int) := by omega
    have I5w := Aside0.mk (I5.out.below HB.out)
    have c0 := (blk_cell R5w.out 0).trans rfl
    obtain ⟨A', hsl, hC⟩ := cut4 (img_C I5w.out (by omega)) (Nat.le_refl N) (4 * (q : Int)) (by omega) (by omega)
    rw [show (4 * (q : Int)).toNat = 4 * q by omega] at hsl hC
    have hva := value_at GD.out.code.bytes (a := 4 * q) (by rw [I5w.out.len]; omega)
    obtain ⟨da, db, dc, dd, di, hdc⟩ := dec_word hva.2 (code_word GD.out.code (a := 4 * q) (by omega) (by rw [GD.out.words]; omega))
    have DC := Aside0.mk hdc
    have HLT := Aside0.mk hlt
    have VC := Aside0.mk (value_word GD.out.code A' (N - 4 * q) (4 * q) (by omega) (by rw [I5w.out.len]; omega) hC)
    obtain ⟨wv, hwv⟩ : ∃ wv, wordAt img (4 * q) = wv := ⟨_, rfl⟩
    rw [hwv] at DC VC
    clear hva hdc hC hwv hlt
    go_wp2_with (first | (go_at_call 7; refine VC.out.mono ?_; rintro e W5 ⟨rfl, hb⟩; have B5 := Aside0.mk (pm_chain HB.out hb); clear hb) | (go_at_call 8; refine (DC.out _).mono ?_; rintro e W6 ⟨rfl, hb⟩; have B6 := Aside0.mk (pm_chain B5.out hb); clear hb))
    go_roundg (cn - (q + 1))
    case measure => have := HQ.out; have := HLT.out; omega
    case rel => exact ⟨q + 1, by have := HQ.out; have := HLT.out; omega, congrArg (Value.int .i64) (by have := HLT.out; omega), ⟨below_alloc B6.out _⟩⟩
   ·obtain rfl : q = cn := by have := HQ.out; omega
    have hlt2 : ¬ (4 * (q : Int) + 4 ≤ 4 * (q : Int)) := by omega
    clear hlt
    go_upto_region 14 with (fail)
    clear hlt2 c1 hw1
    go_wp2_with (fail)
    go_loopg [12, 13] n (fun kq v12 v13 wr => ∃ i : Nat, i + kq = n ∧ v12 = .int .i64 (codeN ls i) ∧ v13 = .int .i64 i ∧ Aside0 (Below W3.heap.size W3 wr))
    case atStart => exact ⟨0, by omega, rfl, rfl, HB⟩
    case round =>
     obtain ⟨i, hi, rfl, rfl, HBi⟩ := hrel
     have HJ := Aside0.mk hi
     clear hi
     by_cases hlt : i < n
     ·obtain ⟨o, ho⟩ : ∃ o, ls[i]? = some o := ⟨_, List.getElem?_eq_getElem (by rw [HN.out]; exact hlt)⟩
      obtain ⟨ad, qq, hA, hR, x0, x1, x2, x3⟩ := HO.out.each i o ho
      have X0 := Aside0.mk x0
      have X3 := Aside0.mk x3
      clear x0 x1 x2 x3
      have hlt2 : (i : Int) < (n : Int) := by omega
      have hlt4 : i < n := hlt
      have HX := Aside0.mk ho
      have HR := Aside0.mk hR
      have HOI := Aside0.mk (HI.out o (List.mem_of_getElem? ho))
      have HLT := Aside0.mk hlt
      subst hA
      clear ho hlt hR
      have hci := code_in HX.out
      rw [GD.out.words] at hci
      obtain ⟨ci, hci2⟩ : ∃ ci, codeN ls i = ci := ⟨_, rfl⟩
      obtain ⟨lc, hlc⟩ : ∃ lc, o.code.length = lc := ⟨_, rfl⟩
      obtain ⟨lf, hlf⟩ : ∃ lf, o.fixes.length = lf := ⟨_, rfl⟩
      rw [hci2, hlc] at hci
      have HCI := Aside0.mk hci2
      have HLC := Aside0.mk hlc
      have HLF := Aside0.mk hlf
      have hlf2 : (lf : Int) ≤ 140737488355328 := by have := HOI.out.nfixes; omega
      rw [hlf] at X3
      rw [hci2]
      rw [hlc] at X0
      clear hci2 hlc hlf
      have hlc2 : (lc : Int) ≤ 262144 := by omega
      have hci3 : 0 ≤ ci ∧ ci + 4 * (lc : Int) ≤ 4 * (q : Int) := ⟨hci.1, hci.2.1⟩
      clear hci
      go_wp2_with (fail)
      go_loopg [12, 14] lc (fun kq v12 v14 wr => ∃ k : Nat, k + kq = lc ∧ v12 = .int .i64 (ci + 4 * (k : Int)) ∧ v14 = .int .i64 k ∧ Aside0 (Below W3.heap.size W3 wr))
      case atStart => exact ⟨0, by omega, by simp, rfl, HBi⟩
      case round =>
       obtain ⟨k, hk, rfl, rfl, HBk⟩ := hrel
       have HK := Aside0.mk hk
       clear hk
       have y0 := pw_cell_below (pm_chain B3.out HBk.out) X0.out
       by_cases hlt : k < lc
       ·have hlt3 : (k : Int) < (lc : Int) := by omega
        have HLK := Aside0.mk hlt
        clear hlt
        go_wp2_with (fail)
        go_loopg [15, 16] lf (fun kq v15 v16 wr => ∃ m : Nat, m + kq = lf ∧ v15 = .bool (anyN o k m) ∧ v16 = .int .i64 m ∧ Aside0 (Below W3.heap.size W3 wr))
        case atStart => exact ⟨0, by omega, rfl, rfl, HBk⟩
        case round =>
         obtain ⟨m, hm, rfl, rfl, HBm⟩ := hrel
         have HM := Aside0.mk hm
         clear hm y0
         have y3 := pw_cell_below (pm_chain B3.out HBm.out) X3.out
         obtain ⟨b0, hb0⟩ : ∃ b0, anyN o k m = b0 := ⟨_, rfl⟩
         rw [hb0]
         have HB0 := Aside0.mk hb0
         clear hb0
         by_cases hlt : m < lf
         ·obtain ⟨x, hx⟩ : ∃ x, o.fixes[m]? = some x := ⟨_, List.getElem?_eq_getElem (by rw [HLF.out]; exact hlt)⟩
          obtain ⟨a4, hA4, z0, z1, z2, z3⟩ := (HR.out.below (pm_chain B3.out HBm.out)).fixes.at hx
          rw [hA4] at y3
          have hoff := fits_off HOI.out ((GD.out.plan.each i o HX.out).fixes m _ hx).fits
          have HY := Aside0.mk hx
          have HLM := Aside0.mk hlt
          have hlt5 : (m : Int) < (lf : Int) := by omega
          clear hx hlt hA4
          obtain ⟨fk, fo, fn, fa⟩ := x
          simp only at z0 z1 z2 z3 hoff
          go_upto_region 25 with (first | (refine wpList_store_row rfl 46 _ _ rfl wr.heap.size _ rfl rfl 46 _ (heap_alloc_last wr _) (by as_aux_lemma => kernel_rfl) (by as_aux_lemma => kernel_rfl) (by as_aux_lemma => kernel_rfl) ?_; rw [World.setRow_alloc_new]))
          have R19 := Aside0.mk (show (wr.alloc (.cells #[.int .i64 fk, .int .i64 fo, .string fn, .int .i64 fa] 46)).heap[wr.heap.size]? = some (.cells #[.int .i64 fk, .int .i64 fo, .string fn, .int .i64 fa] 46 (0, 0)) from heap_at _ _ _ rfl)
          have B9 := Aside0.mk (below_alloc HBm.out (.cells #[.int .i64 fk, .int .i64 fo, .string fn, .int .i64 fa] 46))
          generalize wr.alloc (.cells #[.int .i64 fk, .int .i64 fo, .string fn, .int .i64 fa] 46) = W9 at R19 B9 ⊢
          generalize wr.heap.size = g19 at R19 ⊢
          clear y3 z0 z1 z2 z3
          have e0 := (blk_cell R19.out 0).trans rfl
          have e1 := (blk_cell R19.out 1).trans rfl
          have hw3 : wrap64 (4 * (k : Int)) = 4 * (k : Int) := by unfold wrap64; omega
          have hw4 : wrap64 (fo + 4) = fo + 4 := by unfold wrap64; omega
          clear hoff
          cases b0
          ·by_cases k1 : fk = 1
           ·have n1 : (fk != 1) = false := by simp [k1]
            have N1 := Aside0.mk n1
            clear k1
            go_wp2_with (fail)
            go_roundg (lf - (m + 1))
            case measure => have := HM.out; have := HLM.out; omega
            case rel => exact ⟨m + 1, by have := HM.out; have := HLM.out; omega, congrArg Value.bool (by rw [anyN_next HY.out, HB0.out, fixed_is, N1.out]; rfl), congrArg (Value.int .i64) (by first | (simp; done) | (have := HLM.out; unfold wrap64; omega)), B9⟩
           ·have n1 : (fk != 1) = true := by simpa using k1
            have N1 := Aside0.mk n1
            clear k1
            by_cases k2 : fo = 4 * (k : Int)
            ·have n2 : (fo == 4 * (k : Int)) = true := by simpa using k2
             have N2 := Aside0.mk n2
             clear k2
             go_wp2_with (fail)
             go_roundg (lf - (m + 1))
             case measure => have := HM.out; have := HLM.out; omega
             case rel => exact ⟨m + 1, by have := HM.out; have := HLM.out; omega, congrArg Value.bool (by rw [anyN_next HY.out, HB0.out, fixed_is, N1.out, N2.out]; rfl), congrArg (Value.int .i64) (by first | (simp; done) | (have := HLM.out; unfold wrap64; omega)), B9⟩
            ·have n2 : (fo == 4 * (k : Int)) = false := by simpa using k2
             have N2 := Aside0.mk n2
             clear k2
             by_cases k3 : fk = 2
             ·have n3 : (fk == 2) = true := by simpa using k3
              have N3 := Aside0.mk n3
              clear k3
              by_cases k4 : fo + 4 = 4 * (k : Int)
              ·have n4 : (fo + 4 == 4 * (k : Int)) = true := by simpa using k4
               have N4 := Aside0.mk n4
               clear k4
               go_wp2_with (fail)
               go_roundg (lf - (m + 1))
               case measure => have := HM.out; have := HLM.out; omega
               case rel => exact ⟨m + 1, by have := HM.out; have := HLM.out; omega, congrArg Value.bool (by rw [anyN_next HY.out, HB0.out, fixed_is, N1.out, N2.out, N3.out, N4.out]; rfl), congrArg (Value.int .i64) (by first | (simp; done) | (have := HLM.out; unfold wrap64; omega)), B9⟩
              ·have n4 : (fo + 4 == 4 * (k : Int)) = false := by simpa using k4
               have N4 := Aside0.mk n4
               clear k4
               go_wp2_with (fail)
               go_roundg (lf - (m + 1))
               case measure => have := HM.out; have := HLM.out; omega
               case rel => exact ⟨m + 1, by have := HM.out; have := HLM.out; omega, congrArg Value.bool (by rw [anyN_next HY.out, HB0.out, fixed_is, N1.out, N2.out, N3.out, N4.out]; rfl), congrArg (Value.int .i64) (by first | (simp; done) | (have := HLM.out; unfold wrap64; omega)), B9⟩
             ·have n3 : (fk == 2) = false := by simpa using k3
              have N3 := Aside0.mk n3
              clear k3
              go_wp2_with (fail)
              go_roundg (lf - (m + 1))
              case measure => have := HM.out; have := HLM.out; omega
              case rel => exact ⟨m + 1, by have := HM.out; have := HLM.out; omega, congrArg Value.bool (by rw [anyN_next HY.out, HB0.out, fixed_is, N1.out, N2.out, N3.out]; rfl), congrArg (Value.int .i64) (by first | (simp; done) | (have := HLM.out; unfold wrap64; omega)), B9⟩
          ·skip
           go_wp2_with (fail)
           go_roundg (lf - (m + 1))
           case measure => have := HM.out; have := HLM.out; omega
           case rel => exact ⟨m + 1, by have := HM.out; have := HLM.out; omega, congrArg Value.bool (by rw [anyN_next HY.out, HB0.out]; rfl), congrArg (Value.int .i64) (by first | (simp; done) | (have := HLM.out; unfold wrap64; omega)), B9⟩
         ·obtain rfl : m = lf := by have := HM.out; omega
          have hlt5 : ¬ ((m : Int) < (m : Int)) := by omega
          clear hlt
          have R5w := Aside0.mk (blk_below R5.out HBm.out)
          have I5w := Aside0.mk (I5.out.below HBm.out)
          have c0 := (blk_cell R5w.out 0).trans rfl
          obtain ⟨A', hsl, hC⟩ := cut4 (img_C I5w.out (by omega)) (Nat.le_refl N) (ci + 4 * (k : Int)) (by omega) (by omega)
          obtain ⟨pa, hpa⟩ : ∃ pa, (ci + 4 * (k : Int)).toNat = pa := ⟨_, rfl⟩
          rw [hpa] at hsl hC
          obtain ⟨v, hv⟩ : ∃ v, o.code[k]? = some v := ⟨_, List.getElem?_eq_getElem (by rw [HLC.out]; exact HLK.out)⟩
          have hcw := (GD.out.code.word i o k v HX.out hv).2
          rw [HCI.out, hpa, ← anyN_all, HLF.out, HB0.out] at hcw
          have VC := Aside0.mk (value_word GD.out.code A' (N - pa) pa (by omega) (by rw [I5w.out.len]; omega) hC)
          obtain ⟨wv, hwv⟩ : ∃ wv, wordAt img pa = wv := ⟨_, rfl⟩
          rw [hwv] at VC hcw
          have hw1 : wrap64 (ci + 4 * (k : Int) + 4) = ci + 4 * (k : Int) + 4 := by unfold wrap64; omega
          have HV := Aside0.mk hv
          have HCW := Aside0.mk hcw
          clear hC hwv hpa hcw hv
          go_upto_region 27 with (first | (go_at_call 7; refine VC.out.mono ?_; rintro e W5 ⟨rfl, hb⟩; have B5 := Aside0.mk (pm_chain HBm.out hb); clear hb))
          clear hsl c0 y3
          cases b0
          ·have y0 := pw_cell_below (pm_chain B3.out B5.out) X0.out
           obtain ⟨a2, hA2, hcv⟩ := C_at (HR.out.below (pm_chain B3.out B5.out)).code HV.out
           rw [hA2] at y0
           clear hA2
           have hne : (wv != v) = false := by rw [HCW.out rfl]; simp
           go_wp2_with (fail)
           go_roundg (lc - (k + 1))
           case measure => have := HK.out; have := HLK.out; omega
           case rel => exact ⟨k + 1, by have := HK.out; have := HLK.out; omega, congrArg (Value.int .i64) (by have := HLK.out; omega), congrArg (Value.int .i64) (by first | (simp; done) | (have := HLK.out; unfold wrap64; omega)), B5⟩
          ·skip
           go_wp2_with (fail)
           go_roundg (lc - (k + 1))
           case measure => have := HK.out; have := HLK.out; omega
           case rel => exact ⟨k + 1, by have := HK.out; have := HLK.out; omega, congrArg (Value.int .i64) (by have := HLK.out; omega), congrArg (Value.int .i64) (by first | (simp; done) | (have := HLK.out; unfold wrap64; omega)), B5⟩
       ·obtain rfl : k = lc := by have := HK.out; omega
        have hlt3 : ¬ ((k : Int) < (k : Int)) := by omega
        clear hlt
        go_wp2_with (fail)
        go_roundg (n - (i + 1))
        case measure => have := HJ.out; have := HLT.out; omega
        case rel => exact ⟨i + 1, by have := HJ.out; have := HLT.out; omega, congrArg (Value.int .i64) (by rw [codeN_next HX.out, HLC.out, HCI.out]), congrArg (Value.int .i64) (by first | (simp; done) | (have := HLT.out; unfold wrap64; omega)), HBk⟩
     ·obtain rfl : i = n := by have := HJ.out; omega
      have hlt2 : ¬ ((i : Int) < (i : Int)) := by omega
      clear hlt
      have R5w := Aside0.mk (blk_below R5.out HBi.out)
      have c1 := (blk_cell R5w.out 1).trans rfl
      have hz : codeN ls i = 4 * (q : Int) := by rw [← HN.out]; exact GD.out.words
      rw [hz]
      clear hz
      have hz : ((4 * (q : Int)) == 4 * (q : Int)) = true := by simp
      go_wp2_with (first | (go_at_call 5; refine (heads_calls _).mono ?_; rintro e W4 ⟨rfl, hb⟩))
      go_ret
      exact ⟨rfl, pm_chain B3.out (pm_chain HBi.out hb)⟩
end Go.Proofs.Ytejhnlljddjicaa.Ma
