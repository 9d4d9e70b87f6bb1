/- The law MemoryPlays's walk: true for every script. No condition beyond those each theorem names. -/
import Derived.Test.YthdnhfjodhjejaaRt
namespace Go.Proofs.Ythdnhfjodhjejaa.Ma
open Go.RowKit Go.Proofs.Ythdnhfjodhjejaa.PMe Go.Proofs.YthdnhfjodhjejaaW.PrintWords Go.Proofs.YthdnhfjodhjejaaW.PrintLast Go.Proofs.YthdnhfjodhjejaaW.PrintMore
set_option linter.unusedVariables false
set_option linter.unusedSimpArgs false
variable {w W W1 : World}
set_option maxHeartbeats 8000000 in
set_option maxRecDepth 100000 in
theorem MemoryPlays_calls (A : Option Addr) (cap : Nat) (xs : List Act1) (hs : Script w A xs) (hl : xs.length ≤ 1759218604390) : Calls Try.prog 6 #[.slice A xs.length cap] w fun e w' => e = .returned (.bool true) ∧ Below w.heap.size w w' := by
  have hu72 := Try.underlying72
  have hu75 := Try.underlying75
  have S := Aside0.mk hs
  have HL := Aside0.mk hl
  obtain ⟨n, hn⟩ : ∃ n, n = xs.length := ⟨_, rfl⟩
  rw [← hn]
  have HN := Aside0.mk hn
  have hn2 : n ≤ 1759218604390 := by omega
  clear hs hl hn
  go_enter Try.func6, Try.ntmps6
  go_wp2_with (fail)
  go_at_call 22
  refine New_calls.mono ?_
  rintro e W1 ⟨m, mm, rfl, hm, hmm, pm, hb⟩
  have T := Aside0.mk (two_new hm hmm pm hb)
  have HB := Aside0.mk hb
  clear hm hmm pm hb
  go_wp2_with (fail)
  generalize W1.heap.size = r at T ⊢
  generalize (W1.alloc (.cells #[.slice none 0 0, .int .i64 0] 72)) = W2 at T ⊢
  go_loopg [5] n (fun kq v5 wr => ∃ j : Nat, j + kq = n ∧ v5 = .int .i64 j ∧ Aside0 (Played w m r j wr))
  case atStart => exact ⟨0, by omega, rfl, ⟨mm, 0, [], _, [], T.out, sim_new, by simp⟩⟩
  case round =>
    obtain ⟨j, hj, rfl, HPl⟩ := hrel
    by_cases hlt : j < n
    · have HJ := Aside0.mk hj
      have HLT := Aside0.mk hlt
      obtain ⟨mm1, last1, L1, sv1, Bs1, T1, S1, N1⟩ := HPl.out
      obtain ⟨x, hx⟩ : ∃ x, xs[j]? = some x := ⟨_, List.getElem?_eq_getElem (by have := HN.out; omega)⟩
      obtain ⟨ad, hA, hin, c0, c1, c2, c3, c4, c5, c6, c7, c8, c9⟩ := (S.out.below T1.below).at hx
      subst hA
      have T1 := Aside0.mk T1
      have S1 := Aside0.mk S1
      have N1 := Aside0.mk N1
      have HIN := Aside0.mk hin
      clear hj hx hin HPl T HB
      go_wp2_with (fail)
      go_at_call 23
      refine (play_calls T1.out S1.out N1.out (by have := HL.out; have := HN.out; have := HLT.out; omega) x HIN.out).mono ?_
      rintro e W3 ⟨rfl, pl⟩
      have PL := Aside0.mk pl
      clear pl c0 c1 c2 c3 c4 c5 c6 c7 c8 c9
      go_wp2_with (fail)
      go_roundg (n - (j + 1))
      case measure => have := HJ.out; have := HLT.out; omega
      case rel => have := HLT.out; exact ⟨j + 1, by omega, by simp, PL⟩
    · obtain rfl : j = n := by omega
      clear hj T HB
      have HP0 := HPl.out
      have PL := Aside0.mk HP0
      clear HPl HP0
      go_wp2_with (fail)
      go_loopg [6] 40 (fun kq v6 wq => ∃ b : Nat, b + kq = 40 ∧ v6 = .int .i64 b ∧ Aside0 (Played w m r (j + b) wq))
      case atStart => exact ⟨0, by omega, rfl, PL⟩
      case round =>
        obtain ⟨b, hb, rfl, HPl⟩ := hrel
        obtain ⟨mm1, last1, L1, sv1, Bs1, T1, S1, N1⟩ := HPl.out
        obtain ⟨A1, c1, hsv⟩ := T1.rm.slice
        obtain ⟨d0, _⟩ := T1.rm.cells
        rw [hsv] at d0
        have hbig := T1.rm.big
        have T1 := Aside0.mk T1
        have S1 := Aside0.mk S1
        have N1 := Aside0.mk N1
        have HB1 := Aside0.mk hb
        generalize hq : Bs1.length = q at d0 hbig
        have hb40 : b ≤ 40 := by omega
        clear hsv HPl hb hq PL
        by_cases c1 : b < 40
        · have t1 : decide ((b : Int) < 40) = true := by simp; omega
          have C1 := Aside0.mk c1
          clear c1
          by_cases c2 : b ≤ q + 1
          · have t2 : decide ((b : Int) ≤ (q : Int) + 1) = true := by simp; omega
            clear c2
            go_wp2_with (fail)
            go_at_call 23
            refine (play_calls T1.out S1.out N1.out (by have := HL.out; have := HN.out; have := C1.out; omega) ⟨8, ⟨0, 0, 0⟩, ⟨0, 0, 0⟩, b, 0, false⟩ ⟨by simp, by simp, by simp; omega, by simp⟩).mono ?_
            rintro e W3 ⟨rfl, pl⟩
            have PL := Aside0.mk pl
            clear pl
            go_wp2_with (fail)
            go_roundg (40 - (b + 1))
            case measure => have := HB1.out; have := C1.out; omega
            case rel => have := C1.out; exact ⟨b + 1, by omega, by simp, PL⟩
          · have t2 : decide ((b : Int) ≤ (q : Int) + 1) = false := by simp; omega
            clear c2
            go_wp2_with (fail)
            go_at_call 17
            refine (heads_calls _).mono ?_
            rintro e W4 ⟨rfl, hB⟩
            have HB2 := Aside0.mk (pm_chain (w := w) T1.out.below hB)
            clear hB
            go_wp2_with (fail)
            go_ret
            exact ⟨rfl, HB2.out⟩
        · have t1 : decide ((b : Int) < 40) = false := by simp; omega
          clear c1
          by_cases c2 : b ≤ q + 1
          · have t2 : decide ((b : Int) ≤ (q : Int) + 1) = true := by simp; omega
            clear c2
            go_wp2_with (fail)
            go_at_call 17
            refine (heads_calls _).mono ?_
            rintro e W4 ⟨rfl, hB⟩
            have HB2 := Aside0.mk (pm_chain (w := w) T1.out.below hB)
            clear hB
            go_wp2_with (fail)
            go_ret
            exact ⟨rfl, HB2.out⟩
          · have t2 : decide ((b : Int) ≤ (q : Int) + 1) = false := by simp; omega
            clear c2
            go_wp2_with (fail)
            go_at_call 17
            refine (heads_calls _).mono ?_
            rintro e W4 ⟨rfl, hB⟩
            have HB2 := Aside0.mk (pm_chain (w := w) T1.out.below hB)
            clear hB
            go_wp2_with (fail)
            go_ret
            exact ⟨rfl, HB2.out⟩
end Go.Proofs.Ythdnhfjodhjejaa.Ma
