/- made: a memory as a script makes it. No condition beyond those each theorem names. -/
import Derived.Test.YthdnhfjodhjejaaRs
namespace Go.Proofs.Ythdnhfjodhjejaa.Ma
open Go.RowKit Go.Proofs.Ythdnhfjodhjejaa.PMe Go.Proofs.YthdnhfjodhjejaaW.PrintWords Go.Proofs.YthdnhfjodhjejaaW.PrintLast Go.Proofs.YthdnhfjodhjejaaW.PrintMore
set_option linter.unusedVariables false
set_option linter.unusedSimpArgs false
variable {w W W1 : World} {m mm : Nat} {last last' : Int} {L L' : List Rec} {r : Nat} {sv sv' : Value} {Bs Bs' : List Blk}
def Act1.cells (x : Act1) : List Value := [.int .i64 x.k, .int .i64 x.p.k, .int .u32 x.p.v, .int .i64 x.p.b, .int .i64 x.q.k, .int .u32 x.q.v, .int .i64 x.q.b, .int .i64 x.n, .int .i64 x.wd, .bool x.sg]
/-- A script that is read. -/
def Script (w : World) (A : Option Addr) (xs : List Act1) : Prop := ReadsRow (fun (x : Act1) c => c = x.cells ∧ x.In) 10 w A xs.length xs
theorem Script.below {A : Option Addr} {xs : List Act1} (h : Script w A xs) (k : Below w.heap.size w W) : Script W A xs := ReadsRow.imp_ h k (fun _ _ h => h)
theorem Script.at {A : Option Addr} {xs : List Act1} (h : Script w A xs) {j : Nat} {x : Act1} (hj : xs[j]? = some x) : ∃ ad, A = some ad ∧ x.In ∧ w.cell? (ad.add (j * 10)) = some (.int .i64 x.k) ∧ w.cell? ⟨(ad.add (j * 10)).block, (ad.add (j * 10)).off + 1, none⟩ = some (.int .i64 x.p.k) ∧ w.cell? ⟨(ad.add (j * 10)).block, (ad.add (j * 10)).off + 2, none⟩ = some (.int .u32 x.p.v) ∧ w.cell? ⟨(ad.add (j * 10)).block, (ad.add (j * 10)).off + 3, none⟩ = some (.int .i64 x.p.b) ∧ w.cell? ⟨(ad.add (j * 10)).block, (ad.add (j * 10)).off + 4, none⟩ = some (.int .i64 x.q.k) ∧ w.cell? ⟨(ad.add (j * 10)).block, (ad.add (j * 10)).off + 5, none⟩ = some (.int .u32 x.q.v) ∧ w.cell? ⟨(ad.add (j * 10)).block, (ad.add (j * 10)).off + 6, none⟩ = some (.int .i64 x.q.b) ∧ w.cell? ⟨(ad.add (j * 10)).block, (ad.add (j * 10)).off + 7, none⟩ = some (.int .i64 x.n) ∧ w.cell? ⟨(ad.add (j * 10)).block, (ad.add (j * 10)).off + 8, none⟩ = some (.int .i64 x.wd) ∧ w.cell? ⟨(ad.add (j * 10)).block, (ad.add (j * 10)).off + 9, none⟩ = some (.bool x.sg) := by
  have hlt := (List.getElem?_eq_some_iff.1 hj).1
  obtain ⟨ad, e, hc⟩ := h.2.2 (by omega)
  obtain ⟨c, _, ⟨rfl, hin⟩, hcell⟩ := hc j x hj
  exact ⟨ad, e, hin, hcell 0 _ rfl, by rw [← add_field _ _ 1 (by omega)]; exact hcell 1 _ rfl, by rw [← add_field _ _ 2 (by omega)]; exact hcell 2 _ rfl, by rw [← add_field _ _ 3 (by omega)]; exact hcell 3 _ rfl, by rw [← add_field _ _ 4 (by omega)]; exact hcell 4 _ rfl, by rw [← add_field _ _ 5 (by omega)]; exact hcell 5 _ rfl, by rw [← add_field _ _ 6 (by omega)]; exact hcell 6 _ rfl, by rw [← add_field _ _ 7 (by omega)]; exact hcell 7 _ rfl, by rw [← add_field _ _ 8 (by omega)]; exact hcell 8 _ rfl, by rw [← add_field _ _ 9 (by omega)]; exact hcell 9 _ rfl⟩
/-- Both memories at the beginning. -/
theorem two_new (hm : w.heap.size ≤ m) (hmm : w.heap.size ≤ mm) (pm : PM W m mm 0 []) (hb : Below w.heap.size w W) : Two w (W.alloc (.cells #[.slice none 0 0, .int .i64 0] 72)) m mm 0 [] W.heap.size (.slice none 0 0) [] := by
  have hg : Below W.heap.size W (W.alloc (.cells #[.slice none 0 0, .int .i64 0] 72)) := by (repeat (first | (with_reducible exact Below.refl _ _) | (with_reducible assumption) | with_reducible apply below_alloc | with_reducible apply pw_below_drewN | with_reducible apply below_drew1))
  refine ⟨⟨pm.below hg, pm_chain hb hg, by simp [foot]; exact ⟨hm, hmm⟩⟩, ⟨heap_at _ _ _ rfl, ⟨rfl, .inl ⟨rfl, rfl⟩⟩, by simp, by simp [rfoot, Value.ownBlock], by simp, by simp, by simp [live], by simp⟩, ?_, ?_⟩
  · intro i hi; simp [rfoot, Value.ownBlock] at hi; subst hi; exact hb.size
  · intro i hi hr
    simp [rfoot, Value.ownBlock] at hr
    have := pm.foot_lt i hi
    omega
theorem sim_new : Sim 0 [] [] := ⟨rfl, rfl, fun k => by simp [findR, livR]⟩
set_option maxHeartbeats 8000000 in
set_option maxRecDepth 100000 in
theorem made_calls (A : Option Addr) (cap : Nat) (xs : List Act1) (hs : Script w A xs) (hl : xs.length < 1759218604441) : Calls Try.prog 15 #[.slice A xs.length cap] w fun e w' => ∃ m r, e = .returned (.pointer (some ⟨m, 0, none⟩)) ∧ Played w m r xs.length w' := by
  have hu72 := Try.underlying72
  have S := Aside0.mk hs
  have HL := Aside0.mk hl
  obtain ⟨n, hn⟩ : ∃ n, n = xs.length := ⟨_, rfl⟩
  rw [← hn]
  have HN := Aside0.mk hn
  have hn2 : n ≤ 1759218604441 := by omega
  clear hs hl hn
  go_enter Try.func15, Try.ntmps15
  go_wp2_with (fail)
  go_at_call 22
  refine New_calls.mono ?_
  rintro e W1 ⟨m, mm, rfl, hm, hmm, pm, hb⟩
  have T := Aside0.mk (two_new hm hmm pm hb)
  have HB := Aside0.mk hb
  clear hm hmm pm hb
  go_wp2_with (fail)
  generalize W1.heap.size = r at T ⊢
  generalize (W1.alloc (.cells #[.slice none 0 0, .int .i64 0] 72)) = W2 at T ⊢
  go_loopg [5] n (fun kq v5 wr => ∃ j : Nat, j + kq = n ∧ v5 = .int .i64 j ∧ Aside0 (Played w m r j wr))
  case atStart => exact ⟨0, by omega, rfl, ⟨mm, 0, [], _, [], T.out, sim_new, by simp⟩⟩
  case round =>
    obtain ⟨j, hj, rfl, HPl⟩ := hrel
    by_cases hlt : j < n
    · have HJ := Aside0.mk hj
      have HLT := Aside0.mk hlt
      obtain ⟨mm1, last1, L1, sv1, Bs1, T1, S1, N1⟩ := HPl.out
      obtain ⟨x, hx⟩ : ∃ x, xs[j]? = some x := ⟨_, List.getElem?_eq_getElem (by have := HN.out; omega)⟩
      obtain ⟨ad, hA, hin, c0, c1, c2, c3, c4, c5, c6, c7, c8, c9⟩ := (S.out.below T1.below).at hx
      subst hA
      have T1 := Aside0.mk T1
      have S1 := Aside0.mk S1
      have N1 := Aside0.mk N1
      have HIN := Aside0.mk hin
      clear hj hx hin HPl T HB
      go_wp2_with (fail)
      go_at_call 23
      refine (play_calls T1.out S1.out N1.out (by have := HL.out; have := HN.out; have := HLT.out; omega) x HIN.out).mono ?_
      rintro e W3 ⟨rfl, pl⟩
      have PL := Aside0.mk pl
      clear pl c0 c1 c2 c3 c4 c5 c6 c7 c8 c9
      go_wp2_with (fail)
      go_roundg (n - (j + 1))
      case measure => have := HJ.out; have := HLT.out; omega
      case rel => have := HLT.out; exact ⟨j + 1, by omega, by simp, PL⟩
    · obtain rfl : j = n := by omega
      go_wp2_with (fail)
      go_ret
      exact ⟨m, r, rfl, HPl.out⟩
end Go.Proofs.Ythdnhfjodhjejaa.Ma
