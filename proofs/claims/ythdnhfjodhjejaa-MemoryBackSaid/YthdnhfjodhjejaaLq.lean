/- How a script comes in: a slice of structs that hold structs. No condition beyond those each theorem names. -/
import Derived.Test.YthdnhfjodhjejaaRt
import Derived.Test.YthdnhfjodhjejaaLo
import Derived.Deep.Slices
namespace Go.Proofs.Ythdnhfjodhjejaa.Ma
open Go.ChangeShapes Go.WideShapes Go.ChangeAt Go.RowKit Go.Joins Go.Deep Go.Proofs.YthdnhfjodhjejaaW.PrintWords
set_option linter.unusedVariables false
variable {H : Type} {enc : TypeId × Value → H} {w : World} {base : Nat} {spare : Nat → Bool} {held : Bool}
set_option maxRecDepth 100000 in
theorem open_v3_cells {fuel : Nat} {cs : List Value} {x : DataW H × List MemPlace} (h : DataW.trod enc Try.prog w base spare held fuel 51 cs = some x) :
    ∃ y : V3, cs = [.int .i64 y.k, .int .u32 y.v, .int .i64 y.b] ∧ (0 ≤ y.v ∧ y.v < 4294967296) := by
  obtain ⟨xs, n, rfl, rfl, hl, hx, hf⟩ := DataW.trod_struct Try.underlying51 h
  have hl3 : cs.length = 3 := by rw [hl]; kernel_rfl
  obtain ⟨b0, b1, b2, rfl⟩ : ∃ a b c, cs = [a, b, c] := by
    match cs, hl3 with
    | [a, b, c], _ => exact ⟨a, b, c, rfl⟩
  have hxs : xs.length = 3 := by rw [hx]; rfl
  have h49 : Try.prog.cellsOf 49 = 1 := by kernel_rfl
  have h31 : Try.prog.cellsOf 31 = 1 := by kernel_rfl
  have h3 : Try.prog.cellsOf 3 = 1 := by kernel_rfl
  have g0 := hf 0 _ rfl
  have g1 := hf 1 _ rfl
  have g2 := hf 2 _ rfl
  rw [List.getElem?_eq_getElem (by omega)] at g0 g1 g2
  obtain ⟨c0, hc0, _, u0⟩ := DataW.trod_int Try.underlying49 g0
  obtain ⟨c1, hc1, _, u1⟩ := DataW.trod_int Try.underlying31 g1
  obtain ⟨c2, hc2, _, u2⟩ := DataW.trod_int Try.underlying3 g2
  simp [h49] at hc0
  simp [h31] at hc1
  simp [h3] at hc2
  subst hc0 hc1 hc2
  exact ⟨⟨c0, c1, c2⟩, rfl, u32_in u1⟩
set_option maxRecDepth 100000 in
theorem open_act_cells {fuel : Nat} {cs : List Value} {x : DataW H × List MemPlace} (h : DataW.trod enc Try.prog w base spare held fuel 75 cs = some x) :
    ∃ y : Act1, cs = y.cells ∧ y.In := by
  obtain ⟨xs, n, rfl, rfl, hl, hx, hf⟩ := DataW.trod_struct Try.underlying75 h
  have hl3 : cs.length = 10 := by rw [hl]; kernel_rfl
  obtain ⟨b0, b1, b2, b3, b4, b5, b6, b7, b8, b9, rfl⟩ : ∃ a b c d e f g i j k, cs = [a, b, c, d, e, f, g, i, j, k] := by
    match cs, hl3 with
    | [a, b, c, d, e, f, g, i, j, k], _ => exact ⟨a, b, c, d, e, f, g, i, j, k, rfl⟩
  have hxs : xs.length = 6 := by rw [hx]; rfl
  have h51 : Try.prog.cellsOf 51 = 3 := by kernel_rfl
  have h3 : Try.prog.cellsOf 3 = 1 := by kernel_rfl
  have h4 : Try.prog.cellsOf 4 = 1 := by kernel_rfl
  have g0 := hf 0 _ rfl
  have g1 := hf 1 _ rfl
  have g2 := hf 2 _ rfl
  have g3 := hf 3 _ rfl
  have g4 := hf 4 _ rfl
  have g5 := hf 5 _ rfl
  rw [List.getElem?_eq_getElem (by omega)] at g0 g1 g2 g3 g4 g5
  obtain ⟨c0, hc0, _, u0⟩ := DataW.trod_int Try.underlying3 g0
  obtain ⟨p, hc1, u1⟩ := open_v3_cells g1
  obtain ⟨q, hc2, u2⟩ := open_v3_cells g2
  obtain ⟨c3, hc3, _, u3⟩ := DataW.trod_int Try.underlying3 g3
  obtain ⟨c4, hc4, _, u4⟩ := DataW.trod_int Try.underlying3 g4
  obtain ⟨c5, hc5, _⟩ := DataW.trod_bool Try.underlying4 g5
  simp [h3] at hc0 hc3 hc4
  simp [h51] at hc1 hc2
  simp [h4] at hc5
  obtain ⟨rfl, rfl, rfl⟩ := hc1
  obtain ⟨rfl, rfl, rfl⟩ := hc2
  subst hc0 hc3 hc4 hc5
  exact ⟨⟨c0, p, q, c3, c4, c5⟩, rfl, ⟨u1, u2, i64_in u3, i64_in u4⟩⟩
/-- The script, out of what the row gives. -/
theorem open_script {a : Option Addr} {len cap : Nat} {d : DataW H} {ps : List MemPlace} (h : DataW.Trod enc Try.prog w base spare held 48 (.slice a len cap) d ps) : ∃ xs, xs.length = len ∧ Script w a xs := by
  obtain ⟨fuel, hf⟩ := h
  have h75 : Try.prog.cellsOf 75 = 10 := by kernel_rfl
  rcases open_slice Try.underlying48 hf with ⟨hcs, _⟩ | ⟨x, l, c, m, n, D, Pl, hcs, _, hl, hmx, hm, _, hel⟩
  · simp [Value.cells] at hcs
    obtain ⟨rfl, rfl, rfl⟩ := hcs
    exact ⟨[], rfl, rfl, by simp, by simp⟩
  · simp [Value.cells] at hcs
    obtain ⟨rfl, rfl, rfl⟩ := hcs
    have hlm : len ≤ m := by rw [hm]; split <;> omega
    have each : ∀ i, ∃ y : Act1, i < len → y.In ∧ ∀ k u, y.cells[k]? = some u → w.cell? (x.add (i * 10 + k)) = some u := by
      intro i
      by_cases hi : i < len
      · obtain ⟨cs', hc, ht⟩ := hel i (by omega)
        obtain ⟨y, rfl, hy⟩ := open_act_cells ht
        refine ⟨y, fun _ => ⟨hy, fun k u hk => ?_⟩⟩
        obtain ⟨_, hlen, hcell⟩ := World.cells?_some hc
        have hk10 : k < 10 := by
          have := (List.getElem?_eq_some_iff.1 hk).1
          simpa [Act1.cells] using this
        have := hcell k (by omega)
        rw [h75, Deep.add_add, hk] at this
        exact this
      · exact ⟨⟨0, ⟨0, 0, 0⟩, ⟨0, 0, 0⟩, 0, 0, false⟩, fun h => absurd h hi⟩
    refine ⟨(List.range len).map fun i => (each i).choose, by simp, by simp, by simp [maxLen] at hmx ⊢; omega, fun _ => ⟨x, rfl, fun j p hp => ?_⟩⟩
    have hj := (List.getElem?_eq_some_iff.1 hp).1
    simp at hj
    have hp2 : p = (each j).choose := by simpa [hj] using hp.symm
    obtain ⟨hy, hc⟩ := (each j).choose_spec hj
    rw [← hp2] at hy hc
    exact ⟨p.cells, rfl, ⟨rfl, hy⟩, hc⟩
theorem sized_script {ts : List TypeId} {ds : List (DataW H)} {j : Nat} {a : Option Addr} {len cap : Nat} {d : DataW H} {ps : List MemPlace}
    (hsz : (DataW.weightsEach Try.prog ts ds).all (· ≤ reachBytes) = true) (ht : ts[j]? = some 48) (hd : ds[j]? = some d)
    (h : DataW.Trod enc Try.prog w base spare held 48 (.slice a len cap) d ps) : len ≤ 1759218604390 := by
  obtain ⟨fuel, hf⟩ := h
  rcases open_slice Try.underlying48 hf with ⟨hcs, _⟩ | ⟨x, l, c, m, n, D, Pl, hcs, _, hl, hmx, hm, hx, hel⟩
  · simp [Value.cells] at hcs
    obtain ⟨rfl, rfl, rfl⟩ := hcs
    simp
  · simp [Value.cells] at hcs
    obtain ⟨rfl, rfl, rfl⟩ := hcs
    obtain ⟨hx, _⟩ := Prod.mk.inj hx
    subst hx
    have z := sized_slice hsz ht hd Try.underlying48
    rw [show Try.prog.bytesOf 75 = 80 by kernel_rfl] at z
    simp [reachBytes] at z
    omega
end Go.Proofs.Ythdnhfjodhjejaa.Ma
