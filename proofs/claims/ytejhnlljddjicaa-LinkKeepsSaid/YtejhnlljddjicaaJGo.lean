/- How a row of objects comes in, out of what the statement's row gives. No condition beyond those each theorem names. And more of the kind: 1 texts in one. -/
import Derived.Test.YtejhnlljddjicaaJGh
import Derived.WalkKit
import Derived.ProofKit
import Derived.OpenShut
import Derived.ShutString
import Derived.ChangeOld
import Derived.Below
import Derived.SizedLaws
import Derived.Lib.SmallJoins
import Derived.Deep.Slices
namespace Go.Proofs.Ytejhnlljddjicaa.Ma
open Go.ChangeShapes Go.WideShapes Go.ChangeAt Go.RowKit Go.Joins Go.Deep Go.Proofs.YtejhnlljddjicaaW.PrintWords
set_option linter.unusedVariables false
set_option linter.unusedSimpArgs false
variable {H : Type} {enc : TypeId × Value → H} {w : World} {base : Nat} {spare : Nat → Bool} {held : Bool}
theorem wf_i64 {a : Int} (h : (Lit.int .i64 a).wf = true) : -9223372036854775808 ≤ a ∧ a ≤ 9223372036854775807 := by
 simp [Lit.wf, IntKind.min, IntKind.max, IntKind.bits, IntKind.signed] at h
 omega
theorem wf_u8 {a : Int} (h : (Lit.int .u8 a).wf = true) : 0 ≤ a ∧ a < 256 := by
 simp [Lit.wf, IntKind.min, IntKind.max, IntKind.bits, IntKind.signed] at h
 omega
theorem wf_u32 {a : Int} (h : (Lit.int .u32 a).wf = true) : 0 ≤ a ∧ a < 4294967296 := by
 simp [Lit.wf, IntKind.min, IntKind.max, IntKind.bits, IntKind.signed] at h
 omega
/-- A datum whose rows and strings are no longer than a machine's. -/
def Light (t : TypeId) (d : DataW H) : Prop := ∀ n ∈ d.weights Try.prog t, n ≤ 140737488355328
theorem weights_all {P : Program} {e : TypeId} {n : Nat} : ∀ {l : List (DataW H)} {d : DataW H}, d ∈ l → n ∈ d.weights P e → n ∈ DataW.weightsAll P e l
 | x :: r, d, hd, hn => by
  rw [DataW.weightsAll, List.mem_append]
  rcases List.mem_cons.1 hd with rfl | hd
  ·exact .inl hn
  ·exact .inr (weights_all hd hn)
theorem light_elem {t e : TypeId} (hu : Try.prog.underlying t = some (.slice e)) {elems sp : List (DataW H)} (h : Light t (.slice elems sp)) {d : DataW H} (hd : d ∈ elems) : Light e d := fun n hn => h n (by
 simp only [DataW.weights, hu, List.mem_cons, List.mem_append]
 exact .inr (.inl (weights_all hd hn)))
theorem light_len {t e : TypeId} (hu : Try.prog.underlying t = some (.slice e)) (hb : 1 ≤ Try.prog.bytesOf e) {elems sp : List (DataW H)} (h : Light t (.slice elems sp)) : elems.length ≤ 140737488355328 := by
 have h1 := h ((elems.length + sp.length) * Try.prog.bytesOf e) (by simp [DataW.weights, hu])
 have h2 := Nat.le_mul_of_pos_right (elems.length + sp.length) hb
 omega
theorem light_part {t : TypeId} {fs : Array Field} (hu : Try.prog.underlying t = some (.struct fs)) {parts : List (DataW H)} (h : Light t (.agg parts)) {j : Nat} {ft : TypeId} {d : DataW H} (hf : (fs.toList.map (·.type))[j]? = some ft) (hd : parts[j]? = some d) : Light ft d := fun n hn => h n (by
 simp only [DataW.weights, hu]
 exact DataW.weights_mem_each hf hd n hn)
theorem light_str {t : TypeId} {s : ByteArray} (h : Light (H := H) t (.lit (.string s.data.toList))) : s.size ≤ 140737488355328 := by
 have := h s.data.toList.length (by simp [DataW.weights])
 simpa using this
/-- A row of elements that are read one by one. -/
theorem open_row {α : Type} (ec : α → List Value) (In : α → Prop) (size : Nat) {t e : TypeId} (ht : Try.prog.underlying t = some (.slice e)) (hsz : Try.prog.cellsOf e = size) (hlen : ∀ y, (ec y).length = size) (hb : 1 ≤ Try.prog.bytesOf e) (d0 : α)
  (hopen : ∀ (fuel : Nat) (cs : List Value) (x : DataW H × List MemPlace), DataW.trod enc Try.prog w base spare held fuel e cs = some x → Light e x.1 → ∃ y, cs = ec y ∧ In y)
  {fuel : Nat} {cs : List Value} {x : DataW H × List MemPlace} (h : DataW.trod enc Try.prog w base spare held fuel t cs = some x) (hL : Light t x.1) :
  ∃ (a : Option Addr) (cap : Nat) (xs : List α), cs = [.slice a xs.length cap] ∧ xs.length ≤ cap ∧ xs.length ≤ 140737488355328 ∧ ReadsRow (fun y c => c = ec y) size w a xs.length xs ∧ ∀ y ∈ xs, In y := by
 rcases open_slice ht h with ⟨rfl, _⟩ | ⟨x, len, c, m, n, D, Pl, rfl, _, hl, hmx, hm, rfl, hel⟩
 ·exact ⟨none, 0, [], rfl, Nat.le_refl 0, Nat.zero_le _, ⟨rfl, by simp, fun h => absurd h (by simp)⟩, fun y hy => by simp at hy⟩
 ·have hlm : len ≤ m := by rw [hm]; split <;> omega
  have each : ∀ i, ∃ y : α, i < len → In y ∧ ∀ k u, (ec y)[k]? = some u → w.cell? (x.add (i * size + k)) = some u := by
   intro i
   by_cases hi : i < len
   ·obtain ⟨cs', hc, ht2⟩ := hel i (by omega)
    have hLi : Light e (D i) := light_elem ht hL (List.mem_map.2 ⟨i, List.mem_range.2 hi, rfl⟩)
    obtain ⟨y, rfl, hy⟩ := hopen _ _ _ ht2 hLi
    refine ⟨y, fun _ => ⟨hy, fun k u hk => ?_⟩⟩
    obtain ⟨_, hlen2, hcell⟩ := World.cells?_some hc
    have hk10 : k < size := by
     have := (List.getElem?_eq_some_iff.1 hk).1
     rwa [hlen] at this
    have := hcell k (by rw [hsz]; exact hk10)
    rw [hsz, Deep.add_add, hk] at this
    exact this
   ·exact ⟨d0, fun h => absurd h hi⟩
  have e : ((List.range len).map fun i => (each i).choose).length = len := by simp
  have hml : len ≤ 140737488355328 := by have := light_len ht hb hL; simpa using this
  refine ⟨some x, c, (List.range len).map fun i => (each i).choose, by rw [e], by rw [e]; exact hl, by rw [e]; omega, ⟨rfl, by rw [e]; omega, fun _ => ⟨x, rfl, fun j p hp => ?_⟩⟩, fun y hy => ?_⟩
  ·have hj := (List.getElem?_eq_some_iff.1 hp).1
   rw [e] at hj
   have hp2 : p = (each j).choose := by simpa [hj] using hp.symm
   obtain ⟨_, hc⟩ := (each j).choose_spec hj
   rw [← hp2] at hc
   exact ⟨ec p, hlen p, rfl, hc⟩
  ·obtain ⟨i, hi, rfl⟩ := List.mem_map.1 hy
   exact ((each i).choose_spec (List.mem_range.1 hi)).1
theorem open_nums {k : IntKind} {t e : TypeId} (ht : Try.prog.underlying t = some (.slice e)) (he : Try.prog.underlying e = some (.int k)) (hsz : Try.prog.cellsOf e = 1) (hb : 1 ≤ Try.prog.bytesOf e)
  {fuel : Nat} {cs : List Value} {x : DataW H × List MemPlace} (h : DataW.trod enc Try.prog w base spare held fuel t cs = some x) (hL : Light t x.1) :
  ∃ (a : Option Addr) (cap : Nat) (xs : List Int), cs = [.slice a xs.length cap] ∧ xs.length ≤ cap ∧ xs.length ≤ 140737488355328 ∧ Kd.C (Kd.int k) w a xs.length xs ∧ ∀ y ∈ xs, (Lit.int k y).wf = true := by
 obtain ⟨a, cap, xs, h1, h2, h3, h4, h5⟩ := open_row (fun y : Int => [.int k y]) (fun y => (Lit.int k y).wf = true) 1 ht hsz (fun _ => rfl) hb 0 (fun fuel cs x h _ => by
  obtain ⟨c, hc, _, u⟩ := DataW.trod_int he h
  exact ⟨c, hc, u⟩) h hL
 exact ⟨a, cap, xs, h1, h2, h3, h4, h5⟩
set_option maxRecDepth 100000 in
theorem open_sym {fuel : Nat} {cs : List Value} {x : DataW H × List MemPlace} (h : DataW.trod enc Try.prog w base spare held fuel 66 cs = some x) (hL : Light 66 x.1) : ∃ y : SymV, cs = y.cells ∧ y.In := by
 obtain ⟨xs, n, rfl, rfl, hl, hx, hf⟩ := DataW.trod_struct Try.underlying66 h
 have hl3 : cs.length = 3 := by rw [hl]; kernel_rfl
 obtain ⟨b0, b1, b2, rfl⟩ : ∃ a b c, cs = [a, b, c] := by
  match cs, hl3 with
  | [a, b, c], _ => exact ⟨a, b, c, rfl⟩
 have hxs : xs.length = 3 := by rw [hx]; rfl
 have h9 : Try.prog.cellsOf 9 = 1 := by kernel_rfl
 have h4 : Try.prog.cellsOf 4 = 1 := by kernel_rfl
 have h3 : Try.prog.cellsOf 3 = 1 := by kernel_rfl
 have g0 := hf 0 _ rfl
 have g1 := hf 1 _ rfl
 have g2 := hf 2 _ rfl
 rw [List.getElem?_eq_getElem (by omega)] at g0 g1 g2
 obtain ⟨s, hc0, hx0, _⟩ := DataW.trod_string Try.underlying9 g0
 have hsz := light_str (s := s) (t := 9) (H := H) (by have := light_part Try.underlying66 hL (j := 0) (ft := 9) (d := xs[0].1) rfl (by rw [List.getElem?_map, List.getElem?_eq_getElem (by omega)]; rfl); rwa [hx0] at this)
 obtain ⟨c1, hc1, _⟩ := DataW.trod_bool Try.underlying4 g1
 obtain ⟨c2, hc2, _, u2⟩ := DataW.trod_int Try.underlying3 g2
 simp [h9] at hc0
 simp [h4] at hc1
 simp [h3] at hc2
 subst hc0 hc1 hc2
 exact ⟨⟨s, c1, c2⟩, rfl, hsz, wf_i64 u2⟩
set_option maxRecDepth 100000 in
theorem open_fix {fuel : Nat} {cs : List Value} {x : DataW H × List MemPlace} (h : DataW.trod enc Try.prog w base spare held fuel 46 cs = some x) (hL : Light 46 x.1) : ∃ y : FixV, cs = y.cells ∧ y.In := by
 obtain ⟨xs, n, rfl, rfl, hl, hx, hf⟩ := DataW.trod_struct Try.underlying46 h
 have hl3 : cs.length = 4 := by rw [hl]; kernel_rfl
 obtain ⟨b0, b1, b2, b3, rfl⟩ : ∃ a b c d, cs = [a, b, c, d] := by
  match cs, hl3 with
  | [a, b, c, d], _ => exact ⟨a, b, c, d, rfl⟩
 have hxs : xs.length = 4 := by rw [hx]; rfl
 have h9 : Try.prog.cellsOf 9 = 1 := by kernel_rfl
 have h44 : Try.prog.cellsOf 44 = 1 := by kernel_rfl
 have h3 : Try.prog.cellsOf 3 = 1 := by kernel_rfl
 have g0 := hf 0 _ rfl
 have g1 := hf 1 _ rfl
 have g2 := hf 2 _ rfl
 have g3 := hf 3 _ rfl
 rw [List.getElem?_eq_getElem (by omega)] at g0 g1 g2 g3
 obtain ⟨c0, hc0, _, u0⟩ := DataW.trod_int Try.underlying44 g0
 obtain ⟨c1, hc1, _, u1⟩ := DataW.trod_int Try.underlying3 g1
 obtain ⟨s, hc2, hx2, _⟩ := DataW.trod_string Try.underlying9 g2
 have hsz := light_str (s := s) (t := 9) (H := H) (by have := light_part Try.underlying46 hL (j := 2) (ft := 9) (d := xs[2].1) rfl (by rw [List.getElem?_map, List.getElem?_eq_getElem (by omega)]; rfl); rwa [hx2] at this)
 obtain ⟨c3, hc3, _, u3⟩ := DataW.trod_int Try.underlying3 g3
 simp [h44] at hc0
 simp [h3] at hc1
 simp [h9] at hc2
 simp [h3] at hc3
 subst hc0 hc1 hc2 hc3
 exact ⟨⟨c0, c1, s, c3⟩, rfl, hsz, wf_i64 u1, wf_i64 u3, wf_i64 u0⟩
set_option maxRecDepth 100000 in
theorem open_obj {fuel : Nat} {cs : List Value} {x : DataW H × List MemPlace} (h : DataW.trod enc Try.prog w base spare held fuel 43 cs = some x) (hL : Light 43 x.1) : ∃ y : Four × ObjV, cs = y.1.cells y.2 ∧ (ObjR w y.1 y.2 ∧ y.2.In) := by
 obtain ⟨xs, n, rfl, rfl, hl, hx, hf⟩ := DataW.trod_struct Try.underlying43 h
 have hl3 : cs.length = 4 := by rw [hl]; kernel_rfl
 obtain ⟨b0, b1, b2, b3, rfl⟩ : ∃ a b c d, cs = [a, b, c, d] := by
  match cs, hl3 with
  | [a, b, c, d], _ => exact ⟨a, b, c, d, rfl⟩
 have hxs : xs.length = 4 := by rw [hx]; rfl
 have h39 : Try.prog.cellsOf 39 = 1 := by kernel_rfl
 have h23 : Try.prog.cellsOf 23 = 1 := by kernel_rfl
 have h40 : Try.prog.cellsOf 40 = 1 := by kernel_rfl
 have h41 : Try.prog.cellsOf 41 = 1 := by kernel_rfl
 have g0 := hf 0 _ rfl
 have g1 := hf 1 _ rfl
 have g2 := hf 2 _ rfl
 have g3 := hf 3 _ rfl
 rw [List.getElem?_eq_getElem (by omega)] at g0 g1 g2 g3
 obtain ⟨a0, c0, x0, hc0, l0, m0, r0, u0⟩ := open_nums (k := .u32) Try.underlying39 Try.underlying31 (by kernel_rfl) (of_decide_eq_true (by kernel_rfl)) g0 (light_part Try.underlying43 hL (j := 0) (ft := 39) (d := xs[0].1) rfl (by rw [List.getElem?_map, List.getElem?_eq_getElem (by omega)]; rfl))
 obtain ⟨a1, c1, x1, hc1, l1, m1, r1, u1⟩ := open_nums (k := .u8) Try.underlying23 Try.underlying5 (by kernel_rfl) (of_decide_eq_true (by kernel_rfl)) g1 (light_part Try.underlying43 hL (j := 1) (ft := 23) (d := xs[1].1) rfl (by rw [List.getElem?_map, List.getElem?_eq_getElem (by omega)]; rfl))
 obtain ⟨a2, c2, x2, hc2, l2, m2, r2, u2⟩ := open_row SymV.cells SymV.In 3 Try.underlying40 (by kernel_rfl) (fun _ => rfl) (of_decide_eq_true (by kernel_rfl)) ⟨ByteArray.empty, false, 0⟩ (fun _ _ _ h k => open_sym h k) g2 (light_part Try.underlying43 hL (j := 2) (ft := 40) (d := xs[2].1) rfl (by rw [List.getElem?_map, List.getElem?_eq_getElem (by omega)]; rfl))
 obtain ⟨a3, c3, x3, hc3, l3, m3, r3, u3⟩ := open_row FixV.cells FixV.In 4 Try.underlying41 (by kernel_rfl) (fun _ => rfl) (of_decide_eq_true (by kernel_rfl)) ⟨0, 0, ByteArray.empty, 0⟩ (fun _ _ _ h k => open_fix h k) g3 (light_part Try.underlying43 hL (j := 3) (ft := 41) (d := xs[3].1) rfl (by rw [List.getElem?_map, List.getElem?_eq_getElem (by omega)]; rfl))
 simp [h39] at hc0
 simp [h23] at hc1
 simp [h40] at hc2
 simp [h41] at hc3
 subst hc0 hc1 hc2 hc3
 exact ⟨⟨⟨a0, c0, a1, c1, a2, c2, a3, c3⟩, ⟨x0, x1, x2, x3⟩⟩, rfl, ⟨r0, r1, r2, r3, l0, l1, l2, l3⟩, ⟨fun v hv => wf_u32 (u0 v hv), fun v hv => wf_u8 (u1 v hv), u2, u3, m0, m1, m2, m3⟩⟩
/-- The objects, out of what the row gives. -/
theorem open_objs {a : Option Addr} {len cap : Nat} {d : DataW H} {ps : List MemPlace} (h : DataW.Trod enc Try.prog w base spare held 22 (.slice a len cap) d ps) (hL : Light 22 d) : ∃ ls : List ObjV, ls.length = len ∧ ObjsR w a ls ∧ ∀ o ∈ ls, o.In := by
 obtain ⟨fuel, hf⟩ := h
 obtain ⟨a', cap', xs, hc, _, _, hr, hin⟩ := open_row (fun y : Four × ObjV => y.1.cells y.2) (fun y => ObjR w y.1 y.2 ∧ y.2.In) 4 Try.underlying22 (by kernel_rfl) (fun _ => rfl) (of_decide_eq_true (by kernel_rfl)) ⟨⟨none, 0, none, 0, none, 0, none, 0⟩, ⟨[], [], [], []⟩⟩ (fun _ _ _ h k => open_obj h k) hf hL
 simp [Value.cells] at hc
 obtain ⟨rfl, rfl, rfl⟩ := hc
 refine ⟨xs.map (·.2), by simp, ⟨fun j o ho => ?_⟩, fun o ho => ?_⟩
 ·rw [List.getElem?_map] at ho
  cases hx : xs[j]? with
  | none => rw [hx] at ho; cases ho
  | some y =>
   rw [hx] at ho
   simp only [Option.map_some, Option.some.injEq] at ho
   subst ho
   have hlt := (List.getElem?_eq_some_iff.1 hx).1
   obtain ⟨ad, e, hcell⟩ := hr.2.2 (by omega)
   obtain ⟨c, _, rfl, hcell⟩ := hcell j y hx
   exact ⟨ad, y.1, e, (hin y (List.mem_of_getElem? hx)).1, hcell 0 _ rfl, by rw [← add_field _ _ 1 (by omega)]; exact hcell 1 _ rfl, by rw [← add_field _ _ 2 (by omega)]; exact hcell 2 _ rfl, by rw [← add_field _ _ 3 (by omega)]; exact hcell 3 _ rfl⟩
 ·obtain ⟨y, hy, rfl⟩ := List.mem_map.1 ho
  exact (hin y hy).2
theorem light_of {ts : List TypeId} {ds : List (DataW H)} {j : Nat} {t : TypeId} {d : DataW H} (hsz : (DataW.weightsEach Try.prog ts ds).all (· ≤ reachBytes) = true) (ht : ts[j]? = some t) (hd : ds[j]? = some d) : Light t d := fun n hn => by
 have := List.all_eq_true.1 hsz _ (DataW.weights_mem_each ht hd n hn)
 have h2 : n ≤ reachBytes := by simpa using this
 exact Nat.le_trans h2 (by decide)
theorem sized_objs {ts : List TypeId} {ds : List (DataW H)} {j : Nat} {a : Option Addr} {len cap : Nat} {d : DataW H} {ps : List MemPlace}
  (hsz : (DataW.weightsEach Try.prog ts ds).all (· ≤ reachBytes) = true) (ht : ts[j]? = some 22) (hd : ds[j]? = some d)
  (h : DataW.Trod enc Try.prog w base spare held 22 (.slice a len cap) d ps) : len ≤ 1466015503700 := by
 obtain ⟨fuel, hf⟩ := h
 rcases open_slice Try.underlying22 hf with ⟨hcs, _⟩ | ⟨x, l, c, m, n, D, Pl, hcs, _, hl, hmx, hm, hx, hel⟩
 ·simp [Value.cells] at hcs
  obtain ⟨rfl, rfl, rfl⟩ := hcs
  simp
 ·simp [Value.cells] at hcs
  obtain ⟨rfl, rfl, rfl⟩ := hcs
  obtain ⟨hx, _⟩ := Prod.mk.inj hx
  subst hx
  have z := sized_slice hsz ht hd Try.underlying22
  rw [show Try.prog.bytesOf 43 = 96 by kernel_rfl] at z
  simp [reachBytes] at z
  omega
end Go.Proofs.Ytejhnlljddjicaa.Ma
