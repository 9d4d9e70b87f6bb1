/- A map in the model's world as a function from keys to values: what look-up, update and the entry's two steps do. Conditions: the key's type has a law (Keyed). And more of the kind: 6 texts in one. -/
import Derived.Test.YtejhnlljddjicaaProg
import Derived.Maps.Own
import Derived.WideKeyEntry
import Derived.Test.YtejhnlljddjicaaJGc
import Derived.Test.YtejhnlljddjicaaJGa
import Derived.Lib.ConvBytes
import Derived.Test.YtejhnlljddjicaaJGe
import Derived.Laws.StructEq
set_option linter.unusedVariables false
namespace Go.Proofs.Ytejhnlljddjicaa.Ma
open Go Go.Maps Go.WideElems
open Go.MapKept (Stamped)
open Go.ChangeMaps Go.ChangeShapes Go.WideShapes
variable {P : Program} {k : TypeId}
/-- Block b is a map that holds f. -/
def MapV (P : Program) (k : TypeId) (w : World) (b : Nat) (f : Value → Option Value) : Prop :=
 ∃ es clock, w.heap[b]? = some (.map es clock) ∧ (∀ e ∈ es.toList, ∃ l, keyOf P k e.key = some l) ∧ Stamped es clock ∧ (∀ e ∈ es.toList, f e.key = some e.val) ∧ ∀ x v, f x = some v → ∃ e ∈ es.toList, e.key = x
open Classical in
/-- A map with one key's value turned. -/
noncomputable def upd (f : Value → Option Value) (x v : Value) : Value → Option Value := fun y => if y = x then some v else f y
theorem upd_same (f : Value → Option Value) (x v : Value) : upd f x v x = some v := by simp [upd]
theorem upd_other (f : Value → Option Value) {x y : Value} (v : Value) (h : y ≠ x) : upd f x v y = f y := by simp [upd, h]
theorem MapV.empty (w : World) : MapV P k (w.alloc (.map #[] 0)) w.heap.size (fun _ => none) :=
 ⟨#[], 0, (by show (w.heap.push _)[w.heap.size]? = _; simp), by simp, ⟨by simp, by simp, by simp⟩, by simp, by simp⟩
theorem MapV.moved {w W : World} {b : Nat} {f} (h : MapV P k w b f) (hb : W.heap[b]? = w.heap[b]?) : MapV P k W b f := by
 obtain ⟨es, c, h1, h2⟩ := h
 exact ⟨es, c, hb.trans h1, h2⟩
theorem MapV.lt {w : World} {b : Nat} {f} (h : MapV P k w b f) : b < w.heap.size := by
 obtain ⟨es, c, h1, _⟩ := h
 exact (Array.getElem?_eq_some_iff.1 h1).1
/-- m[x] -/
theorem MapV.look {w : World} {b : Nat} {f} (K : Keyed P k) {t e : TypeId} (ht : P.underlying t = some (.map k e)) {z : Value} (hz : ∀ u : World, (zeroValue e).run P u = .ok z u)
  (h : MapV P k w b f) {x : Value} {l : Lit} (hx : keyOf P k x = some l) : (Instr.lookup t (.map (some b)) x false).run P w = .ok ((f x).getD z) w := by
 obtain ⟨es, c, hb, hk, hs, hf, hg⟩ := h
 rcases K.find w hx es.toList hk with ⟨h1, h2⟩ | ⟨j, e0, h1, h2, h3⟩
 ·have : f x = none := by
   cases hfx : f x with
   | none => rfl
   | some v => obtain ⟨e1, m1, m2⟩ := hg x v hfx; exact absurd m2 (h2 e1 m1)
  rw [this]
  simp [Instr.lookup, run_underlying ht, MapKept.run_getObj_map hb, K.check w _ hx, h1, hz, Result.andThen]
 ·have : f x = some e0.val := h3 ▸ hf e0 (List.mem_of_getElem? h2)
  rw [this]
  simp [Instr.lookup, run_underlying ht, MapKept.run_getObj_map hb, K.check w _ hx, h1, Result.andThen]
/-- v, ok := m[x] -/
theorem MapV.look_ok {w : World} {b : Nat} {f} (K : Keyed P k) {t e : TypeId} (ht : P.underlying t = some (.map k e)) {z : Value} (hz : ∀ u : World, (zeroValue e).run P u = .ok z u)
  (h : MapV P k w b f) {x : Value} {l : Lit} (hx : keyOf P k x = some l) : (Instr.lookup t (.map (some b)) x true).run P w = .ok (.tuple #[(f x).getD z, .bool (f x).isSome]) w := by
 obtain ⟨es, c, hb, hk, hs, hf, hg⟩ := h
 rcases K.find w hx es.toList hk with ⟨h1, h2⟩ | ⟨j, e0, h1, h2, h3⟩
 ·have : f x = none := by
   cases hfx : f x with
   | none => rfl
   | some v => obtain ⟨e1, m1, m2⟩ := hg x v hfx; exact absurd m2 (h2 e1 m1)
  rw [this]
  simp [Instr.lookup, run_underlying ht, MapKept.run_getObj_map hb, K.check w _ hx, h1, hz, Result.andThen]
 ·have : f x = some e0.val := h3 ▸ hf e0 (List.mem_of_getElem? h2)
  rw [this]
  simp [Instr.lookup, run_underlying ht, MapKept.run_getObj_map hb, K.check w _ hx, h1, Result.andThen]
theorem setBlock_at {w : World} {b : Nat} {o : Obj} (o' : Obj) (h : w.heap[b]? = some o) : (setBlock w b o').heap[b]? = some o' := by
 have := (Array.getElem?_eq_some_iff.1 h).1
 simp [setBlock, this]
theorem setBlock_ne (w : World) (b : Nat) (o : Obj) {i : Nat} (h : i ≠ b) : (setBlock w b o).heap[i]? = w.heap[i]? := by
 simp only [setBlock]
 rw [Array.getElem?_setIfInBounds_ne (fun e => h e.symm)]
theorem setBlock_same (w : World) (b : Nat) {o : Obj} (h : w.heap[b]? = some o) : setBlock w b o = w := by
 have : w.heap.setIfInBounds b o = w.heap := by
  apply Array.ext_getElem?
  intro i
  by_cases hi : i = b
  ·subst hi
   rw [h, Array.getElem?_setIfInBounds_self_of_lt (Array.getElem?_eq_some_iff.1 h).1]
  ·rw [Array.getElem?_setIfInBounds_ne (fun e => hi e.symm)]
 simp [setBlock, this]
theorem upd_twice (f : Value → Option Value) (x u v : Value) : upd (upd f x u) x v = upd f x v := by
 funext y
 simp only [upd]
 split <;> rfl
/-- The entries of a map that holds f. -/
def MapE (P : Program) (k : TypeId) (es : Array MapEntry) (clock : Nat) (f : Value → Option Value) : Prop :=
 (∀ e ∈ es.toList, ∃ l, keyOf P k e.key = some l) ∧ Stamped es clock ∧ (∀ e ∈ es.toList, f e.key = some e.val) ∧ ∀ x v, f x = some v → ∃ e ∈ es.toList, e.key = x
theorem MapE.push {es : Array MapEntry} {c : Nat} {f} (h : MapE P k es c f) {x : Value} {l : Lit} (hx : keyOf P k x = some l) (h2 : ∀ e ∈ es.toList, e.key ≠ x) (v : Value) : MapE P k (es.push ⟨x, v, c⟩) (c + 1) (upd f x v) := by
 obtain ⟨hk, ⟨s1, s2, s3⟩, hf, hg⟩ := h
 refine ⟨?_, ⟨?_, ?_, ?_⟩, ?_, ?_⟩
 ·intro a ha
  simp only [Array.toList_push, List.mem_append, List.mem_singleton] at ha
  rcases ha with ha | rfl
  ·exact hk a ha
  ·exact ⟨l, hx⟩
 ·intro a ha
  simp only [Array.toList_push, List.mem_append, List.mem_singleton] at ha
  rcases ha with ha | rfl
  ·have := s1 a ha; omega
  ·exact Nat.lt_succ_self _
 ·simp only [Array.toList_push, List.map_append, List.map_cons, List.map_nil]
  refine List.nodup_append.2 ⟨s2, by simp, fun a ha d hd e1 => ?_⟩
  simp only [List.mem_singleton] at hd
  obtain ⟨y, hy, rfl⟩ := List.mem_map.1 ha
  have := s1 y hy
  omega
 ·simp only [Array.toList_push, List.map_append, List.map_cons, List.map_nil]
  refine List.nodup_append.2 ⟨s3, by simp, fun a ha d hd e1 => ?_⟩
  simp only [List.mem_singleton] at hd
  obtain ⟨y, hy, rfl⟩ := List.mem_map.1 ha
  exact h2 y hy (e1.trans hd)
 ·intro a ha
  simp only [Array.toList_push, List.mem_append, List.mem_singleton] at ha
  rcases ha with ha | rfl
  ·rw [upd_other f v (h2 a ha)]; exact hf a ha
  ·exact upd_same _ _ _
 ·intro y u hy
  simp only [Array.toList_push, List.mem_append, List.mem_singleton]
  by_cases hyx : y = x
  ·exact ⟨_, Or.inr rfl, hyx.symm⟩
  ·rw [upd_other f v hyx] at hy
   obtain ⟨e1, m1, m2⟩ := hg y u hy
   exact ⟨e1, Or.inl m1, m2⟩
theorem MapE.set {es : Array MapEntry} {c : Nat} {f} (h : MapE P k es c f) {x : Value} {l : Lit} (hx : keyOf P k x = some l) {j : Nat} {e0 : MapEntry} (h2 : es.toList[j]? = some e0) (h3 : e0.key = x) (v : Value) : MapE P k (es.modify j (fun e' => { e' with key := x, val := v })) c (upd f x v) := by
 obtain ⟨hk, ⟨s1, s2, s3⟩, hf, hg⟩ := h
 have hl : (es.modify j (fun e' => { e' with key := x, val := v })).toList = es.toList.set j { e0 with key := x, val := v } := by
  rw [Array.toList_modify, modify_eq_set _ _ _ _ h2]
 have hjl : j < es.toList.length := (List.getElem?_eq_some_iff.1 h2).1
 have hmb : (es.toList.set j { e0 with key := x, val := v }).map (·.born) = es.toList.map (·.born) := by
  rw [List.map_set]
  exact set_self _ _ _ (by simp [List.getElem?_map, h2])
 have hmk : (es.toList.set j { e0 with key := x, val := v }).map (·.key) = es.toList.map (·.key) := by
  rw [List.map_set]
  exact set_self _ _ _ (by simp [List.getElem?_map, h2, h3])
 have hmem : ∀ a ∈ es.toList.set j { e0 with key := x, val := v }, a = { e0 with key := x, val := v } ∨ (a ∈ es.toList ∧ a.key ≠ x) := by
  intro a ha
  obtain ⟨i, hi, rfl⟩ := List.getElem_of_mem ha
  by_cases hij : j = i
  ·left; subst hij; simp
  ·right
   have hi2 : i < es.toList.length := by simpa using hi
   rw [List.getElem_set_ne hij]
   refine ⟨List.getElem_mem _, fun he => hij ?_⟩
   have q := (List.pairwise_iff_getElem.1 s3)
   have hj3 : es.toList[j].key = x := by
    have := (List.getElem?_eq_some_iff.1 h2).2
    rw [this]; exact h3
   rcases Nat.lt_trichotomy i j with o | o | o
   ·exact absurd (by rw [List.getElem_map, List.getElem_map, he, hj3]) (q i j (by simpa using hi2) (by simpa using hjl) o)
   ·exact o.symm
   ·exact absurd (by rw [List.getElem_map, List.getElem_map, he, hj3]) (q j i (by simpa using hjl) (by simpa using hi2) o)
 refine ⟨?_, ⟨?_, ?_, ?_⟩, ?_, ?_⟩
 ·intro a ha
  rw [hl] at ha
  rcases hmem a ha with rfl | ⟨m, _⟩
  ·exact ⟨l, hx⟩
  ·exact hk a m
 ·intro a ha
  rw [hl] at ha
  rcases hmem a ha with rfl | ⟨m, _⟩
  ·exact s1 e0 (List.mem_of_getElem? h2)
  ·exact s1 a m
 ·rw [hl, hmb]; exact s2
 ·rw [hl, hmk]; exact s3
 ·intro a ha
  rw [hl] at ha
  rcases hmem a ha with rfl | ⟨m, n⟩
  ·exact upd_same _ _ _
  ·rw [upd_other f v n]; exact hf a m
 ·intro y u hy
  rw [hl]
  by_cases hyx : y = x
  ·exact ⟨_, List.mem_of_getElem? (i := j) (List.getElem?_set_self hjl), hyx.symm⟩
  ·rw [upd_other f v hyx] at hy
   obtain ⟨e1, m1, m2⟩ := hg y u hy
   obtain ⟨i, hi, rfl⟩ := List.getElem_of_mem m1
   refine ⟨es.toList[i], List.mem_of_getElem? (i := i) ?_, m2⟩
   have hij : j ≠ i := by
    intro he
    subst he
    rw [List.getElem?_eq_getElem hi] at h2
    simp only [Option.some.injEq] at h2
    exact hyx (by rw [← m2, h2, h3])
   rw [List.getElem?_set_ne hij, List.getElem?_eq_getElem hi]
/-- m[x] = v -/
theorem MapV.put {w : World} {b : Nat} {f} (K : Keyed P k) {t e : TypeId} (ht : P.underlying t = some (.map k e))
  (h : MapV P k w b f) {x : Value} {l : Lit} (hx : keyOf P k x = some l) (v : Value) :
  ∃ o, (Instr.mapUpdate t (.map (some b)) x v).run P w = .ok () (setBlock w b o) ∧ MapV P k (setBlock w b o) b (upd f x v) := by
 obtain ⟨es, c, hb, hE⟩ := h
 rcases K.find w hx es.toList hE.1 with ⟨h1, h2⟩ | ⟨j, e0, h1, h2, h3⟩
 ·exact ⟨.map (es.push ⟨x, v, c⟩) (c + 1), by simp [Instr.mapUpdate, run_underlying ht, MapKept.run_getObj_map hb, K.check w false hx, h1, MapKept.run_setObj_map _ hb, Result.andThen, setBlock], _, _, setBlock_at _ hb, MapE.push hE hx h2 v⟩
 ·have hj : es[j]? = some e0 := by simpa using h2
  exact ⟨.map (es.modify j (fun e' => { e' with key := x, val := v })) c, by simp [Instr.mapUpdate, run_underlying ht, MapKept.run_getObj_map hb, K.check w false hx, h1, hj, h3, K.stays w hx, MapKept.run_setObj_map _ hb, Result.andThen, setBlock], _, _, setBlock_at _ hb, MapE.set hE hx h2 h3 v⟩
/-- The store by an entry's stamp. -/
theorem store_stamp {w2 : World} {b : Nat} {f} {t : TypeId} {es : Array MapEntry} {c : Nat} (hb : w2.heap[b]? = some (.map es c)) (hE : MapE P k es c f) {x : Value} {l : Lit} (hx : keyOf P k x = some l) {j : Nat} {e0 : MapEntry} (h2 : es.toList[j]? = some e0) (h3 : e0.key = x) (v : Value) :
  ∃ o, (Instr.entryStore t (.map (some b)) (goInt e0.born) v).run P w2 = .ok () (setBlock w2 b o) ∧ MapV P k (setBlock w2 b o) b (upd f x v) := by
 have hidx : es.findIdx? (fun e => ((e.born : Nat) : Int) == ((e0.born : Nat) : Int)) = some j := by
  rw [findIdx_arr]
  exact findIdx_born hE.2.1.2.1 h2
 have hm : es.modify j (fun e => { e with val := v }) = es.modify j (fun e' => { e' with key := x, val := v }) := by
  apply Array.ext'
  rw [Array.toList_modify, Array.toList_modify, modify_eq_set _ _ _ _ h2, modify_eq_set _ _ _ _ h2, ← h3]
 exact ⟨.map (es.modify j (fun e' => { e' with key := x, val := v })) c, by simp [Instr.entryStore, MapKept.run_getObj_map hb, asInt, asIntOf, goInt, hidx, hm, MapKept.run_setObj_map _ hb, Result.andThen, setBlock], _, _, setBlock_at _ hb, MapE.set hE hx h2 h3 v⟩
/-- m[x] op= v: the entry first, then its store. -/
theorem MapV.entry {w : World} {b : Nat} {f} (K : Keyed P k) {t e : TypeId} (ht : P.underlying t = some (.map k e)) {z : Value} (hz : ∀ u : World, (zeroValue e).run P u = .ok z u)
  (h : MapV P k w b f) {x : Value} {l : Lit} (hx : keyOf P k x = some l) :
  ∃ st o1, (Instr.mapEntry t (.map (some b)) x).run P w = .ok (.tuple #[(f x).getD z, goInt st]) (setBlock w b o1) ∧
   ∀ w2 v, w2.heap[b]? = some o1 → ∃ o, (Instr.entryStore t (.map (some b)) (goInt st) v).run P w2 = .ok () (setBlock w2 b o) ∧ MapV P k (setBlock w2 b o) b (upd f x v) := by
 obtain ⟨es, c, hb, hE⟩ := h
 rcases K.find w hx es.toList hE.1 with ⟨h1, h2⟩ | ⟨j, e0, h1, h2, h3⟩
 ·have hn : f x = none := by
   cases hfx : f x with
   | none => rfl
   | some v => obtain ⟨e1, m1, m2⟩ := hE.2.2.2 x v hfx; exact absurd m2 (h2 e1 m1)
  refine ⟨c, .map (es.push ⟨x, z, c⟩) (c + 1), ?_, fun w2 v hw2 => ?_⟩
  ·rw [hn]
   simp [Instr.mapEntry, run_underlying ht, MapKept.run_getObj_map hb, K.check w false hx, h1, hz, MapKept.run_setObj_map _ hb, Result.andThen, setBlock]
  ·obtain ⟨o, q1, q2⟩ := store_stamp (t := t) hw2 (MapE.push hE hx h2 z) hx (j := es.size) (e0 := ⟨x, z, c⟩) (by simp) rfl v
   exact ⟨o, q1, upd_twice f x z v ▸ q2⟩
 ·have hj : es[j]? = some e0 := by simpa using h2
  have hn : f x = some e0.val := h3 ▸ hE.2.2.1 e0 (List.mem_of_getElem? h2)
  have hsame : es.modify j (fun e => { e with key := x }) = es := by
   apply Array.ext'
   rw [Array.toList_modify, modify_eq_set _ _ _ _ h2]
   have : ({ e0 with key := x } : MapEntry) = e0 := by rw [← h3]
   rw [this]
   exact set_self _ _ _ h2
  refine ⟨e0.born, .map es c, ?_, fun w2 v hw2 => store_stamp (t := t) hw2 hE hx h2 h3 v⟩
  rw [hn]
  simp [Instr.mapEntry, run_underlying ht, MapKept.run_getObj_map hb, K.check w false hx, h1, hj, h3, K.stays w hx, hsame, MapKept.run_setObj_map _ hb, Result.andThen, setBlock]
/-- m[x] op= v, where the look-up may come behind the entry. -/
theorem MapV.entry2 {w : World} {b : Nat} {f} (K : Keyed P k) {t e : TypeId} (ht : P.underlying t = some (.map k e)) {z : Value} (hz : ∀ u : World, (zeroValue e).run P u = .ok z u)
  (h : MapV P k w b f) {x : Value} {l : Lit} (hx : keyOf P k x = some l) :
  ∃ st o1, (Instr.mapEntry t (.map (some b)) x).run P w = .ok (.tuple #[(f x).getD z, goInt st]) (setBlock w b o1) ∧
   (Instr.lookup t (.map (some b)) x false).run P (setBlock w b o1) = .ok ((f x).getD z) (setBlock w b o1) ∧
   ∀ v, ∃ o, (Instr.entryStore t (.map (some b)) (goInt st) v).run P (setBlock w b o1) = .ok () (setBlock (setBlock w b o1) b o) ∧ MapV P k (setBlock (setBlock w b o1) b o) b (upd f x v) := by
 obtain ⟨es, c, hb, hE⟩ := h
 rcases K.find w hx es.toList hE.1 with ⟨h1, h2⟩ | ⟨j, e0, h1, h2, h3⟩
 ·have hn : f x = none := by
   cases hfx : f x with
   | none => rfl
   | some v => obtain ⟨e1, m1, m2⟩ := hE.2.2.2 x v hfx; exact absurd m2 (h2 e1 m1)
  refine ⟨c, .map (es.push ⟨x, z, c⟩) (c + 1), ?_, ?_, fun v => ?_⟩
  ·rw [hn]
   simp [Instr.mapEntry, run_underlying ht, MapKept.run_getObj_map hb, K.check w false hx, h1, hz, MapKept.run_setObj_map _ hb, Result.andThen, setBlock]
  ·have hM : MapV P k (setBlock w b (.map (es.push ⟨x, z, c⟩) (c + 1))) b (upd f x z) := ⟨_, _, setBlock_at _ hb, MapE.push hE hx h2 z⟩
   rw [hM.look K ht hz hx, upd_same, hn]; rfl
  ·obtain ⟨o, q1, q2⟩ := store_stamp (t := t) (setBlock_at (.map (es.push ⟨x, z, c⟩) (c + 1)) hb) (MapE.push hE hx h2 z) hx (j := es.size) (e0 := ⟨x, z, c⟩) (by simp) rfl v
   exact ⟨o, q1, upd_twice f x z v ▸ q2⟩
 ·have hj : es[j]? = some e0 := by simpa using h2
  have hn : f x = some e0.val := h3 ▸ hE.2.2.1 e0 (List.mem_of_getElem? h2)
  have hsame : es.modify j (fun e => { e with key := x }) = es := by
   apply Array.ext'
   rw [Array.toList_modify, modify_eq_set _ _ _ _ h2]
   have : ({ e0 with key := x } : MapEntry) = e0 := by rw [← h3]
   rw [this]
   exact set_self _ _ _ h2
  have hsb := setBlock_same w b hb
  refine ⟨e0.born, .map es c, ?_, ?_, fun v => ?_⟩
  ·rw [hn]
   simp [Instr.mapEntry, run_underlying ht, MapKept.run_getObj_map hb, K.check w false hx, h1, hj, h3, K.stays w hx, hsame, MapKept.run_setObj_map _ hb, Result.andThen, setBlock]
  ·rw [hsb]
   exact MapV.look K ht hz ⟨es, c, hb, hE⟩ hx
  ·rw [hsb]
   exact store_stamp (t := t) hb hE hx h2 h3 v
end Go.Proofs.Ytejhnlljddjicaa.Ma
namespace Go.Proofs.Ytejhnlljddjicaa.Ma
open Go.RowKit Go.Proofs.Ytejhnlljddjicaa.PLk Go.Proofs.YtejhnlljddjicaaW.PrintWords Go.Proofs.YtejhnlljddjicaaW.PrintLast Go.Proofs.YtejhnlljddjicaaW.PrintMore Go.Proofs.Ytejhnlljddjicaa.La
set_option linter.unusedVariables false
set_option linter.unusedSimpArgs false
variable {w w' W : World}
/-- A name of an object. -/
structure SymV where
 name : ByteArray
 data : Bool
 off : Int
/-- A fix of an object. -/
structure FixV where
 kind : Int
 off : Int
 name : ByteArray
 add : Int
/-- An object. -/
structure ObjV where
 code : List Int
 data : List Int
 syms : List SymV
 fixes : List FixV
def SymV.cells (x : SymV) : List Value := [.string x.name, .bool x.data, .int .i64 x.off]
def FixV.cells (x : FixV) : List Value := [.int .i64 x.kind, .int .i64 x.off, .string x.name, .int .i64 x.add]
def SymV.In (x : SymV) : Prop := x.name.size ≤ 140737488355328 ∧ -9223372036854775808 ≤ x.off ∧ x.off ≤ 9223372036854775807
def FixV.In (x : FixV) : Prop := x.name.size ≤ 140737488355328 ∧ (-9223372036854775808 ≤ x.off ∧ x.off ≤ 9223372036854775807) ∧ (-9223372036854775808 ≤ x.add ∧ x.add ≤ 9223372036854775807) ∧ (-9223372036854775808 ≤ x.kind ∧ x.kind ≤ 9223372036854775807)
structure ObjV.In (o : ObjV) : Prop where
 code : ∀ v ∈ o.code, 0 ≤ v ∧ v < 4294967296
 data : ∀ v ∈ o.data, 0 ≤ v ∧ v < 256
 syms : ∀ x ∈ o.syms, x.In
 fixes : ∀ x ∈ o.fixes, x.In
 ncode : o.code.length ≤ 140737488355328
 ndata : o.data.length ≤ 140737488355328
 nsyms : o.syms.length ≤ 140737488355328
 nfixes : o.fixes.length ≤ 140737488355328
def SymsR (w : World) (A : Option Addr) (xs : List SymV) : Prop := ReadsRow (fun (x : SymV) c => c = x.cells) 3 w A xs.length xs
def FixesR (w : World) (A : Option Addr) (xs : List FixV) : Prop := ReadsRow (fun (x : FixV) c => c = x.cells) 4 w A xs.length xs
/-- The object's four rows. -/
structure Four where
 a0 : Option Addr
 c0 : Nat
 a1 : Option Addr
 c1 : Nat
 a2 : Option Addr
 c2 : Nat
 a3 : Option Addr
 c3 : Nat
def Four.cells (q : Four) (o : ObjV) : List Value := [.slice q.a0 o.code.length q.c0, .slice q.a1 o.data.length q.c1, .slice q.a2 o.syms.length q.c2, .slice q.a3 o.fixes.length q.c3]
structure ObjR (w : World) (q : Four) (o : ObjV) : Prop where
 code : Kd.C (Kd.int .u32) w q.a0 o.code.length o.code
 data : Kd.C (Kd.int .u8) w q.a1 o.data.length o.data
 syms : SymsR w q.a2 o.syms
 fixes : FixesR w q.a3 o.fixes
 l0 : o.code.length ≤ q.c0
 l1 : o.data.length ≤ q.c1
 l2 : o.syms.length ≤ q.c2
 l3 : o.fixes.length ≤ q.c3
theorem SymsR.below {A : Option Addr} {xs : List SymV} (h : SymsR w A xs) (k : Below w.heap.size w W) : SymsR W A xs := ReadsRow.imp_ h k (fun _ _ h => h)
theorem FixesR.below {A : Option Addr} {xs : List FixV} (h : FixesR w A xs) (k : Below w.heap.size w W) : FixesR W A xs := ReadsRow.imp_ h k (fun _ _ h => h)
theorem ObjR.below {q : Four} {o : ObjV} (h : ObjR w q o) (k : Below w.heap.size w W) : ObjR W q o :=
 ⟨Kd.C_below h.code k, Kd.C_below h.data k, h.syms.below k, h.fixes.below k, h.l0, h.l1, h.l2, h.l3⟩
theorem SymsR.at {A : Option Addr} {xs : List SymV} (h : SymsR w A xs) {j : Nat} {x : SymV} (hj : xs[j]? = some x) : ∃ ad, A = some ad ∧ w.cell? (ad.add (j * 3)) = some (.string x.name) ∧ w.cell? ⟨(ad.add (j * 3)).block, (ad.add (j * 3)).off + 1, none⟩ = some (.bool x.data) ∧ w.cell? ⟨(ad.add (j * 3)).block, (ad.add (j * 3)).off + 2, none⟩ = some (.int .i64 x.off) := by
 have hlt := (List.getElem?_eq_some_iff.1 hj).1
 obtain ⟨ad, e, hc⟩ := h.2.2 (by omega)
 obtain ⟨c, _, rfl, hcell⟩ := hc j x hj
 exact ⟨ad, e, hcell 0 _ rfl, by rw [← add_field _ _ 1 (by omega)]; exact hcell 1 _ rfl, by rw [← add_field _ _ 2 (by omega)]; exact hcell 2 _ rfl⟩
theorem FixesR.at {A : Option Addr} {xs : List FixV} (h : FixesR w A xs) {j : Nat} {x : FixV} (hj : xs[j]? = some x) : ∃ ad, A = some ad ∧ w.cell? (ad.add (j * 4)) = some (.int .i64 x.kind) ∧ w.cell? ⟨(ad.add (j * 4)).block, (ad.add (j * 4)).off + 1, none⟩ = some (.int .i64 x.off) ∧ w.cell? ⟨(ad.add (j * 4)).block, (ad.add (j * 4)).off + 2, none⟩ = some (.string x.name) ∧ w.cell? ⟨(ad.add (j * 4)).block, (ad.add (j * 4)).off + 3, none⟩ = some (.int .i64 x.add) := by
 have hlt := (List.getElem?_eq_some_iff.1 hj).1
 obtain ⟨ad, e, hc⟩ := h.2.2 (by omega)
 obtain ⟨c, _, rfl, hcell⟩ := hc j x hj
 exact ⟨ad, e, hcell 0 _ rfl, by rw [← add_field _ _ 1 (by omega)]; exact hcell 1 _ rfl, by rw [← add_field _ _ 2 (by omega)]; exact hcell 2 _ rfl, by rw [← add_field _ _ 3 (by omega)]; exact hcell 3 _ rfl⟩
/-- A word of a row that is read. -/
theorem C_at {k : IntKind} {A : Option Addr} {n : Nat} {xs : List Int} (h : Kd.C (Kd.int k) w A n xs) {j : Nat} {x : Int} (hj : xs[j]? = some x) : ∃ ad, A = some ad ∧ w.cell? (ad.add j) = some (.int k x) := by
 have hlt := (List.getElem?_eq_some_iff.1 hj).1
 have hn := h.1
 obtain ⟨ad, e, hc⟩ := h.2.2 (by omega)
 obtain ⟨c, _, hK, hcell⟩ := hc j x hj
 have hK : c = [.int k x] := hK
 subst hK
 have := hcell 0 _ rfl
 exact ⟨ad, e, by simpa [Kd.int, Kd.scalar] using this⟩
/-- The zero instruction. -/
def zero5 : I5 := ⟨0, 0, 0, 0, 0⟩
/-- The instruction at a byte of the code, if there is one. -/
def instrF (o : ObjV) (off : Int) : Option I5 := if off < 0 ∨ off % 4 ≠ 0 ∨ (o.code.length : Int) ≤ off / 4 then none else decF ((o.code[(off / 4).toNat]?).getD 0)
end Go.Proofs.Ytejhnlljddjicaa.Ma
namespace Go.Proofs.Ytejhnlljddjicaa.Ma
open Go.RowKit Go.Proofs.Ytejhnlljddjicaa.PLk Go.Proofs.YtejhnlljddjicaaW.PrintWords Go.Proofs.YtejhnlljddjicaaW.PrintLast Go.Proofs.YtejhnlljddjicaaW.PrintMore
set_option linter.unusedVariables false
set_option linter.unusedSimpArgs false
variable {w w' : World}
/-- A letter, or an underscore. -/
def letF (c : Int) : Bool := (decide (97 ≤ bits .or .u8 c 32) && decide (bits .or .u8 c 32 ≤ 122)) || (c == 95)
/-- Byte c may not stand at place i of a name. -/
def badF (i c : Int) : Bool := !letF c && ((i == 0) || ((c != 46) && (decide (c < 48) || decide (57 < c))))
def nameF (s : ByteArray) : Bool := ((List.range s.size).all fun k => !badF k (bt s k)) && decide (s.size ≠ 0) && decide (s.size ≤ 63)
theorem nameF_no {s : ByteArray} {j : Nat} (hj : j < s.size) (h : badF j (bt s j) = true) : nameF s = false := by
 unfold nameF
 have : ((List.range s.size).all fun k => !badF k (bt s k)) = false := by
  rw [List.all_eq_false]
  exact ⟨j, List.mem_range.2 hj, by simp [h]⟩
 simp [this]
theorem nameF_yes {s : ByteArray} (h : ∀ k, k < s.size → badF k (bt s k) = false) : nameF s = (decide (s.size ≠ 0) && decide (s.size ≤ 63)) := by
 unfold nameF
 have : ((List.range s.size).all fun k => !badF k (bt s k)) = true := by
  rw [List.all_eq_true]
  exact fun k hk => by simp [h k (List.mem_range.1 hk)]
 simp [this]
set_option maxHeartbeats 8000000 in
theorem Name_calls (s : ByteArray) (hs : s.size ≤ 140737488355328) : Calls Try.prog 33 #[.string s] w fun e w' => e = .returned (.bool (nameF s)) ∧ Below w.heap.size w w' := by
 have kb := fun W => print_bytes (P := Try.prog) 9 23 5 Try.underlying9 Try.underlying23 Try.underlying5 s W
 obtain ⟨n, hn⟩ : ∃ n, n = s.size := ⟨_, rfl⟩
 have HS := Aside0.mk hs
 clear hs
 go_enter Try.func33, Try.ntmps33
 have hB := Aside0.mk (bytes_below (Below.refl w.heap.size w) (Nat.le_refl _) 5 s)
 have hC := Aside0.mk (fun (j : Nat) (hj : j < s.size) => Lib.bytesWorld_cell w 5 s j hj)
 go_wp2_with (fail)
 generalize hg : Lib.bytesWorld w 5 s = W1 at hB hC ⊢
 clear hg kb
 generalize grownCap w s.size 0 5 = cp
 go_loopg [9] n (fun kq v9 wr => ∃ j : Nat, j + kq = n ∧ v9 = .int .i64 j ∧ wr = W1 ∧ Aside0 (∀ k, k < j → badF k (bt s k) = false))
 case atStart => exact ⟨0, by omega, rfl, rfl, ⟨fun k hk => absurd hk (Nat.not_lt_zero k)⟩⟩
 case round =>
  obtain ⟨j, hj, rfl, rfl, HBd⟩ := hrel
  have HJ := Aside0.mk hj
  have HN := Aside0.mk hn
  clear hn hj
  by_cases hlt : j < s.size
  ·obtain ⟨c, hcd⟩ : ∃ c, c = bt s j := ⟨_, rfl⟩
   have hc : wr.cell? ⟨w.heap.size, j, none⟩ = some (.int .u8 c) := by
    rw [hcd, ← bt_at s j (by simpa using hlt)]
    have := hC.out j hlt
    rw [this, List.getD_eq_getElem?_getD, List.getElem?_eq_getElem (by rw [data_length]; exact hlt)]; rfl
   have HCD := Aside0.mk hcd
   have hw : (j : Int) ≤ 140737488355328 := by have := HS.out; omega
   have hlt2 : (j : Int) < (s.size : Int) := by omega
   have HLT := Aside0.mk hlt
   obtain ⟨b, hb⟩ : ∃ b, bits .or .u8 c 32 = b := ⟨_, rfl⟩
   have HB := Aside0.mk hb
   clear hcd hlt hC
   by_cases h1 : 97 ≤ b
   ·by_cases h2 : b ≤ 122
    ·go_wp2_with (fail)
     go_roundg (n - (j + 1))
     case measure => have := HJ.out; have := HLT.out; have := HN.out; omega
     case rel =>
      refine ⟨j + 1, by have := HJ.out; have := HLT.out; have := HN.out; omega, by simp, rfl, ⟨fun k hk => ?_⟩⟩
      rcases Nat.lt_succ_iff_lt_or_eq.1 hk with h | h
      ·exact HBd.out k h
      ·subst h; rw [← HCD.out]; simp [badF, letF, HB.out, h1, h2]
    ·have h2b : 122 < b := by omega
     by_cases h3 : c = 95
     ·have e3 : (c == 95) = true := by simp [h3]
      clear h3
      go_wp2_with (fail)
      go_roundg (n - (j + 1))
      case measure => have := HJ.out; have := HLT.out; have := HN.out; omega
      case rel =>
       refine ⟨j + 1, by have := HJ.out; have := HLT.out; have := HN.out; omega, by simp, rfl, ⟨fun k hk => ?_⟩⟩
       rcases Nat.lt_succ_iff_lt_or_eq.1 hk with h | h
       ·exact HBd.out k h
       ·subst h; rw [← HCD.out]; simp [badF, letF, HB.out, h1, h2, e3]
     ·have e3 : (c == 95) = false := by simp [h3]
      clear h3
      by_cases h4 : j = 0
      ·have e4 : ((j : Int) == 0) = true := by simp [h4]
       clear h4
       go_wp2_with (fail)
       go_ret
       exact ⟨by rw [nameF_no HLT.out (by rw [← HCD.out]; simp [badF, letF, HB.out, h1, h2, e3, e4])]; rfl, hB.out⟩
      ·have e4 : ((j : Int) == 0) = false := by simp [h4]
       clear h4
       by_cases h5 : c = 46
       ·have e5 : (c != 46) = false := by simp [h5]
        clear h5
        go_wp2_with (fail)
        go_roundg (n - (j + 1))
        case measure => have := HJ.out; have := HLT.out; have := HN.out; omega
        case rel =>
         refine ⟨j + 1, by have := HJ.out; have := HLT.out; have := HN.out; omega, by simp, rfl, ⟨fun k hk => ?_⟩⟩
         rcases Nat.lt_succ_iff_lt_or_eq.1 hk with h | h
         ·exact HBd.out k h
         ·subst h; rw [← HCD.out]; simp [badF, letF, HB.out, h1, h2, e3, e4, e5]
       ·have e5 : (c != 46) = true := by simp [h5]
        clear h5
        by_cases h6 : c < 48
        ·go_wp2_with (fail)
         go_ret
         exact ⟨by rw [nameF_no HLT.out (by rw [← HCD.out]; simp [badF, letF, HB.out, h1, h2, e3, e4, e5, h6])]; rfl, hB.out⟩
        ·have h6b : 48 ≤ c := by omega
         by_cases h7 : 57 < c
         ·go_wp2_with (fail)
          go_ret
          exact ⟨by rw [nameF_no HLT.out (by rw [← HCD.out]; simp [badF, letF, HB.out, h1, h2, e3, e4, e5, h6, h7])]; rfl, hB.out⟩
         ·have h7b : c ≤ 57 := by omega
          go_wp2_with (fail)
          go_roundg (n - (j + 1))
          case measure => have := HJ.out; have := HLT.out; have := HN.out; omega
          case rel =>
           refine ⟨j + 1, by have := HJ.out; have := HLT.out; have := HN.out; omega, by simp, rfl, ⟨fun k hk => ?_⟩⟩
           rcases Nat.lt_succ_iff_lt_or_eq.1 hk with h | h
           ·exact HBd.out k h
           ·subst h; rw [← HCD.out]; simp [badF, letF, HB.out, h1, h2, e3, e4, e5, h6, h7]
   ·have h1b : b < 97 := by omega
    by_cases h3 : c = 95
    ·have e3 : (c == 95) = true := by simp [h3]
     clear h3
     go_wp2_with (fail)
     go_roundg (n - (j + 1))
     case measure => have := HJ.out; have := HLT.out; have := HN.out; omega
     case rel =>
      refine ⟨j + 1, by have := HJ.out; have := HLT.out; have := HN.out; omega, by simp, rfl, ⟨fun k hk => ?_⟩⟩
      rcases Nat.lt_succ_iff_lt_or_eq.1 hk with h | h
      ·exact HBd.out k h
      ·subst h; rw [← HCD.out]; simp [badF, letF, HB.out, h1, e3]
    ·have e3 : (c == 95) = false := by simp [h3]
     clear h3
     by_cases h4 : j = 0
     ·have e4 : ((j : Int) == 0) = true := by simp [h4]
      clear h4
      go_wp2_with (fail)
      go_ret
      exact ⟨by rw [nameF_no HLT.out (by rw [← HCD.out]; simp [badF, letF, HB.out, h1, e3, e4])]; rfl, hB.out⟩
     ·have e4 : ((j : Int) == 0) = false := by simp [h4]
      clear h4
      by_cases h5 : c = 46
      ·have e5 : (c != 46) = false := by simp [h5]
       clear h5
       go_wp2_with (fail)
       go_roundg (n - (j + 1))
       case measure => have := HJ.out; have := HLT.out; have := HN.out; omega
       case rel =>
        refine ⟨j + 1, by have := HJ.out; have := HLT.out; have := HN.out; omega, by simp, rfl, ⟨fun k hk => ?_⟩⟩
        rcases Nat.lt_succ_iff_lt_or_eq.1 hk with h | h
        ·exact HBd.out k h
        ·subst h; rw [← HCD.out]; simp [badF, letF, HB.out, h1, e3, e4, e5]
      ·have e5 : (c != 46) = true := by simp [h5]
       clear h5
       by_cases h6 : c < 48
       ·go_wp2_with (fail)
        go_ret
        exact ⟨by rw [nameF_no HLT.out (by rw [← HCD.out]; simp [badF, letF, HB.out, h1, e3, e4, e5, h6])]; rfl, hB.out⟩
       ·have h6b : 48 ≤ c := by omega
        by_cases h7 : 57 < c
        ·go_wp2_with (fail)
         go_ret
         exact ⟨by rw [nameF_no HLT.out (by rw [← HCD.out]; simp [badF, letF, HB.out, h1, e3, e4, e5, h6, h7])]; rfl, hB.out⟩
        ·have h7b : c ≤ 57 := by omega
         go_wp2_with (fail)
         go_roundg (n - (j + 1))
         case measure => have := HJ.out; have := HLT.out; have := HN.out; omega
         case rel =>
          refine ⟨j + 1, by have := HJ.out; have := HLT.out; have := HN.out; omega, by simp, rfl, ⟨fun k hk => ?_⟩⟩
          rcases Nat.lt_succ_iff_lt_or_eq.1 hk with h | h
          ·exact HBd.out k h
          ·subst h; rw [← HCD.out]; simp [badF, letF, HB.out, h1, e3, e4, e5, h6, h7]
  ·obtain rfl : j = s.size := by have := HJ.out; have := HN.out; omega
   have hall := nameF_yes HBd.out
   have HA := Aside0.mk hall
   clear hall hC
   clear hlt
   by_cases h0 : s.size = 0
   ·have e0 : s.toList = [] := by rw [ByteArray.toList_eq]; exact List.eq_nil_of_length_eq_zero (by rw [data_length]; exact h0)
    have e1 : (!s.toList.isEmpty) = false := by rw [e0]; rfl
    have E := Aside0.mk h0
    clear h0
    go_wp2_with (fail)
    go_ret
    exact ⟨by rw [HA.out, E.out]; rfl, hB.out⟩
   ·have e0 : ¬ s.toList = [] := by
     rw [ByteArray.toList_eq]; intro h; apply h0; rw [← data_length, h]; rfl
    have e1 : (!s.toList.isEmpty) = true := by cases h : s.toList with | nil => exact absurd h e0 | cons _ _ => rfl
    have E := Aside0.mk h0
    clear h0
    by_cases h9 : s.size ≤ 63
    ·have h9b : (s.size : Int) ≤ 63 := by omega
     have E9 := Aside0.mk h9
     clear h9
     go_wp2_with (fail)
     go_ret
     exact ⟨by rw [HA.out, decide_eq_true E.out, decide_eq_true E9.out]; rfl, hB.out⟩
    ·have h9b : ¬ (s.size : Int) ≤ 63 := by omega
     have E9 := Aside0.mk h9
     clear h9
     go_wp2_with (fail)
     go_ret
     exact ⟨by rw [HA.out, decide_eq_true E.out, decide_eq_false E9.out]; rfl, hB.out⟩
end Go.Proofs.Ytejhnlljddjicaa.Ma
namespace Go.Proofs.Ytejhnlljddjicaa.Ma
open Go.RowKit Go.Proofs.Ytejhnlljddjicaa.PLk Go.Proofs.YtejhnlljddjicaaW.PrintWords Go.Proofs.YtejhnlljddjicaaW.PrintLast Go.Proofs.YtejhnlljddjicaaW.PrintMore Go.Proofs.Ytejhnlljddjicaa.La
set_option linter.unusedVariables false
set_option linter.unusedSimpArgs false
variable {w w' W : World}
set_option maxHeartbeats 4000000 in
set_option maxRecDepth 100000 in
theorem instr_no (a0 a1 a2 a3 : Option Addr) (n0 c0 n1 c1 n2 c2 n3 c3 : Nat) (hn : n0 ≤ 140737488355328) (off : Int) (hof : -9223372036854775808 ≤ off ∧ off ≤ 9223372036854775807) (h : off < 0 ∨ off % 4 ≠ 0 ∨ (n0 : Int) ≤ off / 4) :
  Calls Try.prog 45 #[.agg #[.slice a0 n0 c0, .slice a1 n1 c1, .slice a2 n2 c2, .slice a3 n3 c3], .int .i64 off] w fun e w' => e = .returned (insV none) ∧ Below w.heap.size w w' := by
 have H := Aside0.mk h
 have HN := Aside0.mk hn
 clear h hn
 have B1 := Aside0.mk (show Below w.heap.size w ((w.alloc (.cells #[.slice a0 n0 c0, .slice a1 n1 c1, .slice a2 n2 c2, .slice a3 n3 c3] 43)).alloc (.cells #[.int .i64 0, .int .i64 0, .int .i64 0, .int .i64 0, .int .i64 0] 36)) from below_alloc (below_alloc (Below.refl _ _) _) _)
 have R2 := Aside0.mk (show ((w.alloc (.cells #[.slice a0 n0 c0, .slice a1 n1 c1, .slice a2 n2 c2, .slice a3 n3 c3] 43)).alloc (.cells #[.int .i64 0, .int .i64 0, .int .i64 0, .int .i64 0, .int .i64 0] 36)).heap[w.heap.size]? = some (.cells #[.slice a0 n0 c0, .slice a1 n1 c1, .slice a2 n2 c2, .slice a3 n3 c3] 43 (0, 0)) from blk_alloc (heap_at _ _ _ rfl) _)
 have R4 := Aside0.mk (show ((w.alloc (.cells #[.slice a0 n0 c0, .slice a1 n1 c1, .slice a2 n2 c2, .slice a3 n3 c3] 43)).alloc (.cells #[.int .i64 0, .int .i64 0, .int .i64 0, .int .i64 0, .int .i64 0] 36)).heap[w.heap.size + 1]? = some (.cells #[.int .i64 0, .int .i64 0, .int .i64 0, .int .i64 0, .int .i64 0] 36 (0, 0)) from heap_at _ _ _ (by simp))
 go_enter Try.func45, Try.ntmps45
 go_upto_region 1 with (fail)
 generalize ((w.alloc (.cells #[.slice a0 n0 c0, .slice a1 n1 c1, .slice a2 n2 c2, .slice a3 n3 c3] 43)).alloc (.cells #[.int .i64 0, .int .i64 0, .int .i64 0, .int .i64 0, .int .i64 0] 36)) = W1 at B1 R2 R4 ⊢
 generalize hg4 : w.heap.size + 1 = g4 at R4 ⊢
 generalize hg2 : w.heap.size = g2 at R2 ⊢
 have GG := Aside0.mk (show w.heap.size ≤ g4 by omega)
 have f0 := (blk_cell R2.out 0).trans rfl
 have h := H.out
 have hn := HN.out
 clear hg4 hg2
 have q : off < 0 ∨ (0 ≤ off ∧ off % 4 ≠ 0) ∨ (0 ≤ off ∧ off % 4 = 0 ∧ (n0 : Int) ≤ off / 4) := by omega
 have hq : 0 ≤ off → wrap64 (off.tdiv 4) = off / 4 := fun h => by rw [Int.tdiv_eq_ediv_of_nonneg h]; unfold wrap64; omega
 have HQ := Aside0.mk hq
 clear h hq hof
 rcases q with q | ⟨q0, q1⟩ | ⟨q0, q1, q2⟩
 ·have e0 : decide (off < 0) = true := by simp; omega
  clear q
  go_wp2_with (first | (refine wpList_store_row rfl 36 _ _ rfl g4 _ rfl rfl 36 _ R4.out (by as_aux_lemma => kernel_rfl) (by as_aux_lemma => kernel_rfl) (by as_aux_lemma => kernel_rfl) ?_))
  (try simp only [Exit.inBlock, Exit.then])
  rw [setRow_same R4.out]
  refine bodyPost_ret (results_cell2 (p := 4) (q := 5) (ty := 36) rfl _ _ _ _ ⟨g4, 0, none⟩ _ _ (by rfl) (run_loadVar_row _ g4 36 36 _ (0, 0) _ R4.out Try.underlying36 (by rfl) (by kernel_rfl)) (by rfl)) rfl ?_
  exact ⟨rfl, B1.out⟩
 ·have e0 : decide (off < 0) = false := by simp; omega
  have e1 : (off % 4 != 0) = true := by simp; omega
  clear q1
  go_wp2_with (first | (refine wpList_store_row rfl 36 _ _ rfl g4 _ rfl rfl 36 _ R4.out (by as_aux_lemma => kernel_rfl) (by as_aux_lemma => kernel_rfl) (by as_aux_lemma => kernel_rfl) ?_))
  (try simp only [Exit.inBlock, Exit.then])
  rw [setRow_same R4.out]
  refine bodyPost_ret (results_cell2 (p := 4) (q := 5) (ty := 36) rfl _ _ _ _ ⟨g4, 0, none⟩ _ _ (by rfl) (run_loadVar_row _ g4 36 36 _ (0, 0) _ R4.out Try.underlying36 (by rfl) (by kernel_rfl)) (by rfl)) rfl ?_
  exact ⟨rfl, B1.out⟩
 ·have e0 : decide (off < 0) = false := by simp; omega
  have e1 : (off % 4 != 0) = false := by simp; omega
  have e2 := HQ.out q0
  have e3 : decide ((n0 : Int) ≤ off / 4) = true := by simp; omega
  clear q1 q2
  go_wp2_with (first | (refine wpList_store_row rfl 36 _ _ rfl g4 _ rfl rfl 36 _ R4.out (by as_aux_lemma => kernel_rfl) (by as_aux_lemma => kernel_rfl) (by as_aux_lemma => kernel_rfl) ?_))
  (try simp only [Exit.inBlock, Exit.then])
  rw [setRow_same R4.out]
  refine bodyPost_ret (results_cell2 (p := 4) (q := 5) (ty := 36) rfl _ _ _ _ ⟨g4, 0, none⟩ _ _ (by rfl) (run_loadVar_row _ g4 36 36 _ (0, 0) _ R4.out Try.underlying36 (by rfl) (by kernel_rfl)) (by rfl)) rfl ?_
  exact ⟨rfl, B1.out⟩
set_option maxHeartbeats 4000000 in
set_option maxRecDepth 100000 in
theorem instr_in (q : Four) (o : ObjV) (hR : ObjR w q o) (hI : o.In) (off : Int) (hof : off ≤ 9223372036854775807) (h0 : 0 ≤ off) (h1 : off % 4 = 0) (h2 : off / 4 < (o.code.length : Int)) :
  Calls Try.prog 45 #[.agg #[.slice q.a0 o.code.length q.c0, .slice q.a1 o.data.length q.c1, .slice q.a2 o.syms.length q.c2, .slice q.a3 o.fixes.length q.c3], .int .i64 off] w fun e w' => e = .returned (insV (decF ((o.code[(off / 4).toNat]?).getD 0))) ∧ Below w.heap.size w w' := by
 obtain ⟨v, hv⟩ : ∃ v, o.code[(off / 4).toNat]? = some v := ⟨_, List.getElem?_eq_getElem (by omega)⟩
 rw [hv, Option.getD_some]
 obtain ⟨od, hod⟩ : ∃ od, decF v = od := ⟨_, rfl⟩
 rw [hod]
 have hvr := hI.code v (List.mem_of_getElem? hv)
 have HD := Aside0.mk hod
 have HV := Aside0.mk hv
 have HVR := Aside0.mk hvr
 have HO := Aside0.mk hR
 have HN := Aside0.mk hI.ncode
 obtain ⟨a0, c0, a1, c1, a2, c2, a3, c3⟩ := q
 simp only at HO ⊢
 obtain ⟨n0, hn0⟩ : ∃ n0, o.code.length = n0 := ⟨_, rfl⟩
 obtain ⟨n1, hn1⟩ : ∃ n1, o.data.length = n1 := ⟨_, rfl⟩
 obtain ⟨n2, hn2⟩ : ∃ n2, o.syms.length = n2 := ⟨_, rfl⟩
 obtain ⟨n3, hn3⟩ : ∃ n3, o.fixes.length = n3 := ⟨_, rfl⟩
 rw [hn0] at h2 HN
 rw [hn0, hn1, hn2, hn3]
 have HN0 := Aside0.mk hn0
 clear hn0 hn1 hn2 hn3 hR hI hod hv hvr
 have B1 := Aside0.mk (show Below w.heap.size w ((w.alloc (.cells #[.slice a0 n0 c0, .slice a1 n1 c1, .slice a2 n2 c2, .slice a3 n3 c3] 43)).alloc (.cells #[.int .i64 0, .int .i64 0, .int .i64 0, .int .i64 0, .int .i64 0] 36)) from below_alloc (below_alloc (Below.refl _ _) _) _)
 have R2 := Aside0.mk (show ((w.alloc (.cells #[.slice a0 n0 c0, .slice a1 n1 c1, .slice a2 n2 c2, .slice a3 n3 c3] 43)).alloc (.cells #[.int .i64 0, .int .i64 0, .int .i64 0, .int .i64 0, .int .i64 0] 36)).heap[w.heap.size]? = some (.cells #[.slice a0 n0 c0, .slice a1 n1 c1, .slice a2 n2 c2, .slice a3 n3 c3] 43 (0, 0)) from blk_alloc (heap_at _ _ _ rfl) _)
 have R4 := Aside0.mk (show ((w.alloc (.cells #[.slice a0 n0 c0, .slice a1 n1 c1, .slice a2 n2 c2, .slice a3 n3 c3] 43)).alloc (.cells #[.int .i64 0, .int .i64 0, .int .i64 0, .int .i64 0, .int .i64 0] 36)).heap[w.heap.size + 1]? = some (.cells #[.int .i64 0, .int .i64 0, .int .i64 0, .int .i64 0, .int .i64 0] 36 (0, 0)) from heap_at _ _ _ (by simp))
 obtain ⟨ad, hA, hc⟩ := C_at (Kd.C_below HO.out.code B1.out) HV.out
 simp only at hA
 subst hA
 go_enter Try.func45, Try.ntmps45
 go_upto_region 1 with (fail)
 generalize ((w.alloc (.cells #[.slice (some ad) n0 c0, .slice a1 n1 c1, .slice a2 n2 c2, .slice a3 n3 c3] 43)).alloc (.cells #[.int .i64 0, .int .i64 0, .int .i64 0, .int .i64 0, .int .i64 0] 36)) = W1 at B1 R2 R4 hc ⊢
 generalize hg4 : w.heap.size + 1 = g4 at R4 ⊢
 generalize hg2 : w.heap.size = g2 at R2 ⊢
 have GG := Aside0.mk (show w.heap.size ≤ g4 by omega)
 have f0 := (blk_cell R2.out 0).trans rfl
 have hn := HN.out
 have h2b : decide ((n0 : Int) ≤ off / 4) = false := by simp; omega
 have h3 : 0 ≤ off / 4 := by omega
 have e0 : decide (off < 0) = false := by simp; omega
 have e1 : (off % 4 != 0) = false := by simp; omega
 have e2 : wrap64 (off.tdiv 4) = off / 4 := by rw [Int.tdiv_eq_ediv_of_nonneg h0]; unfold wrap64; omega
 clear hg4 hg2 h1 hof
 cases od with
 | none =>
  have RDC := Aside0.mk (fun W : World => decode_no W v HVR.out HD.out)
  go_upto_region 4 with (first | (go_at_call 25; refine (RDC.out _).mono ?_; rintro e Z1 ⟨rfl, hb7⟩; have BZ := Aside0.mk hb7; clear hb7) | (refine wpList_store_row rfl 36 _ _ rfl Z1.heap.size _ rfl rfl 36 _ (heap_alloc_last Z1 _) (by as_aux_lemma => kernel_rfl) (by as_aux_lemma => kernel_rfl) (by as_aux_lemma => kernel_rfl) ?_; rw [World.setRow_alloc_new]))
  have R6 := Aside0.mk (show (Z1.alloc (.cells #[.int .i64 0, .int .i64 0, .int .i64 0, .int .i64 0, .int .i64 0] 36)).heap[Z1.heap.size]? = some (.cells #[.int .i64 0, .int .i64 0, .int .i64 0, .int .i64 0, .int .i64 0] 36 (0, 0)) from heap_at _ _ _ rfl)
  have R4z := Aside0.mk (blk_alloc (blk_below R4.out BZ.out) (.cells #[.int .i64 0, .int .i64 0, .int .i64 0, .int .i64 0, .int .i64 0] 36))
  have BY := Aside0.mk (below_alloc (pm_chain B1.out BZ.out) (.cells #[.int .i64 0, .int .i64 0, .int .i64 0, .int .i64 0, .int .i64 0] 36))
  generalize Z1.alloc (.cells #[.int .i64 0, .int .i64 0, .int .i64 0, .int .i64 0, .int .i64 0] 36) = Z2 at R6 R4z BY ⊢
  generalize Z1.heap.size = g6 at R6 ⊢
  have d0 := (blk_cell R6.out 0).trans rfl
  have d1 := (blk_cell R6.out 1).trans rfl
  have d2 := (blk_cell R6.out 2).trans rfl
  have d3 := (blk_cell R6.out 3).trans rfl
  have d4 := (blk_cell R6.out 4).trans rfl
  go_wp2_with (first | (refine wpList_store_row rfl 36 _ _ rfl g4 _ rfl rfl 36 _ R4z.out (by as_aux_lemma => kernel_rfl) (by as_aux_lemma => kernel_rfl) (by as_aux_lemma => kernel_rfl) ?_))
  (try simp only [Exit.inBlock, Exit.then])
  rw [setRow_same R4z.out]
  refine bodyPost_ret (results_cell2 (p := 4) (q := 5) (ty := 36) rfl _ _ _ _ ⟨g4, 0, none⟩ _ _ (by rfl) (run_loadVar_row _ g4 36 36 _ (0, 0) _ R4z.out Try.underlying36 (by rfl) (by kernel_rfl)) (by rfl)) rfl ?_
  exact ⟨rfl, BY.out⟩
 | some x =>
  obtain ⟨op, a, b, d, imm⟩ := x
  have RDC := Aside0.mk (fun W : World => decode_yes W v HVR.out HD.out)
  simp only [I5.enc] at RDC
  go_upto_region 4 with (first | (go_at_call 25; refine (RDC.out _).mono ?_; rintro e Z1 ⟨rfl, hb7⟩; have BZ := Aside0.mk hb7; clear hb7) | (refine wpList_store_row rfl 36 _ _ rfl Z1.heap.size _ rfl rfl 36 _ (heap_alloc_last Z1 _) (by as_aux_lemma => kernel_rfl) (by as_aux_lemma => kernel_rfl) (by as_aux_lemma => kernel_rfl) ?_; rw [World.setRow_alloc_new]))
  have R6 := Aside0.mk (show (Z1.alloc (.cells #[.int .i64 op, .int .i64 a, .int .i64 b, .int .i64 d, .int .i64 imm] 36)).heap[Z1.heap.size]? = some (.cells #[.int .i64 op, .int .i64 a, .int .i64 b, .int .i64 d, .int .i64 imm] 36 (0, 0)) from heap_at _ _ _ rfl)
  have R4z := Aside0.mk (blk_alloc (blk_below R4.out BZ.out) (.cells #[.int .i64 op, .int .i64 a, .int .i64 b, .int .i64 d, .int .i64 imm] 36))
  have BY := Aside0.mk (below_alloc (pm_chain B1.out BZ.out) (.cells #[.int .i64 op, .int .i64 a, .int .i64 b, .int .i64 d, .int .i64 imm] 36))
  generalize Z1.alloc (.cells #[.int .i64 op, .int .i64 a, .int .i64 b, .int .i64 d, .int .i64 imm] 36) = Z2 at R6 R4z BY ⊢
  generalize Z1.heap.size = g6 at R6 ⊢
  have d0 := (blk_cell R6.out 0).trans rfl
  have d1 := (blk_cell R6.out 1).trans rfl
  have d2 := (blk_cell R6.out 2).trans rfl
  have d3 := (blk_cell R6.out 3).trans rfl
  have d4 := (blk_cell R6.out 4).trans rfl
  go_wp2_with (first | (refine wpList_store_row rfl 36 _ _ rfl g4 _ rfl rfl 36 _ R4z.out (by as_aux_lemma => kernel_rfl) (by as_aux_lemma => kernel_rfl) (by as_aux_lemma => kernel_rfl) ?_))
  (try simp only [Exit.inBlock, Exit.then])
  refine bodyPost_ret (results_cell2 (p := 4) (q := 5) (ty := 36) rfl _ _ _ _ ⟨g4, 0, none⟩ _ _ (by rfl) (run_loadVar_row _ g4 36 36 _ (0, 0) _ (setRow_heap _ _ _ _ _ _ R4z.out) Try.underlying36 (by rfl) (by kernel_rfl)) (by rfl)) rfl ?_
  exact ⟨rfl, below_setRow BY.out GG.out _⟩
theorem instr_calls (q : Four) (o : ObjV) (hR : ObjR w q o) (hI : o.In) (off : Int) (hof : -9223372036854775808 ≤ off ∧ off ≤ 9223372036854775807) :
  Calls Try.prog 45 #[.agg #[.slice q.a0 o.code.length q.c0, .slice q.a1 o.data.length q.c1, .slice q.a2 o.syms.length q.c2, .slice q.a3 o.fixes.length q.c3], .int .i64 off] w fun e w' => e = .returned (insV (instrF o off)) ∧ Below w.heap.size w w' := by
 unfold instrF
 by_cases h : off < 0 ∨ off % 4 ≠ 0 ∨ (o.code.length : Int) ≤ off / 4
 ·rw [if_pos h]
  exact instr_no _ _ _ _ _ _ _ _ _ _ _ _ hI.ncode off hof h
 ·rw [if_neg h]
  exact instr_in q o hR hI off hof.2 (by omega) (by omega) (by omega)
end Go.Proofs.Ytejhnlljddjicaa.Ma
namespace Go.Proofs.Ytejhnlljddjicaa.Ma
open Go.RowKit Go.Proofs.Ytejhnlljddjicaa.PLk Go.Proofs.YtejhnlljddjicaaW.PrintWords Go.Proofs.YtejhnlljddjicaaW.PrintLast Go.Proofs.YtejhnlljddjicaaW.PrintMore Go.Proofs.Ytejhnlljddjicaa.La
set_option linter.unusedVariables false
set_option linter.unusedSimpArgs false
variable {w w' W : World}
theorem set_calls (b : Int) (w : World) : Calls Try.prog 47 #[.int .u8 b] w fun e w' => e = .returned (.bool (b != 0)) ∧ w = w' := by
 go_enter Try.func47, Try.ntmps47
 go_wp2
 go_ret
 exact ⟨rfl, rfl⟩
def someF (xs : List Int) : Bool := xs.any (· != 0)
theorem someF_yes {xs : List Int} {j : Nat} {x : Int} (hj : xs[j]? = some x) (h : (x != 0) = true) : someF xs = true := by
 unfold someF
 rw [List.any_eq_true]
 exact ⟨x, List.mem_of_getElem? hj, h⟩
theorem someF_no {xs : List Int} (h : ∀ (k : Nat) (x : Int), xs[k]? = some x → (x != 0) = false) : someF xs = false := by
 unfold someF
 rw [List.any_eq_false]
 intro x hx
 obtain ⟨k, hk, rfl⟩ := List.getElem_of_mem hx
 simp [h k _ (List.getElem?_eq_getElem hk)]
set_option maxHeartbeats 1000000 in
theorem index_calls (A : Option Addr) (cap : Nat) (xs : List Int) (hC : Kd.C (Kd.int .u8) w A xs.length xs) (hl : xs.length ≤ 140737488355328) :
  Calls Try.prog 57 #[.slice A xs.length cap, .func (.func 47) #[] #[]] w fun e w' => (∃ r : Int, e = .returned (.int .i64 r) ∧ decide (0 ≤ r) = someF xs) ∧ w = w' := by
 obtain ⟨n, hn⟩ : ∃ n, n = xs.length := ⟨_, rfl⟩
 rw [← hn]
 have HC := Aside0.mk hC
 have hl2 : (n : Int) ≤ 140737488355328 := by omega
 have HN := Aside0.mk hn
 clear hC hl hn
 go_enter Try.func57, Try.ntmps57
 go_wp2_with (fail)
 go_loopg [8] n (fun kq v8 wr => ∃ j : Nat, j + kq = n ∧ v8 = .int .i64 j ∧ wr = w ∧ Aside0 (∀ (k : Nat) (x : Int), k < j → xs[k]? = some x → (x != 0) = false))
 case atStart => exact ⟨0, by omega, rfl, rfl, ⟨fun k x hk => absurd hk (Nat.not_lt_zero k)⟩⟩
 case round =>
  obtain ⟨j, hj, rfl, rfl, HBd⟩ := hrel
  have HJ := Aside0.mk hj
  clear hj
  by_cases hlt : j < n
  ·obtain ⟨x, hx⟩ : ∃ x, xs[j]? = some x := ⟨_, List.getElem?_eq_getElem (by have := HN.out; omega)⟩
   obtain ⟨ad, hA, hc⟩ := C_at HC.out hx
   have HX := Aside0.mk hx
   have HLT := Aside0.mk hlt
   have hlt2 : (j : Int) < (n : Int) := by omega
   subst hA
   clear hx hlt
   by_cases h0 : x = 0
   ·subst h0
    go_wp2_with (first | (go_at_call 47; refine (set_calls _ _).mono ?_; rintro e w' ⟨rfl, rfl⟩))
    go_roundg (n - (j + 1))
    case measure => have := HJ.out; have := HLT.out; omega
    case rel =>
     refine ⟨j + 1, by have := HJ.out; have := HLT.out; omega, by simp, rfl, ⟨fun k y hk hy => ?_⟩⟩
     rcases Nat.lt_succ_iff_lt_or_eq.1 hk with h | h
     ·exact HBd.out k y h hy
     ·subst h
      rw [HX.out] at hy
      injection hy with hy
      subst hy
      rfl
   ·have hb : (x != 0) = true := by simpa using h0
    have HB := Aside0.mk hb
    clear h0
    go_wp2_with (first | (go_at_call 47; refine (set_calls _ _).mono ?_; rintro e w' ⟨rfl, rfl⟩))
    go_ret
    exact ⟨⟨_, rfl, by rw [someF_yes HX.out HB.out]; simp⟩, rfl⟩
  ·obtain rfl : j = n := by have := HJ.out; omega
   have hlt2 : ¬ ((j : Int) < (j : Int)) := by omega
   go_wp2_with (fail)
   go_ret
   exact ⟨⟨_, rfl, by rw [someF_no (fun k x hx => HBd.out k x (by have := (List.getElem?_eq_some_iff.1 hx).1; have := HN.out; omega) hx)]; rfl⟩, rfl⟩
theorem contains_calls (A : Option Addr) (cap : Nat) (xs : List Int) (hC : Kd.C (Kd.int .u8) w A xs.length xs) (hl : xs.length ≤ 140737488355328) :
  Calls Try.prog 46 #[.slice A xs.length cap, .func (.func 47) #[] #[]] w fun e w' => e = .returned (.bool (someF xs)) ∧ w = w' := by
 have X := Aside0.mk (index_calls A cap xs hC hl)
 clear hC hl
 go_enter Try.func46, Try.ntmps46
 go_wp2_with (first | (go_at_call 57; refine X.out.mono ?_; rintro e w' ⟨⟨r, rfl, hr⟩, rfl⟩; have HR := Aside0.mk hr; clear hr))
 go_ret
 exact ⟨by rw [← HR.out]; rfl, rfl⟩
end Go.Proofs.Ytejhnlljddjicaa.Ma
namespace Go.Proofs.Ytejhnlljddjicaa.Ma
open Go.RowKit Go.Proofs.Ytejhnlljddjicaa.PLk Go.Proofs.YtejhnlljddjicaaW.PrintWords Go.Proofs.YtejhnlljddjicaaW.PrintLast Go.Proofs.YtejhnlljddjicaaW.PrintMore Go.Proofs.Ytejhnlljddjicaa.La
set_option linter.unusedVariables false
set_option linter.unusedSimpArgs false
variable {w w' W : World}
set_option maxRecDepth 100000 in
theorem cut4 {xs : List Int} {A : Option Addr} {n c : Nat} (hC : Kd.C (Kd.int .u8) w A n xs) (hc : n ≤ c) (off : Int) (h0 : 0 ≤ off) (h1 : off + 4 ≤ n) :
  ∃ A' : Option Addr, (∀ W : World, (Instr.slice 23 (.slice A n c) (some (.int .i64 off)) (some (.int .i64 (off + 4))) none).run Try.prog W = .ok (.slice A' 4 (c - off.toNat)) W) ∧ Kd.C (Kd.int .u8) w A' 4 ((xs.drop off.toNat).take 4) := by
 obtain ⟨i, hi, _, hs, _⟩ := info5
 have hn := hC.1
 subst hn
 have ht : off.toNat + 4 ≤ xs.length := by omega
 have e3 : (off + 4).toNat - off.toNat = 4 := by omega
 have hl := cut_mid (P := Try.prog) 23 5 .i64 .i64 Try.underlying23 hi 1 hs A xs.length c off (off + 4) h0 (Int.le_add_of_nonneg_right (by decide)) h1 hc
 have hm := Kd.C_mid (c := c) hC (lo := off.toNat) (hi := off.toNat + 4) (Nat.le_add_right _ _) ht hc
 have e1 : (xs.take (off.toNat + 4)).drop off.toNat = (xs.drop off.toNat).take 4 := by rw [List.drop_take]; congr 1; omega
 have e2 : ((xs.drop off.toNat).take 4).length = 4 := by rw [List.length_take, List.length_drop]; omega
 rw [e1, e2] at hm
 refine ⟨_, fun W => ?_, hm⟩
 rw [hl W]
 rw [e3]
 rfl
set_option maxHeartbeats 8000000 in
set_option maxRecDepth 100000 in
theorem fits_out (q : Four) (o : ObjV) (x : FixV) (hR : ObjR w q o) (hI : o.In) (hx : x.In) (h : nameF x.name = false ∨ x.add < -1048576 ∨ 1048576 < x.add) :
  Calls Try.prog 34 #[.agg #[.slice q.a0 o.code.length q.c0, .slice q.a1 o.data.length q.c1, .slice q.a2 o.syms.length q.c2, .slice q.a3 o.fixes.length q.c3], .agg #[.int .i64 x.kind, .int .i64 x.off, .string x.name, .int .i64 x.add]] w fun e w' => e = .returned (.tuple #[.int .i64 0, .bool false]) ∧ Below w.heap.size w w' := by
 have HI := Aside0.mk hI
 have HX := Aside0.mk hx
 have HO := Aside0.mk hR
 obtain ⟨a0, c0, a1, c1, a2, c2, a3, c3⟩ := q
 obtain ⟨kind, off, name, add⟩ := x
 simp only at HO HX h ⊢
 obtain ⟨n0, hn0⟩ : ∃ n0, o.code.length = n0 := ⟨_, rfl⟩
 obtain ⟨n1, hn1⟩ : ∃ n1, o.data.length = n1 := ⟨_, rfl⟩
 obtain ⟨n2, hn2⟩ : ∃ n2, o.syms.length = n2 := ⟨_, rfl⟩
 obtain ⟨n3, hn3⟩ : ∃ n3, o.fixes.length = n3 := ⟨_, rfl⟩
 have CI := Aside0.mk (fun (W : World) (h : Below w.heap.size w W) (f : Int) (hf : -9223372036854775808 ≤ f ∧ f ≤ 9223372036854775807) => instr_calls ⟨a0, c0, a1, c1, a2, c2, a3, c3⟩ o (HO.out.below h) hI f hf)
 simp only [hn0, hn1, hn2, hn3] at CI
 rw [hn0, hn1, hn2, hn3]
 have HN0 := Aside0.mk hn0
 have HN1 := Aside0.mk hn1
 clear hn0 hn2 hn3 hR hI hx
 have B1 := Aside0.mk (show Below w.heap.size w ((w.alloc (.cells #[.slice a0 n0 c0, .slice a1 n1 c1, .slice a2 n2 c2, .slice a3 n3 c3] 43)).alloc (.cells #[.int .i64 kind, .int .i64 off, .string name, .int .i64 add] 46)) from below_alloc (below_alloc (Below.refl _ _) _) _)
 have R2 := Aside0.mk (show ((w.alloc (.cells #[.slice a0 n0 c0, .slice a1 n1 c1, .slice a2 n2 c2, .slice a3 n3 c3] 43)).alloc (.cells #[.int .i64 kind, .int .i64 off, .string name, .int .i64 add] 46)).heap[w.heap.size]? = some (.cells #[.slice a0 n0 c0, .slice a1 n1 c1, .slice a2 n2 c2, .slice a3 n3 c3] 43 (0, 0)) from blk_alloc (heap_at _ _ _ rfl) _)
 have R3 := Aside0.mk (show ((w.alloc (.cells #[.slice a0 n0 c0, .slice a1 n1 c1, .slice a2 n2 c2, .slice a3 n3 c3] 43)).alloc (.cells #[.int .i64 kind, .int .i64 off, .string name, .int .i64 add] 46)).heap[w.heap.size + 1]? = some (.cells #[.int .i64 kind, .int .i64 off, .string name, .int .i64 add] 46 (0, 0)) from heap_at _ _ _ (by simp))
 go_enter Try.func34, Try.ntmps34
 go_upto_region 1 with (fail)
 generalize ((w.alloc (.cells #[.slice a0 n0 c0, .slice a1 n1 c1, .slice a2 n2 c2, .slice a3 n3 c3] 43)).alloc (.cells #[.int .i64 kind, .int .i64 off, .string name, .int .i64 add] 46)) = W1 at B1 R2 R3 ⊢
 generalize hg3 : w.heap.size + 1 = g3 at R3 ⊢
 generalize hg2 : w.heap.size = g2 at R2 ⊢
 clear hg3 hg2
 have x2 := (blk_cell R3.out 2).trans rfl
 have x3 := (blk_cell R3.out 3).trans rfl
 have CN := Aside0.mk (Name_calls (w := W1) name HX.out.1)
 obtain ⟨nm, hnm⟩ : ∃ nm, nameF name = nm := ⟨_, rfl⟩
 rw [hnm] at h
 have HNM := Aside0.mk hnm
 clear hnm
 have q : nm = false ∨ (nm = true ∧ add < -1048576) ∨ (nm = true ∧ ¬ add < -1048576 ∧ 1048576 < add) := by
  rcases Bool.eq_false_or_eq_true nm with h1 | h1
  ·rcases h with h2 | h2 | h2
   ·exact .inl h2
   ·exact .inr (.inl ⟨h1, h2⟩)
   ·by_cases h3 : add < -1048576
    ·exact .inr (.inl ⟨h1, h3⟩)
    ·exact .inr (.inr ⟨h1, h3, h2⟩)
  ·exact .inl h1
 clear h
 rcases q with q | ⟨q, q2⟩ | ⟨q, q1, q2⟩
 all_goals subst q
 ·go_wp2_with (first | (go_at_call 33; refine CN.out.mono ?_; rintro e W2 ⟨rfl, hb⟩; rw [HNM.out]; have B2 := Aside0.mk (pm_chain B1.out hb); have R2n := Aside0.mk (blk_below R2.out hb); have R3n := Aside0.mk (blk_below R3.out hb); clear hb; have y0 := (blk_cell R3n.out 0).trans rfl; have y1 := (blk_cell R3n.out 1).trans rfl; have y2 := (blk_cell R3n.out 2).trans rfl; have y3 := (blk_cell R3n.out 3).trans rfl; have d0 := (blk_cell R2n.out 0).trans rfl; have d1 := (blk_cell R2n.out 1).trans rfl; have d2 := (blk_cell R2n.out 2).trans rfl; have d3 := (blk_cell R2n.out 3).trans rfl; clear x2 x3))
  go_ret2
  exact ⟨rfl, B2.out⟩
 ·go_wp2_with (first | (go_at_call 33; refine CN.out.mono ?_; rintro e W2 ⟨rfl, hb⟩; rw [HNM.out]; have B2 := Aside0.mk (pm_chain B1.out hb); have R2n := Aside0.mk (blk_below R2.out hb); have R3n := Aside0.mk (blk_below R3.out hb); clear hb; have y0 := (blk_cell R3n.out 0).trans rfl; have y1 := (blk_cell R3n.out 1).trans rfl; have y2 := (blk_cell R3n.out 2).trans rfl; have y3 := (blk_cell R3n.out 3).trans rfl; have d0 := (blk_cell R2n.out 0).trans rfl; have d1 := (blk_cell R2n.out 1).trans rfl; have d2 := (blk_cell R2n.out 2).trans rfl; have d3 := (blk_cell R2n.out 3).trans rfl; clear x2 x3))
  go_ret2
  exact ⟨rfl, B2.out⟩
 ·go_wp2_with (first | (go_at_call 33; refine CN.out.mono ?_; rintro e W2 ⟨rfl, hb⟩; rw [HNM.out]; have B2 := Aside0.mk (pm_chain B1.out hb); have R2n := Aside0.mk (blk_below R2.out hb); have R3n := Aside0.mk (blk_below R3.out hb); clear hb; have y0 := (blk_cell R3n.out 0).trans rfl; have y1 := (blk_cell R3n.out 1).trans rfl; have y2 := (blk_cell R3n.out 2).trans rfl; have y3 := (blk_cell R3n.out 3).trans rfl; have d0 := (blk_cell R2n.out 0).trans rfl; have d1 := (blk_cell R2n.out 1).trans rfl; have d2 := (blk_cell R2n.out 2).trans rfl; have d3 := (blk_cell R2n.out 3).trans rfl; clear x2 x3))
  go_ret2
  exact ⟨rfl, B2.out⟩
theorem insV_eq (od : Option I5) : insV od = .tuple #[.agg #[.int .i64 (od.getD zero5).op, .int .i64 ((od.getD zero5).a : Int), .int .i64 ((od.getD zero5).b : Int), .int .i64 ((od.getD zero5).c : Int), .int .i64 (od.getD zero5).imm], .bool od.isSome] := by cases od <;> rfl
set_option maxHeartbeats 8000000 in
set_option maxRecDepth 100000 in
theorem fits_1 (q : Four) (o : ObjV) (x : FixV) (hR : ObjR w q o) (hI : o.In) (hx : x.In) {r : Bool} (hnm : nameF x.name = true) (hadd : -1048576 ≤ x.add ∧ x.add ≤ 1048576) (hk : x.kind = 1) (hkr : (decide (0 ≤ x.off) && decide (x.off ≤ (o.data.length : Int) - 4) && !someF ((o.data.drop x.off.toNat).take 4)) = r) :
  Calls Try.prog 34 #[.agg #[.slice q.a0 o.code.length q.c0, .slice q.a1 o.data.length q.c1, .slice q.a2 o.syms.length q.c2, .slice q.a3 o.fixes.length q.c3], .agg #[.int .i64 x.kind, .int .i64 x.off, .string x.name, .int .i64 x.add]] w fun e w' => e = .returned (.tuple #[.int .i64 4, .bool r]) ∧ Below w.heap.size w w' := by
 have HI := Aside0.mk hI
 have HX := Aside0.mk hx
 have HO := Aside0.mk hR
 obtain ⟨a0, c0, a1, c1, a2, c2, a3, c3⟩ := q
 obtain ⟨kind, off, name, add⟩ := x
 simp only at HO HX hnm hadd hk hkr ⊢
 have HK := Aside0.mk hk
 clear hk
 have HKR := Aside0.mk hkr
 clear hkr
 obtain ⟨n0, hn0⟩ : ∃ n0, o.code.length = n0 := ⟨_, rfl⟩
 obtain ⟨n1, hn1⟩ : ∃ n1, o.data.length = n1 := ⟨_, rfl⟩
 obtain ⟨n2, hn2⟩ : ∃ n2, o.syms.length = n2 := ⟨_, rfl⟩
 obtain ⟨n3, hn3⟩ : ∃ n3, o.fixes.length = n3 := ⟨_, rfl⟩
 have CI := Aside0.mk (fun (W : World) (h : Below w.heap.size w W) (f : Int) (hf : -9223372036854775808 ≤ f ∧ f ≤ 9223372036854775807) => instr_calls ⟨a0, c0, a1, c1, a2, c2, a3, c3⟩ o (HO.out.below h) hI f hf)
 simp only [hn0, hn1, hn2, hn3] at CI
 rw [hn0, hn1, hn2, hn3]
 have HN0 := Aside0.mk hn0
 have HN1 := Aside0.mk hn1
 clear hn0 hn2 hn3 hR hI hx
 have B1 := Aside0.mk (show Below w.heap.size w ((w.alloc (.cells #[.slice a0 n0 c0, .slice a1 n1 c1, .slice a2 n2 c2, .slice a3 n3 c3] 43)).alloc (.cells #[.int .i64 kind, .int .i64 off, .string name, .int .i64 add] 46)) from below_alloc (below_alloc (Below.refl _ _) _) _)
 have R2 := Aside0.mk (show ((w.alloc (.cells #[.slice a0 n0 c0, .slice a1 n1 c1, .slice a2 n2 c2, .slice a3 n3 c3] 43)).alloc (.cells #[.int .i64 kind, .int .i64 off, .string name, .int .i64 add] 46)).heap[w.heap.size]? = some (.cells #[.slice a0 n0 c0, .slice a1 n1 c1, .slice a2 n2 c2, .slice a3 n3 c3] 43 (0, 0)) from blk_alloc (heap_at _ _ _ rfl) _)
 have R3 := Aside0.mk (show ((w.alloc (.cells #[.slice a0 n0 c0, .slice a1 n1 c1, .slice a2 n2 c2, .slice a3 n3 c3] 43)).alloc (.cells #[.int .i64 kind, .int .i64 off, .string name, .int .i64 add] 46)).heap[w.heap.size + 1]? = some (.cells #[.int .i64 kind, .int .i64 off, .string name, .int .i64 add] 46 (0, 0)) from heap_at _ _ _ (by simp))
 go_enter Try.func34, Try.ntmps34
 go_upto_region 1 with (fail)
 generalize ((w.alloc (.cells #[.slice a0 n0 c0, .slice a1 n1 c1, .slice a2 n2 c2, .slice a3 n3 c3] 43)).alloc (.cells #[.int .i64 kind, .int .i64 off, .string name, .int .i64 add] 46)) = W1 at B1 R2 R3 ⊢
 generalize hg3 : w.heap.size + 1 = g3 at R3 ⊢
 generalize hg2 : w.heap.size = g2 at R2 ⊢
 clear hg3 hg2
 have x2 := (blk_cell R3.out 2).trans rfl
 have x3 := (blk_cell R3.out 3).trans rfl
 have CN := Aside0.mk (Name_calls (w := W1) name HX.out.1)
 have HNM := Aside0.mk hnm
 have q1 : ¬ add < -1048576 := by omega
 have q2 : ¬ 1048576 < add := by omega
 clear hnm hadd
 have C5 := fun (W : World) (h : Below w.heap.size w W) => CI.out W h off HX.out.2.1
 simp only [insV_eq] at C5
 obtain ⟨y, hy⟩ : ∃ y, (instrF o off).getD zero5 = y := ⟨_, rfl⟩
 obtain ⟨s, hs⟩ : ∃ s, (instrF o off).isSome = s := ⟨_, rfl⟩
 simp only [hy, hs] at C5
 obtain ⟨op, ra, rb, rd, imm⟩ := y
 simp only at C5
 have C5 := Aside0.mk C5
 have HY := Aside0.mk hy
 have HS := Aside0.mk hs
 have f0 := Aside0.mk (fun (W : World) (R : W.heap[g2]? = some (.cells #[.slice a0 n0 c0, .slice a1 n1 c1, .slice a2 n2 c2, .slice a3 n3 c3] 43 (0, 0))) => (blk_cell R 0).trans rfl)
 clear hy hs
 go_upto_region 4 with (first | (go_at_call 33; refine CN.out.mono ?_; rintro e W2 ⟨rfl, hb⟩; rw [HNM.out]; have B2 := Aside0.mk (pm_chain B1.out hb); have R2n := Aside0.mk (blk_below R2.out hb); have R3n := Aside0.mk (blk_below R3.out hb); clear hb; have y0 := (blk_cell R3n.out 0).trans rfl; have y1 := (blk_cell R3n.out 1).trans rfl; have y2 := (blk_cell R3n.out 2).trans rfl; have y3 := (blk_cell R3n.out 3).trans rfl; have d0 := (blk_cell R2n.out 0).trans rfl; have d1 := (blk_cell R2n.out 1).trans rfl; have d2 := (blk_cell R2n.out 2).trans rfl; have d3 := (blk_cell R2n.out 3).trans rfl; clear x2 x3) | (go_at_call 45; refine (C5.out _ B2.out).mono ?_; rintro e Z1 ⟨rfl, hb⟩; have B3 := Aside0.mk (pm_chain B2.out hb); have R2z := Aside0.mk (blk_below R2n.out hb); have R3z := Aside0.mk (blk_below R3n.out hb); clear hb y0 y1 y2 y3 d0 d1 d2 d3) | (refine wpList_store_row rfl 36 _ _ rfl Z1.heap.size _ rfl rfl 36 _ (heap_alloc_last Z1 _) (by as_aux_lemma => kernel_rfl) (by as_aux_lemma => kernel_rfl) (by as_aux_lemma => kernel_rfl) ?_; rw [World.setRow_alloc_new]))
 have R6 := Aside0.mk (show (Z1.alloc (.cells #[.int .i64 op, .int .i64 ra, .int .i64 rb, .int .i64 rd, .int .i64 imm] 36)).heap[Z1.heap.size]? = some (.cells #[.int .i64 op, .int .i64 ra, .int .i64 rb, .int .i64 rd, .int .i64 imm] 36 (0, 0)) from heap_at _ _ _ rfl)
 have R2y := Aside0.mk (blk_alloc R2z.out (.cells #[.int .i64 op, .int .i64 ra, .int .i64 rb, .int .i64 rd, .int .i64 imm] 36))
 have R3y := Aside0.mk (blk_alloc R3z.out (.cells #[.int .i64 op, .int .i64 ra, .int .i64 rb, .int .i64 rd, .int .i64 imm] 36))
 have B4 := Aside0.mk (below_alloc B3.out (.cells #[.int .i64 op, .int .i64 ra, .int .i64 rb, .int .i64 rd, .int .i64 imm] 36))
 generalize Z1.alloc (.cells #[.int .i64 op, .int .i64 ra, .int .i64 rb, .int .i64 rd, .int .i64 imm] 36) = W4 at R6 R2y R3y B4 ⊢
 generalize Z1.heap.size = g6 at R6 ⊢
 have y0 := (blk_cell R3y.out 0).trans rfl
 have y1 := (blk_cell R3y.out 1).trans rfl
 have y3 := (blk_cell R3y.out 3).trans rfl
 have d0 := (blk_cell R2y.out 0).trans rfl
 have d1 := (blk_cell R2y.out 1).trans rfl
 have d2 := (blk_cell R2y.out 2).trans rfl
 have d3 := (blk_cell R2y.out 3).trans rfl
 have r0 := (blk_cell R6.out 0).trans rfl
 have r1 := (blk_cell R6.out 1).trans rfl
 have r2 := (blk_cell R6.out 2).trans rfl
 have r3 := (blk_cell R6.out 3).trans rfl
 have r4 := (blk_cell R6.out 4).trans rfl
 obtain rfl := HK.out
 have hn1b : (n1 : Int) ≤ 140737488355328 := by have := HI.out.ndata; omega
 by_cases h0 : 0 ≤ off
 ·by_cases h1 : off ≤ (n1 : Int) - 4
  ·obtain ⟨u, hu⟩ : ∃ u, someF ((o.data.drop off.toNat).take 4) = u := ⟨_, rfl⟩
   obtain ⟨A', hsl, hcut⟩ := cut4 (HN1.out ▸ (HO.out.below B4.out).data) (HN1.out ▸ HO.out.l1) off h0 (by omega)
   have CC := Aside0.mk (contains_calls A' (c1 - off.toNat) _ (by rw [hcut.1]; exact hcut) (by rw [hcut.1]; omega))
   rw [hcut.1, hu] at CC
   have HU := Aside0.mk hu
   have hw : wrap64 (off + 4) = off + 4 := by unfold wrap64; omega
   have hw2 : wrap64 ((n1 : Int) - 4) = (n1 : Int) - 4 := by unfold wrap64; omega
   have e0 : decide (0 ≤ off) = true := by simpa using h0
   have e1 : decide (off ≤ (n1 : Int) - 4) = true := by simpa using h1
   have E0 := Aside0.mk e0
   have E1 := Aside0.mk e1
   clear hu hcut q1 q2
   go_wp2_with (first | (go_at_call 46; refine CC.out.mono ?_; rintro e w' ⟨rfl, rfl⟩))
   go_ret2
   exact ⟨by rw [← HKR.out, HU.out, E0.out, HN1.out, E1.out]; rfl, B4.out⟩
  ·have hw2 : wrap64 ((n1 : Int) - 4) = (n1 : Int) - 4 := by unfold wrap64; omega
   have e0 : decide (0 ≤ off) = true := by simpa using h0
   have e1 : decide (off ≤ (n1 : Int) - 4) = false := by simpa using h1
   have E0 := Aside0.mk e0
   have E1 := Aside0.mk e1
   clear q1 q2 h0 h1
   go_wp2_with (fail)
   go_ret2
   exact ⟨by rw [← HKR.out, E0.out, HN1.out, E1.out]; rfl, B4.out⟩
 ·have e0 : decide (0 ≤ off) = false := by simpa using h0
  have E0 := Aside0.mk e0
  clear q1 q2 h0
  go_wp2_with (fail)
  go_ret2
  exact ⟨by rw [← HKR.out, E0.out]; rfl, B4.out⟩
set_option maxHeartbeats 8000000 in
set_option maxRecDepth 100000 in
theorem fits_3 (q : Four) (o : ObjV) (x : FixV) (hR : ObjR w q o) (hI : o.In) (hx : x.In) {r : Bool} (hnm : nameF x.name = true) (hadd : -1048576 ≤ x.add ∧ x.add ≤ 1048576) (hk : x.kind = 3) (hkr : ((instrF o x.off).isSome && (x.add == 0) && (((instrF o x.off).getD zero5).imm == 0) && ((((instrF o x.off).getD zero5).op == 96) || (((instrF o x.off).getD zero5).op == 99))) = r) :
  Calls Try.prog 34 #[.agg #[.slice q.a0 o.code.length q.c0, .slice q.a1 o.data.length q.c1, .slice q.a2 o.syms.length q.c2, .slice q.a3 o.fixes.length q.c3], .agg #[.int .i64 x.kind, .int .i64 x.off, .string x.name, .int .i64 x.add]] w fun e w' => e = .returned (.tuple #[.int .i64 4, .bool r]) ∧ Below w.heap.size w w' := by
 have HI := Aside0.mk hI
 have HX := Aside0.mk hx
 have HO := Aside0.mk hR
 obtain ⟨a0, c0, a1, c1, a2, c2, a3, c3⟩ := q
 obtain ⟨kind, off, name, add⟩ := x
 simp only at HO HX hnm hadd hk hkr ⊢
 have HK := Aside0.mk hk
 clear hk
 have HKR := Aside0.mk hkr
 clear hkr
 obtain ⟨n0, hn0⟩ : ∃ n0, o.code.length = n0 := ⟨_, rfl⟩
 obtain ⟨n1, hn1⟩ : ∃ n1, o.data.length = n1 := ⟨_, rfl⟩
 obtain ⟨n2, hn2⟩ : ∃ n2, o.syms.length = n2 := ⟨_, rfl⟩
 obtain ⟨n3, hn3⟩ : ∃ n3, o.fixes.length = n3 := ⟨_, rfl⟩
 have CI := Aside0.mk (fun (W : World) (h : Below w.heap.size w W) (f : Int) (hf : -9223372036854775808 ≤ f ∧ f ≤ 9223372036854775807) => instr_calls ⟨a0, c0, a1, c1, a2, c2, a3, c3⟩ o (HO.out.below h) hI f hf)
 simp only [hn0, hn1, hn2, hn3] at CI
 rw [hn0, hn1, hn2, hn3]
 have HN0 := Aside0.mk hn0
 have HN1 := Aside0.mk hn1
 clear hn0 hn2 hn3 hR hI hx
 have B1 := Aside0.mk (show Below w.heap.size w ((w.alloc (.cells #[.slice a0 n0 c0, .slice a1 n1 c1, .slice a2 n2 c2, .slice a3 n3 c3] 43)).alloc (.cells #[.int .i64 kind, .int .i64 off, .string name, .int .i64 add] 46)) from below_alloc (below_alloc (Below.refl _ _) _) _)
 have R2 := Aside0.mk (show ((w.alloc (.cells #[.slice a0 n0 c0, .slice a1 n1 c1, .slice a2 n2 c2, .slice a3 n3 c3] 43)).alloc (.cells #[.int .i64 kind, .int .i64 off, .string name, .int .i64 add] 46)).heap[w.heap.size]? = some (.cells #[.slice a0 n0 c0, .slice a1 n1 c1, .slice a2 n2 c2, .slice a3 n3 c3] 43 (0, 0)) from blk_alloc (heap_at _ _ _ rfl) _)
 have R3 := Aside0.mk (show ((w.alloc (.cells #[.slice a0 n0 c0, .slice a1 n1 c1, .slice a2 n2 c2, .slice a3 n3 c3] 43)).alloc (.cells #[.int .i64 kind, .int .i64 off, .string name, .int .i64 add] 46)).heap[w.heap.size + 1]? = some (.cells #[.int .i64 kind, .int .i64 off, .string name, .int .i64 add] 46 (0, 0)) from heap_at _ _ _ (by simp))
 go_enter Try.func34, Try.ntmps34
 go_upto_region 1 with (fail)
 generalize ((w.alloc (.cells #[.slice a0 n0 c0, .slice a1 n1 c1, .slice a2 n2 c2, .slice a3 n3 c3] 43)).alloc (.cells #[.int .i64 kind, .int .i64 off, .string name, .int .i64 add] 46)) = W1 at B1 R2 R3 ⊢
 generalize hg3 : w.heap.size + 1 = g3 at R3 ⊢
 generalize hg2 : w.heap.size = g2 at R2 ⊢
 clear hg3 hg2
 have x2 := (blk_cell R3.out 2).trans rfl
 have x3 := (blk_cell R3.out 3).trans rfl
 have CN := Aside0.mk (Name_calls (w := W1) name HX.out.1)
 have HNM := Aside0.mk hnm
 have q1 : ¬ add < -1048576 := by omega
 have q2 : ¬ 1048576 < add := by omega
 clear hnm hadd
 have C5 := fun (W : World) (h : Below w.heap.size w W) => CI.out W h off HX.out.2.1
 simp only [insV_eq] at C5
 obtain ⟨y, hy⟩ : ∃ y, (instrF o off).getD zero5 = y := ⟨_, rfl⟩
 obtain ⟨s, hs⟩ : ∃ s, (instrF o off).isSome = s := ⟨_, rfl⟩
 simp only [hy, hs] at C5
 obtain ⟨op, ra, rb, rd, imm⟩ := y
 simp only at C5
 have C5 := Aside0.mk C5
 have HY := Aside0.mk hy
 have HS := Aside0.mk hs
 have f0 := Aside0.mk (fun (W : World) (R : W.heap[g2]? = some (.cells #[.slice a0 n0 c0, .slice a1 n1 c1, .slice a2 n2 c2, .slice a3 n3 c3] 43 (0, 0))) => (blk_cell R 0).trans rfl)
 clear hy hs
 go_upto_region 4 with (first | (go_at_call 33; refine CN.out.mono ?_; rintro e W2 ⟨rfl, hb⟩; rw [HNM.out]; have B2 := Aside0.mk (pm_chain B1.out hb); have R2n := Aside0.mk (blk_below R2.out hb); have R3n := Aside0.mk (blk_below R3.out hb); clear hb; have y0 := (blk_cell R3n.out 0).trans rfl; have y1 := (blk_cell R3n.out 1).trans rfl; have y2 := (blk_cell R3n.out 2).trans rfl; have y3 := (blk_cell R3n.out 3).trans rfl; have d0 := (blk_cell R2n.out 0).trans rfl; have d1 := (blk_cell R2n.out 1).trans rfl; have d2 := (blk_cell R2n.out 2).trans rfl; have d3 := (blk_cell R2n.out 3).trans rfl; clear x2 x3) | (go_at_call 45; refine (C5.out _ B2.out).mono ?_; rintro e Z1 ⟨rfl, hb⟩; have B3 := Aside0.mk (pm_chain B2.out hb); have R2z := Aside0.mk (blk_below R2n.out hb); have R3z := Aside0.mk (blk_below R3n.out hb); clear hb y0 y1 y2 y3 d0 d1 d2 d3) | (refine wpList_store_row rfl 36 _ _ rfl Z1.heap.size _ rfl rfl 36 _ (heap_alloc_last Z1 _) (by as_aux_lemma => kernel_rfl) (by as_aux_lemma => kernel_rfl) (by as_aux_lemma => kernel_rfl) ?_; rw [World.setRow_alloc_new]))
 have R6 := Aside0.mk (show (Z1.alloc (.cells #[.int .i64 op, .int .i64 ra, .int .i64 rb, .int .i64 rd, .int .i64 imm] 36)).heap[Z1.heap.size]? = some (.cells #[.int .i64 op, .int .i64 ra, .int .i64 rb, .int .i64 rd, .int .i64 imm] 36 (0, 0)) from heap_at _ _ _ rfl)
 have R2y := Aside0.mk (blk_alloc R2z.out (.cells #[.int .i64 op, .int .i64 ra, .int .i64 rb, .int .i64 rd, .int .i64 imm] 36))
 have R3y := Aside0.mk (blk_alloc R3z.out (.cells #[.int .i64 op, .int .i64 ra, .int .i64 rb, .int .i64 rd, .int .i64 imm] 36))
 have B4 := Aside0.mk (below_alloc B3.out (.cells #[.int .i64 op, .int .i64 ra, .int .i64 rb, .int .i64 rd, .int .i64 imm] 36))
 generalize Z1.alloc (.cells #[.int .i64 op, .int .i64 ra, .int .i64 rb, .int .i64 rd, .int .i64 imm] 36) = W4 at R6 R2y R3y B4 ⊢
 generalize Z1.heap.size = g6 at R6 ⊢
 have y0 := (blk_cell R3y.out 0).trans rfl
 have y1 := (blk_cell R3y.out 1).trans rfl
 have y3 := (blk_cell R3y.out 3).trans rfl
 have d0 := (blk_cell R2y.out 0).trans rfl
 have d1 := (blk_cell R2y.out 1).trans rfl
 have d2 := (blk_cell R2y.out 2).trans rfl
 have d3 := (blk_cell R2y.out 3).trans rfl
 have r0 := (blk_cell R6.out 0).trans rfl
 have r1 := (blk_cell R6.out 1).trans rfl
 have r2 := (blk_cell R6.out 2).trans rfl
 have r3 := (blk_cell R6.out 3).trans rfl
 have r4 := (blk_cell R6.out 4).trans rfl
 obtain rfl := HK.out
 clear q1 q2
 have hkr := HKR.out
 rw [HS.out, HY.out] at hkr
 simp only at hkr
 have HKR := Aside0.mk hkr
 clear hkr
 have HB4 := Aside0.mk (Below.refl W4.heap.size W4)
 cases s
 ·go_upto_region 13 with (fail)
  go_quiet (fail)
  go_wp2_with (fail)
  go_ret2
  exact ⟨by rw [← HKR.out]; rfl, pw_below_drewN B4.out _⟩
 ·by_cases h1 : add = 0
  ·have e1 : (add == 0) = true := by simp [h1]
   have E1 := Aside0.mk e1
   clear h1
   by_cases h2 : imm = 0
   ·have e2 : (imm == 0) = true := by simp [h2]
    have E2 := Aside0.mk e2
    clear h2
    by_cases h3 : op = 96
    ·have e3 : (op == 96) = true := by simp [h3]
     have E3 := Aside0.mk e3
     clear h3
     go_upto_region 13 with (fail)
     go_quiet (fail)
     go_wp2_with (fail)
     go_ret2
     exact ⟨by rw [← HKR.out, E1.out, E2.out, E3.out]; rfl, pw_below_drewN B4.out _⟩
    ·have e3 : (op == 96) = false := by simp [h3]
     have E3 := Aside0.mk e3
     clear h3
     go_upto_region 13 with (fail)
     go_quiet (fail)
     go_wp2_with (fail)
     go_ret2
     exact ⟨by rw [← HKR.out, E1.out, E2.out, E3.out]; rfl, pw_below_drewN B4.out _⟩
   ·have e2 : (imm == 0) = false := by simp [h2]
    have E2 := Aside0.mk e2
    clear h2
    go_upto_region 13 with (fail)
    go_quiet (fail)
    go_wp2_with (fail)
    go_ret2
    exact ⟨by rw [← HKR.out, E1.out, E2.out]; rfl, pw_below_drewN B4.out _⟩
  ·have e1 : (add == 0) = false := by simp [h1]
   have E1 := Aside0.mk e1
   clear h1
   go_upto_region 13 with (fail)
   go_quiet (fail)
   go_wp2_with (fail)
   go_ret2
   exact ⟨by rw [← HKR.out, E1.out]; rfl, pw_below_drewN B4.out _⟩
set_option maxHeartbeats 8000000 in
set_option maxRecDepth 100000 in
theorem fits_4 (q : Four) (o : ObjV) (x : FixV) (hR : ObjR w q o) (hI : o.In) (hx : x.In) {r : Bool} (hnm : nameF x.name = true) (hadd : -1048576 ≤ x.add ∧ x.add ≤ 1048576) (hk : x.kind = 4) (hkr : ((instrF o x.off).isSome && (x.add == 0) && (((instrF o x.off).getD zero5).imm == 0) && ((((instrF o x.off).getD zero5).op == 97) || (((instrF o x.off).getD zero5).op == 98))) = r) :
  Calls Try.prog 34 #[.agg #[.slice q.a0 o.code.length q.c0, .slice q.a1 o.data.length q.c1, .slice q.a2 o.syms.length q.c2, .slice q.a3 o.fixes.length q.c3], .agg #[.int .i64 x.kind, .int .i64 x.off, .string x.name, .int .i64 x.add]] w fun e w' => e = .returned (.tuple #[.int .i64 4, .bool r]) ∧ Below w.heap.size w w' := by
 have HI := Aside0.mk hI
 have HX := Aside0.mk hx
 have HO := Aside0.mk hR
 obtain ⟨a0, c0, a1, c1, a2, c2, a3, c3⟩ := q
 obtain ⟨kind, off, name, add⟩ := x
 simp only at HO HX hnm hadd hk hkr ⊢
 have HK := Aside0.mk hk
 clear hk
 have HKR := Aside0.mk hkr
 clear hkr
 obtain ⟨n0, hn0⟩ : ∃ n0, o.code.length = n0 := ⟨_, rfl⟩
 obtain ⟨n1, hn1⟩ : ∃ n1, o.data.length = n1 := ⟨_, rfl⟩
 obtain ⟨n2, hn2⟩ : ∃ n2, o.syms.length = n2 := ⟨_, rfl⟩
 obtain ⟨n3, hn3⟩ : ∃ n3, o.fixes.length = n3 := ⟨_, rfl⟩
 have CI := Aside0.mk (fun (W : World) (h : Below w.heap.size w W) (f : Int) (hf : -9223372036854775808 ≤ f ∧ f ≤ 9223372036854775807) => instr_calls ⟨a0, c0, a1, c1, a2, c2, a3, c3⟩ o (HO.out.below h) hI f hf)
 simp only [hn0, hn1, hn2, hn3] at CI
 rw [hn0, hn1, hn2, hn3]
 have HN0 := Aside0.mk hn0
 have HN1 := Aside0.mk hn1
 clear hn0 hn2 hn3 hR hI hx
 have B1 := Aside0.mk (show Below w.heap.size w ((w.alloc (.cells #[.slice a0 n0 c0, .slice a1 n1 c1, .slice a2 n2 c2, .slice a3 n3 c3] 43)).alloc (.cells #[.int .i64 kind, .int .i64 off, .string name, .int .i64 add] 46)) from below_alloc (below_alloc (Below.refl _ _) _) _)
 have R2 := Aside0.mk (show ((w.alloc (.cells #[.slice a0 n0 c0, .slice a1 n1 c1, .slice a2 n2 c2, .slice a3 n3 c3] 43)).alloc (.cells #[.int .i64 kind, .int .i64 off, .string name, .int .i64 add] 46)).heap[w.heap.size]? = some (.cells #[.slice a0 n0 c0, .slice a1 n1 c1, .slice a2 n2 c2, .slice a3 n3 c3] 43 (0, 0)) from blk_alloc (heap_at _ _ _ rfl) _)
 have R3 := Aside0.mk (show ((w.alloc (.cells #[.slice a0 n0 c0, .slice a1 n1 c1, .slice a2 n2 c2, .slice a3 n3 c3] 43)).alloc (.cells #[.int .i64 kind, .int .i64 off, .string name, .int .i64 add] 46)).heap[w.heap.size + 1]? = some (.cells #[.int .i64 kind, .int .i64 off, .string name, .int .i64 add] 46 (0, 0)) from heap_at _ _ _ (by simp))
 go_enter Try.func34, Try.ntmps34
 go_upto_region 1 with (fail)
 generalize ((w.alloc (.cells #[.slice a0 n0 c0, .slice a1 n1 c1, .slice a2 n2 c2, .slice a3 n3 c3] 43)).alloc (.cells #[.int .i64 kind, .int .i64 off, .string name, .int .i64 add] 46)) = W1 at B1 R2 R3 ⊢
 generalize hg3 : w.heap.size + 1 = g3 at R3 ⊢
 generalize hg2 : w.heap.size = g2 at R2 ⊢
 clear hg3 hg2
 have x2 := (blk_cell R3.out 2).trans rfl
 have x3 := (blk_cell R3.out 3).trans rfl
 have CN := Aside0.mk (Name_calls (w := W1) name HX.out.1)
 have HNM := Aside0.mk hnm
 have q1 : ¬ add < -1048576 := by omega
 have q2 : ¬ 1048576 < add := by omega
 clear hnm hadd
 have C5 := fun (W : World) (h : Below w.heap.size w W) => CI.out W h off HX.out.2.1
 simp only [insV_eq] at C5
 obtain ⟨y, hy⟩ : ∃ y, (instrF o off).getD zero5 = y := ⟨_, rfl⟩
 obtain ⟨s, hs⟩ : ∃ s, (instrF o off).isSome = s := ⟨_, rfl⟩
 simp only [hy, hs] at C5
 obtain ⟨op, ra, rb, rd, imm⟩ := y
 simp only at C5
 have C5 := Aside0.mk C5
 have HY := Aside0.mk hy
 have HS := Aside0.mk hs
 have f0 := Aside0.mk (fun (W : World) (R : W.heap[g2]? = some (.cells #[.slice a0 n0 c0, .slice a1 n1 c1, .slice a2 n2 c2, .slice a3 n3 c3] 43 (0, 0))) => (blk_cell R 0).trans rfl)
 clear hy hs
 go_upto_region 4 with (first | (go_at_call 33; refine CN.out.mono ?_; rintro e W2 ⟨rfl, hb⟩; rw [HNM.out]; have B2 := Aside0.mk (pm_chain B1.out hb); have R2n := Aside0.mk (blk_below R2.out hb); have R3n := Aside0.mk (blk_below R3.out hb); clear hb; have y0 := (blk_cell R3n.out 0).trans rfl; have y1 := (blk_cell R3n.out 1).trans rfl; have y2 := (blk_cell R3n.out 2).trans rfl; have y3 := (blk_cell R3n.out 3).trans rfl; have d0 := (blk_cell R2n.out 0).trans rfl; have d1 := (blk_cell R2n.out 1).trans rfl; have d2 := (blk_cell R2n.out 2).trans rfl; have d3 := (blk_cell R2n.out 3).trans rfl; clear x2 x3) | (go_at_call 45; refine (C5.out _ B2.out).mono ?_; rintro e Z1 ⟨rfl, hb⟩; have B3 := Aside0.mk (pm_chain B2.out hb); have R2z := Aside0.mk (blk_below R2n.out hb); have R3z := Aside0.mk (blk_below R3n.out hb); clear hb y0 y1 y2 y3 d0 d1 d2 d3) | (refine wpList_store_row rfl 36 _ _ rfl Z1.heap.size _ rfl rfl 36 _ (heap_alloc_last Z1 _) (by as_aux_lemma => kernel_rfl) (by as_aux_lemma => kernel_rfl) (by as_aux_lemma => kernel_rfl) ?_; rw [World.setRow_alloc_new]))
 have R6 := Aside0.mk (show (Z1.alloc (.cells #[.int .i64 op, .int .i64 ra, .int .i64 rb, .int .i64 rd, .int .i64 imm] 36)).heap[Z1.heap.size]? = some (.cells #[.int .i64 op, .int .i64 ra, .int .i64 rb, .int .i64 rd, .int .i64 imm] 36 (0, 0)) from heap_at _ _ _ rfl)
 have R2y := Aside0.mk (blk_alloc R2z.out (.cells #[.int .i64 op, .int .i64 ra, .int .i64 rb, .int .i64 rd, .int .i64 imm] 36))
 have R3y := Aside0.mk (blk_alloc R3z.out (.cells #[.int .i64 op, .int .i64 ra, .int .i64 rb, .int .i64 rd, .int .i64 imm] 36))
 have B4 := Aside0.mk (below_alloc B3.out (.cells #[.int .i64 op, .int .i64 ra, .int .i64 rb, .int .i64 rd, .int .i64 imm] 36))
 generalize Z1.alloc (.cells #[.int .i64 op, .int .i64 ra, .int .i64 rb, .int .i64 rd, .int .i64 imm] 36) = W4 at R6 R2y R3y B4 ⊢
 generalize Z1.heap.size = g6 at R6 ⊢
 have y0 := (blk_cell R3y.out 0).trans rfl
 have y1 := (blk_cell R3y.out 1).trans rfl
 have y3 := (blk_cell R3y.out 3).trans rfl
 have d0 := (blk_cell R2y.out 0).trans rfl
 have d1 := (blk_cell R2y.out 1).trans rfl
 have d2 := (blk_cell R2y.out 2).trans rfl
 have d3 := (blk_cell R2y.out 3).trans rfl
 have r0 := (blk_cell R6.out 0).trans rfl
 have r1 := (blk_cell R6.out 1).trans rfl
 have r2 := (blk_cell R6.out 2).trans rfl
 have r3 := (blk_cell R6.out 3).trans rfl
 have r4 := (blk_cell R6.out 4).trans rfl
 obtain rfl := HK.out
 clear q1 q2
 have hkr := HKR.out
 rw [HS.out, HY.out] at hkr
 simp only at hkr
 have HKR := Aside0.mk hkr
 clear hkr
 have HB4 := Aside0.mk (Below.refl W4.heap.size W4)
 cases s
 ·go_upto_region 15 with (fail)
  go_quiet (fail)
  go_wp2_with (fail)
  go_ret2
  exact ⟨by rw [← HKR.out]; rfl, pw_below_drewN B4.out _⟩
 ·by_cases h1 : add = 0
  ·have e1 : (add == 0) = true := by simp [h1]
   have E1 := Aside0.mk e1
   clear h1
   by_cases h2 : imm = 0
   ·have e2 : (imm == 0) = true := by simp [h2]
    have E2 := Aside0.mk e2
    clear h2
    by_cases h3 : op = 97
    ·have e3 : (op == 97) = true := by simp [h3]
     have E3 := Aside0.mk e3
     clear h3
     go_upto_region 15 with (fail)
     go_quiet (fail)
     go_wp2_with (fail)
     go_ret2
     exact ⟨by rw [← HKR.out, E1.out, E2.out, E3.out]; rfl, pw_below_drewN B4.out _⟩
    ·have e3 : (op == 97) = false := by simp [h3]
     have E3 := Aside0.mk e3
     clear h3
     go_upto_region 15 with (fail)
     go_quiet (fail)
     go_wp2_with (fail)
     go_ret2
     exact ⟨by rw [← HKR.out, E1.out, E2.out, E3.out]; rfl, pw_below_drewN B4.out _⟩
   ·have e2 : (imm == 0) = false := by simp [h2]
    have E2 := Aside0.mk e2
    clear h2
    go_upto_region 15 with (fail)
    go_quiet (fail)
    go_wp2_with (fail)
    go_ret2
    exact ⟨by rw [← HKR.out, E1.out, E2.out]; rfl, pw_below_drewN B4.out _⟩
  ·have e1 : (add == 0) = false := by simp [h1]
   have E1 := Aside0.mk e1
   clear h1
   go_upto_region 15 with (fail)
   go_quiet (fail)
   go_wp2_with (fail)
   go_ret2
   exact ⟨by rw [← HKR.out, E1.out]; rfl, pw_below_drewN B4.out _⟩
/-- An instruction that is all but op and its register nought. -/
def isLi (x : I5) (op : Int) (a : Nat) : Bool := (x.op == op) && (((x.a : Int) == (a : Int)) && (((x.b : Int) == 0) && (((x.c : Int) == 0) && (x.imm == 0))))
set_option maxHeartbeats 8000000 in
set_option maxRecDepth 100000 in
theorem fits_2n (q : Four) (o : ObjV) (x : FixV) (hR : ObjR w q o) (hI : o.In) (hx : x.In) (hnm : nameF x.name = true) (hadd : -1048576 ≤ x.add ∧ x.add ≤ 1048576) (hk : x.kind = 2) (hks : (instrF o x.off).isSome = false) :
  Calls Try.prog 34 #[.agg #[.slice q.a0 o.code.length q.c0, .slice q.a1 o.data.length q.c1, .slice q.a2 o.syms.length q.c2, .slice q.a3 o.fixes.length q.c3], .agg #[.int .i64 x.kind, .int .i64 x.off, .string x.name, .int .i64 x.add]] w fun e w' => e = .returned (.tuple #[.int .i64 0, .bool false]) ∧ Below w.heap.size w w' := by
 have HI := Aside0.mk hI
 have HX := Aside0.mk hx
 have HO := Aside0.mk hR
 obtain ⟨a0, c0, a1, c1, a2, c2, a3, c3⟩ := q
 obtain ⟨kind, off, name, add⟩ := x
 simp only at HO HX hnm hadd hk hks ⊢
 have HK := Aside0.mk hk
 clear hk
 have HKS := Aside0.mk hks
 clear hks
 obtain ⟨n0, hn0⟩ : ∃ n0, o.code.length = n0 := ⟨_, rfl⟩
 obtain ⟨n1, hn1⟩ : ∃ n1, o.data.length = n1 := ⟨_, rfl⟩
 obtain ⟨n2, hn2⟩ : ∃ n2, o.syms.length = n2 := ⟨_, rfl⟩
 obtain ⟨n3, hn3⟩ : ∃ n3, o.fixes.length = n3 := ⟨_, rfl⟩
 have CI := Aside0.mk (fun (W : World) (h : Below w.heap.size w W) (f : Int) (hf : -9223372036854775808 ≤ f ∧ f ≤ 9223372036854775807) => instr_calls ⟨a0, c0, a1, c1, a2, c2, a3, c3⟩ o (HO.out.below h) hI f hf)
 simp only [hn0, hn1, hn2, hn3] at CI
 rw [hn0, hn1, hn2, hn3]
 have HN0 := Aside0.mk hn0
 have HN1 := Aside0.mk hn1
 clear hn0 hn2 hn3 hR hI hx
 have B1 := Aside0.mk (show Below w.heap.size w ((w.alloc (.cells #[.slice a0 n0 c0, .slice a1 n1 c1, .slice a2 n2 c2, .slice a3 n3 c3] 43)).alloc (.cells #[.int .i64 kind, .int .i64 off, .string name, .int .i64 add] 46)) from below_alloc (below_alloc (Below.refl _ _) _) _)
 have R2 := Aside0.mk (show ((w.alloc (.cells #[.slice a0 n0 c0, .slice a1 n1 c1, .slice a2 n2 c2, .slice a3 n3 c3] 43)).alloc (.cells #[.int .i64 kind, .int .i64 off, .string name, .int .i64 add] 46)).heap[w.heap.size]? = some (.cells #[.slice a0 n0 c0, .slice a1 n1 c1, .slice a2 n2 c2, .slice a3 n3 c3] 43 (0, 0)) from blk_alloc (heap_at _ _ _ rfl) _)
 have R3 := Aside0.mk (show ((w.alloc (.cells #[.slice a0 n0 c0, .slice a1 n1 c1, .slice a2 n2 c2, .slice a3 n3 c3] 43)).alloc (.cells #[.int .i64 kind, .int .i64 off, .string name, .int .i64 add] 46)).heap[w.heap.size + 1]? = some (.cells #[.int .i64 kind, .int .i64 off, .string name, .int .i64 add] 46 (0, 0)) from heap_at _ _ _ (by simp))
 go_enter Try.func34, Try.ntmps34
 go_upto_region 1 with (fail)
 generalize ((w.alloc (.cells #[.slice a0 n0 c0, .slice a1 n1 c1, .slice a2 n2 c2, .slice a3 n3 c3] 43)).alloc (.cells #[.int .i64 kind, .int .i64 off, .string name, .int .i64 add] 46)) = W1 at B1 R2 R3 ⊢
 generalize hg3 : w.heap.size + 1 = g3 at R3 ⊢
 generalize hg2 : w.heap.size = g2 at R2 ⊢
 clear hg3 hg2
 have x2 := (blk_cell R3.out 2).trans rfl
 have x3 := (blk_cell R3.out 3).trans rfl
 have CN := Aside0.mk (Name_calls (w := W1) name HX.out.1)
 have HNM := Aside0.mk hnm
 have q1 : ¬ add < -1048576 := by omega
 have q2 : ¬ 1048576 < add := by omega
 clear hnm hadd
 have C5 := fun (W : World) (h : Below w.heap.size w W) => CI.out W h off HX.out.2.1
 simp only [insV_eq] at C5
 obtain ⟨y, hy⟩ : ∃ y, (instrF o off).getD zero5 = y := ⟨_, rfl⟩
 obtain ⟨s, hs⟩ : ∃ s, (instrF o off).isSome = s := ⟨_, rfl⟩
 simp only [hy, hs] at C5
 obtain ⟨op, ra, rb, rd, imm⟩ := y
 simp only at C5
 have C5 := Aside0.mk C5
 have HY := Aside0.mk hy
 have HS := Aside0.mk hs
 have f0 := Aside0.mk (fun (W : World) (R : W.heap[g2]? = some (.cells #[.slice a0 n0 c0, .slice a1 n1 c1, .slice a2 n2 c2, .slice a3 n3 c3] 43 (0, 0))) => (blk_cell R 0).trans rfl)
 clear hy hs
 go_upto_region 4 with (first | (go_at_call 33; refine CN.out.mono ?_; rintro e W2 ⟨rfl, hb⟩; rw [HNM.out]; have B2 := Aside0.mk (pm_chain B1.out hb); have R2n := Aside0.mk (blk_below R2.out hb); have R3n := Aside0.mk (blk_below R3.out hb); clear hb; have y0 := (blk_cell R3n.out 0).trans rfl; have y1 := (blk_cell R3n.out 1).trans rfl; have y2 := (blk_cell R3n.out 2).trans rfl; have y3 := (blk_cell R3n.out 3).trans rfl; have d0 := (blk_cell R2n.out 0).trans rfl; have d1 := (blk_cell R2n.out 1).trans rfl; have d2 := (blk_cell R2n.out 2).trans rfl; have d3 := (blk_cell R2n.out 3).trans rfl; clear x2 x3) | (go_at_call 45; refine (C5.out _ B2.out).mono ?_; rintro e Z1 ⟨rfl, hb⟩; have B3 := Aside0.mk (pm_chain B2.out hb); have R2z := Aside0.mk (blk_below R2n.out hb); have R3z := Aside0.mk (blk_below R3n.out hb); clear hb y0 y1 y2 y3 d0 d1 d2 d3) | (refine wpList_store_row rfl 36 _ _ rfl Z1.heap.size _ rfl rfl 36 _ (heap_alloc_last Z1 _) (by as_aux_lemma => kernel_rfl) (by as_aux_lemma => kernel_rfl) (by as_aux_lemma => kernel_rfl) ?_; rw [World.setRow_alloc_new]))
 have R6 := Aside0.mk (show (Z1.alloc (.cells #[.int .i64 op, .int .i64 ra, .int .i64 rb, .int .i64 rd, .int .i64 imm] 36)).heap[Z1.heap.size]? = some (.cells #[.int .i64 op, .int .i64 ra, .int .i64 rb, .int .i64 rd, .int .i64 imm] 36 (0, 0)) from heap_at _ _ _ rfl)
 have R2y := Aside0.mk (blk_alloc R2z.out (.cells #[.int .i64 op, .int .i64 ra, .int .i64 rb, .int .i64 rd, .int .i64 imm] 36))
 have R3y := Aside0.mk (blk_alloc R3z.out (.cells #[.int .i64 op, .int .i64 ra, .int .i64 rb, .int .i64 rd, .int .i64 imm] 36))
 have B4 := Aside0.mk (below_alloc B3.out (.cells #[.int .i64 op, .int .i64 ra, .int .i64 rb, .int .i64 rd, .int .i64 imm] 36))
 generalize Z1.alloc (.cells #[.int .i64 op, .int .i64 ra, .int .i64 rb, .int .i64 rd, .int .i64 imm] 36) = W4 at R6 R2y R3y B4 ⊢
 generalize Z1.heap.size = g6 at R6 ⊢
 have y0 := (blk_cell R3y.out 0).trans rfl
 have y1 := (blk_cell R3y.out 1).trans rfl
 have y3 := (blk_cell R3y.out 3).trans rfl
 have d0 := (blk_cell R2y.out 0).trans rfl
 have d1 := (blk_cell R2y.out 1).trans rfl
 have d2 := (blk_cell R2y.out 2).trans rfl
 have d3 := (blk_cell R2y.out 3).trans rfl
 have r0 := (blk_cell R6.out 0).trans rfl
 have r1 := (blk_cell R6.out 1).trans rfl
 have r2 := (blk_cell R6.out 2).trans rfl
 have r3 := (blk_cell R6.out 3).trans rfl
 have r4 := (blk_cell R6.out 4).trans rfl
 obtain rfl := HK.out
 have h := HS.out
 rw [HKS.out] at h
 subst h
 clear q1 q2
 go_wp2_with (fail)
 go_ret2
 exact ⟨rfl, B4.out⟩
set_option maxHeartbeats 8000000 in
set_option maxRecDepth 100000 in
theorem fits_2 (q : Four) (o : ObjV) (x : FixV) (hR : ObjR w q o) (hI : o.In) (hx : x.In) {r : Bool} (hnm : nameF x.name = true) (hadd : -1048576 ≤ x.add ∧ x.add ≤ 1048576) (hk : x.kind = 2) (hks : (instrF o x.off).isSome = true) (hkr : ((instrF o (x.off + 4)).isSome && isLi ((instrF o x.off).getD zero5) 64 ((instrF o x.off).getD zero5).a && isLi ((instrF o (x.off + 4)).getD zero5) 65 ((instrF o x.off).getD zero5).a) = r) :
  Calls Try.prog 34 #[.agg #[.slice q.a0 o.code.length q.c0, .slice q.a1 o.data.length q.c1, .slice q.a2 o.syms.length q.c2, .slice q.a3 o.fixes.length q.c3], .agg #[.int .i64 x.kind, .int .i64 x.off, .string x.name, .int .i64 x.add]] w fun e w' => e = .returned (.tuple #[.int .i64 8, .bool r]) ∧ Below w.heap.size w w' := by
 have HI := Aside0.mk hI
 have HX := Aside0.mk hx
 have HO := Aside0.mk hR
 obtain ⟨a0, c0, a1, c1, a2, c2, a3, c3⟩ := q
 obtain ⟨kind, off, name, add⟩ := x
 simp only at HO HX hnm hadd hk hks hkr ⊢
 have HK := Aside0.mk hk
 clear hk
 have HKS := Aside0.mk hks
 clear hks
 have HKR := Aside0.mk hkr
 clear hkr
 obtain ⟨n0, hn0⟩ : ∃ n0, o.code.length = n0 := ⟨_, rfl⟩
 obtain ⟨n1, hn1⟩ : ∃ n1, o.data.length = n1 := ⟨_, rfl⟩
 obtain ⟨n2, hn2⟩ : ∃ n2, o.syms.length = n2 := ⟨_, rfl⟩
 obtain ⟨n3, hn3⟩ : ∃ n3, o.fixes.length = n3 := ⟨_, rfl⟩
 have CI := Aside0.mk (fun (W : World) (h : Below w.heap.size w W) (f : Int) (hf : -9223372036854775808 ≤ f ∧ f ≤ 9223372036854775807) => instr_calls ⟨a0, c0, a1, c1, a2, c2, a3, c3⟩ o (HO.out.below h) hI f hf)
 simp only [hn0, hn1, hn2, hn3] at CI
 rw [hn0, hn1, hn2, hn3]
 have HN0 := Aside0.mk hn0
 have HN1 := Aside0.mk hn1
 clear hn0 hn2 hn3 hR hI hx
 have B1 := Aside0.mk (show Below w.heap.size w ((w.alloc (.cells #[.slice a0 n0 c0, .slice a1 n1 c1, .slice a2 n2 c2, .slice a3 n3 c3] 43)).alloc (.cells #[.int .i64 kind, .int .i64 off, .string name, .int .i64 add] 46)) from below_alloc (below_alloc (Below.refl _ _) _) _)
 have R2 := Aside0.mk (show ((w.alloc (.cells #[.slice a0 n0 c0, .slice a1 n1 c1, .slice a2 n2 c2, .slice a3 n3 c3] 43)).alloc (.cells #[.int .i64 kind, .int .i64 off, .string name, .int .i64 add] 46)).heap[w.heap.size]? = some (.cells #[.slice a0 n0 c0, .slice a1 n1 c1, .slice a2 n2 c2, .slice a3 n3 c3] 43 (0, 0)) from blk_alloc (heap_at _ _ _ rfl) _)
 have R3 := Aside0.mk (show ((w.alloc (.cells #[.slice a0 n0 c0, .slice a1 n1 c1, .slice a2 n2 c2, .slice a3 n3 c3] 43)).alloc (.cells #[.int .i64 kind, .int .i64 off, .string name, .int .i64 add] 46)).heap[w.heap.size + 1]? = some (.cells #[.int .i64 kind, .int .i64 off, .string name, .int .i64 add] 46 (0, 0)) from heap_at _ _ _ (by simp))
 go_enter Try.func34, Try.ntmps34
 go_upto_region 1 with (fail)
 generalize ((w.alloc (.cells #[.slice a0 n0 c0, .slice a1 n1 c1, .slice a2 n2 c2, .slice a3 n3 c3] 43)).alloc (.cells #[.int .i64 kind, .int .i64 off, .string name, .int .i64 add] 46)) = W1 at B1 R2 R3 ⊢
 generalize hg3 : w.heap.size + 1 = g3 at R3 ⊢
 generalize hg2 : w.heap.size = g2 at R2 ⊢
 clear hg3 hg2
 have x2 := (blk_cell R3.out 2).trans rfl
 have x3 := (blk_cell R3.out 3).trans rfl
 have CN := Aside0.mk (Name_calls (w := W1) name HX.out.1)
 have HNM := Aside0.mk hnm
 have q1 : ¬ add < -1048576 := by omega
 have q2 : ¬ 1048576 < add := by omega
 clear hnm hadd
 have C5 := fun (W : World) (h : Below w.heap.size w W) => CI.out W h off HX.out.2.1
 simp only [insV_eq] at C5
 obtain ⟨y, hy⟩ : ∃ y, (instrF o off).getD zero5 = y := ⟨_, rfl⟩
 obtain ⟨s, hs⟩ : ∃ s, (instrF o off).isSome = s := ⟨_, rfl⟩
 simp only [hy, hs] at C5
 obtain ⟨op, ra, rb, rd, imm⟩ := y
 simp only at C5
 have C5 := Aside0.mk C5
 have HY := Aside0.mk hy
 have HS := Aside0.mk hs
 have f0 := Aside0.mk (fun (W : World) (R : W.heap[g2]? = some (.cells #[.slice a0 n0 c0, .slice a1 n1 c1, .slice a2 n2 c2, .slice a3 n3 c3] 43 (0, 0))) => (blk_cell R 0).trans rfl)
 clear hy hs
 go_upto_region 4 with (first | (go_at_call 33; refine CN.out.mono ?_; rintro e W2 ⟨rfl, hb⟩; rw [HNM.out]; have B2 := Aside0.mk (pm_chain B1.out hb); have R2n := Aside0.mk (blk_below R2.out hb); have R3n := Aside0.mk (blk_below R3.out hb); clear hb; have y0 := (blk_cell R3n.out 0).trans rfl; have y1 := (blk_cell R3n.out 1).trans rfl; have y2 := (blk_cell R3n.out 2).trans rfl; have y3 := (blk_cell R3n.out 3).trans rfl; have d0 := (blk_cell R2n.out 0).trans rfl; have d1 := (blk_cell R2n.out 1).trans rfl; have d2 := (blk_cell R2n.out 2).trans rfl; have d3 := (blk_cell R2n.out 3).trans rfl; clear x2 x3) | (go_at_call 45; refine (C5.out _ B2.out).mono ?_; rintro e Z1 ⟨rfl, hb⟩; have B3 := Aside0.mk (pm_chain B2.out hb); have R2z := Aside0.mk (blk_below R2n.out hb); have R3z := Aside0.mk (blk_below R3n.out hb); clear hb y0 y1 y2 y3 d0 d1 d2 d3) | (refine wpList_store_row rfl 36 _ _ rfl Z1.heap.size _ rfl rfl 36 _ (heap_alloc_last Z1 _) (by as_aux_lemma => kernel_rfl) (by as_aux_lemma => kernel_rfl) (by as_aux_lemma => kernel_rfl) ?_; rw [World.setRow_alloc_new]))
 have R6 := Aside0.mk (show (Z1.alloc (.cells #[.int .i64 op, .int .i64 ra, .int .i64 rb, .int .i64 rd, .int .i64 imm] 36)).heap[Z1.heap.size]? = some (.cells #[.int .i64 op, .int .i64 ra, .int .i64 rb, .int .i64 rd, .int .i64 imm] 36 (0, 0)) from heap_at _ _ _ rfl)
 have R2y := Aside0.mk (blk_alloc R2z.out (.cells #[.int .i64 op, .int .i64 ra, .int .i64 rb, .int .i64 rd, .int .i64 imm] 36))
 have R3y := Aside0.mk (blk_alloc R3z.out (.cells #[.int .i64 op, .int .i64 ra, .int .i64 rb, .int .i64 rd, .int .i64 imm] 36))
 have B4 := Aside0.mk (below_alloc B3.out (.cells #[.int .i64 op, .int .i64 ra, .int .i64 rb, .int .i64 rd, .int .i64 imm] 36))
 generalize Z1.alloc (.cells #[.int .i64 op, .int .i64 ra, .int .i64 rb, .int .i64 rd, .int .i64 imm] 36) = W4 at R6 R2y R3y B4 ⊢
 generalize Z1.heap.size = g6 at R6 ⊢
 have y0 := (blk_cell R3y.out 0).trans rfl
 have y1 := (blk_cell R3y.out 1).trans rfl
 have y3 := (blk_cell R3y.out 3).trans rfl
 have d0 := (blk_cell R2y.out 0).trans rfl
 have d1 := (blk_cell R2y.out 1).trans rfl
 have d2 := (blk_cell R2y.out 2).trans rfl
 have d3 := (blk_cell R2y.out 3).trans rfl
 have r0 := (blk_cell R6.out 0).trans rfl
 have r1 := (blk_cell R6.out 1).trans rfl
 have r2 := (blk_cell R6.out 2).trans rfl
 have r3 := (blk_cell R6.out 3).trans rfl
 have r4 := (blk_cell R6.out 4).trans rfl
 obtain rfl := HK.out
 have h := HS.out
 rw [HKS.out] at h
 subst h
 have hoff : 0 ≤ off ∧ off ≤ 562949953421312 := by
  have h1 := HKS.out
  unfold instrF at h1
  split at h1
  ·cases h1
  ·next h2 => have := HI.out.ncode; omega
 have C6 := fun (W : World) (h : Below w.heap.size w W) => CI.out W h (off + 4) (by omega)
 simp only [insV_eq] at C6
 obtain ⟨y2v, hy2⟩ : ∃ y, (instrF o (off + 4)).getD zero5 = y := ⟨_, rfl⟩
 obtain ⟨s2, hs2⟩ : ∃ s, (instrF o (off + 4)).isSome = s := ⟨_, rfl⟩
 have hkr := HKR.out
 rw [hs2, hy2, HY.out] at hkr
 simp only [hy2, hs2] at C6
 obtain ⟨op', ra', rb', rd', imm'⟩ := y2v
 simp only at C6 hkr
 have C6 := Aside0.mk C6
 have HKR := Aside0.mk hkr
 have hw : wrap64 (off + 4) = off + 4 := by unfold wrap64; omega
 clear hkr hy2 hs2 hoff q1 q2
 go_upto_region 11 with (first | (go_at_call 45; refine (C6.out _ B4.out).mono ?_; rintro e Z5 ⟨rfl, hb⟩; have B5 := Aside0.mk (pm_chain B4.out hb); have R6z := Aside0.mk (blk_below R6.out hb); clear hb y0 y1 y3 d0 d1 d2 d3 r0 r1 r2 r3 r4) | (refine wpList_store_row rfl 36 _ _ rfl Z5.heap.size _ rfl rfl 36 _ (heap_alloc_last Z5 _) (by as_aux_lemma => kernel_rfl) (by as_aux_lemma => kernel_rfl) (by as_aux_lemma => kernel_rfl) ?_; rw [World.setRow_alloc_new]))
 have R8 := Aside0.mk (show (Z5.alloc (.cells #[.int .i64 op', .int .i64 ra', .int .i64 rb', .int .i64 rd', .int .i64 imm'] 36)).heap[Z5.heap.size]? = some (.cells #[.int .i64 op', .int .i64 ra', .int .i64 rb', .int .i64 rd', .int .i64 imm'] 36 (0, 0)) from heap_at _ _ _ rfl)
 have R6y := Aside0.mk (blk_alloc R6z.out (.cells #[.int .i64 op', .int .i64 ra', .int .i64 rb', .int .i64 rd', .int .i64 imm'] 36))
 have B6 := Aside0.mk (below_alloc B5.out (.cells #[.int .i64 op', .int .i64 ra', .int .i64 rb', .int .i64 rd', .int .i64 imm'] 36))
 generalize Z5.alloc (.cells #[.int .i64 op', .int .i64 ra', .int .i64 rb', .int .i64 rd', .int .i64 imm'] 36) = W6 at R8 R6y B6 ⊢
 generalize Z5.heap.size = g8 at R8 ⊢
 have r0 := (blk_cell R6y.out 0).trans rfl
 have r1 := (blk_cell R6y.out 1).trans rfl
 have r2 := (blk_cell R6y.out 2).trans rfl
 have r3 := (blk_cell R6y.out 3).trans rfl
 have r4 := (blk_cell R6y.out 4).trans rfl
 have u0 := (blk_cell R8.out 0).trans rfl
 have u1 := (blk_cell R8.out 1).trans rfl
 have u2 := (blk_cell R8.out 2).trans rfl
 have u3 := (blk_cell R8.out 3).trans rfl
 have u4 := (blk_cell R8.out 4).trans rfl
 cases s2
 ·go_quiet (fail)
  go_wp2_with (fail)
  go_ret2
  exact ⟨by rw [← HKR.out]; rfl, pw_below_drewN B6.out _⟩
 ·by_cases h1 : op = 64
  ·have H1A := Aside0.mk h1
   by_cases h2 : rb = 0
   ·have H2A := Aside0.mk h2
    by_cases h3 : rd = 0
    ·have H3A := Aside0.mk h3
     by_cases h4 : imm = 0
     ·have H4A := Aside0.mk h4
      by_cases k1 : op' = 65
      ·have K1A := Aside0.mk k1
       by_cases k2 : (ra' : Int) = (ra : Int)
       ·have K2A := Aside0.mk k2
        by_cases k3 : rb' = 0
        ·have K3A := Aside0.mk k3
         by_cases k4 : rd' = 0
         ·have K4A := Aside0.mk k4
          by_cases k5 : imm' = 0
          ·have K5A := Aside0.mk k5
           go_quiet (fail)
           go_wp2_with (fail)
           go_ret2
           exact ⟨by rw [← HKR.out]; simp [isLi, H1A.out, H2A.out, H3A.out, H4A.out, K1A.out, K2A.out, K3A.out, K4A.out, K5A.out], pw_below_drewN B6.out _⟩
          ·have K5N := Aside0.mk k5
           go_quiet (fail)
           go_wp2_with (fail)
           go_ret2
           exact ⟨by rw [← HKR.out]; simp [isLi, H1A.out, H2A.out, H3A.out, H4A.out, K1A.out, K2A.out, K3A.out, K4A.out, K5N.out], pw_below_drewN B6.out _⟩
         ·have K4N := Aside0.mk k4
          go_quiet (fail)
          go_wp2_with (fail)
          go_ret2
          exact ⟨by rw [← HKR.out]; simp [isLi, H1A.out, H2A.out, H3A.out, H4A.out, K1A.out, K2A.out, K3A.out, K4N.out], pw_below_drewN B6.out _⟩
        ·have K3N := Aside0.mk k3
         go_quiet (fail)
         go_wp2_with (fail)
         go_ret2
         exact ⟨by rw [← HKR.out]; simp [isLi, H1A.out, H2A.out, H3A.out, H4A.out, K1A.out, K2A.out, K3N.out], pw_below_drewN B6.out _⟩
       ·have K2N := Aside0.mk k2
        go_quiet (fail)
        go_wp2_with (fail)
        go_ret2
        exact ⟨by rw [← HKR.out]; simp [isLi, H1A.out, H2A.out, H3A.out, H4A.out, K1A.out, K2N.out], pw_below_drewN B6.out _⟩
      ·have K1N := Aside0.mk k1
       go_quiet (fail)
       go_wp2_with (fail)
       go_ret2
       exact ⟨by rw [← HKR.out]; simp [isLi, H1A.out, H2A.out, H3A.out, H4A.out, K1N.out], pw_below_drewN B6.out _⟩
     ·have H4N := Aside0.mk h4
      go_quiet (fail)
      go_wp2_with (fail)
      go_ret2
      exact ⟨by rw [← HKR.out]; simp [isLi, H1A.out, H2A.out, H3A.out, H4N.out], pw_below_drewN B6.out _⟩
    ·have H3N := Aside0.mk h3
     go_quiet (fail)
     go_wp2_with (fail)
     go_ret2
     exact ⟨by rw [← HKR.out]; simp [isLi, H1A.out, H2A.out, H3N.out], pw_below_drewN B6.out _⟩
   ·have H2N := Aside0.mk h2
    go_quiet (fail)
    go_wp2_with (fail)
    go_ret2
    exact ⟨by rw [← HKR.out]; simp [isLi, H1A.out, H2N.out], pw_below_drewN B6.out _⟩
  ·have H1N := Aside0.mk h1
   go_quiet (fail)
   go_wp2_with (fail)
   go_ret2
   exact ⟨by rw [← HKR.out]; simp [isLi, H1N.out], pw_below_drewN B6.out _⟩
set_option maxHeartbeats 8000000 in
set_option maxRecDepth 100000 in
theorem fits_none (q : Four) (o : ObjV) (x : FixV) (hR : ObjR w q o) (hI : o.In) (hx : x.In) (hnm : nameF x.name = true) (hadd : -1048576 ≤ x.add ∧ x.add ≤ 1048576) (hk : x.kind ≠ 1 ∧ x.kind ≠ 2 ∧ x.kind ≠ 3 ∧ x.kind ≠ 4) :
  Calls Try.prog 34 #[.agg #[.slice q.a0 o.code.length q.c0, .slice q.a1 o.data.length q.c1, .slice q.a2 o.syms.length q.c2, .slice q.a3 o.fixes.length q.c3], .agg #[.int .i64 x.kind, .int .i64 x.off, .string x.name, .int .i64 x.add]] w fun e w' => e = .returned (.tuple #[.int .i64 0, .bool false]) ∧ Below w.heap.size w w' := by
 have HI := Aside0.mk hI
 have HX := Aside0.mk hx
 have HO := Aside0.mk hR
 obtain ⟨a0, c0, a1, c1, a2, c2, a3, c3⟩ := q
 obtain ⟨kind, off, name, add⟩ := x
 simp only at HO HX hnm hadd hk ⊢
 have HK := Aside0.mk hk
 clear hk
 obtain ⟨n0, hn0⟩ : ∃ n0, o.code.length = n0 := ⟨_, rfl⟩
 obtain ⟨n1, hn1⟩ : ∃ n1, o.data.length = n1 := ⟨_, rfl⟩
 obtain ⟨n2, hn2⟩ : ∃ n2, o.syms.length = n2 := ⟨_, rfl⟩
 obtain ⟨n3, hn3⟩ : ∃ n3, o.fixes.length = n3 := ⟨_, rfl⟩
 have CI := Aside0.mk (fun (W : World) (h : Below w.heap.size w W) (f : Int) (hf : -9223372036854775808 ≤ f ∧ f ≤ 9223372036854775807) => instr_calls ⟨a0, c0, a1, c1, a2, c2, a3, c3⟩ o (HO.out.below h) hI f hf)
 simp only [hn0, hn1, hn2, hn3] at CI
 rw [hn0, hn1, hn2, hn3]
 have HN0 := Aside0.mk hn0
 have HN1 := Aside0.mk hn1
 clear hn0 hn2 hn3 hR hI hx
 have B1 := Aside0.mk (show Below w.heap.size w ((w.alloc (.cells #[.slice a0 n0 c0, .slice a1 n1 c1, .slice a2 n2 c2, .slice a3 n3 c3] 43)).alloc (.cells #[.int .i64 kind, .int .i64 off, .string name, .int .i64 add] 46)) from below_alloc (below_alloc (Below.refl _ _) _) _)
 have R2 := Aside0.mk (show ((w.alloc (.cells #[.slice a0 n0 c0, .slice a1 n1 c1, .slice a2 n2 c2, .slice a3 n3 c3] 43)).alloc (.cells #[.int .i64 kind, .int .i64 off, .string name, .int .i64 add] 46)).heap[w.heap.size]? = some (.cells #[.slice a0 n0 c0, .slice a1 n1 c1, .slice a2 n2 c2, .slice a3 n3 c3] 43 (0, 0)) from blk_alloc (heap_at _ _ _ rfl) _)
 have R3 := Aside0.mk (show ((w.alloc (.cells #[.slice a0 n0 c0, .slice a1 n1 c1, .slice a2 n2 c2, .slice a3 n3 c3] 43)).alloc (.cells #[.int .i64 kind, .int .i64 off, .string name, .int .i64 add] 46)).heap[w.heap.size + 1]? = some (.cells #[.int .i64 kind, .int .i64 off, .string name, .int .i64 add] 46 (0, 0)) from heap_at _ _ _ (by simp))
 go_enter Try.func34, Try.ntmps34
 go_upto_region 1 with (fail)
 generalize ((w.alloc (.cells #[.slice a0 n0 c0, .slice a1 n1 c1, .slice a2 n2 c2, .slice a3 n3 c3] 43)).alloc (.cells #[.int .i64 kind, .int .i64 off, .string name, .int .i64 add] 46)) = W1 at B1 R2 R3 ⊢
 generalize hg3 : w.heap.size + 1 = g3 at R3 ⊢
 generalize hg2 : w.heap.size = g2 at R2 ⊢
 clear hg3 hg2
 have x2 := (blk_cell R3.out 2).trans rfl
 have x3 := (blk_cell R3.out 3).trans rfl
 have CN := Aside0.mk (Name_calls (w := W1) name HX.out.1)
 have HNM := Aside0.mk hnm
 have q1 : ¬ add < -1048576 := by omega
 have q2 : ¬ 1048576 < add := by omega
 clear hnm hadd
 have C5 := fun (W : World) (h : Below w.heap.size w W) => CI.out W h off HX.out.2.1
 simp only [insV_eq] at C5
 obtain ⟨y, hy⟩ : ∃ y, (instrF o off).getD zero5 = y := ⟨_, rfl⟩
 obtain ⟨s, hs⟩ : ∃ s, (instrF o off).isSome = s := ⟨_, rfl⟩
 simp only [hy, hs] at C5
 obtain ⟨op, ra, rb, rd, imm⟩ := y
 simp only at C5
 have C5 := Aside0.mk C5
 have HY := Aside0.mk hy
 have HS := Aside0.mk hs
 have f0 := Aside0.mk (fun (W : World) (R : W.heap[g2]? = some (.cells #[.slice a0 n0 c0, .slice a1 n1 c1, .slice a2 n2 c2, .slice a3 n3 c3] 43 (0, 0))) => (blk_cell R 0).trans rfl)
 clear hy hs
 go_upto_region 4 with (first | (go_at_call 33; refine CN.out.mono ?_; rintro e W2 ⟨rfl, hb⟩; rw [HNM.out]; have B2 := Aside0.mk (pm_chain B1.out hb); have R2n := Aside0.mk (blk_below R2.out hb); have R3n := Aside0.mk (blk_below R3.out hb); clear hb; have y0 := (blk_cell R3n.out 0).trans rfl; have y1 := (blk_cell R3n.out 1).trans rfl; have y2 := (blk_cell R3n.out 2).trans rfl; have y3 := (blk_cell R3n.out 3).trans rfl; have d0 := (blk_cell R2n.out 0).trans rfl; have d1 := (blk_cell R2n.out 1).trans rfl; have d2 := (blk_cell R2n.out 2).trans rfl; have d3 := (blk_cell R2n.out 3).trans rfl; clear x2 x3) | (go_at_call 45; refine (C5.out _ B2.out).mono ?_; rintro e Z1 ⟨rfl, hb⟩; have B3 := Aside0.mk (pm_chain B2.out hb); have R2z := Aside0.mk (blk_below R2n.out hb); have R3z := Aside0.mk (blk_below R3n.out hb); clear hb y0 y1 y2 y3 d0 d1 d2 d3) | (refine wpList_store_row rfl 36 _ _ rfl Z1.heap.size _ rfl rfl 36 _ (heap_alloc_last Z1 _) (by as_aux_lemma => kernel_rfl) (by as_aux_lemma => kernel_rfl) (by as_aux_lemma => kernel_rfl) ?_; rw [World.setRow_alloc_new]))
 have R6 := Aside0.mk (show (Z1.alloc (.cells #[.int .i64 op, .int .i64 ra, .int .i64 rb, .int .i64 rd, .int .i64 imm] 36)).heap[Z1.heap.size]? = some (.cells #[.int .i64 op, .int .i64 ra, .int .i64 rb, .int .i64 rd, .int .i64 imm] 36 (0, 0)) from heap_at _ _ _ rfl)
 have R2y := Aside0.mk (blk_alloc R2z.out (.cells #[.int .i64 op, .int .i64 ra, .int .i64 rb, .int .i64 rd, .int .i64 imm] 36))
 have R3y := Aside0.mk (blk_alloc R3z.out (.cells #[.int .i64 op, .int .i64 ra, .int .i64 rb, .int .i64 rd, .int .i64 imm] 36))
 have B4 := Aside0.mk (below_alloc B3.out (.cells #[.int .i64 op, .int .i64 ra, .int .i64 rb, .int .i64 rd, .int .i64 imm] 36))
 generalize Z1.alloc (.cells #[.int .i64 op, .int .i64 ra, .int .i64 rb, .int .i64 rd, .int .i64 imm] 36) = W4 at R6 R2y R3y B4 ⊢
 generalize Z1.heap.size = g6 at R6 ⊢
 have y0 := (blk_cell R3y.out 0).trans rfl
 have y1 := (blk_cell R3y.out 1).trans rfl
 have y3 := (blk_cell R3y.out 3).trans rfl
 have d0 := (blk_cell R2y.out 0).trans rfl
 have d1 := (blk_cell R2y.out 1).trans rfl
 have d2 := (blk_cell R2y.out 2).trans rfl
 have d3 := (blk_cell R2y.out 3).trans rfl
 have r0 := (blk_cell R6.out 0).trans rfl
 have r1 := (blk_cell R6.out 1).trans rfl
 have r2 := (blk_cell R6.out 2).trans rfl
 have r3 := (blk_cell R6.out 3).trans rfl
 have r4 := (blk_cell R6.out 4).trans rfl
 have e1 : (kind == 1) = false := by have := HK.out; simp [this]
 have e2 : (kind == 2) = false := by have := HK.out; simp [this]
 have e3 : (kind == 3) = false := by have := HK.out; simp [this]
 have e4 : (kind == 4) = false := by have := HK.out; simp [this]
 clear q1 q2
 go_wp2_with (fail)
 go_ret2
 exact ⟨rfl, B4.out⟩
/-- What asm.fits answers: how many bytes a fix has, and whether it may stand there. -/
def fitsF (o : ObjV) (x : FixV) : Int × Bool :=
 if nameF x.name = false ∨ x.add < -1048576 ∨ 1048576 < x.add then (0, false)
 else if x.kind = 1 then (4, decide (0 ≤ x.off) && decide (x.off ≤ (o.data.length : Int) - 4) && !someF ((o.data.drop x.off.toNat).take 4))
 else if x.kind = 2 then (if (instrF o x.off).isSome = false then (0, false) else (8, (instrF o (x.off + 4)).isSome && isLi ((instrF o x.off).getD zero5) 64 ((instrF o x.off).getD zero5).a && isLi ((instrF o (x.off + 4)).getD zero5) 65 ((instrF o x.off).getD zero5).a))
 else if x.kind = 3 then (4, (instrF o x.off).isSome && (x.add == 0) && (((instrF o x.off).getD zero5).imm == 0) && ((((instrF o x.off).getD zero5).op == 96) || (((instrF o x.off).getD zero5).op == 99)))
 else if x.kind = 4 then (4, (instrF o x.off).isSome && (x.add == 0) && (((instrF o x.off).getD zero5).imm == 0) && ((((instrF o x.off).getD zero5).op == 97) || (((instrF o x.off).getD zero5).op == 98)))
 else (0, false)
theorem fits_calls (q : Four) (o : ObjV) (x : FixV) (hR : ObjR w q o) (hI : o.In) (hx : x.In) :
  Calls Try.prog 34 #[.agg #[.slice q.a0 o.code.length q.c0, .slice q.a1 o.data.length q.c1, .slice q.a2 o.syms.length q.c2, .slice q.a3 o.fixes.length q.c3], .agg #[.int .i64 x.kind, .int .i64 x.off, .string x.name, .int .i64 x.add]] w fun e w' => e = .returned (.tuple #[.int .i64 (fitsF o x).1, .bool (fitsF o x).2]) ∧ Below w.heap.size w w' := by
 unfold fitsF
 by_cases h : nameF x.name = false ∨ x.add < -1048576 ∨ 1048576 < x.add
 ·rw [if_pos h]; exact fits_out q o x hR hI hx h
 ·rw [if_neg h]
  have hn : nameF x.name = true := by
   cases hq : nameF x.name with
   | true => rfl
   | false => exact absurd (.inl hq) h
  have ha : -1048576 ≤ x.add ∧ x.add ≤ 1048576 := ⟨by
   rcases Int.lt_or_le x.add (-1048576) with h1 | h1
   ·exact absurd (.inr (.inl h1)) h
   ·exact h1, by
   rcases Int.lt_or_le 1048576 x.add with h1 | h1
   ·exact absurd (.inr (.inr h1)) h
   ·exact h1⟩
  clear h
  by_cases k1 : x.kind = 1
  ·rw [if_pos k1]; exact fits_1 q o x hR hI hx hn ha k1 rfl
  rw [if_neg k1]
  by_cases k2 : x.kind = 2
  ·rw [if_pos k2]
   by_cases s : (instrF o x.off).isSome = false
   ·rw [if_pos s]; exact fits_2n q o x hR hI hx hn ha k2 s
   ·rw [if_neg s]; exact fits_2 q o x hR hI hx hn ha k2 (by cases h9 : (instrF o x.off).isSome with | true => rfl | false => exact absurd h9 s) rfl
  rw [if_neg k2]
  by_cases k3 : x.kind = 3
  ·rw [if_pos k3]; exact fits_3 q o x hR hI hx hn ha k3 rfl
  rw [if_neg k3]
  by_cases k4 : x.kind = 4
  ·rw [if_pos k4]; exact fits_4 q o x hR hI hx hn ha k4 rfl
  rw [if_neg k4]
  exact fits_none q o x hR hI hx hn ha ⟨k1, k2, k3, k4⟩
end Go.Proofs.Ytejhnlljddjicaa.Ma
