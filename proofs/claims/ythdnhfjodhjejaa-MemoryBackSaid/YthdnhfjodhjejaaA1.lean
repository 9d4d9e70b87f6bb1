/- What a memory of package memory is in the model's world: its blocks, its map; what stays. No condition. And more of the kind: 8 texts in one. -/
import Derived.Test.YthdnhfjodhjejaaPMex0
import Derived.Deep.WholeRow
import Derived.Test.YthdnhfjodhjejaaPMex2
import Derived.Deep.RegionHeld3
namespace Go.Proofs.Ythdnhfjodhjejaa.Ma
open Go.RowKit Go.Proofs.Ythdnhfjodhjejaa.PMe Go.Proofs.YthdnhfjodhjejaaW.PrintWords

/-- All blocks but those of F are as they were; the streams are. -/
structure Ext (F : Nat → Prop) (w w' : World) : Prop where
  os : w'.os = w.os
  tape : w'.tape = w.tape
  output : w'.output = w.output
  size : w.heap.size ≤ w'.heap.size
  block : ∀ k, k < w.heap.size → ¬ F k → w'.heap[k]? = w.heap[k]?
theorem Ext.refl (F : Nat → Prop) (w : World) : Ext F w w := ⟨rfl, rfl, rfl, Nat.le_refl _, fun _ _ _ => rfl⟩
theorem Ext.trans {F G : Nat → Prop} {a b c : World} (h : Ext F a b) (k : Ext G b c) (hg : ∀ i, i < a.heap.size → G i → F i) : Ext F a c :=
  ⟨k.os.trans h.os, k.tape.trans h.tape, k.output.trans h.output, Nat.le_trans h.size k.size, fun i hi hf => (k.block i (Nat.lt_of_lt_of_le hi h.size) (fun g => hf (hg i hi g))).trans (h.block i hi hf)⟩
theorem Ext.mono {F G : Nat → Prop} {a b : World} (h : Ext F a b) (hg : ∀ i, F i → G i) : Ext G a b := ⟨h.os, h.tape, h.output, h.size, fun i hi hf => h.block i hi (fun f => hf (hg i f))⟩
theorem Ext.of_below {F : Nat → Prop} {w w' : World} (h : Below w.heap.size w w') : Ext F w w' := ⟨h.os, h.tape, h.output, h.size, fun i hi _ => h.block i hi⟩
theorem Ext.below {w w' : World} (h : Ext (fun _ => False) w w') : Below w.heap.size w w' := ⟨h.os, h.tape, h.output, h.size, fun i hi => h.block i hi id⟩
theorem Ext.below_of {F : Nat → Prop} {B : Nat} {w w' : World} (h : Ext F w w') (hB : B ≤ w.heap.size) (hF : ∀ i, F i → B ≤ i) : Below B w w' :=
  ⟨h.os, h.tape, h.output, h.size, fun i hi => h.block i (Nat.lt_of_lt_of_le hi hB) (fun f => absurd (hF i f) (by omega))⟩
theorem Ext.then_below {F : Nat → Prop} {a b c : World} (h : Ext F a b) (k : Below b.heap.size b c) : Ext F a c :=
  h.trans (Ext.of_below (F := fun _ => False) k) (fun _ _ f => f.elim)
theorem Ext.setCell {F : Nat → Prop} {w W : World} (h : Ext F w W) {p : Addr} (hp : F p.block ∨ w.heap.size ≤ p.block) (u : Value) : Ext F w (W.setCell p u) :=
  ⟨h.os, h.tape, h.output, by simpa [World.setCell] using h.size, fun i hi hf => (Below.heap_setCell W p u i (fun e => hp.elim (fun f => hf (e ▸ f)) (fun g => absurd hi (by omega)))).trans (h.block i hi hf)⟩
theorem Ext.at {F : Nat → Prop} {w W : World} (h : Ext F w W) {k : Nat} {o : Obj} (hk : w.heap[k]? = some o) (hf : ¬ F k) : W.heap[k]? = some o :=
  (h.block k (Array.getElem?_eq_some_iff.1 hk).1 hf).trans hk

/-! A map with int keys. -/
def keyI : Value → Option Int
  | .int .i64 n => some n
  | _ => none
def lookI : List MapEntry → Int → Nat → Option (Nat × Value)
  | [], _, _ => none
  | e :: es, k, i => if keyI e.key = some k then some (i, e.val) else lookI es k (i + 1)
def IntKeys (es : List MapEntry) : Prop := ∀ e ∈ es, ∃ n, e.key = .int .i64 n
theorem findNow_int (kd : IntKind) (k : Int) : ∀ (es : List MapEntry) (i : Nat), IntKeys es → Instr.findNow (.int kd) (.int .i64 k) es i = some (lookI es k i)
  | [], _, _ => rfl
  | e :: es, i, h => by
    obtain ⟨n, hn⟩ := h e (by simp)
    unfold Instr.findNow lookI
    rw [hn]
    by_cases hk : n = k
    · subst hk; simp [Instr.sameNow, keyI]
    · have hk' : ¬ k = n := fun e => hk e.symm
      have := findNow_int kd k es (i + 1) (fun e he => h e (by simp [he]))
      have hb : (k == n) = false := beq_eq_false_iff_ne.mpr hk'
      simp [Instr.sameNow, keyI, hk, hb, this]
variable {P : Program}
theorem get_map {w : World} {r : Nat} {es : Array MapEntry} {clock : Nat} (hb : w.heap[r]? = some (.map es clock)) : (getObj r).run P w = .ok (.map es clock) w := by
  simp [getObj, Sem.run, hb]
theorem set_map {w : World} {r : Nat} {es : Array MapEntry} {clock : Nat} (o : Obj) (hb : w.heap[r]? = some (.map es clock)) : (setObj r o).run P w = .ok () { w with heap := w.heap.setIfInBounds r o } := by
  simp [setObj, Sem.run, hb]
theorem run_findKey_int {kt : TypeId} {kd : IntKind} (hk : P.underlying kt = some (.int kd)) (k : Int) (es : List MapEntry) (h : IntKeys es) (W : World) :
    (Instr.findKey kt (.int .i64 k) es).run P W = .ok (lookI es k 0) W := by
  unfold Instr.findKey
  simp [run_underlying hk, findNow_int kd k es 0 h]
theorem run_checkKey_int {kt : TypeId} {kd : IntKind} (hk : P.underlying kt = some (.int kd)) (b : Bool) (k : Int) (W : World) :
    (Instr.checkKey b 10000 kt (.int .i64 k)).run P W = .ok () W := by
  unfold Instr.checkKey
  simp [run_underlying hk]
theorem run_lookup_int {t kt et : TypeId} {kd : IntKind} (ht : P.underlying t = some (.map kt et)) (hk : P.underlying kt = some (.int kd)) {z : Value} (hz : ∀ w, (zeroValue et).run P w = .ok z w)
    (k : Int) (mm : Nat) (es : Array MapEntry) (c : Nat) (h : IntKeys es.toList) (W : World) (hW : W.heap[mm]? = some (.map es c)) :
    (Instr.lookup t (.map (some mm)) (.int .i64 k) false).run P W = .ok (((lookI es.toList k 0).map (·.2)).getD z) W := by
  unfold Instr.lookup
  simp only [run_underlying ht, Sem.run_bind, Result.andThen_ok]
  have hg := get_map (P := P) hW
  simp only [hg, Sem.run_bind, Result.andThen_ok, Sem.run_pure, run_checkKey_int hk, run_findKey_int hk k es.toList h]
  cases lookI es.toList k 0 with
  | none => simp [hz]
  | some v => simp
/-- The world with an object laid anew. -/
def World.lay (W : World) (r : Nat) (o : Obj) : World := { W with heap := W.heap.setIfInBounds r o }
theorem lay_at (W : World) (r : Nat) (o o' : Obj) (h : W.heap[r]? = some o') : (World.lay W r o).heap[r]? = some o := by
  have := (Array.getElem?_eq_some_iff.1 h).1
  simp [World.lay, this]
theorem lay_other (W : World) (r : Nat) (o : Obj) (k : Nat) (h : k ≠ r) : (World.lay W r o).heap[k]? = W.heap[k]? := by
  simp only [World.lay]
  rw [Array.getElem?_setIfInBounds_ne (fun e => h e.symm)]
theorem lay_size (W : World) (r : Nat) (o : Obj) : (World.lay W r o).heap.size = W.heap.size := by simp [World.lay]
theorem Ext.lay {F : Nat → Prop} {w W : World} (h : Ext F w W) {r : Nat} (hr : F r ∨ w.heap.size ≤ r) (o : Obj) : Ext F w (World.lay W r o) :=
  ⟨h.os, h.tape, h.output, by rw [lay_size]; exact h.size, fun i hi hf => (lay_other W r o i (fun e => hr.elim (fun f => hf (e ▸ f)) (fun g => absurd hi (by omega)))).trans (h.block i hi hf)⟩
theorem lookI_none {es : List MapEntry} {k : Int} (h : ∀ e ∈ es, keyI e.key ≠ some k) : ∀ i, lookI es k i = none := by
  induction es with
  | nil => intro i; rfl
  | cons e es ih =>
    intro i
    unfold lookI
    rw [if_neg (h e (by simp))]
    exact ih (fun e he => h e (by simp [he])) (i + 1)
theorem run_mapUpdate_new {t kt et : TypeId} {kd : IntKind} (ht : P.underlying t = some (.map kt et)) (hk : P.underlying kt = some (.int kd))
    (k : Int) (v : Value) (mm : Nat) (es : Array MapEntry) (c : Nat) (h : IntKeys es.toList) (hn : lookI es.toList k 0 = none) (W : World) (hW : W.heap[mm]? = some (.map es c)) :
    (Instr.mapUpdate t (.map (some mm)) (.int .i64 k) v).run P W = .ok () (World.lay W mm (.map (es.push { key := .int .i64 k, val := v, born := c }) (c + 1))) := by
  unfold Instr.mapUpdate
  have hg := get_map (P := P) hW
  have hs := set_map (P := P) (.map (es.push { key := .int .i64 k, val := v, born := c }) (c + 1)) hW
  simp only [run_underlying ht, Sem.run_bind, Result.andThen_ok, hg, run_checkKey_int hk, run_findKey_int hk k es.toList h, hn]
  exact hs
theorem run_delete_int {t kt et ty : TypeId} {kd : IntKind} (ht : P.underlying t = some (.map kt et)) (hk : P.underlying kt = some (.int kd))
    (k : Int) (mm : Nat) (es : Array MapEntry) (c : Nat) (h : IntKeys es.toList) (i : Nat) (v : Value) (hi : lookI es.toList k 0 = some (i, v)) (W : World) (hW : W.heap[mm]? = some (.map es c)) (ts : Array TypeId) (hts : ts[0]? = some t) :
    (Builtin.delete_ ts ty #[.map (some mm), .int .i64 k]).run P W = .ok (.tuple #[]) (World.lay W mm (.map (es.eraseIdxIfInBounds i) c)) := by
  unfold Builtin.delete_
  have hg := get_map (P := P) hW
  have hs := set_map (P := P) (.map (es.eraseIdxIfInBounds i) c) hW
  simp only [hts, List.getElem?_toArray, List.getElem?_cons_zero, List.getElem?_cons_succ, run_underlying ht, Sem.run_bind, Result.andThen_ok, hg, run_checkKey_int hk, run_findKey_int hk k es.toList h, hi, hs, Sem.run_pure]
  rfl
end Go.Proofs.Ythdnhfjodhjejaa.Ma
namespace Go.Proofs.Ythdnhfjodhjejaa.Ma
open Go.RowKit Go.Proofs.Ythdnhfjodhjejaa.PMe Go.Proofs.YthdnhfjodhjejaaW.PrintWords Go.Proofs.YthdnhfjodhjejaaW.PrintLast Go.Proofs.YthdnhfjodhjejaaW.PrintMore
set_option linter.unusedVariables false
set_option linter.unusedSimpArgs false

def encC (c : S66) : List Value := [.int .i64 c.f0, .int .u32 c.f1, .int .i64 c.f2, .int .i64 c.f3]
def rowC (cs : List S66) : Array Value := (cs.flatMap encC).toArray
/-- A living block: its number, where its struct and its bytes lie, its alignment, its bytes. -/
structure Rec where
  id : Int
  b : Nat
  g : Nat
  al : Int
  cs : List S66
  born : Nat
def Rec.ent (r : Rec) : MapEntry := { key := .int .i64 r.id, val := .pointer (some ⟨r.b, 0, none⟩), born := r.born }
def Rec.blk (r : Rec) : Obj := .cells #[.slice (some ⟨r.g, 0, none⟩) r.cs.length r.cs.length, .int .i64 r.al] 126 (0, 0)
def Rec.row (r : Rec) : Obj := .cells (rowC r.cs) 66 (0, 0)
/-- The blocks of the world that a memory has. -/
def foot (m mm : Nat) (L : List Rec) : List Nat := m :: mm :: L.flatMap fun r => [r.b, r.g]
structure PM (w : World) (m mm : Nat) (last : Int) (L : List Rec) : Prop where
  head : w.heap[m]? = some (.cells #[.bool true, .map (some mm), .int .i64 last] 88 (0, 0))
  map : ∃ clock, w.heap[mm]? = some (.map (L.map Rec.ent).toArray clock)
  blk : ∀ r ∈ L, w.heap[r.b]? = some r.blk
  row : ∀ r ∈ L, w.heap[r.g]? = some r.row
  nodup : (foot m mm L).Nodup
  ids : ∀ r ∈ L, 1 ≤ r.id ∧ r.id ≤ last
  idn : (L.map Rec.id).Nodup
  len : ∀ r ∈ L, 1 ≤ r.cs.length ∧ r.cs.length ≤ 16384
  al : ∀ r ∈ L, r.al = 1 ∨ r.al = 2 ∨ r.al = 4
  last0 : 0 ≤ last
  few : L.length ≤ 4096
variable {w w' : World} {m mm : Nat} {last : Int} {L : List Rec}
theorem PM.ext {F : Nat → Prop} (h : PM w m mm last L) (k : Ext F w w') (hF : ∀ i ∈ foot m mm L, ¬ F i) : PM w' m mm last L := by
  have hm : m ∈ foot m mm L := by simp [foot]
  have hmm : mm ∈ foot m mm L := by simp [foot]
  have hb : ∀ r ∈ L, r.b ∈ foot m mm L := fun r hr => by simp only [foot, List.mem_cons, List.mem_flatMap]; exact .inr (.inr ⟨r, hr, by simp⟩)
  have hg : ∀ r ∈ L, r.g ∈ foot m mm L := fun r hr => by simp only [foot, List.mem_cons, List.mem_flatMap]; exact .inr (.inr ⟨r, hr, by simp⟩)
  obtain ⟨c, hc⟩ := h.map
  exact ⟨k.at h.head (hF m hm), ⟨c, k.at hc (hF mm hmm)⟩, fun r hr => k.at (h.blk r hr) (hF _ (hb r hr)), fun r hr => k.at (h.row r hr) (hF _ (hg r hr)), h.nodup, h.ids, h.idn, h.len, h.al, h.last0, h.few⟩
theorem PM.below (h : PM w m mm last L) (k : Below w.heap.size w w') : PM w' m mm last L := h.ext (Ext.of_below (F := fun _ => False) k) (fun _ _ f => f)
theorem PM.drewN (h : PM w m mm last L) (n : Nat) : PM (w.drewN n) m mm last L := h.below (pw_below_drewN (Below.refl _ _) n)
theorem intKeys (L : List Rec) : IntKeys (L.map Rec.ent).toArray.toList := by
  intro e he
  simp only [List.mem_map] at he
  obtain ⟨r, _, rfl⟩ := he
  exact ⟨r.id, rfl⟩
/-- The living block of this number. -/
def findR (L : List Rec) (k : Int) : Option Rec := L.find? fun r => r.id == k
theorem look_find (L : List Rec) (k : Int) : ∀ i, (lookI (L.map Rec.ent) k i).map (·.2) = (findR L k).map fun r => Value.pointer (some ⟨r.b, 0, none⟩) := by
  induction L with
  | nil => intro i; rfl
  | cons r L ih =>
    intro i
    simp only [List.map_cons, lookI, findR, List.find?_cons]
    by_cases h : r.id = k
    · subst h; simp [Rec.ent, keyI]
    · have hb : (r.id == k) = false := beq_eq_false_iff_ne.mpr h
      have hk : ¬ keyI r.ent.key = some k := by simp [Rec.ent, keyI, h]
      rw [if_neg hk, hb]
      exact ih (i + 1)
theorem find_mem {L : List Rec} {k : Int} {r : Rec} (h : findR L k = some r) : r ∈ L ∧ r.id = k := ⟨List.mem_of_find?_eq_some h, by simpa using List.find?_some h⟩
theorem PM.lookup (h : PM w m mm last L) (k : Int) (n : Nat) : (Instr.lookup 86 (.map (some mm)) (.int .i64 k) false).run Try.prog (w.drewN n) = .ok (((findR L k).map fun r => Value.pointer (some ⟨r.b, 0, none⟩)).getD (.pointer none)) (w.drewN n) := by
  obtain ⟨c, hc⟩ := (h.drewN n).map
  rw [run_lookup_int Try.underlying86 Try.underlying3 (z := .pointer none) (fun w => by kernel_rfl) k mm _ c (intKeys L) _ hc, ← look_find L k 0]

/-- What 'New' did not give. -/
def Nobody (w : World) (v : Value) : Prop := v = .pointer none ∨ ∃ m, v = .pointer (some ⟨m, 0, none⟩) ∧ w.cell? ⟨m, 0, none⟩ = some (.bool false)
theorem Nobody.below {v : Value} (h : Nobody w v) (k : Below w.heap.size w w') : Nobody w' v := by
  rcases h with h | ⟨m, h1, h2⟩
  · exact .inl h
  · exact .inr ⟨m, h1, pw_cell_below k h2⟩
theorem PM.cells (h : PM w m mm last L) : w.cell? ⟨m, 0, none⟩ = some (.bool true) ∧ w.cell? ⟨m, 1, none⟩ = some (.map (some mm)) ∧ w.cell? ⟨m, 2, none⟩ = some (.int .i64 last) := by
  refine ⟨?_, ?_, ?_⟩ <;> (rw [cell_of_row _ _ _ _ _ _ h.head]; rfl)
set_option maxHeartbeats 4000000 in
theorem alive_yes (h : PM w m mm last L) : Calls Try.prog 41 #[.pointer (some ⟨m, 0, none⟩)] w fun e w' => e = .returned (.bool true) ∧ w = w' := by
  obtain ⟨c0, _, _⟩ := h.cells
  clear h
  go_enter Try.func41, Try.ntmps41
  go_wp2
  go_ret
  exact ⟨rfl, rfl⟩
set_option maxHeartbeats 4000000 in
theorem alive_no {v : Value} (h : Nobody w v) : Calls Try.prog 41 #[v] w fun e w' => e = .returned (.bool false) ∧ w = w' := by
  rcases h with rfl | ⟨m, rfl, c0⟩
  · go_enter Try.func41, Try.ntmps41
    go_wp2
    go_ret
    exact ⟨rfl, rfl⟩
  · go_enter Try.func41, Try.ntmps41
    go_wp2
    go_ret
    exact ⟨rfl, rfl⟩
end Go.Proofs.Ythdnhfjodhjejaa.Ma
namespace Go.Proofs.Ythdnhfjodhjejaa.Ma
open Go.RowKit Go.Proofs.Ythdnhfjodhjejaa.PMe Go.Proofs.YthdnhfjodhjejaaW.PrintWords Go.Proofs.YthdnhfjodhjejaaW.PrintLast Go.Proofs.YthdnhfjodhjejaaW.PrintMore
set_option linter.unusedVariables false
set_option linter.unusedSimpArgs false
variable {w w' : World} {m mm : Nat} {last : Int} {L : List Rec}

/-- A value: kind, number or offset, block. -/
structure V3 where
  k : Int
  v : Int
  b : Int
def V3.enc (x : V3) : Value := .agg #[.int .i64 x.k, .int .u32 x.v, .int .i64 x.b]
def ofR (L : List Rec) (x : V3) : Option Rec := if x.k = 2 then (findR L x.b).bind fun r => if x.v ≤ r.cs.length then some r else none else none
def ptrR : Option Rec → Value
  | some r => .pointer (some ⟨r.b, 0, none⟩)
  | none => .pointer none
theorem PM.rcells (h : PM w m mm last L) {r : Rec} (hr : r ∈ L) : w.cell? ⟨r.b, 0, none⟩ = some (.slice (some ⟨r.g, 0, none⟩) r.cs.length r.cs.length) ∧ w.cell? ⟨r.b, 1, none⟩ = some (.int .i64 r.al) := by
  refine ⟨?_, ?_⟩ <;> (rw [cell_of_row _ _ _ _ _ _ (h.blk r hr)]; rfl)
theorem quiet_alive (h : PM w m mm last L) : Calls Try.prog 41 #[.pointer (some ⟨m, 0, none⟩)] w fun e w' => e = .returned (.bool true) ∧ ∃ n, w' = w.drewN n :=
  (alive_yes h).mono fun e w' h => ⟨h.1, 0, h.2 ▸ rfl⟩

set_option maxHeartbeats 4000000 in
theorem of_kind (h : PM w m mm last L) (x : V3) (hk : x.k ≠ 2) : Calls Try.prog 40 #[.pointer (some ⟨m, 0, none⟩), x.enc] w fun e w' => e = .returned (.pointer none) ∧ Below w.heap.size w w' := by
  obtain ⟨k, v, b⟩ := x
  simp only at hk
  unfold V3.enc
  simp only
  have H := Aside0.mk h
  clear h
  go_enter Try.func40, Try.ntmps40
  go_wp2_with (first | (go_at_call 41; refine (alive_yes (PM.below H.out (by (repeat (first | (with_reducible exact Below.refl _ _) | (with_reducible assumption) | with_reducible apply below_alloc | with_reducible apply pw_below_drewN | with_reducible apply below_drew1))))).mono ?_; rintro e w' ⟨rfl, rfl⟩))
  go_wp2_with (fail)
  go_ret
  exact ⟨rfl, by (repeat (first | (with_reducible exact Below.refl _ _) | (with_reducible assumption) | with_reducible apply below_alloc | with_reducible apply pw_below_drewN | with_reducible apply below_drew1))⟩
set_option maxHeartbeats 4000000 in
theorem of_none (h : PM w m mm last L) (x : V3) (hk : findR L x.b = none) : Calls Try.prog 40 #[.pointer (some ⟨m, 0, none⟩), x.enc] w fun e w' => e = .returned (.pointer none) ∧ Below w.heap.size w w' := by
  by_cases hk2 : x.k ≠ 2
  · exact of_kind h x hk2
  obtain ⟨k, v, b⟩ := x
  simp only [ne_eq, Classical.not_not] at hk hk2
  subst hk2
  unfold V3.enc
  simp only
  have H := Aside0.mk h
  have HL := Aside0.mk hk
  clear h hk
  go_enter Try.func40, Try.ntmps40
  go_wp2_with (first | (go_at_call 41; refine (alive_yes (PM.below H.out (by (repeat (first | (with_reducible exact Below.refl _ _) | (with_reducible assumption) | with_reducible apply below_alloc | with_reducible apply pw_below_drewN | with_reducible apply below_drew1))))).mono ?_; rintro e w' ⟨rfl, rfl⟩))
  go_wp2_with (fail)
  have hW : PM (w.alloc (.cells #[.int .i64 2, .int .u32 v, .int .i64 b] 51)) m mm last L := PM.below H.out (by (repeat (first | (with_reducible exact Below.refl _ _) | (with_reducible assumption) | with_reducible apply below_alloc | with_reducible apply pw_below_drewN | with_reducible apply below_drew1)))
  have hl := fun n => hW.lookup b n
  simp only [HL.out] at hl
  obtain ⟨_, c1, _⟩ := hW.cells
  clear hW
  go_quiet (fail)
  go_wp2_with (fail)
  go_quiet (fail)
  go_wp2_with (fail)
  go_ret
  exact ⟨rfl, by (repeat (first | (with_reducible exact Below.refl _ _) | (with_reducible assumption) | with_reducible apply below_alloc | with_reducible apply pw_below_drewN | with_reducible apply below_drew1))⟩
/-- The walk with a living block: the answer is told by the test. -/
theorem look_some (h : PM w m mm last L) {r : Rec} {b : Int} (hf : findR L b = some r) (n : Nat) : (Instr.lookup 86 (.map (some mm)) (.int .i64 b) false).run Try.prog (w.drewN n) = .ok (.pointer (some ⟨r.b, 0, none⟩)) (w.drewN n) := by
  have := h.lookup b n
  rw [hf] at this
  exact this
theorem look_no (h : PM w m mm last L) {b : Int} (hf : findR L b = none) (n : Nat) : (Instr.lookup 86 (.map (some mm)) (.int .i64 b) false).run Try.prog (w.drewN n) = .ok (.pointer none) (w.drewN n) := by
  have := h.lookup b n
  rw [hf] at this
  exact this
set_option maxHeartbeats 4000000 in
theorem of_some (h : PM w m mm last L) (v b : Int) (h0 : 0 ≤ v) (h1 : v < 4294967296) {r : Rec} (hf : findR L b = some r) : Calls Try.prog 40 #[.pointer (some ⟨m, 0, none⟩), .agg #[.int .i64 2, .int .u32 v, .int .i64 b]] w fun e w' => e = .returned (ptrR (if v ≤ r.cs.length then some r else none)) ∧ Below w.heap.size w w' := by
  have H := Aside0.mk h
  have HL := Aside0.mk hf
  clear h hf
  go_enter Try.func40, Try.ntmps40
  go_wp2_with (first | (go_at_call 41; refine (alive_yes (PM.below H.out (by (repeat (first | (with_reducible exact Below.refl _ _) | (with_reducible assumption) | with_reducible apply below_alloc | with_reducible apply pw_below_drewN | with_reducible apply below_drew1))))).mono ?_; rintro e w' ⟨rfl, rfl⟩))
  go_wp2_with (fail)
  have hW : PM (w.alloc (.cells #[.int .i64 2, .int .u32 v, .int .i64 b] 51)) m mm last L := PM.below H.out (by (repeat (first | (with_reducible exact Below.refl _ _) | (with_reducible assumption) | with_reducible apply below_alloc | with_reducible apply pw_below_drewN | with_reducible apply below_drew1)))
  have hl := look_some hW HL.out
  obtain ⟨_, c1, _⟩ := hW.cells
  obtain ⟨d0, _⟩ := hW.rcells (find_mem HL.out).1
  have hlen := (H.out.len r (find_mem HL.out).1)
  clear hW
  go_quiet (fail)
  go_wp2_with (fail)
  by_cases hv : v ≤ r.cs.length
  · have ht : decide (v > (r.cs.length : Int)) = false := by simp; omega
    go_quiet (fail)
    go_wp2_with (fail)
    go_ret
    exact ⟨by first | rfl | (simp only [if_pos hv]; rfl) | (trace_state; fail), by (repeat (first | (with_reducible exact Below.refl _ _) | (with_reducible assumption) | with_reducible apply below_alloc | with_reducible apply pw_below_drewN | with_reducible apply below_drew1))⟩
  · have ht : decide (v > (r.cs.length : Int)) = true := by simp; omega
    go_quiet (fail)
    go_wp2_with (fail)
    go_ret
    exact ⟨by first | rfl | (simp only [if_neg hv]; rfl) | (trace_state; fail), by (repeat (first | (with_reducible exact Below.refl _ _) | (with_reducible assumption) | with_reducible apply below_alloc | with_reducible apply pw_below_drewN | with_reducible apply below_drew1))⟩
theorem of_calls (h : PM w m mm last L) (x : V3) (h0 : 0 ≤ x.v) (h1 : x.v < 4294967296) : Calls Try.prog 40 #[.pointer (some ⟨m, 0, none⟩), x.enc] w fun e w' => e = .returned (ptrR (ofR L x)) ∧ Below w.heap.size w w' := by
  by_cases hk : x.k = 2
  · cases hf : findR L x.b with
    | none => have := of_none h x hf; simpa [ofR, hf, hk, ptrR] using this
    | some r =>
      have := of_some h x.v x.b h0 h1 hf
      obtain ⟨k, v, b⟩ := x
      simp only at hk hf
      subst hk
      simpa [ofR, hf, V3.enc] using this
  · have := of_kind h x hk
    simpa [ofR, hk, ptrR] using this
end Go.Proofs.Ythdnhfjodhjejaa.Ma
namespace Go.Proofs.Ythdnhfjodhjejaa.Ma
open Go.RowKit Go.Proofs.Ythdnhfjodhjejaa.PMe Go.Proofs.YthdnhfjodhjejaaW.PrintWords Go.Proofs.YthdnhfjodhjejaaW.PrintLast Go.Proofs.YthdnhfjodhjejaaW.PrintMore
set_option linter.unusedVariables false
set_option linter.unusedSimpArgs false
variable {w w' : World} {m mm : Nat} {last : Int} {L : List Rec}

def atR (L : List Rec) (x : V3) (n wd : Int) : Option Rec := (ofR L x).bind fun r => if n ≤ r.cs.length - x.v ∧ x.v % wd = 0 ∧ wd ≤ r.al then some r else none
def sliceR (x : V3) (n : Int) : Option Rec → Value
  | some r => .slice (some ⟨r.g, x.v.toNat * 4, none⟩) n.toNat (r.cs.length - x.v.toNat)
  | none => .slice none 0 0
theorem pm_chain {W : World} (h : Below w.heap.size w W) (k : Below W.heap.size W w') : Below w.heap.size w w' := below_then h h.size k
theorem alloc_cell (w : World) (cs : Array Value) (t : TypeId) (z : Nat × Nat) (i : Nat) : (w.alloc (.cells cs t z)).cell? ⟨w.heap.size, i, none⟩ = cs[i]? := by
  rw [cell_of_row _ _ _ _ _ _ (heap_alloc_last w _)]
set_option maxHeartbeats 4000000 in
theorem at_none (h : PM w m mm last L) (x : V3) (n wd : Int) (h0 : 0 ≤ x.v) (h1 : x.v < 4294967296) (ho : ofR L x = none) : Calls Try.prog 52 #[.pointer (some ⟨m, 0, none⟩), x.enc, .int .i64 n, .int .i64 wd] w fun e w' => e = .returned (.slice none 0 0) ∧ Below w.heap.size w w' := by
  have H := Aside0.mk h
  have HO := Aside0.mk ho
  clear h ho
  obtain ⟨k, v, b⟩ := x
  unfold V3.enc
  simp only at h0 h1 ⊢
  go_enter Try.func52, Try.ntmps52
  go_wp2_with (fail)
  go_at_call 40
  refine (of_calls (PM.below H.out (by (repeat (first | (with_reducible exact Below.refl _ _) | (with_reducible assumption) | with_reducible apply below_alloc | with_reducible apply pw_below_drewN | with_reducible apply below_drew1)))) ⟨k, v, b⟩ h0 h1).mono ?_
  rintro e w' ⟨rfl, hB0⟩
  rw [HO.out]
  simp only [ptrR]
  have hB := pm_chain (w := w) (by (repeat (first | (with_reducible exact Below.refl _ _) | (with_reducible assumption) | with_reducible apply below_alloc | with_reducible apply pw_below_drewN | with_reducible apply below_drew1))) hB0
  clear hB0
  go_wp2_with (fail)
  go_quiet (fail)
  go_wp2_with (fail)
  go_ret
  exact ⟨rfl, by (repeat (first | (with_reducible exact Below.refl _ _) | (with_reducible assumption) | with_reducible apply below_alloc | with_reducible apply pw_below_drewN | with_reducible apply below_drew1))⟩
set_option maxHeartbeats 4000000 in
theorem at_some (h : PM w m mm last L) (x : V3) (n wd : Int) (h0 : 0 ≤ x.v) (h1 : x.v < 4294967296) (hw : wd = 1 ∨ wd = 2 ∨ wd = 4) (hn : 1 ≤ n) (hn2 : n < 9223372036854775808) {r : Rec} (ho : ofR L x = some r) (hr : r ∈ L) (hv : x.v ≤ r.cs.length) : Calls Try.prog 52 #[.pointer (some ⟨m, 0, none⟩), x.enc, .int .i64 n, .int .i64 wd] w fun e w' => e = .returned (sliceR x n (if n ≤ r.cs.length - x.v ∧ x.v % wd = 0 ∧ wd ≤ r.al then some r else none)) ∧ Below w.heap.size w w' := by
  have hlen := h.len r hr
  have hal := h.al r hr
  have H := Aside0.mk h
  have HO := Aside0.mk ho
  clear h ho
  obtain ⟨k, v, b⟩ := x
  unfold V3.enc
  simp only at h0 h1 hv ⊢
  generalize hR : sliceR ⟨k, v, b⟩ n (if n ≤ (r.cs.length : Int) - v ∧ v % wd = 0 ∧ wd ≤ r.al then some r else none) = R
  have HR := Aside0.mk hR
  clear hR
  go_enter Try.func52, Try.ntmps52
  go_wp2_with (fail)
  go_at_call 40
  refine (of_calls (PM.below H.out (by (repeat (first | (with_reducible exact Below.refl _ _) | (with_reducible assumption) | with_reducible apply below_alloc | with_reducible apply pw_below_drewN | with_reducible apply below_drew1)))) ⟨k, v, b⟩ h0 h1).mono ?_
  rintro e w' ⟨rfl, hB0⟩
  rw [HO.out]
  simp only [ptrR]
  have hp := pw_cell_below hB0 (alloc_cell w _ _ _ 1)
  have hB := pm_chain (w := w) (by (repeat (first | (with_reducible exact Below.refl _ _) | (with_reducible assumption) | with_reducible apply below_alloc | with_reducible apply pw_below_drewN | with_reducible apply below_drew1))) hB0
  clear hB0
  go_wp2_with (fail)
  obtain ⟨d0, d1⟩ := (H.out.below hB).rcells hr
  have e1 : IntKind.i64.wrap v = v := IntWalk.i64_in _ (by omega)
  have e2 : IntKind.i64.wrap ((r.cs.length : Int) - v) = (r.cs.length : Int) - v := IntWalk.i64_in _ (by omega)
  by_cases c1 : n ≤ r.cs.length - v
  · have f1 : decide (n > (r.cs.length : Int) - v) = false := by simp; omega
    by_cases c2 : v % wd = 0
    · have ht : v.tmod wd = 0 := by rw [Int.tmod_eq_emod_of_nonneg h0]; exact c2
      by_cases c3 : wd ≤ r.al
      · have f3 : decide (r.al < wd) = false := by simp; omega
        go_quiet (fail)
        go_wp2_with (fail)
        go_quiet (fail)
        go_wp2_with (fail)
        have hnn : (v + n).toNat - v.toNat = n.toNat := by omega
        rw [hnn]
        go_ret
        exact ⟨by rw [← HR.out, if_pos ⟨c1, c2, c3⟩]; rfl, by (repeat (first | (with_reducible exact Below.refl _ _) | (with_reducible assumption) | with_reducible apply below_alloc | with_reducible apply pw_below_drewN | with_reducible apply below_drew1))⟩
      · have f3 : decide (r.al < wd) = true := by simp; omega
        go_quiet (fail)
        go_wp2_with (fail)
        go_ret
        exact ⟨by rw [← HR.out, if_neg (fun h => absurd h.2.2 (by omega))]; rfl, by (repeat (first | (with_reducible exact Below.refl _ _) | (with_reducible assumption) | with_reducible apply below_alloc | with_reducible apply pw_below_drewN | with_reducible apply below_drew1))⟩
    · have ht : v.tmod wd = v % wd := by rw [Int.tmod_eq_emod_of_nonneg h0]
      obtain ⟨z, hz⟩ : ∃ z, z = v % wd := ⟨_, rfl⟩
      have hzb : 1 ≤ z ∧ z < 9223372036854775808 := by rw [hz]; rcases hw with rfl | rfl | rfl <;> omega
      rw [← hz] at ht
      clear hz
      have C2 := Aside0.mk c2
      clear c2
      obtain ⟨hz1, hz2⟩ := hzb
      have e3 : IntKind.i64.wrap z = z := IntWalk.i64_in _ (by omega)
      have hwd : wd ≠ 0 := by omega
      have f1' : decide ((r.cs.length : Int) - v < n) = false := by simp; omega
      have f2 : (z != 0) = true := by simp; omega
      go_quiet (fail)
      go_wp2_with (fail)
      go_ret
      exact ⟨by rw [← HR.out, if_neg (fun h => C2.out h.2.1)]; rfl, by (repeat (first | (with_reducible exact Below.refl _ _) | (with_reducible assumption) | with_reducible apply below_alloc | with_reducible apply pw_below_drewN | with_reducible apply below_drew1))⟩
  · have f1 : decide (n > (r.cs.length : Int) - v) = true := by simp; omega
    go_quiet (fail)
    go_wp2_with (fail)
    go_ret
    exact ⟨by rw [← HR.out, if_neg (fun h => absurd h.1 (by omega))]; rfl, by (repeat (first | (with_reducible exact Below.refl _ _) | (with_reducible assumption) | with_reducible apply below_alloc | with_reducible apply pw_below_drewN | with_reducible apply below_drew1))⟩
theorem of_mem {L : List Rec} {x : V3} {r : Rec} (h : ofR L x = some r) : r ∈ L ∧ r.id = x.b ∧ x.k = 2 ∧ x.v ≤ r.cs.length := by
  unfold ofR at h
  split at h
  · next hk =>
    obtain ⟨q, hq, h⟩ := Option.bind_eq_some_iff.mp h
    split at h
    · next hv => cases h; exact ⟨(find_mem hq).1, (find_mem hq).2, hk, hv⟩
    · cases h
  · cases h
theorem at_calls (h : PM w m mm last L) (x : V3) (n wd : Int) (h0 : 0 ≤ x.v) (h1 : x.v < 4294967296) (hw : wd = 1 ∨ wd = 2 ∨ wd = 4) (hn : 1 ≤ n) (hn2 : n < 9223372036854775808) : Calls Try.prog 52 #[.pointer (some ⟨m, 0, none⟩), x.enc, .int .i64 n, .int .i64 wd] w fun e w' => e = .returned (sliceR x n (atR L x n wd)) ∧ Below w.heap.size w w' := by
  unfold atR
  cases ho : ofR L x with
  | none => exact at_none h x n wd h0 h1 ho
  | some r => exact at_some h x n wd h0 h1 hw hn hn2 ho (of_mem ho).1 (of_mem ho).2.2.2
end Go.Proofs.Ythdnhfjodhjejaa.Ma
namespace Go.Proofs.Ythdnhfjodhjejaa.Ma
open Go.RowKit Go.Proofs.Ythdnhfjodhjejaa.PMe Go.Proofs.YthdnhfjodhjejaaW.PrintWords Go.Proofs.YthdnhfjodhjejaaW.PrintLast Go.Proofs.YthdnhfjodhjejaaW.PrintMore
set_option linter.unusedVariables false
set_option linter.unusedSimpArgs false
variable {w w' : World} {m mm : Nat} {last : Int} {L : List Rec}
theorem run_makeMap86 (w : World) : (Instr.makeMap 86 none).run Try.prog w = .ok (.map (some w.heap.size)) (w.alloc (.map #[] 0)) := by
  unfold Instr.makeMap
  simp
set_option maxHeartbeats 4000000 in
theorem New_calls : Calls Try.prog 22 #[] w fun e w' => ∃ m mm, e = .returned (.pointer (some ⟨m, 0, none⟩)) ∧ w.heap.size ≤ m ∧ w.heap.size ≤ mm ∧ PM w' m mm 0 [] ∧ Below w.heap.size w w' := by
  have hmk := run_makeMap86
  go_enter Try.func22, Try.ntmps22
  go_wp2_with (fail)
  go_ret
  refine ⟨w.heap.size + 1, w.heap.size, by simp, by omega, by omega, ?_, by (repeat (first | (with_reducible exact Below.refl _ _) | (with_reducible assumption) | with_reducible apply below_alloc | with_reducible apply pw_below_drewN | with_reducible apply below_drew1))⟩
  refine ⟨?_, ⟨0, ?_⟩, by simp, by simp, ?_, by simp, by simp, by simp, by simp, by omega, by simp⟩
  · have := heap_alloc_last (w.alloc (.map #[] 0)) (.cells #[.bool true, .map (some w.heap.size), .int .i64 0] 88 (0, 0))
    simpa using this
  · have h1 := heap_alloc_last w (.map #[] 0)
    have h2 : w.heap.size < (w.alloc (.map #[] 0)).heap.size := by simp
    rw [(Below.refl _ _ |> fun h => below_alloc h _).block _ h2]
    exact h1
  · simp [foot]
/-! The cells of a block's row. -/
theorem flat_get : ∀ (cs : List S66) (i j : Nat), j < 4 → (cs.flatMap encC)[i * 4 + j]? = (cs[i]?).bind fun c => (encC c)[j]?
  | [], i, j, h => by simp
  | c :: cs, 0, j, h => by
    rw [List.flatMap_cons, List.getElem?_append_left (by simp [encC]; omega)]
    simp
  | c :: cs, i + 1, j, h => by
    rw [List.flatMap_cons, List.getElem?_append_right (by simp [encC]; omega)]
    have : (i + 1) * 4 + j - (encC c).length = i * 4 + j := by simp [encC]; omega
    rw [this, flat_get cs i j h]
    simp
theorem row_size (cs : List S66) : (rowC cs).size = cs.length * 4 := by
  unfold rowC
  induction cs with
  | nil => rfl
  | cons c cs ih => simp [encC] at ih ⊢; omega
theorem row_get (cs : List S66) (i j : Nat) (h : j < 4) : (rowC cs)[i * 4 + j]? = (cs[i]?).bind fun c => (encC c)[j]? := by
  unfold rowC
  rw [List.getElem?_toArray, flat_get cs i j h]
def zC : S66 := ⟨0, 0, 0, 0⟩
theorem made_row (n : Nat) : madeCells #[.int .i64 0, .int .u32 0, .int .i64 0, .int .i64 0] (n * 4) = rowC (List.replicate n zC) := by
  apply Array.ext
  · rw [row_size]; simp [madeCells]
  · intro i h1 h2
    have hi : i / 4 < n := by simp [madeCells] at h1; omega
    have hg := row_get (List.replicate n zC) (i / 4) (i % 4) (by omega)
    rw [show i / 4 * 4 + i % 4 = i by omega, Array.getElem?_eq_getElem h2] at hg
    rw [List.getElem?_replicate, if_pos hi] at hg
    simp only [Option.bind_some] at hg
    simp only [madeCells, Array.getElem_map, Array.getElem_range]
    have hm : i % 4 = 0 ∨ i % 4 = 1 ∨ i % 4 = 2 ∨ i % 4 = 3 := by omega
    rcases hm with h | h | h | h <;> simp [h, encC, zC] at hg ⊢ <;> exact hg.symm
end Go.Proofs.Ythdnhfjodhjejaa.Ma
namespace Go.Proofs.Ythdnhfjodhjejaa.Ma
open Go.RowKit Go.Proofs.Ythdnhfjodhjejaa.PMe Go.Proofs.YthdnhfjodhjejaaW.PrintWords Go.Proofs.YthdnhfjodhjejaaW.PrintLast Go.Proofs.YthdnhfjodhjejaaW.PrintMore
set_option linter.unusedVariables false
set_option linter.unusedSimpArgs false
variable {w w' : World} {m mm : Nat} {last : Int} {L : List Rec}
theorem lt_of_at {w : World} {k : Nat} {o : Obj} (h : w.heap[k]? = some o) : k < w.heap.size := (Array.getElem?_eq_some_iff.1 h).1
theorem PM.foot_lt (h : PM w m mm last L) : ∀ i ∈ foot m mm L, i < w.heap.size := by
  intro i hi
  simp only [foot, List.mem_cons, List.mem_flatMap] at hi
  rcases hi with rfl | rfl | ⟨r, hr, hi⟩
  · exact lt_of_at h.head
  · obtain ⟨c, hc⟩ := h.map; exact lt_of_at hc
  · simp at hi
    rcases hi with rfl | rfl
    · exact lt_of_at (h.blk r hr)
    · exact lt_of_at (h.row r hr)
theorem PM.mm_ne (h : PM w m mm last L) : mm ≠ m := by
  have := h.nodup
  simp only [foot, List.nodup_cons, List.mem_cons, not_or] at this
  exact fun e => this.1.1 e.symm
theorem PM.rb_ne (h : PM w m mm last L) {r : Rec} (hr : r ∈ L) : r.b ≠ m ∧ r.b ≠ mm ∧ r.g ≠ m ∧ r.g ≠ mm := by
  have := h.nodup
  simp only [foot, List.nodup_cons, List.mem_cons, not_or, List.mem_flatMap, not_exists, not_and] at this
  obtain ⟨⟨_, h1⟩, h2, _⟩ := this
  have a := h1 r hr
  have b := h2 r hr
  simp at a b
  exact ⟨fun e => a.1 e.symm, fun e => b.1 e.symm, fun e => a.2 e.symm, fun e => b.2 e.symm⟩
theorem make_world (h : PM w m mm last L) {W0 W2 : World} (n a : Int) (h1 : 1 ≤ n) (h2 : n ≤ 16384) (ha : a = 1 ∨ a = 2 ∨ a = 4) (hf : L.length < 4096)
    (x0 : W0.heap[m]? = some (.cells #[.bool true, .map (some mm), .int .i64 (last + 1)] 88 (0, 0))) (xE : Ext (fun i => i = m) w W0)
    (hW2 : W2 = ((W0.alloc (.cells (rowC (List.replicate n.toNat zC)) 66)).alloc (.cells #[.slice (some ⟨W0.heap.size, 0, none⟩) n.toNat n.toNat, .int .i64 a] 126)).drew) :
    ∃ W3 r, (Instr.mapUpdate 86 (.map (some mm)) (.int .i64 (last + 1)) (.pointer (some ⟨W0.heap.size + 1, 0, none⟩))).run Try.prog W2 = .ok () W3 ∧
      PM W3 m mm (last + 1) (L ++ [r]) ∧ Ext (fun i => i = m ∨ i = mm) w W3 ∧ r.id = last + 1 ∧ r.al = a ∧ r.cs = List.replicate n.toNat zC ∧ w.heap.size ≤ r.b ∧ w.heap.size ≤ r.g := by
  obtain ⟨c, hc⟩ := h.map
  have hmm := h.mm_ne
  have hsz := xE.size
  have s2 : W2.heap.size = W0.heap.size + 2 := by subst hW2; simp [World.drew]
  have b2 : Below W0.heap.size W0 W2 := by subst hW2; (repeat (first | (with_reducible exact Below.refl _ _) | (with_reducible assumption) | with_reducible apply below_alloc | with_reducible apply pw_below_drewN | with_reducible apply below_drew1))
  have c0 : W0.heap[mm]? = some (.map (L.map Rec.ent).toArray c) := xE.at hc hmm
  have c2 : W2.heap[mm]? = some (.map (L.map Rec.ent).toArray c) := (b2.block _ (lt_of_at c0)).trans c0
  have m2 : W2.heap[m]? = some (.cells #[.bool true, .map (some mm), .int .i64 (last + 1)] 88 (0, 0)) := (b2.block _ (lt_of_at x0)).trans x0
  have g2 : W2.heap[W0.heap.size]? = some (.cells (rowC (List.replicate n.toNat zC)) 66) := by
    subst hW2
    show ((W0.alloc _).alloc _).heap[W0.heap.size]? = _
    rw [(below_alloc (Below.refl _ (W0.alloc (.cells (rowC (List.replicate n.toNat zC)) 66))) _).block _ (by simp)]
    exact heap_alloc_last W0 _
  have k2 : W2.heap[W0.heap.size + 1]? = some (.cells #[.slice (some ⟨W0.heap.size, 0, none⟩) n.toNat n.toNat, .int .i64 a] 126) := by
    subst hW2
    have := heap_alloc_last (W0.alloc (.cells (rowC (List.replicate n.toNat zC)) 66)) (.cells #[.slice (some ⟨W0.heap.size, 0, none⟩) n.toNat n.toNat, .int .i64 a] 126)
    simpa [World.drew] using this
  have hln : lookI (L.map Rec.ent).toArray.toList (last + 1) 0 = none := by
    apply lookI_none
    intro e he
    simp only [List.mem_map] at he
    obtain ⟨r, hr, rfl⟩ := he
    have := (h.ids r hr).2
    simp [Rec.ent, keyI]; omega
  let r : Rec := ⟨last + 1, W0.heap.size + 1, W0.heap.size, a, List.replicate n.toNat zC, c⟩
  have hlt := h.foot_lt
  refine ⟨_, r, run_mapUpdate_new Try.underlying86 Try.underlying3 (last + 1) (.pointer (some ⟨W0.heap.size + 1, 0, none⟩)) mm _ c (intKeys L) hln W2 c2, ?_, ?_, rfl, rfl, rfl, ?_, ?_⟩
  · have hmsz : m < w.heap.size := lt_of_at h.head
    have hmmsz : mm < w.heap.size := lt_of_at hc
    have keep : ∀ k o, k ≠ mm → W2.heap[k]? = some o → (World.lay W2 mm (.map ((L.map Rec.ent).toArray.push { key := .int .i64 (last + 1), val := .pointer (some ⟨W0.heap.size + 1, 0, none⟩), born := c }) (c + 1))).heap[k]? = some o := fun k o hk ho => (lay_other _ _ _ _ hk).trans ho
    have old : ∀ k o, k ≠ mm → k ≠ m → w.heap[k]? = some o → (World.lay W2 mm (.map ((L.map Rec.ent).toArray.push { key := .int .i64 (last + 1), val := .pointer (some ⟨W0.heap.size + 1, 0, none⟩), born := c }) (c + 1))).heap[k]? = some o := by
      intro k o hk hk' ho
      have h0 := xE.at ho hk'
      exact keep k o hk ((b2.block _ (lt_of_at h0)).trans h0)
    refine ⟨keep _ _ (Ne.symm hmm) m2, ⟨c + 1, ?_⟩, ?_, ?_, ?_, ?_, ?_, ?_, ?_, by have := h.last0; omega, by simp; omega⟩
    · rw [lay_at _ _ _ _ c2]; simp [Rec.ent, r]
    · intro q hq
      rcases List.mem_append.1 hq with hq | hq
      · have ne := h.rb_ne hq
        exact old _ _ ne.2.1 ne.1 (h.blk q hq)
      · obtain rfl : q = r := by simpa using hq
        refine keep _ _ (by simp [r]; omega) ?_
        simpa [Rec.blk, r] using k2
    · intro q hq
      rcases List.mem_append.1 hq with hq | hq
      · have ne := h.rb_ne hq
        exact old _ _ ne.2.2.2 ne.2.2.1 (h.row q hq)
      · obtain rfl : q = r := by simpa using hq
        refine keep _ _ (by simp [r]; omega) ?_
        simpa [Rec.row, r] using g2
    · have e : foot m mm (L ++ [r]) = foot m mm L ++ [r.b, r.g] := by simp [foot]
      rw [e, List.nodup_append]
      refine ⟨h.nodup, by simp [r], ?_⟩
      intro i hi j hj
      have := hlt i hi
      simp [r] at hj
      omega
    · intro q hq
      rcases List.mem_append.1 hq with hq | hq
      · have := h.ids q hq; omega
      · obtain rfl : q = r := by simpa using hq
        have := h.last0
        simp [r]; omega
    · rw [List.map_append, List.nodup_append]
      refine ⟨h.idn, by simp, ?_⟩
      intro i hi j hj
      simp only [List.mem_map] at hi
      obtain ⟨q, hq, rfl⟩ := hi
      have := (h.ids q hq).2
      simp [r] at hj
      omega
    · intro q hq
      rcases List.mem_append.1 hq with hq | hq
      · exact h.len q hq
      · obtain rfl : q = r := by simpa using hq
        simp [r]; omega
    · intro q hq
      rcases List.mem_append.1 hq with hq | hq
      · exact h.al q hq
      · obtain rfl : q = r := by simpa using hq
        exact ha
  · have e2 : Ext (fun i => i = m) w W2 := xE.then_below b2
    exact (e2.mono (fun i h => .inl h)).lay (.inl (.inr rfl)) _
  · show w.heap.size ≤ W0.heap.size + 1; omega
  · show w.heap.size ≤ W0.heap.size; omega
end Go.Proofs.Ythdnhfjodhjejaa.Ma
namespace Go.Proofs.Ythdnhfjodhjejaa.Ma
open Go.RowKit Go.Proofs.Ythdnhfjodhjejaa.PMe Go.Proofs.YthdnhfjodhjejaaW.PrintWords Go.Proofs.YthdnhfjodhjejaaW.PrintLast Go.Proofs.YthdnhfjodhjejaaW.PrintMore
set_option linter.unusedVariables false
set_option linter.unusedSimpArgs false
variable {w w' : World} {m mm : Nat} {last : Int} {L : List Rec}
def pow2 (n : Int) : Bool := n == 1 || n == 2 || n == 4
theorem power_calls (w : World) (n : Int) : Calls Try.prog 51 #[.int .i64 n] w fun e w' => e = .returned (.bool (pow2 n)) ∧ ∃ k, w' = w.drewN k := by
  have h : memory_power.f n = some (pow2 n) := by
    unfold memory_power.f pow2
    by_cases h1 : n = 1
    · simp [h1]
    · by_cases h2 : n = 2
      · simp [h2]
      · rw [if_neg h1, if_neg h2]; simp [h1, h2]
  refine (memory_power.calls n _ w h).mono ?_
  intro e w' h
  exact ⟨h.1, h.2.out⟩
set_option maxHeartbeats 4000000 in
set_option maxRecDepth 100000 in
theorem Make_arg (h : PM w m mm last L) (n a : Int) (hb : n < 1 ∨ 16384 < n ∨ pow2 a = false) : Calls Try.prog 48 #[.pointer (some ⟨m, 0, none⟩), .int .i64 n, .int .i64 a] w fun e w' => e = .returned (.tuple #[.int .i64 0, .int .i64 2]) ∧ Below w.heap.size w w' := by
  have H := Aside0.mk h
  clear h
  by_cases c1 : n < 1
  · go_enter Try.func48, Try.ntmps48
    go_wp2_with (first | (go_at_call 41; refine (alive_yes H.out).mono ?_; rintro e w' ⟨rfl, rfl⟩))
    go_ret2
    exact ⟨rfl, by (repeat (first | (with_reducible exact Below.refl _ _) | (with_reducible assumption) | with_reducible apply below_alloc | with_reducible apply pw_below_drewN | with_reducible apply below_drew1))⟩
  by_cases c2 : 16384 < n
  · go_enter Try.func48, Try.ntmps48
    go_wp2_with (first | (go_at_call 41; refine (alive_yes H.out).mono ?_; rintro e w' ⟨rfl, rfl⟩))
    go_ret2
    exact ⟨rfl, by (repeat (first | (with_reducible exact Below.refl _ _) | (with_reducible assumption) | with_reducible apply below_alloc | with_reducible apply pw_below_drewN | with_reducible apply below_drew1))⟩
  have c3 : pow2 a = false := by rcases hb with h | h | h <;> first | exact h | omega
  have C3 := Aside0.mk c3
  clear c3 hb
  go_enter Try.func48, Try.ntmps48
  go_wp2_with (first | (go_at_call 41; refine (alive_yes H.out).mono ?_; rintro e w' ⟨rfl, rfl⟩) | (go_at_call 51; refine (power_calls _ a).mono ?_; rintro e w' ⟨rfl, nk, rfl⟩; rw [C3.out]))
  go_ret2
  exact ⟨rfl, by (repeat (first | (with_reducible exact Below.refl _ _) | (with_reducible assumption) | with_reducible apply below_alloc | with_reducible apply pw_below_drewN | with_reducible apply below_drew1))⟩
theorem PM.maplen (h : PM w m mm last L) (k : Nat) : (Builtin.len_ #[86] 3 #[.map (some mm)]).run Try.prog (w.drewN k) = .ok (.int .i64 L.length) (w.drewN k) := by
  obtain ⟨c, hc⟩ := (h.drewN k).map
  have hg := get_map (P := Try.prog) hc
  have hl := h.few
  unfold Builtin.len_
  simp [hg, run_underlying Try.underlying86, Sem.run_bind]
  rfl
theorem PM.thawed (h : PM w m mm last L) (i : Nat) : w.frozen? ⟨m, i, none⟩ = false := by simp [World.frozen?, h.head]
set_option maxHeartbeats 4000000 in
set_option maxRecDepth 100000 in
theorem Make_full (h : PM w m mm last L) (n a : Int) (hb : ¬ (n < 1 ∨ 16384 < n ∨ pow2 a = false)) (hf : 4096 ≤ L.length) : Calls Try.prog 48 #[.pointer (some ⟨m, 0, none⟩), .int .i64 n, .int .i64 a] w fun e w' => e = .returned (.tuple #[.int .i64 0, .int .i64 32]) ∧ Below w.heap.size w w' := by
  have H := Aside0.mk h
  clear h
  have c3 : pow2 a = true := by cases h : pow2 a <;> simp [h] at hb ⊢
  have c1 : 1 ≤ n ∧ n ≤ 16384 := by omega
  obtain ⟨c11, c12⟩ := c1
  have C3 := Aside0.mk c3
  clear c3 hb
  obtain ⟨d0, d1, d2⟩ := H.out.cells
  have hl := H.out.maplen
  go_enter Try.func48, Try.ntmps48
  go_wp2_with (first | (go_at_call 41; refine (alive_yes H.out).mono ?_; rintro e w' ⟨rfl, rfl⟩) | (go_at_call 51; refine (power_calls _ a).mono ?_; rintro e w' ⟨rfl, nk, rfl⟩; rw [C3.out]))
  go_ret2
  exact ⟨rfl, by (repeat (first | (with_reducible exact Below.refl _ _) | (with_reducible assumption) | with_reducible apply below_alloc | with_reducible apply pw_below_drewN | with_reducible apply below_drew1))⟩
theorem info66' : ∃ i, Try.prog.info? 66 = some i ∧ i.zero = some (.agg #[.int .i64 0, .int .u32 0, .int .i64 0, .int .i64 0]) ∧ i.size = 4 ∧ i.bytes = 32 := by
  have h := info66
  cases hi : Try.prog.info? 66 with
  | none => rw [hi] at h; cases h
  | some i => rw [hi] at h; simp only [Option.map_some, Option.some.injEq, Prod.mk.injEq] at h; exact ⟨i, rfl, h⟩
theorem run_make60 (n : Int) (h1 : 1 ≤ n) (h2 : n ≤ 16384) (W : World) : (Instr.makeSlice 60 (.int .i64 n) (.int .i64 n)).run Try.prog W = .ok (.slice (some ⟨W.heap.size, 0, none⟩) n.toNat n.toNat) (W.alloc (.cells (rowC (List.replicate n.toNat zC)) 66)) := by
  obtain ⟨i, hi, hz, hs, hb⟩ := info66'
  rw [run_make W 60 66 i _ Try.underlying60 hi hz .i64 .i64 n n (by omega) (by omega) (by rw [hb]; omega) (by omega), hs]
  rw [show (Value.agg #[.int .i64 0, .int .u32 0, .int .i64 0, .int .i64 0]).cells = #[.int .i64 0, .int .u32 0, .int .i64 0, .int .i64 0] from rfl, made_row]
set_option maxHeartbeats 4000000 in
set_option maxRecDepth 100000 in
theorem Make_ok (h : PM w m mm last L) (n a : Int) (hb : ¬ (n < 1 ∨ 16384 < n ∨ pow2 a = false)) (hf : L.length < 4096) (hlast : last < 9223372036854775807) : Calls Try.prog 48 #[.pointer (some ⟨m, 0, none⟩), .int .i64 n, .int .i64 a] w fun e w' => ∃ r, e = .returned (.tuple #[.int .i64 (last + 1), .int .i64 0]) ∧ PM w' m mm (last + 1) (L ++ [r]) ∧ Ext (fun i => i = m ∨ i = mm) w w' ∧ r.id = last + 1 ∧ r.al = a ∧ r.cs = List.replicate n.toNat zC ∧ w.heap.size ≤ r.b ∧ w.heap.size ≤ r.g := by
  have H := Aside0.mk h
  have hl0 := h.last0
  clear h
  have c3 : pow2 a = true := by cases h : pow2 a <;> simp [h] at hb ⊢
  have c1 : 1 ≤ n ∧ n ≤ 16384 := by omega
  obtain ⟨c11, c12⟩ := c1
  have C3 := Aside0.mk c3
  clear c3 hb
  obtain ⟨d0, d1, d2⟩ := H.out.cells
  have hl := H.out.maplen
  have hmk := run_make60 n c11 c12
  have hfz := H.out.thawed 2
  go_enter Try.func48, Try.ntmps48
  go_wp2_with (first | (go_at_call 41; refine (alive_yes H.out).mono ?_; rintro e w' ⟨rfl, rfl⟩) | (go_at_call 51; refine (power_calls _ a).mono ?_; rintro e w' ⟨rfl, nk, rfl⟩; rw [C3.out]))
  have x0 : ((w.drewN nk).setCell ⟨m, 2, none⟩ (.int .i64 (last + 1))).heap[m]? = some (.cells #[.bool true, .map (some mm), .int .i64 (last + 1)] 88 (0, 0)) := by
    have hd : (w.drewN nk).heap[m]? = some (.cells #[.bool true, .map (some mm), .int .i64 last] 88 (0, 0)) := (H.out.drewN nk).head
    exact blk_set hd 2 _
  have xE : Ext (fun i => i = m) w ((w.drewN nk).setCell ⟨m, 2, none⟩ (.int .i64 (last + 1))) := by
    have x1 : Ext (fun i => i = m) w (w.drewN nk) := Ext.of_below (pw_below_drewN (Below.refl _ _) nk)
    exact Ext.setCell x1 (Or.inl rfl) _
  have X0 := Aside0.mk x0
  have XE := Aside0.mk xE
  have HF := Aside0.mk hf
  clear x0 xE hf hl hfz d0 d1 d2
  generalize (w.drewN nk).setCell ⟨m, 2, none⟩ (.int .i64 (last + 1)) = W0 at X0 XE ⊢
  have d1 : W0.cell? ⟨m, 1, none⟩ = some (.map (some mm)) := by rw [cell_of_row _ _ _ _ _ _ X0.out]; rfl
  have d2 : W0.cell? ⟨m, 2, none⟩ = some (.int .i64 (last + 1)) := by rw [cell_of_row _ _ _ _ _ _ X0.out]; rfl
  have ha : a = 1 ∨ a = 2 ∨ a = 4 := by
    have h := C3.out
    simp only [pow2, Bool.or_eq_true, beq_iff_eq] at h
    omega
  obtain ⟨W3, r, hmu, pm3, xE3, r1, r2, r3, r4, r5⟩ := make_world H.out n a c11 c12 ha HF.out X0.out XE.out rfl
  have PM3 := Aside0.mk pm3
  have XE3 := Aside0.mk xE3
  have R1 := Aside0.mk r1
  have R2 := Aside0.mk r2
  have R3 := Aside0.mk r3
  have R45 := Aside0.mk (And.intro r4 r5)
  obtain ⟨_, d3, d4⟩ := pm3.cells
  clear pm3 xE3 r1 r2 r3 r4 r5
  go_region_held3 (fun w' => w'.cell? ⟨m, 1, none⟩ = some (.map (some mm)) ∧ w'.cell? ⟨m, 2, none⟩ = some (.int .i64 (last + 1))) (first | with_reducible exact ⟨d3, d4⟩ | exact ⟨pw_cell_below (by (repeat (first | (with_reducible exact Below.refl _ _) | (with_reducible assumption) | with_reducible apply below_alloc | with_reducible apply pw_below_drewN | with_reducible apply below_drew1))) d1, pw_cell_below (by (repeat (first | (with_reducible exact Below.refl _ _) | (with_reducible assumption) | with_reducible apply below_alloc | with_reducible apply pw_below_drewN | with_reducible apply below_drew1))) d2⟩) (first | (trace_state; fail) | fail)
  go_wp2_with (fail)
  go_ret2
  exact ⟨r, rfl, PM3.out, XE3.out, R1.out, R2.out, R3.out, R45.out⟩
end Go.Proofs.Ythdnhfjodhjejaa.Ma
namespace Go.Proofs.Ythdnhfjodhjejaa.Ma
open Go.RowKit Go.Proofs.Ythdnhfjodhjejaa.PMe Go.Proofs.YthdnhfjodhjejaaW.PrintWords Go.Proofs.YthdnhfjodhjejaaW.PrintLast Go.Proofs.YthdnhfjodhjejaaW.PrintMore
set_option linter.unusedVariables false
set_option linter.unusedSimpArgs false
variable {w w' : World} {m mm : Nat} {last : Int} {L : List Rec}
def sub (cs : List S66) (i n : Nat) : List S66 := (cs.drop i).take n
theorem sub_len {cs : List S66} {i n : Nat} (h : i + n ≤ cs.length) : (sub cs i n).length = n := by simp [sub]; omega
theorem sub_get (cs : List S66) (i n j : Nat) (h : j < n) : (sub cs i n)[j]? = cs[i + j]? := by
  unfold sub
  rw [List.getElem?_take_of_lt h, List.getElem?_drop]
theorem row_cell {g : Nat} {cs : List S66} (hg : w.heap[g]? = some (.cells (rowC cs) 66 (0, 0))) (i j : Nat) (hj : j < 4) : w.cell? ⟨g, i * 4 + j, none⟩ = (cs[i]?).bind fun c => (encC c)[j]? := by
  rw [cell_of_row _ _ _ _ _ _ hg, row_get cs i j hj]
theorem row_C {g : Nat} {cs : List S66} (hg : w.heap[g]? = some (.cells (rowC cs) 66 (0, 0))) (hl : cs.length ≤ 16384) (i n : Nat) (h : i + n ≤ cs.length) : Kd.C k66 w (some ⟨g, i * 4, none⟩) n (sub cs i n) := by
  refine ⟨sub_len h, by omega, fun h0 => ⟨_, rfl, ?_⟩⟩
  intro j p hp
  have hj : j < n := by
    have := (List.getElem?_eq_some_iff.1 hp).1
    rw [sub_len h] at this
    exact this
  rw [sub_get _ _ _ _ hj] at hp
  refine ⟨encC p, rfl, k66_mk w p, ?_⟩
  intro q u hu
  have hq : q < 4 := (List.getElem?_eq_some_iff.1 hu).1
  have := row_cell hg (i + j) q hq
  rw [hp] at this
  simp only [Option.bind_some] at this
  have e : k66.sz = 4 := by rfl
  rw [e]
  simp only [Addr.add]
  rw [show i * 4 + (j * 4 + q) = (i + j) * 4 + q by omega]
  split
  · next h0 => rw [show (i + j) * 4 + q = i * 4 by omega, hu] at this; exact this
  · rw [this, hu]
end Go.Proofs.Ythdnhfjodhjejaa.Ma
