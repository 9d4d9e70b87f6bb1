/- Bytes of a block are written: what stands in the world. No condition beyond those each theorem names. And more of the kind: 7 texts in one. -/
import Derived.Test.YthdnhfjodhjejaaA2
import Derived.Test.YthdnhfjodhjejaaN1
import Derived.Test.YthdnhfjodhjejaaMm
import Derived.Laws.CopyOwn
import Derived.BigQuiet
import Derived.Deep.QuietTactic
namespace Go.Proofs.Ythdnhfjodhjejaa.Ma
open Go.RowKit Go.Proofs.Ythdnhfjodhjejaa.PMe Go.Proofs.YthdnhfjodhjejaaW.PrintWords Go.Proofs.YthdnhfjodhjejaaW.PrintLast Go.Proofs.YthdnhfjodhjejaaW.PrintMore
set_option linter.unusedVariables false
set_option linter.unusedSimpArgs false
variable {w w' : World} {m mm : Nat} {last : Int} {L : List Rec}
/-- The list l put into cs from i on. -/
def put (cs : List S66) (i : Nat) (l : List S66) : List S66 := cs.take i ++ l ++ cs.drop (i + l.length)
theorem put_len {cs : List S66} {i : Nat} {l : List S66} (h : i + l.length ≤ cs.length) : (put cs i l).length = cs.length := by
  simp [put]; omega
theorem put_get {cs : List S66} {i : Nat} {l : List S66} (h : i + l.length ≤ cs.length) (q : Nat) : (put cs i l)[q]? = if i ≤ q ∧ q < i + l.length then l[q - i]? else cs[q]? := by
  unfold put
  by_cases h1 : q < i
  · rw [if_neg (by omega), List.append_assoc, List.getElem?_append_left (by simp; omega), List.getElem?_take_of_lt h1]
  · by_cases h2 : q < i + l.length
    · rw [if_pos (by omega), List.getElem?_append_left (by simp; omega), List.getElem?_append_right (by simp; omega)]
      congr 1; simp; omega
    · rw [if_neg (by omega), List.getElem?_append_right (by simp; omega), List.getElem?_drop]
      congr 1; simp; omega
theorem put_nil (cs : List S66) (i : Nat) : put cs i [] = cs := by simp [put]
theorem put_step {cs : List S66} {i j : Nat} {l : List S66} {c : S66} (h : i + l.length ≤ cs.length) (hc : l[j]? = some c) : put cs i (l.take (j + 1)) = (put cs i (l.take j)).set (i + j) c := by
  have hj : j < l.length := (List.getElem?_eq_some_iff.1 hc).1
  apply List.ext_getElem?
  intro q
  have l1 : (l.take j).length = j := by simp; omega
  have l2 : (l.take (j + 1)).length = j + 1 := by simp; omega
  rw [put_get (by omega), List.getElem?_set, put_get (by omega), l1, l2]
  have hlen : (put cs i (l.take j)).length = cs.length := put_len (by omega)
  rw [hlen]
  by_cases h1 : i + j = q
  · subst h1
    rw [if_pos (by omega), if_pos rfl, if_pos (by omega), Nat.add_sub_cancel_left, List.getElem?_take_of_lt (by omega), hc]
  · rw [if_neg h1]
    by_cases h2 : i ≤ q ∧ q < i + (j + 1)
    · rw [if_pos h2, if_pos (by omega), List.getElem?_take_of_lt (by omega), List.getElem?_take_of_lt (by omega)]
    · rw [if_neg h2, if_neg (by omega)]
/-- A block's bytes are others. -/
def upd (L : List Rec) (id : Int) (cs : List S66) : List Rec := L.map fun q => if q.id = id then { q with cs := cs } else q
theorem upd_ids (L : List Rec) (id : Int) (cs : List S66) : (upd L id cs).map Rec.id = L.map Rec.id := by
  unfold upd
  rw [List.map_map]
  apply List.map_congr_left
  intro q _
  simp only [Function.comp]
  split <;> rfl
theorem upd_ents (L : List Rec) (id : Int) (cs : List S66) : (upd L id cs).map Rec.ent = L.map Rec.ent := by
  unfold upd
  rw [List.map_map]
  apply List.map_congr_left
  intro q _
  simp only [Function.comp]
  split <;> rfl
theorem upd_foot (L : List Rec) (id : Int) (cs : List S66) : foot m mm (upd L id cs) = foot m mm L := by
  unfold foot upd
  congr 2
  induction L with
  | nil => rfl
  | cons q L ih =>
    simp only [List.map_cons, List.flatMap_cons, ih]
    split <;> rfl
theorem upd_mem {L : List Rec} {id : Int} {cs : List S66} {q : Rec} (h : q ∈ upd L id cs) : ∃ p ∈ L, q = if p.id = id then { p with cs := cs } else p := by
  unfold upd at h
  obtain ⟨p, hp, rfl⟩ := List.mem_map.1 h
  exact ⟨p, hp, rfl⟩
theorem pairwise_one {α : Type} {f : α → Int} {L : List α} (h : (L.map f).Nodup) {p q : α} (hp : p ∈ L) (hq : q ∈ L) (e : f p = f q) : p = q := by
  induction L with
  | nil => cases hp
  | cons x L ih =>
    simp only [List.map_cons, List.nodup_cons, List.mem_map, not_exists, not_and] at h
    rcases List.mem_cons.1 hp with e1 | h1
    · rcases List.mem_cons.1 hq with e2 | h2
      · rw [e1, e2]
      · exact absurd (e1 ▸ e.symm) (h.1 q h2)
    · rcases List.mem_cons.1 hq with e2 | h2
      · exact absurd (e2 ▸ e) (h.1 p h1)
      · exact ih h.2 h1 h2
theorem flat_ne {α : Type} {f : α → List Nat} : ∀ {L : List α}, (L.flatMap f).Nodup → ∀ {p q : α}, p ∈ L → q ∈ L → p ≠ q → ∀ x ∈ f p, x ∉ f q
  | [], _, _, _, hp, _, _ => nomatch hp
  | y :: L, h, p, q, hp, hq, ne => by
    rw [List.flatMap_cons, List.nodup_append] at h
    intro x hx hx'
    rcases List.mem_cons.1 hp with e1 | h1
    · rcases List.mem_cons.1 hq with e2 | h2
      · exact ne (e1.trans e2.symm)
      · exact h.2.2 x (e1 ▸ hx) x (List.mem_flatMap.2 ⟨q, h2, hx'⟩) rfl
    · rcases List.mem_cons.1 hq with e2 | h2
      · exact h.2.2 x (e2 ▸ hx') x (List.mem_flatMap.2 ⟨p, h1, hx⟩) rfl
      · exact flat_ne h.2.1 h1 h2 ne x hx hx'
/-- One block of a memory is another's block or row alone if it is that block's. -/
theorem PM.apart (h : PM w m mm last L) {p q : Rec} (hp : p ∈ L) (hq : q ∈ L) (ne : p ≠ q) : p.g ≠ q.g ∧ p.b ≠ q.g ∧ p.g ≠ q.b ∧ p.b ≠ q.b := by
  have hn := h.nodup
  have hf : (L.flatMap fun r => [r.b, r.g]).Nodup := by
    simp only [foot, List.nodup_cons] at hn
    exact hn.2.2
  have a := flat_ne hf hp hq ne p.g (by simp)
  have b := flat_ne hf hp hq ne p.b (by simp)
  simp at a b
  exact ⟨a.2, b.2, a.1, b.1⟩
theorem PM.bg (h : PM w m mm last L) {p : Rec} (hp : p ∈ L) : p.b ≠ p.g := by
  intro e
  have h1 := h.blk p hp
  have h2 := h.row p hp
  rw [e, h2] at h1
  unfold Rec.blk Rec.row at h1
  have := Option.some.inj h1
  injection this with _ t
  cases t
theorem PM.upd (h : PM w m mm last L) {r : Rec} (hr : r ∈ L) {cs : List S66} (hl : cs.length = r.cs.length) (hx : Ext (fun i => i = r.g) w w') (hg : w'.heap[r.g]? = some (.cells (rowC cs) 66 (0, 0))) : PM w' m mm last (upd L r.id cs) := by
  have hne := h.rb_ne hr
  obtain ⟨c, hc⟩ := h.map
  have one : ∀ p ∈ L, p.id = r.id → p = r := fun p hp e => pairwise_one h.idn hp hr e
  refine ⟨hx.at h.head hne.2.2.1.symm, ⟨c, by rw [upd_ents]; exact hx.at hc hne.2.2.2.symm⟩, ?_, ?_, by rw [upd_foot]; exact h.nodup, ?_, by rw [upd_ids]; exact h.idn, ?_, ?_, h.last0, by unfold Ma.upd; rw [List.length_map]; exact h.few⟩
  · intro q hq
    obtain ⟨p, hp, rfl⟩ := upd_mem hq
    by_cases e : p.id = r.id
    · obtain rfl := one p hp e
      rw [if_pos rfl]
      have := hx.at (h.blk p hp) (h.bg hp)
      simpa [Rec.blk, hl] using this
    · rw [if_neg e]
      exact hx.at (h.blk p hp) (h.apart hp hr (fun e' => e (by rw [e']))).2.1
  · intro q hq
    obtain ⟨p, hp, rfl⟩ := upd_mem hq
    by_cases e : p.id = r.id
    · obtain rfl := one p hp e
      rw [if_pos rfl]
      exact hg
    · rw [if_neg e]
      exact hx.at (h.row p hp) (h.apart hp hr (fun e' => e (by rw [e']))).1
  · intro q hq
    obtain ⟨p, hp, rfl⟩ := upd_mem hq
    have := h.ids p hp
    split <;> exact this
  · intro q hq
    obtain ⟨p, hp, rfl⟩ := upd_mem hq
    have := h.len p hp
    split
    · next e => obtain rfl := one p hp e; simp only; omega
    · exact this
  · intro q hq
    obtain ⟨p, hp, rfl⟩ := upd_mem hq
    have := h.al p hp
    split <;> exact this
/-- The row with one byte set. -/
theorem row_put {W : World} {g : Nat} {cs : List S66} (hg : W.heap[g]? = some (.cells (rowC cs) 66 (0, 0))) (i : Nat) (hi : i < cs.length) (a b c d : Int) :
    ((((W.setCell ⟨g, i * 4, none⟩ (.int .i64 a)).setCell ⟨g, i * 4 + 1, none⟩ (.int .u32 b)).setCell ⟨g, i * 4 + 2, none⟩ (.int .i64 c)).setCell ⟨g, i * 4 + 3, none⟩ (.int .i64 d)).heap[g]? = some (.cells (rowC (cs.set i ⟨a, b, c, d⟩)) 66 (0, 0)) := by
  refine blk_put (blk_set (blk_set (blk_set hg _ _) _ _) _ _) _ _ ?_
  apply Array.ext_getElem?
  intro q
  have hq := row_get (cs.set i ⟨a, b, c, d⟩) (q / 4) (q % 4) (by omega)
  have hp := row_get cs (q / 4) (q % 4) (by omega)
  rw [show q / 4 * 4 + q % 4 = q by omega] at hq hp
  have hs := row_size cs
  rw [hq, List.getElem?_set]
  simp only [Array.getElem?_setIfInBounds, Array.size_setIfInBounds, hs, hp]
  by_cases e : i = q / 4
  · rw [if_pos e, if_pos hi]
    have hm : q % 4 = 0 ∨ q % 4 = 1 ∨ q % 4 = 2 ∨ q % 4 = 3 := by omega
    rcases hm with hm | hm | hm | hm
    · rw [if_neg (by omega), if_neg (by omega), if_neg (by omega), if_pos (by omega), if_pos (by omega), hm]; rfl
    · rw [if_neg (by omega), if_neg (by omega), if_pos (by omega), if_pos (by omega), hm]; rfl
    · rw [if_neg (by omega), if_pos (by omega), if_pos (by omega), hm]; rfl
    · rw [if_pos (by omega), if_pos (by omega), hm]; rfl
  · rw [if_neg e, if_neg (by omega), if_neg (by omega), if_neg (by omega), if_neg (by omega)]
theorem Ext.set4 {F : Nat → Prop} {W : World} {g : Nat} (h : Ext F w W) (hg : F g) (i : Nat) (a b c d : Value) :
    Ext F w ((((W.setCell ⟨g, i, none⟩ a).setCell ⟨g, i + 1, none⟩ b).setCell ⟨g, i + 2, none⟩ c).setCell ⟨g, i + 3, none⟩ d) :=
  (((h.setCell (.inl hg) a).setCell (.inl hg) b).setCell (.inl hg) c).setCell (.inl hg) d
/-- What the row's cells hold, and that they may be written. -/
theorem row_cells {W : World} {g : Nat} {cs : List S66} (hg : W.heap[g]? = some (.cells (rowC cs) 66 (0, 0))) (i : Nat) (hi : i < cs.length) :
    (∃ a b c d, W.cell? ⟨g, i * 4, none⟩ = some a ∧ W.cell? ⟨g, i * 4 + 1, none⟩ = some b ∧ W.cell? ⟨g, i * 4 + 2, none⟩ = some c ∧ W.cell? ⟨g, i * 4 + 3, none⟩ = some d) ∧
    W.frozen? ⟨g, i * 4, none⟩ = false ∧ W.frozen? ⟨g, i * 4 + 1, none⟩ = false ∧ W.frozen? ⟨g, i * 4 + 2, none⟩ = false ∧ W.frozen? ⟨g, i * 4 + 3, none⟩ = false := by
  refine ⟨?_, blk_frozen hg _, blk_frozen hg _, blk_frozen hg _, blk_frozen hg _⟩
  obtain ⟨c, hc⟩ : ∃ c, cs[i]? = some c := ⟨_, List.getElem?_eq_getElem hi⟩
  refine ⟨.int .i64 c.f0, .int .u32 c.f1, .int .i64 c.f2, .int .i64 c.f3, ?_, ?_, ?_, ?_⟩
  · have := row_cell hg i 0 (by omega); rw [hc] at this; exact this
  · have := row_cell hg i 1 (by omega); rw [hc] at this; exact this
  · have := row_cell hg i 2 (by omega); rw [hc] at this; exact this
  · have := row_cell hg i 3 (by omega); rw [hc] at this; exact this
/-- What an action does to a memory and the world. -/
structure Did (w w' : World) (m mm : Nat) (L : List Rec) (last' : Int) (L' : List Rec) : Prop where
  pm : PM w' m mm last' L'
  ext : Ext (fun i => i ∈ foot m mm L) w w'
  new : ∀ i ∈ foot m mm L', i ∈ foot m mm L ∨ w.heap.size ≤ i
theorem Did.same (h : PM w m mm last L) (k : Below w.heap.size w w') : Did w w' m mm L last L := ⟨h.below k, Ext.of_below k, fun _ h => .inl h⟩
theorem Did.pre {W : World} {L' : List Rec} {last' : Int} (k : Below w.heap.size w W) (d : Did W w' m mm L last' L') : Did w w' m mm L last' L' :=
  ⟨d.pm, (Ext.of_below (F := fun i => i ∈ foot m mm L) k).trans d.ext (fun _ _ h => h), fun i hi => (d.new i hi).imp id (fun h => Nat.le_trans k.size h)⟩
theorem Did.upd (h : PM w m mm last L) {r : Rec} (hr : r ∈ L) {cs : List S66} (hl : cs.length = r.cs.length) (hx : Ext (fun i => i = r.g) w w') (hg : w'.heap[r.g]? = some (.cells (rowC cs) 66 (0, 0))) : Did w w' m mm L last (upd L r.id cs) :=
  ⟨h.upd hr hl hx hg, hx.mono (fun i e => by subst e; simp only [foot, List.mem_cons, List.mem_flatMap]; exact .inr (.inr ⟨r, hr, by simp⟩)), fun i hi => .inl (by rw [upd_foot] at hi; exact hi)⟩
end Go.Proofs.Ythdnhfjodhjejaa.Ma
namespace Go.Proofs.Ythdnhfjodhjejaa.Ma
open Go.RowKit Go.Proofs.Ythdnhfjodhjejaa.PMe Go.Proofs.YthdnhfjodhjejaaW.PrintWords Go.Proofs.YthdnhfjodhjejaaW.PrintLast Go.Proofs.YthdnhfjodhjejaaW.PrintMore
set_option linter.unusedVariables false
set_option linter.unusedSimpArgs false
variable {w w' : World} {m mm : Nat} {last : Int} {L : List Rec}
/-- What Truth answers. -/
def truthF (L : List Rec) (x : V3) : Bool × Int := if x.k = 1 then (x.v != 0, 0) else if (ofR L x).isSome then (true, 0) else (false, 3)
set_option maxHeartbeats 4000000 in
set_option maxRecDepth 100000 in
theorem Truth_calls (h : PM w m mm last L) (x : V3) (h0 : 0 ≤ x.v) (h1 : x.v < 4294967296) : Calls Try.prog 26 #[.pointer (some ⟨m, 0, none⟩), x.enc] w fun e w' => e = .returned (.tuple #[.bool (truthF L x).1, .int .i64 (truthF L x).2]) ∧ Below w.heap.size w w' := by
  have H := Aside0.mk h
  clear h
  obtain ⟨k, v, b⟩ := x
  generalize hA : truthF L ⟨k, v, b⟩ = A
  obtain ⟨A1, A2⟩ := A
  have HA := Aside0.mk hA
  clear hA
  have hu51 := Try.underlying51
  unfold V3.enc
  simp only at h0 h1 ⊢
  by_cases c1 : k = 1
  · have k1 : (k == 1) = true := beq_iff_eq.mpr c1
    have C1 := Aside0.mk c1
    clear c1
    go_enter Try.func26, Try.ntmps26
    go_wp2_with (first | (go_at_call 41; refine (alive_yes (PM.below H.out (by (repeat (first | (with_reducible exact Below.refl _ _) | (with_reducible assumption) | with_reducible apply below_alloc | with_reducible apply pw_below_drewN | with_reducible apply below_drew1))))).mono ?_; rintro e w' ⟨rfl, rfl⟩))
    go_ret2
    have ha := HA.out
    unfold truthF at ha
    rw [if_pos C1.out] at ha
    cases ha
    exact ⟨rfl, by (repeat (first | (with_reducible exact Below.refl _ _) | (with_reducible assumption) | with_reducible apply below_alloc | with_reducible apply pw_below_drewN | with_reducible apply below_drew1))⟩
  · have k1 : (k == 1) = false := beq_eq_false_iff_ne.mpr c1
    have C1 := Aside0.mk c1
    clear c1
    cases ho : ofR L ⟨k, v, b⟩ with
    | none =>
      have HO := Aside0.mk ho
      clear ho
      go_enter Try.func26, Try.ntmps26
      go_wp2_with (first | (go_at_call 41; refine (alive_yes (PM.below H.out (by (repeat (first | (with_reducible exact Below.refl _ _) | (with_reducible assumption) | with_reducible apply below_alloc | with_reducible apply pw_below_drewN | with_reducible apply below_drew1))))).mono ?_; rintro e w' ⟨rfl, rfl⟩) | (go_at_call 40; refine (of_calls (PM.below H.out (by (repeat (first | (with_reducible exact Below.refl _ _) | (with_reducible assumption) | with_reducible apply below_alloc | with_reducible apply pw_below_drewN | with_reducible apply below_drew1)))) ⟨k, v, b⟩ h0 h1).mono ?_; rintro e W1 ⟨rfl, hB0⟩; rw [HO.out]; simp only [ptrR]; have hB := pm_chain (w := w) (by (repeat (first | (with_reducible exact Below.refl _ _) | (with_reducible assumption) | with_reducible apply below_alloc | with_reducible apply pw_below_drewN | with_reducible apply below_drew1))) hB0; clear hB0))
      go_ret2
      have ha := HA.out
      unfold truthF at ha
      rw [if_neg C1.out, HO.out] at ha
      cases ha
      exact ⟨rfl, by (repeat (first | (with_reducible exact Below.refl _ _) | (with_reducible assumption) | with_reducible apply below_alloc | with_reducible apply pw_below_drewN | with_reducible apply below_drew1))⟩
    | some r =>
      have HO := Aside0.mk ho
      clear ho
      go_enter Try.func26, Try.ntmps26
      go_wp2_with (first | (go_at_call 41; refine (alive_yes (PM.below H.out (by (repeat (first | (with_reducible exact Below.refl _ _) | (with_reducible assumption) | with_reducible apply below_alloc | with_reducible apply pw_below_drewN | with_reducible apply below_drew1))))).mono ?_; rintro e w' ⟨rfl, rfl⟩) | (go_at_call 40; refine (of_calls (PM.below H.out (by (repeat (first | (with_reducible exact Below.refl _ _) | (with_reducible assumption) | with_reducible apply below_alloc | with_reducible apply pw_below_drewN | with_reducible apply below_drew1)))) ⟨k, v, b⟩ h0 h1).mono ?_; rintro e W1 ⟨rfl, hB0⟩; rw [HO.out]; simp only [ptrR]; have hB := pm_chain (w := w) (by (repeat (first | (with_reducible exact Below.refl _ _) | (with_reducible assumption) | with_reducible apply below_alloc | with_reducible apply pw_below_drewN | with_reducible apply below_drew1))) hB0; clear hB0))
      go_ret2
      have ha := HA.out
      unfold truthF at ha
      rw [if_neg C1.out, HO.out] at ha
      cases ha
      exact ⟨rfl, by (repeat (first | (with_reducible exact Below.refl _ _) | (with_reducible assumption) | with_reducible apply below_alloc | with_reducible apply pw_below_drewN | with_reducible apply below_drew1))⟩
/-- The blocks but one. -/
def dropR (L : List Rec) (k : Int) : List Rec := L.filter fun r => r.id != k
theorem drop_none {L : List Rec} {k : Int} (h : ∀ r ∈ L, r.id ≠ k) : dropR L k = L := List.filter_eq_self.2 fun r hr => by simp [h r hr]
theorem look_drop {k : Int} : ∀ {L : List Rec} {j i : Nat} {v : Value}, (L.map Rec.id).Nodup → lookI (L.map Rec.ent) k j = some (i, v) → j ≤ i ∧ (L.map Rec.ent).eraseIdx (i - j) = (dropR L k).map Rec.ent
  | [], _, _, _, _, h => by cases h
  | r :: L, j, i, v, hn, h => by
    simp only [List.map_cons, List.nodup_cons, List.mem_map, not_exists, not_and] at hn
    simp only [List.map_cons, lookI] at h
    by_cases e : r.id = k
    · rw [if_pos (by simp [Rec.ent, keyI, e])] at h
      have h' := Option.some.inj h
      simp only [Prod.mk.injEq] at h'
      obtain ⟨rfl, _⟩ := h'
      refine ⟨Nat.le_refl _, ?_⟩
      have hd : dropR L k = L := drop_none fun q hq e' => hn.1 q hq (e'.trans e.symm)
      have : dropR (r :: L) k = L := by rw [← hd]; unfold dropR; rw [List.filter_cons, if_neg (by simp [e])]; rw [List.filter_filter]; simp
      rw [this, Nat.sub_self]
      rfl
    · rw [if_neg (by simp [Rec.ent, keyI, e])] at h
      have ih := look_drop hn.2 h
      refine ⟨by omega, ?_⟩
      have hd : dropR (r :: L) k = r :: dropR L k := by unfold dropR; rw [List.filter_cons, if_pos (by simp [e])]
      rw [hd, List.map_cons, List.map_cons, show i - j = (i - (j + 1)) + 1 by omega, List.eraseIdx_cons_succ, ih.2]
theorem look_none_of {L : List Rec} {k : Int} (h : findR L k = none) (i : Nat) : lookI (L.map Rec.ent) k i = none := by
  have := look_find L k i
  rw [h] at this
  simpa using this
theorem look_some_of {L : List Rec} {k : Int} {r : Rec} (h : findR L k = some r) : ∃ j, lookI (L.map Rec.ent) k 0 = some (j, .pointer (some ⟨r.b, 0, none⟩)) := by
  have := look_find L k 0
  rw [h] at this
  simp only [Option.map_some, Option.map_eq_some_iff] at this
  obtain ⟨⟨j, v⟩, h1, h2⟩ := this
  exact ⟨j, by rw [h1]; simp only at h2; rw [h2]⟩
theorem foot_drop (L : List Rec) (k : Int) : ∀ i ∈ foot m mm (dropR L k), i ∈ foot m mm L := by
  intro i hi
  simp only [foot, List.mem_cons, List.mem_flatMap] at hi ⊢
  rcases hi with h | h | ⟨r, hr, h⟩
  · exact .inl h
  · exact .inr (.inl h)
  · exact .inr (.inr ⟨r, (List.mem_filter.1 hr).1, h⟩)
theorem sub_foot {L : List Rec} {k : Int} : List.Sublist (foot m mm (dropR L k)) (foot m mm L) := by
  unfold foot
  refine (List.Sublist.cons_cons _ (List.Sublist.cons_cons _ ?_))
  induction L with
  | nil => exact List.Sublist.refl _
  | cons q L ih =>
    unfold dropR at ih ⊢
    rw [List.filter_cons]
    split
    · simp only [List.flatMap_cons]; exact (List.Sublist.refl _).append ih
    · simp only [List.flatMap_cons]; exact ih.trans (List.sublist_append_right _ _)
theorem PM.end (h : PM w m mm last L) {k : Int} {r : Rec} (hr : findR L k = some r) :
    ∃ W, (Builtin.delete_ #[86, 3] 0 #[.map (some mm), .int .i64 k]).run Try.prog w = .ok (.tuple #[]) W ∧ Did w W m mm L last (dropR L k) := by
  obtain ⟨c, hc⟩ := h.map
  obtain ⟨j, hj⟩ := look_some_of hr
  refine ⟨_, run_delete_int Try.underlying86 Try.underlying3 k mm _ c (intKeys L) j _ hj w hc _ rfl, ?_⟩
  have hd := (look_drop h.idn hj).2
  have hx : Ext (fun i => i = mm) w (World.lay w mm (.map ((L.map Rec.ent).toArray.eraseIdxIfInBounds j) c)) := (Ext.refl (fun i => i = mm) w).lay (.inl rfl) _
  have mem : ∀ q ∈ dropR L k, q ∈ L := fun q hq => (List.mem_filter.1 hq).1
  refine ⟨⟨hx.at h.head h.mm_ne.symm, ⟨c, ?_⟩, fun q hq => hx.at (h.blk q (mem q hq)) (h.rb_ne (mem q hq)).2.1, fun q hq => hx.at (h.row q (mem q hq)) (h.rb_ne (mem q hq)).2.2.2, h.nodup.sublist sub_foot, fun q hq => h.ids q (mem q hq), h.idn.sublist (List.Sublist.map _ List.filter_sublist), fun q hq => h.len q (mem q hq), fun q hq => h.al q (mem q hq), h.last0, Nat.le_trans (List.length_filter_le _ _) h.few⟩, hx.mono (fun i e => by subst e; simp [foot]), fun i hi => .inl (foot_drop L k i hi)⟩
  rw [lay_at _ _ _ _ hc]
  congr 2
  apply Array.ext'
  simpa using hd
theorem look_some0 (h : PM w m mm last L) {r : Rec} {b : Int} (hf : findR L b = some r) : (Instr.lookup 86 (.map (some mm)) (.int .i64 b) false).run Try.prog w = .ok (.pointer (some ⟨r.b, 0, none⟩)) w := by
  obtain ⟨c, hc⟩ := h.map
  rw [run_lookup_int Try.underlying86 Try.underlying3 (z := .pointer none) (fun w => by kernel_rfl) b mm _ c (intKeys L) _ hc, look_find L b 0, hf]
  rfl
theorem look_no0 (h : PM w m mm last L) {b : Int} (hf : findR L b = none) : (Instr.lookup 86 (.map (some mm)) (.int .i64 b) false).run Try.prog w = .ok (.pointer none) w := by
  obtain ⟨c, hc⟩ := h.map
  rw [run_lookup_int Try.underlying86 Try.underlying3 (z := .pointer none) (fun w => by kernel_rfl) b mm _ c (intKeys L) _ hc, look_find L b 0, hf]
  rfl
/-- What End answers, and the blocks behind it. -/
def endF (L : List Rec) (k : Int) : Int × List Rec := if (findR L k).isSome then (0, dropR L k) else (2, L)
set_option maxHeartbeats 4000000 in
set_option maxRecDepth 100000 in
theorem End_calls (h : PM w m mm last L) (k : Int) : Calls Try.prog 54 #[.pointer (some ⟨m, 0, none⟩), .int .i64 k] w fun e w' => e = .returned (.int .i64 (endF L k).1) ∧ Did w w' m mm L last (endF L k).2 := by
  generalize hA : endF L k = A
  obtain ⟨A1, A2⟩ := A
  obtain ⟨_, c1, _⟩ := h.cells
  cases hf : findR L k with
  | none =>
    have hl := look_no0 h hf
    have HF := Aside0.mk hf
    have H := Aside0.mk h
    have HA := Aside0.mk hA
    clear hf h hA
    go_enter Try.func54, Try.ntmps54
    go_wp2_with (first | (go_at_call 41; refine (alive_yes (PM.below H.out (by (repeat (first | (with_reducible exact Below.refl _ _) | (with_reducible assumption) | with_reducible apply below_alloc | with_reducible apply pw_below_drewN | with_reducible apply below_drew1))))).mono ?_; rintro e w' ⟨rfl, rfl⟩))
    go_ret
    have ha := HA.out
    unfold endF at ha
    rw [HF.out] at ha
    cases ha
    exact ⟨rfl, Did.same H.out (by (repeat (first | (with_reducible exact Below.refl _ _) | (with_reducible assumption) | with_reducible apply below_alloc | with_reducible apply pw_below_drewN | with_reducible apply below_drew1)))⟩
  | some r =>
    have hl := look_some0 h hf
    obtain ⟨W, hd, dd⟩ := h.end hf
    have DD := Aside0.mk dd
    have HF := Aside0.mk hf
    have H := Aside0.mk h
    have HA := Aside0.mk hA
    clear hf h hA dd
    go_enter Try.func54, Try.ntmps54
    go_wp2_with (first | (go_at_call 41; refine (alive_yes (PM.below H.out (by (repeat (first | (with_reducible exact Below.refl _ _) | (with_reducible assumption) | with_reducible apply below_alloc | with_reducible apply pw_below_drewN | with_reducible apply below_drew1))))).mono ?_; rintro e w' ⟨rfl, rfl⟩))
    go_ret
    have ha := HA.out
    unfold endF at ha
    rw [HF.out] at ha
    cases ha
    exact ⟨rfl, DD.out⟩
end Go.Proofs.Ythdnhfjodhjejaa.Ma
namespace Go.Proofs.Ythdnhfjodhjejaa.Ma
open Go.RowKit Go.Proofs.Ythdnhfjodhjejaa.PMe Go.Proofs.YthdnhfjodhjejaaW.PrintWords Go.Proofs.YthdnhfjodhjejaaW.PrintLast Go.Proofs.YthdnhfjodhjejaaW.PrintMore
set_option linter.unusedVariables false
set_option linter.unusedSimpArgs false
variable {w w' : World} {m mm : Nat} {last : Int} {L : List Rec}
def numC : S66 := ⟨1, 0, 0, 0⟩
/-- What Zero answers, and the blocks behind it. -/
def zeroF (L : List Rec) (x : V3) (n : Int) : Int × List Rec :=
  if n < 1 then (3, L) else match atR L x n 1 with
    | none => (3, L)
    | some r => (0, upd L r.id (put r.cs x.v.toNat (List.replicate n.toNat numC)))
set_option maxHeartbeats 4000000 in
set_option maxRecDepth 100000 in
theorem Zero_calls (h : PM w m mm last L) (x : V3) (n : Int) (h0 : 0 ≤ x.v) (h1 : x.v < 4294967296) (hn2 : n < 9223372036854775808) : Calls Try.prog 59 #[.pointer (some ⟨m, 0, none⟩), x.enc, .int .i64 n] w fun e w' => e = .returned (.int .i64 (zeroF L x n).1) ∧ Did w w' m mm L last (zeroF L x n).2 := by
  generalize hA : zeroF L x n = A
  obtain ⟨A1, A2⟩ := A
  have HA := Aside0.mk hA
  have H := Aside0.mk h
  clear hA h
  have hu51 := Try.underlying51
  have hu60 := run_eqnil
  have hu61 := run_eqsome
  obtain ⟨k, v, b⟩ := x
  unfold V3.enc
  simp only at h0 h1 ⊢
  by_cases c1 : n < 1
  · go_enter Try.func59, Try.ntmps59
    go_wp2_with (fail)
    go_ret
    have ha := HA.out
    unfold zeroF at ha
    rw [if_pos c1] at ha
    cases ha
    exact ⟨rfl, Did.same H.out (by (repeat (first | (with_reducible exact Below.refl _ _) | (with_reducible assumption) | with_reducible apply below_alloc | with_reducible apply pw_below_drewN | with_reducible apply below_drew1)))⟩
  · have c2 : 1 ≤ n := by omega
    have C1 := Aside0.mk c1
    clear c1
    have hc := at_calls (w := w.alloc (.cells #[.int .i64 k, .int .u32 v, .int .i64 b] 51)) (PM.below H.out (by (repeat (first | (with_reducible exact Below.refl _ _) | (with_reducible assumption) | with_reducible apply below_alloc | with_reducible apply pw_below_drewN | with_reducible apply below_drew1)))) ⟨k, v, b⟩ n 1 h0 h1 (.inl rfl) c2 hn2
    have HC := Aside0.mk hc
    clear hc
    cases ha : atR L ⟨k, v, b⟩ n 1 with
    | none =>
      rw [ha] at HC
      simp only [sliceR] at HC
      have HA1 := Aside0.mk ha
      clear ha
      go_enter Try.func59, Try.ntmps59
      go_wp2_with (first | (go_at_call 52; refine HC.out.mono ?_; rintro e W1 ⟨rfl, hB0⟩; have hB := pm_chain (w := w) (by (repeat (first | (with_reducible exact Below.refl _ _) | (with_reducible assumption) | with_reducible apply below_alloc | with_reducible apply pw_below_drewN | with_reducible apply below_drew1))) hB0; clear hB0))
      go_ret
      have ha := HA.out
      unfold zeroF at ha
      rw [if_neg (by have := C1.out; omega), HA1.out] at ha
      cases ha
      exact ⟨rfl, Did.same H.out (by (repeat (first | (with_reducible exact Below.refl _ _) | (with_reducible assumption) | with_reducible apply below_alloc | with_reducible apply pw_below_drewN | with_reducible apply below_drew1)))⟩
    | some r =>
      rw [ha] at HC
      simp only [sliceR] at HC
      have hat := atR_some ha
      have hr := (of_mem hat.1).1
      have hl := H.out.len r hr
      have HA1 := Aside0.mk ha
      have HAT := Aside0.mk hat.2.1
      have HR := Aside0.mk hr
      have HL := Aside0.mk hl
      clear ha hat hr hl
      obtain ⟨N, rfl⟩ : ∃ N : Nat, n = N := ⟨n.toNat, by omega⟩
      obtain ⟨V, rfl⟩ : ∃ V : Nat, v = V := ⟨v.toNat, by omega⟩
      simp only [Int.toNat_natCast] at HC
      have hN : N ≤ 16384 := by have := HL.out; have := HAT.out; simp only at this; omega
      have hV : V ≤ 16384 := by have := HL.out; have := HAT.out; simp only at this; omega
      have hNV : V + N ≤ r.cs.length := by have := HL.out; have := HAT.out; simp only at this; omega
      have hN1 : decide ((N : Int) < 1) = false := by simp; omega
      have hC2 := Aside0.mk c2
      clear hn2 h0 h1 c2
      go_enter Try.func59, Try.ntmps59
      go_wp2_with (fail)
      go_at_call 52
      refine HC.out.mono ?_
      rintro e W1 ⟨rfl, hB0⟩
      have hB := pm_chain (w := w) (by (repeat (first | (with_reducible exact Below.refl _ _) | (with_reducible assumption) | with_reducible apply below_alloc | with_reducible apply pw_below_drewN | with_reducible apply below_drew1))) hB0
      clear hB0
      go_wp2_with (fail)
      have PM1 := Aside0.mk (PM.below H.out hB)
      have hmax : max (N : Int) 0 = N := by omega
      first | rw [hmax] | skip
      clear hmax
      go_loopg [19] N (fun kq v19 wr => ∃ j : Nat, j + kq = N ∧ v19 = .int .i64 j ∧ Aside0 (wr.heap[r.g]? = some (.cells (rowC (put r.cs V ((List.replicate N numC).take j))) 66 (0, 0))) ∧ Aside0 (Ext (fun i => i = r.g) W1 wr))
      case atStart => exact ⟨0, by omega, rfl, ⟨by rw [List.take_zero, put_nil]; exact PM1.out.row r HR.out⟩, ⟨Ext.refl _ _⟩⟩
      case round =>
        obtain ⟨j, hj, rfl, HG, HX⟩ := hrel
        by_cases hlt : j < N
        · have HJ := Aside0.mk hj
          clear hj
          have hlp : (put r.cs V ((List.replicate N numC).take j)).length = r.cs.length := put_len (by simp; omega)
          obtain ⟨⟨y0, y1, y2, y3, g0, g1, g2, g3⟩, f0, f1, f2, f3⟩ := row_cells HG.out (V + j) (by rw [hlp]; omega)
          rw [Nat.add_mul] at g0 g1 g2 g3 f0 f1 f2 f3
          clear hlp
          have HLT := Aside0.mk hlt
          go_wp2_with (fail)
          go_roundg (N - (j + 1))
          case measure => have := HJ.out; have := HLT.out; omega
          case rel =>
            have hj1 := HLT.out
            have hc : (List.replicate N numC)[j]? = some numC := by rw [List.getElem?_replicate, if_pos hj1]
            have hlp : (put r.cs V ((List.replicate N numC).take j)).length = r.cs.length := put_len (by simp; omega)
            have hrp := row_put HG.out (V + j) (by rw [hlp]; omega) 1 0 0 0
            rw [Nat.add_mul] at hrp
            have hst := put_step (cs := r.cs) (i := V) (j := j) (l := List.replicate N numC) (c := numC) (by simp; omega) hc
            exact ⟨j + 1, by omega, by simp, ⟨by rw [hst]; exact hrp⟩, ⟨Ext.set4 HX.out rfl _ _ _ _ _⟩⟩
        · obtain rfl : j = N := by omega
          go_wp2_with (fail)
          go_ret
          have ha := HA.out
          unfold zeroF at ha
          rw [if_neg (by have := hC2.out; omega), HA1.out] at ha
          cases ha
          have hg := HG.out
          rw [List.take_of_length_le (by simp)] at hg
          refine ⟨rfl, ?_⟩
          exact Did.pre hB (Did.upd PM1.out HR.out (put_len (by simp; omega)) HX.out hg)
end Go.Proofs.Ythdnhfjodhjejaa.Ma
namespace Go.Proofs.Ythdnhfjodhjejaa.Ma
open Go.RowKit Go.Proofs.Ythdnhfjodhjejaa.PMe Go.Proofs.YthdnhfjodhjejaaW.PrintWords Go.Proofs.YthdnhfjodhjejaaW.PrintLast Go.Proofs.YthdnhfjodhjejaaW.PrintMore
set_option linter.unusedVariables false
set_option linter.unusedSimpArgs false
variable {w w' : World} {m mm : Nat} {last : Int} {L : List Rec}
theorem bytes_row {W : World} {base : Nat} {ok : Nat → Prop} {v : Value} {bs : List Int} (h : Kd.R (Kd.int .u8) 5 W base ok v bs) (hn : 0 < bs.length) :
    ∃ g c cs, v = .slice (some ⟨g, 0, none⟩) bs.length c ∧ base ≤ g ∧ W.heap[g]? = some (.cells cs 5 (0, 0)) ∧ ∀ (j : Nat) (b : Int), bs[j]? = some b → cs[j]? = some (Value.int .u8 b) := by
  have hh := h
  obtain ⟨_, inner, ⟨_, ho⟩, _⟩ := h
  rcases ho with ⟨_, h0⟩ | ⟨g, cap, cur, rfl, hg, hb, _⟩
  · omega
  · refine ⟨g, cap, cur, rfl, hg, hb, ?_⟩
    intro j b hj
    obtain ⟨_, _, hC⟩ := Kd.R_reads' hh
    obtain ⟨ad, e, hc⟩ := hC.2.2 hn
    cases e
    obtain ⟨c, hc1, hc2, hc3⟩ := hc j b hj
    obtain rfl : c = [Value.int .u8 b] := hc2
    have := hc3 0 (Value.int .u8 b) rfl
    simp only [Addr.add] at this
    rw [← blk_cell hb j]
    have e1 : (Kd.int IntKind.u8).sz = 1 := rfl
    rw [e1] at this
    by_cases hj0 : j = 0
    · subst hj0; simpa using this
    · simpa [hj0] using this
/-- A number's bytes. -/
def bytesL (v n : Int) : List Int := if n = 4 then [v % 256, v / 256 % 256, v / 65536 % 256, v / 16777216 % 256] else if n = 2 then [v % 256, v / 256 % 256] else [v % 256]
theorem bytesL_f (v n : Int) (hn : n = 1 ∨ n = 2 ∨ n = 4) : word_Bytes.f 20 v n = some (bytesL v n) := by
  rcases hn with rfl | rfl | rfl
  · exact La.bytes1 v
  · exact La.bytes2 v
  · exact La.bytes4 v
theorem bytesL_len (v n : Int) (hn : n = 1 ∨ n = 2 ∨ n = 4) : (bytesL v n).length = n.toNat := by
  rcases hn with rfl | rfl | rfl <;> rfl
theorem bytesL_in {v n : Int} {j : Nat} {b : Int} (h : (bytesL v n)[j]? = some b) : 0 ≤ b ∧ b < 256 := by
  have hm := List.mem_of_getElem? h
  unfold bytesL at hm
  split at hm
  · simp at hm; omega
  · split at hm <;> (simp at hm; omega)
def cellN (b : Int) : S66 := ⟨1, b, 0, 0⟩
def partsC (v : V3) : List S66 := [⟨2, v.v, v.b, 0⟩, ⟨2, v.v, v.b, 1⟩, ⟨2, v.v, v.b, 2⟩, ⟨2, v.v, v.b, 3⟩]
/-- What Store answers, and the blocks behind it. -/
def storeF (L : List Rec) (x : V3) (n : Int) (v : V3) : Int × List Rec :=
  if pow2 n then match atR L x n n with
    | none => (3, L)
    | some r =>
      if v.k = 1 then (0, upd L r.id (put r.cs x.v.toNat ((bytesL v.v n).map cellN)))
      else if v.k = 2 ∧ n = 4 then (0, upd L r.id (put r.cs x.v.toNat (partsC v)))
      else (3, L)
  else (3, L)
set_option maxHeartbeats 4000000 in
set_option maxRecDepth 100000 in
theorem Store_calls (h : PM w m mm last L) (x : V3) (n : Int) (y : V3) (h0 : 0 ≤ x.v) (h1 : x.v < 4294967296) (h2 : 0 ≤ y.v) (h3 : y.v < 4294967296) : Calls Try.prog 24 #[.pointer (some ⟨m, 0, none⟩), x.enc, .int .i64 n, y.enc] w fun e w' => e = .returned (.int .i64 (storeF L x n y).1) ∧ Did w w' m mm L last (storeF L x n y).2 := by
  generalize hA : storeF L x n y = A
  obtain ⟨A1, A2⟩ := A
  have HA := Aside0.mk hA
  have H := Aside0.mk h
  clear hA h
  have hu51 := Try.underlying51
  have hu60 := run_eqnil
  have hu61 := run_eqsome
  obtain ⟨k, v, b⟩ := x
  obtain ⟨yk, yv, yb⟩ := y
  unfold V3.enc
  simp only at h0 h1 h2 h3 ⊢
  cases hn : pow2 n with
  | false =>
    have HN := Aside0.mk hn
    clear hn
    go_enter Try.func24, Try.ntmps24
    go_wp2_with (first | (go_at_call 51; refine (power_calls _ n).mono ?_; rintro e w' ⟨rfl, nk, rfl⟩; rw [HN.out]))
    go_ret
    have ha := HA.out
    unfold storeF at ha
    rw [HN.out] at ha
    cases ha
    exact ⟨rfl, Did.same H.out (by (repeat (first | (with_reducible exact Below.refl _ _) | (with_reducible assumption) | with_reducible apply below_alloc | with_reducible apply pw_below_drewN | with_reducible apply below_drew1)))⟩
  | true =>
    have hp : n = 1 ∨ n = 2 ∨ n = 4 := by simp only [pow2, Bool.or_eq_true, beq_iff_eq] at hn; omega
    have HP := Aside0.mk hp
    have HN := Aside0.mk hn
    clear hp hn
    have hc := fun W (PW : PM W m mm last L) => at_calls PW ⟨k, v, b⟩ n n h0 h1 HP.out (by rcases HP.out with h | h | h <;> omega) (by rcases HP.out with h | h | h <;> omega)
    have HC := Aside0.mk hc
    clear hc
    cases ha : atR L ⟨k, v, b⟩ n n with
    | none =>
      rw [ha] at HC
      simp only [sliceR] at HC
      have HA1 := Aside0.mk ha
      clear ha
      go_enter Try.func24, Try.ntmps24
      go_wp2_with (first | (go_at_call 51; refine (power_calls _ n).mono ?_; rintro e w' ⟨rfl, nk, rfl⟩; rw [HN.out]) | (go_at_call 52; refine (HC.out _ (PM.below H.out (by (repeat (first | (with_reducible exact Below.refl _ _) | (with_reducible assumption) | with_reducible apply below_alloc | with_reducible apply pw_below_drewN | with_reducible apply below_drew1))))).mono ?_; rintro e W1 ⟨rfl, hB0⟩; have hB := pm_chain (w := w) (by (repeat (first | (with_reducible exact Below.refl _ _) | (with_reducible assumption) | with_reducible apply below_alloc | with_reducible apply pw_below_drewN | with_reducible apply below_drew1))) hB0; clear hB0))
      go_ret
      have ha := HA.out
      unfold storeF at ha
      rw [if_pos HN.out, HA1.out] at ha
      cases ha
      exact ⟨rfl, Did.same H.out (by (repeat (first | (with_reducible exact Below.refl _ _) | (with_reducible assumption) | with_reducible apply below_alloc | with_reducible apply pw_below_drewN | with_reducible apply below_drew1)))⟩
    | some r =>
      rw [ha] at HC
      simp only [sliceR] at HC
      have hat := atR_some ha
      have hr := (of_mem hat.1).1
      have hl := H.out.len r hr
      have hak := HA.out
      unfold storeF at hak
      rw [if_pos HN.out, ha] at hak
      simp only at hak
      have HAK := Aside0.mk hak
      have HAT := Aside0.mk hat.2.1
      have HR := Aside0.mk hr
      have HL := Aside0.mk hl
      clear ha hat hr hl hak HA
      obtain ⟨V, rfl⟩ : ∃ V : Nat, v = V := ⟨v.toNat, by omega⟩
      obtain ⟨N, rfl⟩ : ∃ N : Nat, n = N := ⟨n.toNat, by rcases HP.out with h | h | h <;> omega⟩
      simp only [Int.toNat_natCast] at HC HAK
      have hN : N ≤ 4 := by rcases HP.out with h | h | h <;> omega
      have hV : V ≤ 16384 := by have := HL.out; have := HAT.out; simp only at this; omega
      have hNV : V + N ≤ r.cs.length := by have := HL.out; have := HAT.out; simp only at this; omega
      have HLL := Aside0.mk hNV
      have H23 := Aside0.mk (And.intro h2 h3)
      clear h0 h1 hNV
      by_cases c1 : yk = 1
      · have k1 : (yk == 1) = true := beq_iff_eq.mpr c1
        have C1 := Aside0.mk c1
        clear c1
        have hbl := bytesL_len yv N HP.out
        simp only [Int.toNat_natCast] at hbl
        have HBL := Aside0.mk hbl
        clear hbl
        go_enter Try.func24, Try.ntmps24
        go_wp2_with (first | (go_at_call 51; refine (power_calls _ _).mono ?_; rintro e w' ⟨rfl, nk, rfl⟩; rw [HN.out]))
        go_at_call 52
        refine (HC.out _ (PM.below H.out (by (repeat (first | (with_reducible exact Below.refl _ _) | (with_reducible assumption) | with_reducible apply below_alloc | with_reducible apply pw_below_drewN | with_reducible apply below_drew1))))).mono ?_
        rintro e W1 ⟨rfl, hB0⟩
        have RY := blk_below (blk_drewN (heap_at (w.alloc (.cells #[.int .i64 k, .int .u32 V, .int .i64 b] 51)) (.cells #[.int .i64 yk, .int .u32 yv, .int .i64 yb] 51) (w.heap.size + 1) (by simp)) nk) hB0
        have hB := pm_chain (w := w) (by (repeat (first | (with_reducible exact Below.refl _ _) | (with_reducible assumption) | with_reducible apply below_alloc | with_reducible apply pw_below_drewN | with_reducible apply below_drew1))) hB0
        clear hB0
        obtain ⟨⟨hy0, hy1, hy2⟩, _⟩ := know3 RY
        have PM1 := Aside0.mk (PM.below H.out hB)
        have HB1 := Aside0.mk hB
        clear hB RY
        go_wp2_with (fail)
        go_at_call 64
        refine (word_Bytes.calls 20 yv N (bytesL yv N) _ (bytesL_f yv N HP.out)).mono ?_
        rintro e W2 ⟨vb, rfl, hR, hB2⟩
        obtain ⟨gb, cb, bcs, rfl, hgb, hbc, hbs⟩ := bytes_row hR (by rw [HBL.out]; rcases HP.out with h | h | h <;> omega)
        rw [HBL.out]
        have PM2 := Aside0.mk (PM1.out.below hB2)
        have HB2 := Aside0.mk (pm_chain (w := w) HB1.out hB2)
        have HGB := Aside0.mk (show gb ≠ r.g by have := blk_lt (PM1.out.row r HR.out); omega)
        have HBC := Aside0.mk hbc
        have HBS := Aside0.mk hbs
        clear hR hB2 hgb hbc hbs HB1 PM1 hy0 hy1 hy2
        go_wp2_with (fail)
        go_loopg [33] N (fun kq v33 wr => ∃ j : Nat, j + kq = N ∧ v33 = .int .i64 j ∧ Aside0 (wr.heap[r.g]? = some (.cells (rowC (put r.cs V (((bytesL yv N).map cellN).take j))) 66 (0, 0))) ∧ Aside0 (Ext (fun i => i = r.g) W2 wr))
        case atStart => exact ⟨0, by omega, rfl, ⟨by rw [List.take_zero, put_nil]; exact PM2.out.row r HR.out⟩, ⟨Ext.refl _ _⟩⟩
        case round =>
          obtain ⟨j, hj, rfl, HG, HX⟩ := hrel
          by_cases hlt : j < N
          · have HJ := Aside0.mk hj
            clear hj
            have hNV := HLL.out
            have hml : ((bytesL yv N).map cellN).length = N := by rw [List.length_map]; exact HBL.out
            have hlp : (put r.cs V (((bytesL yv N).map cellN).take j)).length = r.cs.length := put_len (by simp only [List.length_take, hml]; omega)
            obtain ⟨⟨y0, y1, y2, y3, g0, g1, g2, g3⟩, f0, f1, f2, f3⟩ := row_cells HG.out (V + j) (by rw [hlp]; omega)
            rw [Nat.add_mul] at g0 g1 g2 g3 f0 f1 f2 f3
            obtain ⟨bj, hbj⟩ : ∃ bj, (bytesL yv N)[j]? = some bj := ⟨_, List.getElem?_eq_getElem (by have := HBL.out; omega)⟩
            obtain ⟨b0, b1⟩ := bytesL_in hbj
            have hcb : wr.cell? ⟨gb, j, none⟩ = some (.int .u8 bj) := (blk_cell (HX.out.at HBC.out HGB.out) j).trans (HBS.out j bj hbj)
            have HBJ := Aside0.mk hbj
            have HML := Aside0.mk hml
            have HLP := Aside0.mk hlp
            have hbw : bj % 4294967296 = bj := by omega
            clear hlp hml hbj hNV
            have HLT := Aside0.mk hlt
            go_wp2_with (fail)
            go_roundg (N - (j + 1))
            case measure => have := HJ.out; have := HLT.out; omega
            case rel =>
              have hj1 := HLT.out
              have hst := put_step (cs := r.cs) (i := V) (j := j) (l := (bytesL yv N).map cellN) (c := cellN bj) (by rw [HML.out]; exact HLL.out) (by rw [List.getElem?_map, HBJ.out]; rfl)
              have hrp := row_put HG.out (V + j) (by rw [HLP.out]; have := HLL.out; omega) 1 bj 0 0
              rw [Nat.add_mul] at hrp
              exact ⟨j + 1, by omega, by simp, ⟨by rw [hst]; exact hrp⟩, ⟨Ext.set4 HX.out rfl _ _ _ _ _⟩⟩
          · obtain rfl : j = N := by omega
            go_wp2_with (fail)
            go_ret
            have hak := HAK.out
            rw [if_pos C1.out] at hak
            cases hak
            have hg := HG.out
            rw [List.take_of_length_le (by rw [List.length_map, HBL.out]; omega)] at hg
            exact ⟨rfl, Did.pre HB2.out (Did.upd PM2.out HR.out (put_len (by rw [List.length_map, HBL.out]; exact HLL.out)) HX.out hg)⟩
      · have k1 : (yk == 1) = false := beq_eq_false_iff_ne.mpr c1
        have C1 := Aside0.mk c1
        clear c1
        by_cases c2 : yk = 2 ∧ (N : Int) = 4
        · obtain ⟨rfl, hN4⟩ := c2
          obtain rfl : N = 4 := by omega
          clear hN4
          simp only [show ((4 : Nat) : Int) = 4 from rfl] at HC HN HAK
          go_enter Try.func24, Try.ntmps24
          go_wp2_with (first | (go_at_call 51; refine (power_calls _ _).mono ?_; rintro e w' ⟨rfl, nk, rfl⟩; rw [HN.out]))
          go_at_call 52
          refine (HC.out _ (PM.below H.out (by (repeat (first | (with_reducible exact Below.refl _ _) | (with_reducible assumption) | with_reducible apply below_alloc | with_reducible apply pw_below_drewN | with_reducible apply below_drew1))))).mono ?_
          rintro e W1 ⟨rfl, hB0⟩
          have RY := blk_below (blk_drewN (heap_at (w.alloc (.cells #[.int .i64 k, .int .u32 V, .int .i64 b] 51)) (.cells #[.int .i64 2, .int .u32 yv, .int .i64 yb] 51) (w.heap.size + 1) (by simp)) nk) hB0
          have hB := pm_chain (w := w) (by (repeat (first | (with_reducible exact Below.refl _ _) | (with_reducible assumption) | with_reducible apply below_alloc | with_reducible apply pw_below_drewN | with_reducible apply below_drew1))) hB0
          clear hB0
          obtain ⟨⟨hy0, hy1, hy2⟩, _⟩ := know3 RY
          have PM1 := Aside0.mk (PM.below H.out hB)
          have HB1 := Aside0.mk hB
          have HRY := Aside0.mk RY
          have hgl := blk_lt (PM.row H.out r HR.out)
          have HYG := Aside0.mk (show w.heap.size + 1 ≠ r.g by omega)
          clear hB RY hgl
          go_wp2_with (fail)
          clear hy0 hy1 hy2
          go_loopg [55] 4 (fun kq v55 wr => ∃ j : Nat, j + kq = 4 ∧ v55 = .int .i64 j ∧ Aside0 (wr.heap[r.g]? = some (.cells (rowC (put r.cs V ((partsC ⟨2, yv, yb⟩).take j))) 66 (0, 0))) ∧ Aside0 (Ext (fun i => i = r.g) W1 wr))
          case atStart => exact ⟨0, by omega, rfl, ⟨by rw [List.take_zero, put_nil]; exact PM1.out.row r HR.out⟩, ⟨Ext.refl _ _⟩⟩
          case round =>
            obtain ⟨j, hj, rfl, HG, HX⟩ := hrel
            by_cases hlt : j < 4
            · have HJ := Aside0.mk hj
              clear hj
              have hNV := HLL.out
              have hml : (partsC ⟨2, yv, yb⟩).length = 4 := rfl
              have hlp : (put r.cs V ((partsC ⟨2, yv, yb⟩).take j)).length = r.cs.length := put_len (by simp only [List.length_take, hml]; omega)
              have hry := HX.out.at HRY.out HYG.out
              obtain ⟨⟨hy0, hy1, hy2⟩, _⟩ := know3 hry
              have HLP := Aside0.mk hlp
              clear hlp hml hNV hry
              have HLT := Aside0.mk hlt
              go_wp2_with (fail)
              go_at_call 65
              refine (memory_part.calls 2 yv yb j 2 yv yb j _ rfl).mono ?_
              rintro e W3 ⟨rfl, hB3⟩
              have hg3 := blk_below HG.out hB3
              obtain ⟨⟨y0, y1, y2, y3, g0, g1, g2, g3⟩, f0, f1, f2, f3⟩ := row_cells hg3 (V + j) (by rw [HLP.out]; have := HLL.out; omega)
              rw [Nat.add_mul] at g0 g1 g2 g3 f0 f1 f2 f3
              have HG3 := Aside0.mk hg3
              have HX3 := Aside0.mk (HX.out.then_below hB3)
              clear hB3 hg3
              go_wp2_with (fail)
              go_roundg (4 - (j + 1))
              case measure => have := HJ.out; have := HLT.out; omega
              case rel =>
                have hj1 := HLT.out
                have hpj : (partsC ⟨2, yv, yb⟩)[j]? = some ⟨2, yv, yb, j⟩ := by
                  have hm : j = 0 ∨ j = 1 ∨ j = 2 ∨ j = 3 := by omega
                  rcases hm with rfl | rfl | rfl | rfl <;> rfl
                have hst := put_step (cs := r.cs) (i := V) (j := j) (l := partsC ⟨2, yv, yb⟩) (c := ⟨2, yv, yb, j⟩) HLL.out hpj
                have hrp := row_put HG3.out (V + j) (by rw [HLP.out]; have := HLL.out; omega) 2 yv yb j
                rw [Nat.add_mul] at hrp
                exact ⟨j + 1, by omega, by simp, ⟨by rw [hst]; exact hrp⟩, ⟨Ext.set4 HX3.out rfl _ _ _ _ _⟩⟩
            · obtain rfl : j = 4 := by omega
              go_wp2_with (fail)
              go_ret
              have hak := HAK.out
              rw [if_neg C1.out, if_pos (by simp)] at hak
              cases hak
              exact ⟨rfl, Did.pre HB1.out (Did.upd PM1.out HR.out (put_len HLL.out) HX.out HG.out)⟩
        · have hak := HAK.out
          rw [if_neg C1.out, if_neg c2] at hak
          cases hak
          have C2 := Aside0.mk c2
          clear HAK
          by_cases c3 : yk = 2
          · have k2 : (yk == 2) = true := beq_iff_eq.mpr c3
            have k3 : ((N : Int) == 4) = false := beq_eq_false_iff_ne.mpr (fun e => c2 ⟨c3, e⟩)
            clear c2 c3
            go_enter Try.func24, Try.ntmps24
            go_wp2_with (first | (go_at_call 51; refine (power_calls _ _).mono ?_; rintro e w' ⟨rfl, nk, rfl⟩; rw [HN.out]))
            go_at_call 52
            refine (HC.out _ (PM.below H.out (by (repeat (first | (with_reducible exact Below.refl _ _) | (with_reducible assumption) | with_reducible apply below_alloc | with_reducible apply pw_below_drewN | with_reducible apply below_drew1))))).mono ?_
            rintro e W1 ⟨rfl, hB0⟩
            have RY := blk_below (blk_drewN (heap_at (w.alloc (.cells #[.int .i64 k, .int .u32 V, .int .i64 b] 51)) (.cells #[.int .i64 yk, .int .u32 yv, .int .i64 yb] 51) (w.heap.size + 1) (by simp)) nk) hB0
            have hB := pm_chain (w := w) (by (repeat (first | (with_reducible exact Below.refl _ _) | (with_reducible assumption) | with_reducible apply below_alloc | with_reducible apply pw_below_drewN | with_reducible apply below_drew1))) hB0
            clear hB0
            obtain ⟨⟨hy0, hy1, hy2⟩, _⟩ := know3 RY
            go_wp2_with (fail)
            go_ret
            exact ⟨rfl, Did.same H.out hB⟩
          · have k2 : (yk == 2) = false := beq_eq_false_iff_ne.mpr c3
            clear c2 c3
            go_enter Try.func24, Try.ntmps24
            go_wp2_with (first | (go_at_call 51; refine (power_calls _ _).mono ?_; rintro e w' ⟨rfl, nk, rfl⟩; rw [HN.out]))
            go_at_call 52
            refine (HC.out _ (PM.below H.out (by (repeat (first | (with_reducible exact Below.refl _ _) | (with_reducible assumption) | with_reducible apply below_alloc | with_reducible apply pw_below_drewN | with_reducible apply below_drew1))))).mono ?_
            rintro e W1 ⟨rfl, hB0⟩
            have RY := blk_below (blk_drewN (heap_at (w.alloc (.cells #[.int .i64 k, .int .u32 V, .int .i64 b] 51)) (.cells #[.int .i64 yk, .int .u32 yv, .int .i64 yb] 51) (w.heap.size + 1) (by simp)) nk) hB0
            have hB := pm_chain (w := w) (by (repeat (first | (with_reducible exact Below.refl _ _) | (with_reducible assumption) | with_reducible apply below_alloc | with_reducible apply pw_below_drewN | with_reducible apply below_drew1))) hB0
            clear hB0
            obtain ⟨⟨hy0, hy1, hy2⟩, _⟩ := know3 RY
            go_wp2_with (fail)
            go_ret
            exact ⟨rfl, Did.same H.out hB⟩
end Go.Proofs.Ythdnhfjodhjejaa.Ma
namespace Go.Proofs.Ythdnhfjodhjejaa.Ma
open Go.RowKit Go.Proofs.Ythdnhfjodhjejaa.PMe Go.Proofs.YthdnhfjodhjejaaW.PrintWords Go.Proofs.YthdnhfjodhjejaaW.PrintLast Go.Proofs.YthdnhfjodhjejaaW.PrintMore
set_option linter.unusedVariables false
set_option linter.unusedSimpArgs false
variable {w w' : World} {m mm : Nat} {last : Int} {L : List Rec}
theorem flat_len (cs : List S66) : (cs.flatMap encC).length = cs.length * 4 := by
  have := row_size cs
  unfold rowC at this
  simpa using this
theorem flat_take : ∀ (cs : List S66) (i : Nat), (cs.flatMap encC).take (i * 4) = (cs.take i).flatMap encC
  | [], i => by simp
  | c :: cs, 0 => by simp
  | c :: cs, i + 1 => by
    have hl : (encC c).length = 4 := rfl
    rw [List.take_succ_cons, List.flatMap_cons, List.flatMap_cons, List.take_append, List.take_of_length_le (by rw [hl]; omega), hl, show (i + 1) * 4 - 4 = i * 4 by omega, flat_take cs i]
theorem flat_drop : ∀ (cs : List S66) (i : Nat), (cs.flatMap encC).drop (i * 4) = (cs.drop i).flatMap encC
  | [], i => by simp
  | c :: cs, 0 => by simp
  | c :: cs, i + 1 => by
    have hl : (encC c).length = 4 := rfl
    rw [List.drop_succ_cons, List.flatMap_cons, List.drop_append, List.drop_of_length_le (by rw [hl]; omega), hl, show (i + 1) * 4 - 4 = i * 4 by omega, flat_drop cs i, List.nil_append]
theorem row_splice (cs l : List S66) (i : Nat) : ((rowC cs).toList.take (i * 4) ++ l.flatMap encC ++ (rowC cs).toList.drop (i * 4 + (l.flatMap encC).length)).toArray = rowC (put cs i l) := by
  unfold rowC put
  rw [List.toList_toArray, flat_take, flat_len, ← Nat.add_mul, flat_drop, List.flatMap_append, List.flatMap_append]
theorem enc_one {l : List S66} : ∀ v ∈ l.flatMap encC, v.oneCell' = true := by
  intro v hv
  obtain ⟨c, _, hc⟩ := List.mem_flatMap.1 hv
  simp [encC] at hc
  rcases hc with rfl | rfl | rfl | rfl <;> rfl
theorem run_copy4 (W : World) (dT sT ty elem : TypeId) (g o dLen dCap : Nat) (a : Addr) (sLen sCap : Nat) (cur : Array Value) (t : TypeId) (cs : List Value)
    (hu : Try.prog.underlying dT = some (.slice elem)) (hs : (Try.prog.info? elem).map (·.size) = some 4)
    (hg : W.heap[g]? = some (.cells cur t (0, 0))) (n : Nat) (hnn : n = Nat.min sLen dLen) (hn : cs.length = n * 4)
    (hsrc : ∀ j v, cs[j]? = some v → W.cell? (a.add j) = some v) (hfit : o + cs.length ≤ cur.size) (h1 : ∀ v ∈ cs, v.oneCell' = true) :
    (Builtin.copy_ #[dT, sT] ty #[.slice (some ⟨g, o, none⟩) dLen dCap, .slice (some a) sLen sCap]).run Try.prog W =
      .ok (goInt n) (W.setRow g (cur.toList.take o ++ cs ++ cur.toList.drop (o + cs.length)).toArray) := by
  have hl := run_loadCells_list (P := Try.prog) W a cs hsrc
  have hst := run_storeCells_at Try.prog g o t cs 0 cur W hg (by simpa using hfit) h1
  cases hq : Try.prog.info? elem with
  | none => simp [hq] at hs
  | some i =>
    have hi : i.size = 4 := by simpa [hq] using hs
    rw [hn] at hl
    simp [Builtin.copy_, run_underlying hu, Builtin.lenOf, Builtin.firstCells, sizeOf, typeInfo, hq, hi, ← hnn, hl, hst]
theorem Ext.setRow {F : Nat → Prop} {W : World} (h : Ext F w W) {g : Nat} (hg : F g) (cs : Array Value) : Ext F w (W.setRow g cs) :=
  ⟨h.os, h.tape, h.output, by simpa [World.setRow] using h.size, fun k hk hf => (setRow_other W g k cs (fun e => hf (e ▸ hg))).trans (h.block k hk hf)⟩
/-- A copy from one row into another, in the world. -/
theorem copy_rows {W : World} {g g' : Nat} {ct cf : List S66} (hg : W.heap[g]? = some (.cells (rowC ct) 66 (0, 0))) (hg' : W.heap[g']? = some (.cells (rowC cf) 66 (0, 0))) (V U N c1 c2 : Nat) (hV : V + N ≤ ct.length) (hU : U + N ≤ cf.length) :
    ∃ W', (∀ ty, (Builtin.copy_ #[60, 60] ty #[.slice (some ⟨g, V * 4, none⟩) N c1, .slice (some ⟨g', U * 4, none⟩) N c2]).run Try.prog W = .ok (goInt N) W') ∧ Ext (fun i => i = g) W W' ∧ W'.heap[g]? = some (.cells (rowC (put ct V (sub cf U N))) 66 (0, 0)) := by
  have hl : ((sub cf U N).flatMap encC).length = N * 4 := by rw [flat_len, sub_len hU]
  obtain ⟨i, hi, _, hs, _⟩ := info66'
  have hsr : ∀ j v, ((sub cf U N).flatMap encC)[j]? = some v → W.cell? ((⟨g', U * 4, none⟩ : Addr).add j) = some v := by
    intro j v hv
    have hj : j < N * 4 := by have := (List.getElem?_eq_some_iff.1 hv).1; omega
    have hf := flat_get (sub cf U N) (j / 4) (j % 4) (by omega)
    rw [show j / 4 * 4 + j % 4 = j by omega, hv, sub_get _ _ _ _ (by omega)] at hf
    have hc := row_cell hg' (U + j / 4) (j % 4) (by omega)
    rw [← hf] at hc
    have e : (⟨g', U * 4, none⟩ : Addr).add j = ⟨g', (U + j / 4) * 4 + j % 4, none⟩ := by
      have : U * 4 + j = (U + j / 4) * 4 + j % 4 := by omega
      unfold Addr.add
      split
      · next h => subst h; simp
      · simp only [this]
    rw [e]
    exact hc
  have hrun := fun ty => run_copy4 W 60 60 ty 66 g (V * 4) N c1 ⟨g', U * 4, none⟩ N c2 (rowC ct) 66 ((sub cf U N).flatMap encC) Try.underlying60 (by rw [hi]; simp [hs]) hg N (by simp) hl hsr (by rw [hl, row_size]; omega) enc_one
  refine ⟨_, hrun, (Ext.refl (fun i => i = g) W).setRow rfl _, ?_⟩
  rw [row_splice]
  exact setRow_heap W g _ _ _ _ hg
theorem wpList_copy_run {W W' : World} {ops : Array Oper} {rest : List Oper} {o : Oper} {a : Act} {Q : Exit → Act → World → Prop} (hgd : o.guard = none) (d s : Operand)
    (ho : o.op = .call { callee := .builtin .copy, args := #[d, s], argTypes := #[60, 60] }) (dv sv : Value) (hd : a.eval d = dv) (hs : a.eval s = sv) (n : Int)
    (hrun : ∀ ty, (Builtin.copy_ #[60, 60] ty #[dv, sv]).run Try.prog W = .ok (goInt n) W') (h : wpList Try.prog ops Q rest (a.put o.dst (goInt n)) W') : wpList Try.prog ops Q (o :: rest) a W := by
  refine wpList_plain hgd fun K hK => ?_
  have hr := hrun o.type
  unfold Oper.wp
  simp [execOp, ho, resolve, invoke, builtin, hd, hs, hr, Result.andThen]
  exact hK _ _ h
end Go.Proofs.Ythdnhfjodhjejaa.Ma
namespace Go.Proofs.Ythdnhfjodhjejaa.Ma
open Go.RowKit Go.Proofs.Ythdnhfjodhjejaa.PMe Go.Proofs.YthdnhfjodhjejaaW.PrintWords Go.Proofs.YthdnhfjodhjejaaW.PrintLast Go.Proofs.YthdnhfjodhjejaaW.PrintMore
set_option linter.unusedVariables false
set_option linter.unusedSimpArgs false
variable {w w' : World} {m mm : Nat} {last : Int} {L : List Rec}
/-- What Copy answers, and the blocks behind it. -/
def copyF (L : List Rec) (x y : V3) (n al : Int) : Int × List Rec :=
  if n < 1 ∨ pow2 al = false then (3, L) else
  match atR L x n al, atR L y n al with
  | some r, some s => if x.b = y.b ∧ x.v ≠ y.v ∧ x.v < y.v + n ∧ y.v < x.v + n then (3, L) else (0, upd L r.id (put r.cs x.v.toNat (sub s.cs y.v.toNat n.toNat)))
  | _, _ => (3, L)
set_option maxHeartbeats 4000000 in
set_option maxRecDepth 100000 in
theorem Copy_arg (h : PM w m mm last L) (x y : V3) (n al : Int) (hb : n < 1 ∨ pow2 al = false) : Calls Try.prog 20 #[.pointer (some ⟨m, 0, none⟩), x.enc, y.enc, .int .i64 n, .int .i64 al] w fun e w' => e = .returned (.int .i64 3) ∧ Did w w' m mm L last L := by
  have H := Aside0.mk h
  clear h
  have hu51 := Try.underlying51
  obtain ⟨k, v, b⟩ := x
  obtain ⟨yk, yv, yb⟩ := y
  unfold V3.enc
  simp only
  by_cases c1 : n < 1
  · have c1b : decide (n < 1) = true := by simp; omega
    clear hb
    go_enter Try.func20, Try.ntmps20
    go_wp2_with (fail)
    go_ret
    exact ⟨rfl, Did.same H.out (by (repeat (first | (with_reducible exact Below.refl _ _) | (with_reducible assumption) | with_reducible apply below_alloc | with_reducible apply pw_below_drewN | with_reducible apply below_drew1)))⟩
  · have c2 : pow2 al = false := by rcases hb with h | h <;> first | exact h | omega
    have C2 := Aside0.mk c2
    have c1b : decide (n < 1) = false := by simp; omega
    clear c2 hb c1
    go_enter Try.func20, Try.ntmps20
    go_wp2_with (first | (go_at_call 51; refine (power_calls _ al).mono ?_; rintro e w' ⟨rfl, nk, rfl⟩; rw [C2.out]))
    go_ret
    exact ⟨rfl, Did.same H.out (by (repeat (first | (with_reducible exact Below.refl _ _) | (with_reducible assumption) | with_reducible apply below_alloc | with_reducible apply pw_below_drewN | with_reducible apply below_drew1)))⟩
set_option maxHeartbeats 4000000 in
set_option maxRecDepth 100000 in
theorem Copy_go (h : PM w m mm last L) (x y : V3) (n al : Int) (h0 : 0 ≤ x.v) (h1 : x.v < 4294967296) (h2 : 0 ≤ y.v) (h3 : y.v < 4294967296) (hn : 1 ≤ n) (hn2 : n < 9223372036854775808) (hal : pow2 al = true) (A1 : Int) (A2 : List Rec) (hA : Aside0 (copyF L x y n al = (A1, A2))) : Calls Try.prog 20 #[.pointer (some ⟨m, 0, none⟩), x.enc, y.enc, .int .i64 n, .int .i64 al] w fun e w' => e = .returned (.int .i64 A1) ∧ Did w w' m mm L last A2 := by
  have H := Aside0.mk h
  clear h
  have hu51 := Try.underlying51
  have hu60 := run_eqnil
  have hu61 := run_eqsome
  have hp : al = 1 ∨ al = 2 ∨ al = 4 := by simp only [pow2, Bool.or_eq_true, beq_iff_eq] at hal; omega
  obtain ⟨k, v, b⟩ := x
  obtain ⟨yk, yv, yb⟩ := y
  unfold V3.enc
  simp only at h0 h1 h2 h3 ⊢
  have hcx := fun W (PW : PM W m mm last L) => at_calls PW ⟨k, v, b⟩ n al h0 h1 hp hn hn2
  have hcy := fun W (PW : PM W m mm last L) => at_calls PW ⟨yk, yv, yb⟩ n al h2 h3 hp hn hn2
  have HCX := Aside0.mk hcx
  have HCY := Aside0.mk hcy
  have C2 := Aside0.mk hal
  have HN := Aside0.mk (And.intro hn hn2)
  have HV := Aside0.mk (And.intro (And.intro h0 h1) (And.intro h2 h3))
  have c1b : decide (n < 1) = false := by simp; omega
  clear hcx hcy hal hp hn hn2 h0 h1 h2 h3
  unfold copyF at hA
  rw [if_neg (by rw [C2.out]; have := HN.out.1; simp; omega)] at hA
  go_enter Try.func20, Try.ntmps20
  go_upto_region 3 with (first | (go_at_call 51; refine (power_calls _ al).mono ?_; rintro e w' ⟨rfl, nk, rfl⟩; rw [C2.out]))
  have RA : Row3 (((w.alloc (.cells #[.int .i64 k, .int .u32 v, .int .i64 b] 51)).alloc (.cells #[.int .i64 yk, .int .u32 yv, .int .i64 yb] 51)).drewN nk) w.heap.size ⟨k, v, b⟩ := blk_drewN (blk_alloc (heap_at _ _ _ rfl) _) nk
  have RB : Row3 (((w.alloc (.cells #[.int .i64 k, .int .u32 v, .int .i64 b] 51)).alloc (.cells #[.int .i64 yk, .int .u32 yv, .int .i64 yb] 51)).drewN nk) (w.heap.size + 1) ⟨yk, yv, yb⟩ := blk_drewN (heap_at _ _ _ (by simp)) nk
  have hB : Below w.heap.size w (((w.alloc (.cells #[.int .i64 k, .int .u32 v, .int .i64 b] 51)).alloc (.cells #[.int .i64 yk, .int .u32 yv, .int .i64 yb] 51)).drewN nk) := by (repeat (first | (with_reducible exact Below.refl _ _) | (with_reducible assumption) | with_reducible apply below_alloc | with_reducible apply pw_below_drewN | with_reducible apply below_drew1))
  generalize (((w.alloc (.cells #[.int .i64 k, .int .u32 v, .int .i64 b] 51)).alloc (.cells #[.int .i64 yk, .int .u32 yv, .int .i64 yb] 51)).drewN nk) = W0 at RA RB hB ⊢
  obtain ⟨gb, hgb⟩ : ∃ g, g = w.heap.size + 1 := ⟨_, rfl⟩
  obtain ⟨ga, hga⟩ : ∃ g, g = w.heap.size := ⟨_, rfl⟩
  rw [← hgb, ← hga]
  rw [← hga] at RA
  rw [← hgb] at RB
  clear hga hgb
  simp only [Row3] at RA RB
  obtain ⟨⟨ha0, ha1, ha2⟩, _⟩ := know3 RA
  obtain ⟨⟨hb0, hb1, hb2⟩, _⟩ := know3 RB
  have HRA := Aside0.mk RA
  have HRB := Aside0.mk RB
  have HB := Aside0.mk hB
  clear RA RB hB
  go_cut [11, 12] (fun v11 v12 wc => v11 = sliceR ⟨k, v, b⟩ n (atR L ⟨k, v, b⟩ n al) ∧ v12 = sliceR ⟨yk, yv, yb⟩ n (atR L ⟨yk, yv, yb⟩ n al) ∧ Aside0 (Below W0.heap.size W0 wc))
  case first =>
    go_region_held3 (fun w' => (w'.cell? ⟨ga, 0, none⟩ = some (.int .i64 k) ∧ w'.cell? ⟨ga, 1, none⟩ = some (.int .u32 v) ∧ w'.cell? ⟨ga, 2, none⟩ = some (.int .i64 b)) ∧ (w'.cell? ⟨gb, 0, none⟩ = some (.int .i64 yk) ∧ w'.cell? ⟨gb, 1, none⟩ = some (.int .u32 yv) ∧ w'.cell? ⟨gb, 2, none⟩ = some (.int .i64 yb))) (first | exact ⟨⟨pw_cell_below (by (repeat (first | (with_reducible exact Below.refl _ _) | (with_reducible assumption) | with_reducible apply below_alloc | with_reducible apply pw_below_drewN | with_reducible apply below_drew1)); done) ha0, pw_cell_below (by (repeat (first | (with_reducible exact Below.refl _ _) | (with_reducible assumption) | with_reducible apply below_alloc | with_reducible apply pw_below_drewN | with_reducible apply below_drew1)); done) ha1, pw_cell_below (by (repeat (first | (with_reducible exact Below.refl _ _) | (with_reducible assumption) | with_reducible apply below_alloc | with_reducible apply pw_below_drewN | with_reducible apply below_drew1)); done) ha2⟩, pw_cell_below (by (repeat (first | (with_reducible exact Below.refl _ _) | (with_reducible assumption) | with_reducible apply below_alloc | with_reducible apply pw_below_drewN | with_reducible apply below_drew1)); done) hb0, pw_cell_below (by (repeat (first | (with_reducible exact Below.refl _ _) | (with_reducible assumption) | with_reducible apply below_alloc | with_reducible apply pw_below_drewN | with_reducible apply below_drew1)); done) hb1, pw_cell_below (by (repeat (first | (with_reducible exact Below.refl _ _) | (with_reducible assumption) | with_reducible apply below_alloc | with_reducible apply pw_below_drewN | with_reducible apply below_drew1)); done) hb2⟩) (first | (go_at_call_of 52 k; refine (HCX.out _ (PM.below H.out (pm_chain (w := w) HB.out (by (repeat (first | (with_reducible exact Below.refl _ _) | (with_reducible assumption) | with_reducible apply below_alloc | with_reducible apply pw_below_drewN | with_reducible apply below_drew1)))))).mono ?_; rintro e W1 ⟨rfl, hB1⟩; have hB2 := pm_chain (w := W0) (by (repeat (first | (with_reducible exact Below.refl _ _) | (with_reducible assumption) | with_reducible apply below_alloc | with_reducible apply pw_below_drewN | with_reducible apply below_drew1))) hB1; clear hB1) | (go_at_call_of 52 yk; refine (HCY.out _ (PM.below H.out (pm_chain (w := w) HB.out (by (repeat (first | (with_reducible exact Below.refl _ _) | (with_reducible assumption) | with_reducible apply below_alloc | with_reducible apply pw_below_drewN | with_reducible apply below_drew1)))))).mono ?_; rintro e W2 ⟨rfl, hB1⟩; have hB3 := pm_chain (w := W0) (by (repeat (first | (with_reducible exact Below.refl _ _) | (with_reducible assumption) | with_reducible apply below_alloc | with_reducible apply pw_below_drewN | with_reducible apply below_drew1))) hB1; clear hB1))
    all_goals (go_wp2_with (fail); go_meet)
    all_goals exact ⟨rfl, rfl, ⟨by (repeat (first | (with_reducible exact Below.refl _ _) | (with_reducible assumption) | with_reducible apply below_alloc | with_reducible apply pw_below_drewN | with_reducible apply below_drew1))⟩⟩
  case rest =>
    obtain ⟨rfl, rfl, HB1⟩ := hcut
    clear ha0 ha1 ha2 hb0 hb1 hb2
    have RA := blk_below HRA.out HB1.out
    have RB := blk_below HRB.out HB1.out
    have hB := pm_chain (w := w) HB.out HB1.out
    clear HRA HRB HB HB1
    obtain ⟨⟨ha0, ha1, ha2⟩, _⟩ := know3 RA
    obtain ⟨⟨hb0, hb1, hb2⟩, _⟩ := know3 RB
    have HB := Aside0.mk hB
    clear RA RB hB
    cases hx : atR L ⟨k, v, b⟩ n al with
    | none =>
      rw [hx] at hA
      simp only at hA
      have hA' := hA.out
      cases hA'
      clear hx hA HCX HCY
      rw [show sliceR ⟨k, v, b⟩ n none = Value.slice none 0 0 from rfl]
      go_wp2_with (fail)
      go_ret
      exact ⟨rfl, Did.same H.out HB.out⟩
    | some r =>
      cases hy : atR L ⟨yk, yv, yb⟩ n al with
      | none =>
        rw [hx, hy] at hA
        simp only at hA
        have hA' := hA.out
        cases hA'
        clear hx hy hA HCX HCY
        rw [show sliceR ⟨yk, yv, yb⟩ n none = Value.slice none 0 0 from rfl, show sliceR ⟨k, v, b⟩ n (some r) = Value.slice (some ⟨r.g, v.toNat * 4, none⟩) n.toNat (r.cs.length - v.toNat) from rfl]
        go_wp2_with (fail)
        go_ret
        exact ⟨rfl, Did.same H.out HB.out⟩
      | some s =>
        rw [hx, hy] at hA
        simp only at hA
        have htr := atR_some hx
        have hts := atR_some hy
        have hr := (of_mem htr.1).1
        have hs := (of_mem hts.1).1
        have hlr := H.out.len r hr
        have hls := H.out.len s hs
        have HR := Aside0.mk (And.intro hr hs)
        have ht1 := htr.2.1
        have ht2 := hts.2.1
        have hn := HN.out
        have hv := HV.out
        simp only at ht1 ht2
        clear hx hy HCX HCY htr hts hr hs
        obtain ⟨V, rfl⟩ : ∃ V : Nat, v = V := ⟨v.toNat, by omega⟩
        obtain ⟨U, rfl⟩ : ∃ U : Nat, yv = U := ⟨yv.toNat, by omega⟩
        obtain ⟨N, rfl⟩ : ∃ N : Nat, n = N := ⟨n.toNat, by omega⟩
        have hV : V + N ≤ r.cs.length := by omega
        have hU : U + N ≤ s.cs.length := by omega
        have q1 : V ≤ 16384 := by omega
        have q2 : U ≤ 16384 := by omega
        have q3 : N ≤ 16384 := by omega
        have HQ := Aside0.mk (And.intro hV hU)
        clear hlr hls ht1 ht2 hn hv HN HV hV hU
        simp only [Int.toNat_natCast] at hA
        rw [show sliceR ⟨yk, (U : Int), yb⟩ (N : Int) (some s) = Value.slice (some ⟨s.g, U * 4, none⟩) N (s.cs.length - U) from rfl, show sliceR ⟨k, (V : Int), b⟩ (N : Int) (some r) = Value.slice (some ⟨r.g, V * 4, none⟩) N (r.cs.length - V) from rfl]
        by_cases cb : b = yb
        · have kb : (b == yb) = true := beq_iff_eq.mpr cb
          by_cases cv : (V : Int) = U
          · have kv : ((V : Int) != U) = false := bne_eq_false_iff_eq.mpr cv
            rw [if_neg (fun h => h.2.1 cv)] at hA
            clear cb cv
            have hA' := hA.out
            cases hA'
            go_wp2_with (fail)
            go_quiet (fail)
            have PM1 := Aside0.mk (PM.drewN (PM.below H.out HB.out) nq)
            obtain ⟨W', hrun, hx, hg⟩ := copy_rows (PM1.out.row r HR.out.1) (PM1.out.row s HR.out.2) V U N (r.cs.length - V) (s.cs.length - U) HQ.out.1 HQ.out.2
            have HRUN := Aside0.mk hrun
            have HX := Aside0.mk hx
            have HG := Aside0.mk hg
            clear hrun hx hg
            have hrun3 := HRUN.out 3
            go_wp2_with (fail)
            go_ret
            exact ⟨rfl, Did.pre (by have hB := HB.out; (repeat (first | (with_reducible exact Below.refl _ _) | (with_reducible assumption) | with_reducible apply below_alloc | with_reducible apply pw_below_drewN | with_reducible apply below_drew1))) (Did.upd PM1.out HR.out.1 (put_len (by rw [sub_len HQ.out.2]; exact HQ.out.1)) HX.out HG.out)⟩
          · have kv : ((V : Int) != U) = true := bne_iff_ne.mpr cv
            by_cases c3 : (V : Int) < U + N
            · have k3 : decide ((V : Int) < (U : Int) + N) = true := by simp; omega
              by_cases c4 : (U : Int) < V + N
              · have k4 : decide ((U : Int) < (V : Int) + N) = true := by simp; omega
                rw [if_pos ⟨cb, cv, c3, c4⟩] at hA
                clear cb cv c3 c4
                have hA' := hA.out
                cases hA'
                go_wp2_with (fail)
                go_quiet (fail)
                go_wp2_with (fail)
                go_ret
                exact ⟨rfl, Did.same H.out (by have hB := HB.out; (repeat (first | (with_reducible exact Below.refl _ _) | (with_reducible assumption) | with_reducible apply below_alloc | with_reducible apply pw_below_drewN | with_reducible apply below_drew1)))⟩
              · have k4 : decide ((U : Int) < (V : Int) + N) = false := by simp; omega
                rw [if_neg (fun h => c4 h.2.2.2)] at hA
                clear cb cv c3 c4
                have hA' := hA.out
                cases hA'
                go_wp2_with (fail)
                go_quiet (fail)
                have PM1 := Aside0.mk (PM.drewN (PM.below H.out HB.out) nq)
                obtain ⟨W', hrun, hx, hg⟩ := copy_rows (PM1.out.row r HR.out.1) (PM1.out.row s HR.out.2) V U N (r.cs.length - V) (s.cs.length - U) HQ.out.1 HQ.out.2
                have HRUN := Aside0.mk hrun
                have HX := Aside0.mk hx
                have HG := Aside0.mk hg
                clear hrun hx hg
                have hrun3 := HRUN.out 3
                go_wp2_with (fail)
                go_ret
                exact ⟨rfl, Did.pre (by have hB := HB.out; (repeat (first | (with_reducible exact Below.refl _ _) | (with_reducible assumption) | with_reducible apply below_alloc | with_reducible apply pw_below_drewN | with_reducible apply below_drew1))) (Did.upd PM1.out HR.out.1 (put_len (by rw [sub_len HQ.out.2]; exact HQ.out.1)) HX.out HG.out)⟩
            · have k3 : decide ((V : Int) < (U : Int) + N) = false := by simp; omega
              rw [if_neg (fun h => c3 h.2.2.1)] at hA
              clear cb cv c3
              have hA' := hA.out
              cases hA'
              go_wp2_with (fail)
              go_quiet (fail)
              have PM1 := Aside0.mk (PM.drewN (PM.below H.out HB.out) nq)
              obtain ⟨W', hrun, hx, hg⟩ := copy_rows (PM1.out.row r HR.out.1) (PM1.out.row s HR.out.2) V U N (r.cs.length - V) (s.cs.length - U) HQ.out.1 HQ.out.2
              have HRUN := Aside0.mk hrun
              have HX := Aside0.mk hx
              have HG := Aside0.mk hg
              clear hrun hx hg
              have hrun3 := HRUN.out 3
              go_wp2_with (fail)
              go_ret
              exact ⟨rfl, Did.pre (by have hB := HB.out; (repeat (first | (with_reducible exact Below.refl _ _) | (with_reducible assumption) | with_reducible apply below_alloc | with_reducible apply pw_below_drewN | with_reducible apply below_drew1))) (Did.upd PM1.out HR.out.1 (put_len (by rw [sub_len HQ.out.2]; exact HQ.out.1)) HX.out HG.out)⟩
        · have kb : (b == yb) = false := beq_eq_false_iff_ne.mpr cb
          rw [if_neg (fun h => cb h.1)] at hA
          clear cb
          have hA' := hA.out
          cases hA'
          go_wp2_with (fail)
          go_quiet (fail)
          have PM1 := Aside0.mk (PM.drewN (PM.below H.out HB.out) nq)
          obtain ⟨W', hrun, hx, hg⟩ := copy_rows (PM1.out.row r HR.out.1) (PM1.out.row s HR.out.2) V U N (r.cs.length - V) (s.cs.length - U) HQ.out.1 HQ.out.2
          have HRUN := Aside0.mk hrun
          have HX := Aside0.mk hx
          have HG := Aside0.mk hg
          clear hrun hx hg
          have hrun3 := HRUN.out 3
          go_wp2_with (fail)
          go_ret
          exact ⟨rfl, Did.pre (by have hB := HB.out; (repeat (first | (with_reducible exact Below.refl _ _) | (with_reducible assumption) | with_reducible apply below_alloc | with_reducible apply pw_below_drewN | with_reducible apply below_drew1))) (Did.upd PM1.out HR.out.1 (put_len (by rw [sub_len HQ.out.2]; exact HQ.out.1)) HX.out HG.out)⟩
end Go.Proofs.Ythdnhfjodhjejaa.Ma
namespace Go.Proofs.Ythdnhfjodhjejaa.Ma
open Go.RowKit Go.Proofs.Ythdnhfjodhjejaa.PMe Go.Proofs.YthdnhfjodhjejaaW.PrintWords Go.Proofs.YthdnhfjodhjejaaW.PrintLast Go.Proofs.YthdnhfjodhjejaaW.PrintMore
set_option linter.unusedVariables false
set_option linter.unusedSimpArgs false
variable {w w' : World} {m mm : Nat} {last : Int} {L : List Rec}
theorem row_reads {W : World} {g : Nat} {cs : List S66} (hg : W.heap[g]? = some (.cells (rowC cs) 66 (0, 0))) (hl : cs.length ≤ 16384) (i n : Nat) (h : i + n ≤ cs.length) : ReadsRow (fun (x : S66) c => c = encC x) 4 W (some ⟨g, i * 4, none⟩) n (sub cs i n) := by
  have hC := row_C hg hl i n h
  exact hC.imp_ (Below.refl _ _) (fun x c hk => k66_open hk)
set_option maxHeartbeats 4000000 in
set_option maxRecDepth 100000 in
theorem Clone_calls (W : World) (ad : Addr) (n c : Nat) (xs : List S66) (hR : ReadsRow (fun (x : S66) c => c = encC x) 4 W (some ad) n xs) (hn : n ≤ 16384) :
    Calls Try.prog 50 #[.slice (some ad) n c] W fun e w' => ∃ v, e = .returned v ∧ Kd.R k66 66 w' W.heap.size (fun _ => True) v xs ∧ Below W.heap.size W w' := by
  have hu60 := run_eqnil
  have hu61 := run_eqsome
  have HR := Aside0.mk hR
  have HN := Aside0.mk hn
  clear hR hn
  go_enter Try.func50, Try.ntmps50
  go_wp2_with (first | ((with_reducible refine gate_dst (N := 5) rfl ?_); refine Kd.R_lit k66 _ 66 ?hg (N := 5) ?hd (xs := ([] : List (S66))) (inner := []) (ok := fun _ => True) (okp := fun _ => True) ?hr ?hp (fun _ hk => hk) trivial (Below.refl _ _) (Nat.le_refl _) (by simp) ?_; (case hd => rfl); (case hg => rfl); (case hr => first | (go_simp; done) | (go_simp; rfl)); (case hp => exact (Reps.none _ _)); intro v1 W1 ho hb hg_ hnew_; clear hg_ hnew_; have HO := Aside0.mk ho; have HB := Aside0.mk hb; clear ho hb) | ((with_reducible refine gate_builtin (b := .append) (xs := #[.tmp 5, .tmp 6]) rfl ?_); at_builtin; refine Kd.R_append_rows k66 (Rr := fun (x : S66) c => c = encC x) (w0 := W) W.heap.size rfl (.tmp 5) (.tmp 6) 60 66 (.agg #[(.int .i64 0), (.int .u32 0), (.int .i64 0), (.int .i64 0)]) 32 rfl Try.underlying60 info66 rfl (by decide) (by omega) v1 [] xs (some ad) n c (fun _ => True) (fun _ => False) rfl rfl ?aO ?aR ?aK (fun _ h => h.elim) ?aF HB.out ?aS ?aL ?_; (case aR => exact ReadsRow.imp_ HR.out HB.out (fun _ _ h => h)); (case aK => exact (fun x cs h => by subst h; exact k66_mkM _ _ _ x)); (case aF => exact (fun _ _ => trivial)); (case aO => exact HO.out); (case aS => exact HB.out.size); (case aL => have := HN.out; simp; omega); intro v2 W2 ho hb hg hat; have HO2 := Aside0.mk ho; have HB2 := Aside0.mk hb; clear ho hb hg hat))
  go_ret
  exact ⟨v2, rfl, HO2.out, HB2.out⟩
/-- What Cells answers. -/
def cellsF (L : List Rec) (k : Int) : List S66 × Int := match findR L k with
  | some r => (r.cs, 0)
  | none => ([], 2)
set_option maxHeartbeats 4000000 in
set_option maxRecDepth 100000 in
theorem Cells_calls (h : PM w m mm last L) (k : Int) : Calls Try.prog 19 #[.pointer (some ⟨m, 0, none⟩), .int .i64 k] w fun e w' => ∃ v, e = .returned (.tuple #[v, .int .i64 (cellsF L k).2]) ∧ Kd.R k66 66 w' w.heap.size (fun _ => True) v (cellsF L k).1 ∧ Below w.heap.size w w' := by
  obtain ⟨_, c1, _⟩ := h.cells
  generalize hA : cellsF L k = A
  obtain ⟨A1, A2⟩ := A
  cases hf : findR L k with
  | none =>
    have hl := look_no0 h hf
    have HF := Aside0.mk hf
    have H := Aside0.mk h
    have HA := Aside0.mk hA
    clear hf h hA
    go_enter Try.func19, Try.ntmps19
    go_wp2_with (first | (go_at_call 41; refine (alive_yes (PM.below H.out (by (repeat (first | (with_reducible exact Below.refl _ _) | (with_reducible assumption) | with_reducible apply below_alloc | with_reducible apply pw_below_drewN | with_reducible apply below_drew1))))).mono ?_; rintro e w' ⟨rfl, rfl⟩))
    go_ret2
    have ha := HA.out
    unfold cellsF at ha
    rw [HF.out] at ha
    cases ha
    exact ⟨_, rfl, Kd.R_nil _ _ _ _ _, by (repeat (first | (with_reducible exact Below.refl _ _) | (with_reducible assumption) | with_reducible apply below_alloc | with_reducible apply pw_below_drewN | with_reducible apply below_drew1))⟩
  | some r =>
    have hl := look_some0 h hf
    have hr := (find_mem hf).1
    obtain ⟨d0, _⟩ := h.rcells hr
    have hrr := row_reads (h.row r hr) (h.len r hr).2 0 r.cs.length (by omega)
    have hsub : sub r.cs 0 r.cs.length = r.cs := by simp [sub]
    rw [hsub] at hrr
    have HRR := Aside0.mk hrr
    have HLN := Aside0.mk (h.len r hr)
    have HF := Aside0.mk hf
    have H := Aside0.mk h
    have HA := Aside0.mk hA
    clear hf h hA hrr hsub
    go_enter Try.func19, Try.ntmps19
    go_wp2_with (first | (go_at_call 41; refine (alive_yes (PM.below H.out (by (repeat (first | (with_reducible exact Below.refl _ _) | (with_reducible assumption) | with_reducible apply below_alloc | with_reducible apply pw_below_drewN | with_reducible apply below_drew1))))).mono ?_; rintro e w' ⟨rfl, rfl⟩))
    go_at_call 50
    refine (Clone_calls _ _ _ _ _ (by simpa using HRR.out) HLN.out.2).mono ?_
    rintro e W1 ⟨v, rfl, hR, hB⟩
    have HR1 := Aside0.mk hR
    clear hR
    go_wp2_with (fail)
    go_ret2
    have ha := HA.out
    unfold cellsF at ha
    rw [HF.out] at ha
    cases ha
    exact ⟨v, rfl, HR1.out, by (repeat (first | (with_reducible exact Below.refl _ _) | (with_reducible assumption) | with_reducible apply below_alloc | with_reducible apply pw_below_drewN | with_reducible apply below_drew1))⟩
end Go.Proofs.Ythdnhfjodhjejaa.Ma
