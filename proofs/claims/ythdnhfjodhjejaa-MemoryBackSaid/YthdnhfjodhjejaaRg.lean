/- The document's memory: bytes of a block are written: what stands in the world. No condition beyond those each theorem names. -/
import Derived.Test.YthdnhfjodhjejaaRc
namespace Go.Proofs.Ythdnhfjodhjejaa.Ma
open Go.RowKit Go.Proofs.Ythdnhfjodhjejaa.PMe Go.Proofs.YthdnhfjodhjejaaW.PrintWords Go.Proofs.YthdnhfjodhjejaaW.PrintLast Go.Proofs.YthdnhfjodhjejaaW.PrintMore
set_option linter.unusedVariables false
set_option linter.unusedSimpArgs false
variable {w w' : World} {r : Nat} {sv : Value} {Bs : List Blk}
theorem flatMap_set_same {α β : Type} {f : α → List β} : ∀ {L : List α} {K : Nat} {y y' : α}, L[K]? = some y → f y' = f y → (L.set K y').flatMap f = L.flatMap f
  | [], _, _, _, h, _ => by simp at h
  | x :: L, 0, y, y', h, e => by simp at h; subst h; simp [e]
  | x :: L, K + 1, y, y', h, e => by
    rw [List.set_cons_succ, List.flatMap_cons, List.flatMap_cons, flatMap_set_same (by simpa using h) e]
theorem flat_ne_at {α : Type} {f : α → List Nat} : ∀ {L : List α} {i j : Nat} {p q : α}, (L.flatMap f).Nodup → L[i]? = some p → L[j]? = some q → i ≠ j → ∀ x ∈ f p, x ∉ f q
  | [], _, _, _, _, _, h, _, _ => by simp at h
  | y :: L, i, j, p, q, h, hp, hq, ne => by
    rw [List.flatMap_cons, List.nodup_append] at h
    intro x hx hx'
    match i, j with
    | 0, 0 => exact ne rfl
    | 0, j + 1 =>
      simp at hp hq; subst hp
      exact h.2.2 x hx x (List.mem_flatMap.2 ⟨q, List.mem_of_getElem? hq, hx'⟩) rfl
    | i + 1, 0 =>
      simp at hp hq; subst hq
      exact h.2.2 x hx' x (List.mem_flatMap.2 ⟨p, List.mem_of_getElem? hp, hx⟩) rfl
    | i + 1, j + 1 => exact flat_ne_at h.2.1 (by simpa using hp) (by simpa using hq) (by omega) x hx hx'
theorem live_set {y y' : Blk} : ∀ {Bs : List Blk} {K : Nat}, Bs[K]? = some y → y'.dead = y.dead → live (Bs.set K y') = live Bs
  | [], _, h, _ => by simp at h
  | x :: L, 0, h, e => by simp at h; subst h; simp [live, List.filter_cons, e]; split <;> rfl
  | x :: L, K + 1, h, e => by
    have ih := live_set (y := y) (y' := y') (Bs := L) (K := K) (by simpa using h) e
    unfold live at ih ⊢
    rw [List.set_cons_succ, List.filter_cons, List.filter_cons]
    split
    · rw [List.length_cons, List.length_cons, ih]
    · exact ih
def wr (y : Blk) (cs : List S66) : Blk := { y with cs := cs }
theorem RM.upd (h : RM w r sv Bs) {K : Nat} {y : Blk} (hK : Bs[K]? = some y) (hd : y.dead = false) {cs : List S66} (hl : cs.length = y.cs.length) (hx : Ext (fun i => i = y.g) w w') (hg : w'.heap[y.g]? = some (.cells (rowC cs) 66 (0, 0))) : RM w' r sv (Bs.set K (wr y cs)) := by
  have hm := List.mem_of_getElem? hK
  have hfp : (wr y cs).fp = y.fp := rfl
  have henc : (wr y cs).enc = y.enc := by simp [wr, Blk.enc, Blk.sv, hl]
  have hgf : y.g ∈ Bs.flatMap Blk.fp := List.mem_flatMap.2 ⟨y, hm, by simp [Blk.fp, hd]⟩
  have hnd := h.nodup
  unfold rfoot at hnd
  rw [List.nodup_cons, List.nodup_append] at hnd
  have hr : r ≠ y.g := fun e => hnd.1 (List.mem_append.2 (.inr (e ▸ hgf)))
  have hs : ∀ q, sv.ownBlock = some q → q ≠ y.g := fun q hq e => hnd.2.2.2 q (by simp [hq]) y.g hgf e
  have key : ∀ x ∈ Bs.set K (wr y cs), x = wr y cs ∨ ∃ i, i ≠ K ∧ Bs[i]? = some x := by
    intro x hxm
    obtain ⟨i, hi⟩ := List.getElem?_of_mem hxm
    by_cases e : K = i
    · subst e
      rw [List.getElem?_set_self (List.getElem?_eq_some_iff.1 hK).1] at hi
      exact .inl (Option.some.inj hi).symm
    · rw [List.getElem?_set_ne e] at hi
      exact .inr ⟨i, fun e' => e e'.symm, hi⟩
  refine ⟨?_, ?_, ?_, ?_, ?_, ?_, ?_, ?_⟩
  · rw [live_set (y := y) (y' := wr y cs) hK rfl]; exact hx.at h.head hr
  · rw [List.length_set, flatMap_set_same hK henc]
    refine own_move h.own (fun q hq => ?_)
    obtain ⟨cells, hc⟩ := own_typed h.own q hq
    exact (hx.at hc (hs q hq)).trans hc.symm
  · intro x hxm hxd
    rcases key x hxm with rfl | ⟨i, hi, hix⟩
    · exact hg
    · refine hx.at (h.row x (List.mem_of_getElem? hix) hxd) (fun e => ?_)
      exact flat_ne_at hnd.2.2.1 hix hK hi x.g (by simp [Blk.fp, hxd]) (by rw [e]; simp [Blk.fp, hd])
  · unfold rfoot; rw [flatMap_set_same hK hfp]; exact h.nodup
  · intro x hxm hxd
    rcases key x hxm with rfl | ⟨i, hi, hix⟩
    · have := h.len y hm hd; simp only [wr]; omega
    · exact h.len x (List.mem_of_getElem? hix) hxd
  · intro x hxm
    rcases key x hxm with rfl | ⟨i, hi, hix⟩
    · exact h.al y hm
    · exact h.al x (List.mem_of_getElem? hix)
  · rw [live_set (y := y) (y' := wr y cs) hK rfl]; exact h.few
  · rw [List.length_set]; exact h.big
/-- What an action does to the document's memory and the world. -/
structure RDid (w w' : World) (r : Nat) (sv : Value) (Bs : List Blk) (sv' : Value) (Bs' : List Blk) : Prop where
  rm : RM w' r sv' Bs'
  ext : Ext (fun i => i ∈ rfoot r sv Bs) w w'
  new : ∀ i ∈ rfoot r sv' Bs', i ∈ rfoot r sv Bs ∨ w.heap.size ≤ i
theorem RDid.same (h : RM w r sv Bs) (k : Below w.heap.size w w') : RDid w w' r sv Bs sv Bs := ⟨h.below k, Ext.of_below k, fun _ h => .inl h⟩
theorem RDid.pre {W : World} {sv' : Value} {Bs' : List Blk} (k : Below w.heap.size w W) (d : RDid W w' r sv Bs sv' Bs') : RDid w w' r sv Bs sv' Bs' :=
  ⟨d.rm, (Ext.of_below (F := fun i => i ∈ rfoot r sv Bs) k).trans d.ext (fun _ _ h => h), fun i hi => (d.new i hi).imp id (fun h => Nat.le_trans k.size h)⟩
theorem RDid.upd (h : RM w r sv Bs) {K : Nat} {y : Blk} (hK : Bs[K]? = some y) (hd : y.dead = false) {cs : List S66} (hl : cs.length = y.cs.length) (hx : Ext (fun i => i = y.g) w w') (hg : w'.heap[y.g]? = some (.cells (rowC cs) 66 (0, 0))) : RDid w w' r sv Bs sv (Bs.set K (wr y cs)) :=
  ⟨h.upd hK hd hl hx hg, hx.mono (fun i e => by subst e; simp only [rfoot, List.mem_cons, List.mem_append, List.mem_flatMap]; exact .inr (.inr ⟨y, List.mem_of_getElem? hK, by simp [Blk.fp, hd]⟩)), fun i hi => .inl (by unfold rfoot at hi ⊢; rwa [flatMap_set_same (y := y) hK (by rfl)] at hi)⟩
theorem RDid.then_below {W : World} {sv' : Value} {Bs' : List Blk} (d : RDid w W r sv Bs sv' Bs') (k : Below W.heap.size W w') : RDid w w' r sv Bs sv' Bs' :=
  ⟨d.rm.below k, d.ext.then_below k, d.new⟩
/-- The block of this number has other bytes. -/
def updB (Bs : List Blk) (k : Int) (cs : List S66) : List Blk := match Bs[(k - 1).toNat]? with
  | some y => Bs.set (k - 1).toNat (wr y cs)
  | none => Bs
theorem updB_at {K : Nat} {y : Blk} (hK : Bs[K]? = some y) (cs : List S66) : updB Bs ((K : Int) + 1) cs = Bs.set K (wr y cs) := by
  unfold updB
  rw [show ((K : Int) + 1 - 1).toNat = K by omega, hK]
end Go.Proofs.Ythdnhfjodhjejaa.Ma
