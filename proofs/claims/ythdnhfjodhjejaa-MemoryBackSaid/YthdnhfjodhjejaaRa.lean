/- The document's memory in the world: its blocks in a list. No condition beyond those each theorem names. -/
import Derived.Test.YthdnhfjodhjejaaA3
import Derived.BigQuiet
import Derived.Deep.QuietTactic
namespace Go.Proofs.Ythdnhfjodhjejaa.Ma
open Go.RowKit Go.Proofs.Ythdnhfjodhjejaa.PMe Go.Proofs.YthdnhfjodhjejaaW.PrintWords Go.Proofs.YthdnhfjodhjejaaW.PrintLast Go.Proofs.YthdnhfjodhjejaaW.PrintMore
set_option linter.unusedVariables false
set_option linter.unusedSimpArgs false
/-- A block of the document's memory. -/
structure Blk where
  al : Int
  dead : Bool
  g : Nat
  cs : List S66
def Blk.sv (x : Blk) : Value := if x.dead then .slice none 0 0 else .slice (some ⟨x.g, 0, none⟩) x.cs.length x.cs.length
def Blk.enc (x : Blk) : List Value := [.int .i64 x.al, .bool x.dead, x.sv]
def Blk.fp (x : Blk) : List Nat := if x.dead then [] else [x.g]
def live (Bs : List Blk) : Nat := (Bs.filter fun x => !x.dead).length
def rfoot (r : Nat) (sv : Value) (Bs : List Blk) : List Nat := r :: (sv.ownBlock.toList ++ Bs.flatMap Blk.fp)
structure RM (w : World) (r : Nat) (sv : Value) (Bs : List Blk) : Prop where
  head : w.heap[r]? = some (.cells #[sv, .int .i64 (live Bs : Nat)] 72 (0, 0))
  own : w.ownsRow 0 181 3 sv Bs.length (Bs.flatMap Blk.enc)
  row : ∀ x ∈ Bs, x.dead = false → w.heap[x.g]? = some (.cells (rowC x.cs) 66 (0, 0))
  nodup : (rfoot r sv Bs).Nodup
  len : ∀ x ∈ Bs, x.dead = false → 1 ≤ x.cs.length ∧ x.cs.length ≤ 16384
  al : ∀ x ∈ Bs, x.al = 1 ∨ x.al = 2 ∨ x.al = 4
  few : live Bs ≤ 4096
  big : Bs.length ≤ 1759218604441
variable {w w' : World} {r : Nat} {sv : Value} {Bs : List Blk}
theorem flatB_get : ∀ (Bs : List Blk) (i j : Nat), j < 3 → (Bs.flatMap Blk.enc)[i * 3 + j]? = (Bs[i]?).bind fun c => (c.enc)[j]?
  | [], i, j, h => by simp
  | c :: cs, 0, j, h => by
    rw [List.flatMap_cons, List.getElem?_append_left (by simp [Blk.enc]; omega)]
    simp
  | c :: cs, i + 1, j, h => by
    rw [List.flatMap_cons, List.getElem?_append_right (by simp [Blk.enc]; omega)]
    have : (i + 1) * 3 + j - (c.enc).length = i * 3 + j := by simp [Blk.enc]; omega
    rw [this, flatB_get cs i j h]
    simp
theorem flatB_len (Bs : List Blk) : (Bs.flatMap Blk.enc).length = Bs.length * 3 := by
  induction Bs with
  | nil => rfl
  | cons c cs ih => simp [Blk.enc] at ih ⊢; omega
theorem RM.cells (h : RM w r sv Bs) : w.cell? ⟨r, 0, none⟩ = some sv ∧ w.cell? ⟨r, 1, none⟩ = some (.int .i64 (live Bs : Nat)) := by
  refine ⟨?_, ?_⟩ <;> (rw [cell_of_row _ _ _ _ _ _ h.head]; rfl)
theorem RM.form (h : RM w r sv Bs) : (sv = .slice none 0 0 ∧ Bs = []) ∨ ∃ hb cap cur, sv = .slice (some ⟨hb, 0, none⟩) Bs.length cap ∧ w.heap[hb]? = some (.cells cur 181 (0, 0)) ∧ Bs.length ≤ cap ∧ cap ≤ maxLen ∧ cur.size = cap * 3 ∧ cur.toList.take (Bs.length * 3) = Bs.flatMap Blk.enc := by
  rcases h.own.2 with ⟨h1, h2⟩ | ⟨g, cap, cur, h1, _, h2, h3⟩
  · exact .inl ⟨h1, List.eq_nil_of_length_eq_zero h2⟩
  · exact .inr ⟨g, cap, cur, h1, h2, h3⟩
theorem RM.slice (h : RM w r sv Bs) : ∃ A c, sv = .slice A Bs.length c := by
  rcases h.form with ⟨h1, h2⟩ | ⟨g, cap, cur, h1, _⟩
  · subst h2; exact ⟨_, _, h1⟩
  · exact ⟨_, _, h1⟩
/-- A block's cells. -/
theorem RM.at (h : RM w r sv Bs) {i : Nat} {x : Blk} (hi : Bs[i]? = some x) : ∃ hb cap cur, sv = .slice (some ⟨hb, 0, none⟩) Bs.length cap ∧ w.heap[hb]? = some (.cells cur 181 (0, 0)) ∧ Bs.length ≤ cap ∧ (w.cell? ⟨hb, i * 3, none⟩ = some (.int .i64 x.al) ∧ w.cell? ⟨hb, i * 3 + 1, none⟩ = some (.bool x.dead) ∧ w.cell? ⟨hb, i * 3 + 2, none⟩ = some x.sv) := by
  have hl := (List.getElem?_eq_some_iff.1 hi).1
  rcases h.form with ⟨_, h2⟩ | ⟨g, cap, cur, h1, h2, h3, _, h5, h4⟩
  · subst h2; simp at hl
  · have key : ∀ j u, j < 3 → (x.enc)[j]? = some u → w.cell? ⟨g, i * 3 + j, none⟩ = some u := by
      intro j u hj hu
      rw [cell_of_row _ _ _ _ _ _ h2]
      have hf := flatB_get Bs i j hj
      rw [hi, Option.bind_some, hu, ← h4, List.getElem?_take_of_lt (by omega)] at hf
      simpa using hf
    exact ⟨g, cap, cur, h1, h2, h3, key 0 _ (by omega) rfl, key 1 _ (by omega) rfl, key 2 _ (by omega) rfl⟩
theorem RM.ext {F : Nat → Prop} (h : RM w r sv Bs) (k : Ext F w w') (hF : ∀ i ∈ rfoot r sv Bs, ¬ F i) : RM w' r sv Bs := by
  have hr : r ∈ rfoot r sv Bs := by simp [rfoot]
  refine ⟨k.at h.head (hF r hr), ?_, fun x hx hd => k.at (h.row x hx hd) (hF _ ?_), h.nodup, h.len, h.al, h.few, h.big⟩
  · refine own_move h.own (fun q hq => ?_)
    obtain ⟨cells, hc⟩ := own_typed h.own q hq
    exact (k.at hc (hF q (by simp [rfoot, hq]))).trans hc.symm
  · simp only [rfoot, List.mem_cons, List.mem_append, List.mem_flatMap]
    exact .inr (.inr ⟨x, hx, by simp [Blk.fp, hd]⟩)
theorem RM.below (h : RM w r sv Bs) (k : Below w.heap.size w w') : RM w' r sv Bs := h.ext (Ext.of_below (F := fun _ => False) k) (fun _ _ f => f)
theorem RM.foot_lt (h : RM w r sv Bs) : ∀ i ∈ rfoot r sv Bs, i < w.heap.size := by
  intro i hi
  simp only [rfoot, List.mem_cons, List.mem_append, List.mem_flatMap] at hi
  rcases hi with rfl | hi | ⟨x, hx, hi⟩
  · exact blk_lt h.head
  · obtain ⟨cells, hc⟩ := own_typed h.own i (by simpa using hi)
    exact blk_lt hc
  · unfold Blk.fp at hi
    split at hi
    · cases hi
    · next hd => simp at hi; subst hi; exact blk_lt (h.row x hx (by simpa using hd))
/-- The living block of this number. -/
def livR (Bs : List Blk) (k : Int) : Option Blk := if 1 ≤ k then (Bs[(k - 1).toNat]?).bind fun x => if x.dead then none else some x else none
theorem livR_some {k : Int} {x : Blk} (h : livR Bs k = some x) : 1 ≤ k ∧ k ≤ Bs.length ∧ Bs[(k - 1).toNat]? = some x ∧ x.dead = false := by
  unfold livR at h
  split at h
  · next h1 =>
    obtain ⟨y, hy, h2⟩ := Option.bind_eq_some_iff.1 h
    split at h2
    · cases h2
    · next hd => cases h2; exact ⟨h1, by have := (List.getElem?_eq_some_iff.1 hy).1; omega, hy, by simpa using hd⟩
  · cases h
set_option maxHeartbeats 4000000 in
theorem Lives_calls (h : RM w r sv Bs) (k : Int) : Calls Try.prog 85 #[.pointer (some ⟨r, 0, none⟩), .int .i64 k] w fun e w' => e = .returned (.bool (livR Bs k).isSome) ∧ w = w' := by
  obtain ⟨d0, _⟩ := h.cells
  obtain ⟨A, c, hsv⟩ := h.slice
  have H := Aside0.mk h
  clear h
  generalize hA : (livR Bs k).isSome = A1
  have HA := Aside0.mk hA
  clear hA
  by_cases c1 : 1 ≤ k
  · by_cases c2 : k ≤ Bs.length
    · obtain ⟨K, rfl⟩ : ∃ K : Nat, k = (K : Int) + 1 := ⟨(k - 1).toNat, by omega⟩
      have hK : K < Bs.length := by omega
      obtain ⟨x, hx⟩ : ∃ x, Bs[K]? = some x := ⟨_, List.getElem?_eq_getElem hK⟩
      obtain ⟨hb, cap, cur, e1, e2, e3, e4, e5, e6⟩ := H.out.at hx
      have hm := H.out.big
      subst e1
      injection hsv with e7 _ e8
      subst e7 e8
      have HX := Aside0.mk hx
      have e6' := Aside0.mk (And.intro e4 (And.intro e5 e6))
      clear e4 e5 e6
      generalize hn : Bs.length = n at *
      clear hx c1 c2 e2 hn
      obtain ⟨e4, e5, e6⟩ := e6'.out
      have f1 : decide ((K : Int) + 1 ≥ 1) = true := by simp; omega
      have f2 : decide ((K : Int) + 1 ≤ (n : Int)) = true := by simp; omega
      go_enter Try.func85, Try.ntmps85
      go_wp2_with (fail)
      go_ret
      refine ⟨?_, rfl⟩
      rw [← HA.out]
      unfold livR
      rw [if_pos (by omega), show ((K : Int) + 1 - 1).toNat = K by omega, HX.out]
      cases hd : x.dead <;> simp [hd]
    · have f1 : decide (k ≥ 1) = true := by simp; omega
      have f2 : decide (k ≤ (Bs.length : Int)) = false := by simp; omega
      subst hsv
      have C2 := Aside0.mk c2
      have C1 := Aside0.mk c1
      clear c1 c2
      go_enter Try.func85, Try.ntmps85
      go_wp2_with (fail)
      go_ret
      refine ⟨?_, rfl⟩
      rw [← HA.out]
      unfold livR
      rw [if_pos C1.out, List.getElem?_eq_none (by have := C1.out; have := C2.out; omega)]
      rfl
  · have f1 : decide (k ≥ 1) = false := by simp; omega
    have C1 := Aside0.mk c1
    clear c1
    go_enter Try.func85, Try.ntmps85
    go_wp2_with (fail)
    go_ret
    refine ⟨?_, rfl⟩
    rw [← HA.out]
    unfold livR
    rw [if_neg (by have := C1.out; omega)]
    rfl
end Go.Proofs.Ythdnhfjodhjejaa.Ma
