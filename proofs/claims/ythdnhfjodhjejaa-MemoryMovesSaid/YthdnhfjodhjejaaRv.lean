/- Two pointers in their order (MemoryOrder), in plain Lean. No condition beyond those each theorem names. -/
import Derived.Test.YthdnhfjodhjejaaMn
import Derived.Test.YthdnhfjodhjejaaA3
namespace Go.Proofs.Ythdnhfjodhjejaa.Ma
open Go.RowKit
set_option linter.unusedVariables false
variable {L : List Rec}
theorem nm_no {op : Int} (h0 : 14 ≤ op) (h1 : op ≤ 19) : nmE op = false := by
  unfold nmE; simp; omega
theorem order_none {p q : V3} (hp : p.k = 2) (hq : q.k = 2) (hc : p.b ≠ q.b ∨ ofR L p = none ∨ ofR L q = none) {op : Int} (h0 : 16 ≤ op) (h1 : op ≤ 19) : binF L op p q = (V3.z, 3) := by
  unfold binF
  rw [nm_no (by omega) h1, if_neg (by decide), if_neg (by omega)]
  cases h2 : ofR L p with
  | none => rfl
  | some r =>
    simp only
    rw [if_neg (by omega)]
    cases h3 : ofR L q with
    | none => rfl
    | some s =>
      rcases hc with hc | hc | hc
      · simp only; unfold ptrsF; rw [if_neg (by omega), if_pos hc]
      · rw [h2] at hc; cases hc
      · rw [h3] at hc; cases hc
theorem order_some {p q : V3} (hp : p.k = 2) (hq : q.k = 2) (hb : p.b = q.b) {r s : Rec} (h2 : ofR L p = some r) (h3 : ofR L q = some s) :
    binF L 17 p q = truthV (decide (p.v < q.v)) ∧ binF L 19 p q = truthV (decide (p.v ≤ q.v)) ∧ binF L 16 p q = truthV (decide (p.v < q.v)) ∧ binF L 14 p q = truthV (p.v == q.v) := by
  have hn : ∀ op : Int, 14 ≤ op → op ≤ 19 → binF L op p q = ptrsF r s op p q := by
    intro op h0 h1
    unfold binF
    rw [nm_no h0 h1, if_neg (by decide), if_neg (by omega), h2]
    simp only
    rw [if_neg (by omega), h3]
  refine ⟨?_, ?_, ?_, ?_⟩ <;> rw [hn _ (by decide) (by decide)] <;> simp [ptrsF, hb]
/-- There and back (MemoryMoves): what q is, if the pointer may go there. -/
theorem moves_some {p : V3} {n : Int} (h0 : 0 ≤ n) (h1 : n < 4294967296) (hp0 : 0 ≤ p.v) (hp1 : p.v < 4294967296) (hp : p.k = 2) (hs : (binF L 1 p ⟨1, n, 0⟩).2 = 0) (hl : ∀ r ∈ L, r.cs.length < 4294967296) :
    ∃ r, ofR L p = some r ∧ (binF L 1 p ⟨1, n, 0⟩).1 = ⟨2, p.v + wint n, p.b⟩ ∧ 0 ≤ p.v + wint n ∧ p.v + wint n ≤ r.cs.length ∧ ofR L ⟨2, p.v + wint n, p.b⟩ = some r := by
  have e : binF L 1 p ⟨1, n, 0⟩ = match ofR L p with | none => (V3.z, 3) | some r => movedF r p (wint n) := by
    unfold binF
    rw [show nmE 1 = false by decide, if_neg (by decide), if_neg (by omega)]
    cases ofR L p with
    | none => rfl
    | some r =>
      simp only [if_true]
      unfold mixedF pick
      rw [if_neg (by omega : ¬p.k = 1), if_pos rfl]
  rw [e] at hs ⊢
  cases h2 : ofR L p with
  | none => rw [h2] at hs; simp at hs
  | some r =>
    rw [h2] at hs
    simp only at hs ⊢
    unfold movedF at hs ⊢
    by_cases c : p.v + wint n < 0 ∨ p.v + wint n > r.cs.length
    · rw [if_pos c] at hs; simp at hs
    · rw [if_neg c, hp]
      refine ⟨r, rfl, rfl, by omega, by omega, ?_⟩
      unfold ofR at h2 ⊢
      rw [if_pos hp] at h2
      rw [if_pos rfl]
      cases hf : findR L p.b with
      | none => rw [hf] at h2; cases h2
      | some r' =>
        rw [hf] at h2
        simp only [Option.bind_some] at h2 ⊢
        split at h2
        · cases h2; rw [if_pos (by omega)]
        · cases h2
/-- There and back (MemoryMoves): what the rest answers. -/
theorem moves_rest {p : V3} {n : Int} (h0 : 0 ≤ n) (h1 : n < 4294967296) (hp0 : 0 ≤ p.v) (hp : p.k = 2) {r : Rec} (h2 : ofR L p = some r) (h3 : ofR L ⟨2, p.v + wint n, p.b⟩ = some r) :
    binF L 2 ⟨2, p.v + wint n, p.b⟩ ⟨1, n, 0⟩ = (p, 0) ∧ binF L 2 ⟨2, p.v + wint n, p.b⟩ p = (⟨1, n, 0⟩, 0) ∧ binF L 14 p ⟨2, p.v + wint n, p.b⟩ = truthV (n == 0) ∧
    binF L 15 p ⟨2, p.v + wint n, p.b⟩ = truthV (!(n == 0)) ∧ binF L 16 p ⟨2, p.v + wint n, p.b⟩ = truthV (decide (0 < wint n)) ∧ truthF L ⟨2, p.v + wint n, p.b⟩ = (true, 0) := by
  obtain ⟨pk, pv, pb⟩ := p
  simp only at hp hp0 h2 h3 ⊢
  subst hp
  have hle : pv ≤ r.cs.length := (of_mem h2).2.2.2
  have hw : wint n % 4294967296 = n := by unfold wint wrap64 wrap32; omega
  have hw0 : wint n = 0 ↔ n = 0 := by unfold wint wrap64 wrap32; omega
  obtain ⟨d, hd⟩ : ∃ d, wint n = d := ⟨_, rfl⟩
  rw [hd] at hw hw0 h3 ⊢
  have hn : ∀ op : Int, nmE op = false → binF L op ⟨2, pv, pb⟩ ⟨2, pv + d, pb⟩ = ptrsF r r op ⟨2, pv, pb⟩ ⟨2, pv + d, pb⟩ := by
    intro op h
    unfold binF
    rw [h, if_neg (by decide), if_neg (by simp), h2]
    simp only
    rw [if_neg (by simp), h3]
  have he : (pv == pv + d) = (n == 0) := by
    by_cases c : n = 0
    · have := hw0.2 c; simp [c, this]
    · have : d ≠ 0 := fun e => c (hw0.1 e)
      have h4 : ¬ pv = pv + d := by omega
      rw [beq_eq_false_iff_ne.2 h4, beq_eq_false_iff_ne.2 c]
  refine ⟨?_, ?_, ?_, ?_, ?_, ?_⟩
  · unfold binF
    rw [show nmE 2 = false by decide, if_neg (by decide), if_neg (by simp), h3]
    simp only [if_true]
    unfold mixedF pick
    rw [if_neg (by decide), if_pos (by simp), if_neg (by simp)]
    unfold movedF
    rw [hd]
    rw [if_neg (by simp only; omega)]
    simp; omega
  · unfold binF
    rw [show nmE 2 = false by decide, if_neg (by decide), if_neg (by simp), h3]
    simp only
    rw [if_neg (by simp), h2]
    simp only [ptrsF]
    rw [if_neg (by decide), if_neg (by simp), if_pos (by decide), show pv + d - pv = d by omega, hw]
  · rw [hn _ (by decide)]; simp [ptrsF, he]
  · rw [hn _ (by decide)]; simp [ptrsF, he]
  · rw [hn _ (by decide)]
    simp only [ptrsF]
    rw [if_neg (by decide), if_neg (by simp), if_neg (by decide), if_pos (by decide)]
    congr 1
    apply decide_eq_decide.2
    omega
  · unfold truthF; rw [if_neg (by simp), h3]; rfl
end Go.Proofs.Ythdnhfjodhjejaa.Ma
