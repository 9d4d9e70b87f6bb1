/- The pure statement of FieldBack: what is written into a bit-field is read again, and nothing else turns. No condition. -/
import Derived.Test.YtmkhfedemoccoaaPFdx6
import Derived.Test.YtmkhfedemoccoaaLk
import Derived.Test.YtmkhfedemoccoaaLh
namespace Go.Proofs.Ytmkhfedemoccoaa.Pure
open Go.RowKit Go.Proofs.Ytmkhfedemoccoaa.PFd Go.Proofs.YtmkhfedemoccoaaW.PrintWords Go.Proofs.YtmkhfedemoccoaaW.PrintMore Go.Proofs.Ytmkhfedemoccoaa.Lv Go.Proofs.Ytmkhfedemoccoaa.Lf
set_option linter.unusedVariables false

/-- A kind is one of the eleven of integers, or none of them. -/
theorem kindB (o : Int) : (o = 2 ∨ o = 3 ∨ o = 4 ∨ o = 5 ∨ o = 6 ∨ o = 7 ∨ o = 8 ∨ o = 9 ∨ o = 10 ∨ o = 11 ∨ o = 12 ∨ o = 13) ∨
    (o ≠ 2 ∧ o ≠ 3 ∧ o ≠ 4 ∧ o ≠ 5 ∧ o ≠ 6 ∧ o ≠ 7 ∧ o ≠ 8 ∧ o ≠ 9 ∧ o ≠ 10 ∧ o ≠ 11 ∧ o ≠ 12 ∧ o ≠ 13) := by omega
theorem widthB (o : Int) : ∃ w : Nat, word_Width.f 20 o = some (w : Int) ∧ (w = 0 ∨ w = 1 ∨ w = 2 ∨ w = 4) ∧ (o = 2 → w = 1) := by
  rcases kindB o with (rfl | rfl | rfl | rfl | rfl | rfl | rfl | rfl | rfl | rfl | rfl | rfl) | ⟨h2, h3, h4, h5, h6, h7, h8, h9, h10, h11, h12, h13⟩
  · exact ⟨1, by decide +kernel, by decide, by decide⟩
  · exact ⟨1, by decide +kernel, by decide, by decide⟩
  · exact ⟨1, by decide +kernel, by decide, by decide⟩
  · exact ⟨1, by decide +kernel, by decide, by decide⟩
  · exact ⟨2, by decide +kernel, by decide, by decide⟩
  · exact ⟨2, by decide +kernel, by decide, by decide⟩
  · exact ⟨4, by decide +kernel, by decide, by decide⟩
  · exact ⟨4, by decide +kernel, by decide, by decide⟩
  · exact ⟨4, by decide +kernel, by decide, by decide⟩
  · exact ⟨4, by decide +kernel, by decide, by decide⟩
  · exact ⟨4, by decide +kernel, by decide, by decide⟩
  · exact ⟨4, by decide +kernel, by decide, by decide⟩
  · refine ⟨0, ?_, by decide, fun h => absurd h h2⟩
    simp [word_Width.f, word_Width.j0, word_Width.j1, h2, h3, h4, h5, h6, h7, h8, h9, h10, h11, h12, h13]
def mostv (o : Int) (w : Nat) : Int := if o < 2 ∨ 12 < o then 0 else if o = 2 then 1 else 8 * (w : Int)
theorem mostB (o : Int) (w : Nat) (hw : word_Width.f 20 o = some (w : Int)) (hw4 : w ≤ 4) : field_most.f 21 o = some (mostv o w) := by
  unfold field_most.f mostv
  by_cases h1 : o < 2
  · simp [field_most.j0, h1]
  · rw [if_neg h1]
    by_cases h2 : o > 12
    · simp [field_most.j0, h2]
    · have hd : decide (o > 12) = false := decide_eq_false h2
      rw [hd]
      by_cases h3 : o = 2
      · subst h3; simp [field_most.j0]
      · have e : wrap64 (8 * (w : Int)) = 8 * w := by unfold wrap64; omega
        simp [field_most.j0, h3, hw, e, show ¬ (o < 2 ∨ 12 < o) by omega]
theorem signedB (o : Int) : ∃ s, word_Signed.f o = some s ∧ (o = 2 → s = false) := by
  unfold word_Signed.f
  by_cases h2 : o = 2
  · subst h2; exact ⟨false, by decide, by simp⟩
  · repeat' split
    all_goals exact ⟨_, rfl, fun h => absurd h h2⟩
/-- When 'right' says yes. -/
theorem rightB (p0 p1 p2 p3 p4 o : Int) (w : Nat) (hw : word_Width.f 20 o = some (w : Int)) (hw4 : w ≤ 4) (b3 : -9223372036854775808 ≤ p3 ∧ p3 < 9223372036854775808) :
    ∃ ok, field_right.f 21 p0 p1 p2 p3 p4 o = some ok ∧ (ok = true → 2 ≤ o ∧ o ≤ 12 ∧ 0 ≤ p2 ∧ 0 ≤ p3 ∧ 1 ≤ p4 ∧ p4 ≤ 8 * w ∧ p3 ≤ 8 * w - p4) := by
  have hw' := at_rounds (g := fun k => word_Width.f k o) (fun k => word_Width.mono _ k) (show 20 ≤ 21 by omega) hw
  have e : wrap64 (8 * (w : Int)) = 8 * w := by unfold wrap64; omega
  unfold field_right.f
  rw [hw', mostB o w hw hw4]
  simp only [Option.bind_some, e]
  by_cases c0 : mostv o w > 0
  · rw [if_pos c0]
    have ho : 2 ≤ o ∧ o ≤ 12 := by
      unfold mostv at c0
      by_cases h : o < 2 ∨ 12 < o
      · rw [if_pos h] at c0; omega
      · omega
    by_cases c1 : p2 ≥ 0
    · rw [if_pos c1]
      by_cases c2 : p3 ≥ 0
      · rw [if_pos c2]
        by_cases c3 : p4 ≥ 1
        · rw [if_pos c3]
          by_cases c4 : p4 ≤ 8 * w
          · rw [if_pos c4]
            refine ⟨_, rfl, fun h => ?_⟩
            have h' := of_decide_eq_true h
            unfold wrap64 at h'
            omega
          · rw [if_neg c4]; exact ⟨_, rfl, fun h => by cases h⟩
        · rw [if_neg c3]; exact ⟨_, rfl, fun h => by cases h⟩
      · rw [if_neg c2]; exact ⟨_, rfl, fun h => by cases h⟩
    · rw [if_neg c1]; exact ⟨_, rfl, fun h => by cases h⟩
  · rw [if_neg c0]; exact ⟨_, rfl, fun h => by cases h⟩
/-- What 'Write' puts in, by the kind. -/
def kept (o : Int) (X : BitVec 32) : BitVec 32 := if o = 2 then bit (X != 0#32) else X
theorem convertB (k : Nat) (hk : 20 ≤ k) (X : BitVec 32) : word_Convert.f k 2 (back X) = some (back (kept 2 X)) := by
  have hw := at_rounds (g := fun k => word_Width.f k 2) (fun k => word_Width.mono _ k) hk (show word_Width.f 20 2 = some 1 by decide +kernel)
  unfold word_Convert.f kept
  rw [hw, Option.bind_some, if_pos rfl, if_pos rfl]
  by_cases h : X = 0#32
  · subst h; decide
  · have h1 : (X != 0#32) = true := bne_iff_ne.mpr h
    have h2 : (back X != 0) = true := bne_iff_ne.mpr fun e => h (back_inj (A := X) (B := 0#32) e)
    rw [h1, h2]; decide
theorem keptB (k : Nat) (hk : 20 ≤ k) (o : Int) (X : BitVec 32) : (if o = 2 then word_Convert.f k o (back X) else some (back X)) = some (back (kept o X)) := by
  by_cases h : o = 2
  · subst h; rw [if_pos rfl]; exact convertB k hk X
  · rw [if_neg h]; unfold kept; rw [if_neg h]

/-- A place where a field of a kind may lie. -/
structure Lies (l : List Int) (p0 p1 : Int) (off b n : Nat) (o : Int) (w : Nat) (s : Bool) : Prop where
  width : word_Width.f 20 o = some (w : Int)
  sgn : word_Signed.f o = some s
  bool : o = 2 → w = 1 ∧ s = false
  ws : w = 1 ∨ w = 2 ∨ w = 4
  right : field_right.f 21 p0 p1 off b n o = some true
  ks : 2 ≤ o ∧ o ≤ 12
  n1 : 1 ≤ n
  fits : b + n ≤ 8 * w
  inl : off + w ≤ l.length
  small : l.length < 140737488355328
variable {l : List Int} {p0 p1 : Int} {off b n : Nat} {o : Int} {w : Nat} {s : Bool}
theorem Lies.w4 (h : Lies l p0 p1 off b n o w s) : w ≤ 4 := by rcases h.ws with h | h | h <;> omega
theorem Lies.other (h : Lies l p0 p1 off b n o w s) {l' : List Int} (e : l'.length = l.length) : Lies l' p0 p1 off b n o w s :=
  ⟨h.width, h.sgn, h.bool, h.ws, h.right, h.ks, h.n1, h.fits, by rw [e]; exact h.inl, by rw [e]; exact h.small⟩
theorem Lies.fits32 (h : Lies l p0 p1 off b n o w s) : b + n ≤ 32 := by have := h.fits; have := h.w4; omega
theorem Lies.write (h : Lies l p0 p1 off b n o w s) (hl : Bytes8 l) (X : BitVec 32) (k : Nat) (hk : 30 ≤ k) :
    field_Write.f k l p0 p1 off b n o (back X) = some (spliced l off w (bvF (putf (unitB l off w) (kept o X) b n)), 0) := by
  have hw := at_rounds (g := fun k => word_Width.f k o) (fun k => word_Width.mono _ k) (show 20 ≤ k by omega) h.width
  have hr := at_rounds (g := fun k => field_right.f k p0 p1 off b n o) (fun k => field_right.mono _ _ _ _ _ _ k) (show 21 ≤ k by omega) h.right
  have hb := fun Y => at_rounds (g := fun k => word_Bytes.f k (back Y) w) (fun k => word_Bytes.mono _ _ k) (show 20 ≤ k by omega) (bytes_v Y w h.ws)
  have h1 := h.inl
  have h2 := h.small
  have h3 := h.ws
  unfold field_Write.f field_Write.g field_unit.g
  rw [keptB k (by omega) o X, Option.bind_some, hw, Option.bind_some, hr, Option.bind_some]
  rw [if_pos (by omega), if_pos ⟨rfl, by omega, by omega⟩, if_pos (by omega)]
  simp only [Int.toNat_natCast]
  have hp := put_yes (unitB l off w) (kept o X) 0#32 b n h.n1 h.fits32
  rw [show back 0#32 = 0 from rfl] at hp
  rw [num_v l off hl w h.w4, hp]
  simp only [Option.bind_some, if_true]
  rw [hb, Option.bind_some, if_pos (by simp)]
  rfl
theorem Lies.read (h : Lies l p0 p1 off b n o w s) (hl : Bytes8 l) (k : Nat) (hk : 30 ≤ k) :
    field_Read.f k l p0 p1 off b n o = some (back (bvF (ext (unitB l off w >>> b) n s)), 0) := by
  have hw := at_rounds (g := fun k => word_Width.f k o) (fun k => word_Width.mono _ k) (show 20 ≤ k by omega) h.width
  have hr := at_rounds (g := fun k => field_right.f k p0 p1 off b n o) (fun k => field_right.mono _ _ _ _ _ _ k) (show 21 ≤ k by omega) h.right
  have hb := fun Y => at_rounds (g := fun k => word_Bytes.f k (back Y) w) (fun k => word_Bytes.mono _ _ k) (show 20 ≤ k by omega) (bytes_v Y w h.ws)
  have h1 := h.inl
  have h2 := h.small
  have h3 := h.ws
  unfold field_Read.f field_Read.g
  rw [hw, Option.bind_some, hr, Option.bind_some]
  rw [if_pos (by omega), if_pos ⟨rfl, by omega, by omega⟩, if_pos (by omega), h.sgn]
  simp only [Int.toNat_natCast, Option.bind_some]
  have hall : (BitVec.allOnes 32) &&& mask b n = mask b n := ext_get fun i hi => by simp only [BitVec.getLsbD_and, BitVec.getLsbD_allOnes, hi, decide_true, Bool.true_and]
  have hg := get_yes (unitB l off w) (BitVec.allOnes 32) b n s h.n1 h.fits32
  rw [if_pos hall, show back (BitVec.allOnes 32) = 4294967295 by decide] at hg
  rw [num_v l off hl w h.w4, hg]
  simp only [Option.bind_some, if_true]
  rw [hb, Option.bind_some, if_pos (by simp)]
/-- Where it doesn't lie, 'Write' refuses. -/
theorem write_no (l : List Int) (p0 p1 p2 p3 p4 o x : Int) (w : Nat) (ok : Bool) (hw : word_Width.f 20 o = some (w : Int)) (hws : w = 0 ∨ w = 1 ∨ w = 2 ∨ w = 4) (hr : field_right.f 21 p0 p1 p2 p3 p4 o = some ok)
    (hn : ¬ (ok = true ∧ (w : Int) ≤ l.length ∧ p2 ≤ (l.length : Int) - w)) (hx : 0 ≤ x ∧ x < 4294967296) (hs : l.length < 140737488355328) (k : Nat) (hk : 30 ≤ k) : field_Write.f k l p0 p1 p2 p3 p4 o x = some ([], 80) := by
  have hw' := at_rounds (g := fun k => word_Width.f k o) (fun k => word_Width.mono _ k) (show 20 ≤ k by omega) hw
  have hr' := at_rounds (g := fun k => field_right.f k p0 p1 p2 p3 p4 o) (fun k => field_right.mono _ _ _ _ _ _ k) (show 21 ≤ k by omega) hr
  obtain ⟨X, rfl⟩ := is_back x hx.1 hx.2
  unfold field_Write.f field_Write.g field_unit.g
  rw [keptB k (by omega) o X, Option.bind_some, hw', Option.bind_some, hr', Option.bind_some]
  rw [if_pos (by omega), if_neg hn]
theorem put_high (h : Lies l p0 p1 off b n o w s) (X : BitVec 32) (i : Nat) (hi : 8 * w ≤ i) : (bvF (putf (unitB l off w) X b n)).getLsbD i = false := by
  have h1 := h.fits
  rw [bvF_get]
  unfold putf
  rw [if_neg (by omega), unitB_get _ _ _ _ h.w4]
  simp [show ¬ i < 8 * w by omega]
theorem out_in1 (V X : BitVec 32) (b n : Nat) (s : Bool) (h1 : 1 ≤ n) (hbn : b + n ≤ 32) : bvF (ext (bvF (putf V X b n) >>> b) n s) = bvF (ext X n s) := ext_get fun i hi => by
  have key : ∀ q, q < n → (bvF (putf V X b n) >>> b).getLsbD q = X.getLsbD q := by
    intro q hq
    simp only [BitVec.getLsbD_ushiftRight, bvF_get, putf, if_pos (show b ≤ b + q ∧ b + q < b + n by omega), show b + q < 32 by omega, show b + q - b = q by omega]
    simp
  simp only [bvF_get, ext, hi]
  by_cases c : i < n
  · simp [c, key i c]
  · simp [c, key (n - 1) (by omega)]
/-- What 'Value' answers. -/
theorem Lies.value (h : Lies l p0 p1 off b n o w s) (X : BitVec 32) (k : Nat) (hk : 40 ≤ k) :
    field_Value.f k o n (back X) = some (0, 80) ∨ field_Value.f k o n (back X) = some (back (bvF (ext (kept o X) n s)), 0) := by
  have hm := at_rounds (g := fun k => field_most.f k o) (fun k => field_most.mono _ k) (show 21 ≤ k by omega) (mostB o w h.width h.w4)
  have h1 := h.n1
  have h2 := h.ks
  obtain ⟨k, rfl⟩ : ∃ m, k = m + 1 := ⟨k - 1, by omega⟩
  unfold field_Value.f
  rw [if_neg (by omega), hm, Option.bind_some, mostv, if_neg (by omega)]
  by_cases c : o = 2
  · subst c
    obtain ⟨hw1, hs⟩ := h.bool rfl
    rw [if_pos rfl]
    by_cases c2 : n = 1
    · right
      subst c2
      have hd : decide (((1 : Nat) : Int) > 1) = false := by decide
      rw [hd]
      simp only [field_Value.j0, if_true]
      rw [if_neg (by decide), convertB k (by omega) X, Option.bind_some]
      congr 3
      subst hs
      refine ext_get fun i hi => ?_
      rw [bvF_get]
      unfold ext kept
      rw [if_pos rfl, bit_get]
      by_cases c3 : i = 0
      · subst c3; simp [bit_get]
      · simp [c3, show ¬ i < 1 by omega]
    · left
      have hd : decide ((n : Int) > 1) = true := decide_eq_true (by omega)
      rw [hd]
      simp only [field_Value.j0, if_true]
  · right
    have h3 := h.fits
    rw [if_neg c]
    have hd : decide ((n : Int) > 8 * (w : Int)) = false := decide_eq_false (by omega)
    rw [hd]
    simp only [field_Value.j0]
    rw [if_neg (by decide), if_neg c, h.sgn, Option.bind_some, sized_v X n s h1 (by have := h.fits32; omega), Option.bind_some]
    unfold kept
    rw [if_neg c]
/-- Taken out and put in again: as it was. -/
theorem Lies.again (h : Lies l p0 p1 off b n o w s) (hn : o = 2 → n = 1) (V : BitVec 32) : bvF (putf V (kept o (bvF (ext (V >>> b) n s))) b n) = V := ext_get fun i hi => by
  have h1 := h.fits32
  rw [bvF_get]
  unfold putf
  by_cases c : b ≤ i ∧ i < b + n
  · rw [if_pos c]
    have key : (bvF (ext (V >>> b) n s)).getLsbD (i - b) = V.getLsbD i := by
      rw [bvF_get]
      unfold ext
      rw [if_pos (by omega), BitVec.getLsbD_ushiftRight, show b + (i - b) = i by omega]
      simp [show i - b < 32 by omega]
    unfold kept
    by_cases c2 : o = 2
    · obtain ⟨_, hs⟩ := h.bool c2
      have hn1 := hn c2
      subst hs hn1
      rw [if_pos c2, bit_get]
      have hib : i = b := by omega
      subst hib
      rw [Nat.sub_self] at key ⊢
      cases hv : V.getLsbD i with
      | false =>
        have hz : bvF (ext (V >>> i) 1 false) = 0#32 := ext_get fun q hq => by
          rw [bvF_get]
          unfold ext
          by_cases c3 : q < 1
          · have : q = 0 := by omega
            subst this
            simp [hv]
          · simp [c3]
        rw [hz]; simp
      | true =>
        have hz : (bvF (ext (V >>> i) 1 false) != 0#32) = true := by
          rw [bne_iff_ne]
          intro e
          rw [e, hv] at key
          simp at key
        rw [hz]; simp [hi]
    · rw [if_neg c2, key]; simp [hi]
  · rw [if_neg c]; simp [hi]
theorem same_from (l : List Int) (hl : l.length < 9223372036854775807) (d : Nat) : ∀ (k : Nat) (i : Int), 0 ≤ i → i ≤ l.length → (l.length : Int) - i = d → d < k → mortiseref08_Bytes.l0 k l l i = some true := by
  induction d with
  | zero =>
    intro k i h0 h1 hd hk
    obtain ⟨k, rfl⟩ : ∃ m, k = m + 1 := ⟨k - 1, by omega⟩
    simp only [mortiseref08_Bytes.l0]; rw [if_neg (by omega)]
  | succ d ih =>
    intro k i h0 h1 hd hk
    obtain ⟨k, rfl⟩ : ∃ m, k = m + 1 := ⟨k - 1, by omega⟩
    have hw : wrap64 (i + 1) = i + 1 := by unfold wrap64; omega
    simp only [mortiseref08_Bytes.l0]
    rw [if_pos (by omega), if_pos h0, hw, if_true]
    exact (if_pos (by omega)).trans (ih k (i + 1) (by omega) (by omega) (by omega) (by omega))
theorem same_self (l : List Int) (hl : l.length < 9223372036854775807) (k : Nat) (hk : l.length < k) : mortiseref08_Bytes.f k l l = some true := by
  unfold mortiseref08_Bytes.f
  rw [if_pos rfl]
  exact same_from l hl l.length k 0 (by omega) (by omega) (by omega) hk
/-- The bytes that are not touched stay. -/
theorem Lies.stay (h : Lies l p0 p1 off b n o w s) (hl : Bytes8 l) (X : BitVec 32) (i : Nat) (hi : i < l.length) (hf : (i : Int) < off + b / 8 ∨ (off : Int) + b / 8 + ((b + n - 1) / 8 - b / 8 + 1) ≤ i) :
    rd (spliced l off w (bvF (putf (unitB l off w) X b n))) (i : Int) = rd l (i : Int) := by
  have h1 := h.n1
  have h2 := h.fits
  by_cases c : i < off ∨ off + w ≤ i
  · exact spliced_out l off w i _ h.inl c
  · obtain ⟨j, rfl⟩ : ∃ j, i = off + j := ⟨i - off, by omega⟩
    rw [spliced_in l off w j _ h.inl (by omega), ← byteOf_unit l off w j hl h.w4 (by omega)]
    refine byteOf_ext fun q hq => ?_
    rw [bvF_get]
    unfold putf
    rw [if_neg (by omega)]
    have := h.w4
    simp [show 8 * j + q < 32 by omega]
/-- The law's last part: from the loop on. -/
theorem Lies.loop (h : Lies l p0 p1 off b n o w s) (hl : Bytes8 l) (hn : o = 2 → n = 1) (c : List Int) (hc : c.length = l.length) (first count : Int) (hfirst : 0 ≤ first ∧ first < 1000000000000000) (hcount : 0 ≤ count ∧ count ≤ 1000)
    (hstay : ∀ i : Nat, i < l.length → ((i : Int) < first ∨ first + count ≤ i) → rd c (i : Int) = rd l (i : Int)) (d : Nat) :
    ∀ (k i : Nat), i ≤ l.length → l.length - i = d → d + l.length + 70 < k → mortiselaw08_FieldBack.l0 k l o c first count (i : Int) p0 p1 off b n = some true := by
  have h1 := h.small
  have hfc : wrap64 (first + count) = first + count := by unfold wrap64; omega
  induction d with
  | zero =>
    intro k i hi hd hk
    obtain ⟨k, rfl⟩ : ∃ m, k = m + 1 := ⟨k - 1, by omega⟩
    simp only [mortiselaw08_FieldBack.l0]
    rw [if_neg (by omega), h.read hl k (by omega), Option.bind_some, h.write hl _ k (by omega), Option.bind_some, h.again hn, spliced_same l off w hl h.w4 h.inl]
    simp only [mortiselaw08_num.f, Option.bind_some, if_true, same_self l (by omega) k (by omega), fheads k (by omega)]
  | succ d ih =>
    intro k i hi hd hk
    obtain ⟨k, rfl⟩ : ∃ m, k = m + 1 := ⟨k - 1, by omega⟩
    have e1 : wrap64 ((i : Int) + 1) = ((i + 1 : Nat) : Int) := by unfold wrap64; omega
    have hnext := ih k (i + 1) (by omega) (by omega) (by omega)
    simp only [mortiselaw08_FieldBack.l0]
    rw [if_pos (by omega), e1, hfc]
    by_cases c1 : (i : Int) < first
    · rw [if_pos c1, if_pos (by omega), if_pos (by omega), if_pos (hstay i (by omega) (.inl c1))]
      exact hnext
    · rw [if_neg c1]
      by_cases c2 : (i : Int) ≥ first + count
      · rw [if_pos c2, if_pos (by omega), if_pos (by omega), if_pos (hstay i (by omega) (.inr c2))]
        exact hnext
      · rw [if_neg c2]
        exact hnext

theorem w64i (x : Int) (h0 : -1000000000000000000 ≤ x) (h1 : x ≤ 1000000000000000000) : wrap64 x = x := by unfold wrap64; omega
theorem touch_nums (off b n : Nat) (hn : 1 ≤ n) (hf : b + n ≤ 32) (ho : off ≤ 140737488355328) :
    Int.tdiv (b : Int) 8 = (b : Int) / 8 ∧ wrap64 ((b : Int) / 8) = (b : Int) / 8 ∧ wrap64 ((off : Int) + (b : Int) / 8) = (off : Int) + (b : Int) / 8 ∧ wrap64 ((b : Int) + n) = (b : Int) + n ∧
    wrap64 ((b : Int) + n - 1) = (b : Int) + n - 1 ∧ Int.tdiv ((b : Int) + n - 1) 8 = ((b : Int) + n - 1) / 8 ∧ wrap64 (((b : Int) + n - 1) / 8) = ((b : Int) + n - 1) / 8 ∧
    wrap64 (((b : Int) + n - 1) / 8 - (b : Int) / 8) = ((b : Int) + n - 1) / 8 - (b : Int) / 8 ∧ wrap64 (((b : Int) + n - 1) / 8 - (b : Int) / 8 + 1) = ((b : Int) + n - 1) / 8 - (b : Int) / 8 + 1 :=
  ⟨Int.tdiv_eq_ediv_of_nonneg (by omega), w64i _ (by omega) (by omega), w64i _ (by omega) (by omega), w64i _ (by omega) (by omega), w64i _ (by omega) (by omega), Int.tdiv_eq_ediv_of_nonneg (by omega), w64i _ (by omega) (by omega), w64i _ (by omega) (by omega), w64i _ (by omega) (by omega)⟩
set_option maxHeartbeats 1000000 in
theorem FieldBack (l : List Int) (p0 p1 p2 p3 p4 o x : Int) (w2 : (Lit.int .i64 p2).wf = true) (w3 : (Lit.int .i64 p3).wf = true) (w4 : (Lit.int .i64 p4).wf = true) (wx : (Lit.int .u32 x).wf = true)
    (hlen : l.length ≤ 140737488351232) (hb : ∀ y ∈ l, (Lit.int .u8 y).wf = true) : ∃ k, mortiselaw08_FieldBack.f k l p0 p1 p2 p3 p4 o x = some true := by
  refine ⟨2 * l.length + 200, ?_⟩
  obtain ⟨hx0, hx1⟩ := u32_of wx
  have b3 := i64_of w3
  have hl : Bytes8 l := by
    intro y hy
    have := hb y hy
    simp [Lit.wf, IntKind.min, IntKind.max, IntKind.bits, IntKind.signed] at this
    omega
  obtain ⟨X, rfl⟩ := is_back x hx0 hx1
  obtain ⟨w, hw, hws, hw2⟩ := widthB o
  obtain ⟨ok, hr, hok⟩ := rightB p0 p1 p2 p3 p4 o w hw (by omega) b3
  obtain ⟨s, hs, hs2⟩ := signedB o
  generalize hk : 2 * l.length + 200 = k
  have hh := fheads k (by omega)
  unfold mortiselaw08_FieldBack.f
  by_cases c : ok = true ∧ (w : Int) ≤ l.length ∧ p2 ≤ (l.length : Int) - w
  · obtain ⟨rfl, c1, c2⟩ := c
    obtain ⟨q1, q2, q3, q4, q5, q6, q7⟩ := hok rfl
    obtain ⟨off, rfl⟩ := Int.eq_ofNat_of_zero_le q3
    obtain ⟨b, rfl⟩ := Int.eq_ofNat_of_zero_le q4
    obtain ⟨n, rfl⟩ := Int.eq_ofNat_of_zero_le (show 0 ≤ p4 by omega)
    have h : Lies l p0 p1 off b n o w s := ⟨hw, hs, fun e => ⟨hw2 e, hs2 e⟩, by omega, hr, ⟨q1, q2⟩, by omega, by omega, by omega, by omega⟩
    rw [h.write hl X k (by omega), Option.bind_some]
    have hlc := spliced_length l off w (bvF (putf (unitB l off w) (kept o X) b n)) h.inl
    have h' := h.other hlc
    have hread := h'.read (spliced_bytes hl) k (by omega)
    rw [unit_spliced l off w _ h.w4 h.inl (put_high h (kept o X)), out_in1 _ _ b n s h.n1 h.fits32] at hread
    rcases h.value X k (by omega) with hv | hv
    · rw [hv, Option.bind_some]
      simp only [mortiselaw08_num.f, Option.bind_some, if_true]
      rw [if_neg (by decide), hh]; rfl
    · have hn : o = 2 → n = 1 := by
        intro e
        subst e
        have h6 := h.fits
        by_cases c3 : n = 1
        · exact c3
        · exfalso
          have hm := at_rounds (g := fun k => field_most.f k 2) (fun k => field_most.mono _ k) (show 21 ≤ k by omega) (mostB 2 w h.width h.w4)
          obtain ⟨k', rfl⟩ : ∃ m, k = m + 1 := ⟨k - 1, by omega⟩
          have hd : decide ((n : Int) > 1) = true := decide_eq_true (by have := h.n1; omega)
          have h1 := h.n1
          unfold field_Value.f at hv
          rw [if_neg (by omega), hm, Option.bind_some, mostv, if_neg (by decide), if_pos rfl, hd] at hv
          simp only [field_Value.j0, if_true] at hv
          simp at hv
      rw [hv, Option.bind_some]
      simp only [mortiselaw08_num.f, Option.bind_some, if_true]
      rw [hread, Option.bind_some]
      have hr' := at_rounds (g := fun k => field_right.f k p0 p1 off b n o) (fun k => field_right.mono _ _ _ _ _ _ k) (show 21 ≤ k by omega) hr
      have hf := h.fits32
      have hn1 := h.n1
      have hin := h.inl
      have hsm := h.small
      obtain ⟨t1, t2, t3, t4, t5, t6, t7, t8, t9⟩ := touch_nums off b n hn1 hf (by omega)
      unfold field_Touched.f
      rw [hr', Option.bind_some, if_pos rfl, t1, t2, t3, t4, t5, t6, t7, t8, t9]
      simp only [Option.bind_some, if_true]
      rw [hlc, show ((l.length : Int) != (l.length : Int)) = false by simp]
      obtain ⟨k', rfl⟩ : ∃ m, k = m + 1 := ⟨k - 1, by omega⟩
      simp only [mortiselaw08_FieldBack.j0]
      rw [if_neg (by decide)]
      clear t1 t2 t3 t4 t5 t6 t7 t8 t9 hread hr' hh hv hok hws
      have r1 : 0 ≤ (off : Int) + (b : Int) / 8 ∧ (off : Int) + (b : Int) / 8 < 1000000000000000 := by clear hk; omega
      have r2 : 0 ≤ ((b : Int) + n - 1) / 8 - (b : Int) / 8 + 1 ∧ ((b : Int) + n - 1) / 8 - (b : Int) / 8 + 1 ≤ 1000 := by clear hk; omega
      have r3 : l.length + l.length + 70 < k' := by omega
      exact h.loop hl hn _ hlc ((off : Int) + (b : Int) / 8) (((b : Int) + n - 1) / 8 - (b : Int) / 8 + 1) r1 r2 (fun i hi hf => h.stay hl (kept o X) i hi hf) l.length k' 0 (Nat.zero_le _) rfl r3
  · rw [write_no l p0 p1 p2 p3 p4 o (back X) w ok hw hws hr c (back_lt X) (by omega) k (by omega), Option.bind_some]
    have hv : ∃ r, field_Value.f k o p4 (back X) = some r := by
      have hm := at_rounds (g := fun k => field_most.f k o) (fun k => field_most.mono _ k) (show 21 ≤ k by omega) (mostB o w hw (by omega))
      obtain ⟨k', rfl⟩ : ∃ m, k = m + 1 := ⟨k - 1, by omega⟩
      unfold field_Value.f
      by_cases c1 : p4 < 1
      · rw [if_pos c1]; simp [field_Value.j0]
      · rw [if_neg c1, hm, Option.bind_some]
        by_cases c2 : p4 > mostv o w
        · rw [decide_eq_true c2]; simp [field_Value.j0]
        · rw [decide_eq_false c2]
          simp only [field_Value.j0]
          rw [if_neg (by decide)]
          by_cases c3 : o = 2
          · subst c3
            rw [if_pos rfl, convertB k' (by omega) X]
            exact ⟨_, rfl⟩
          · obtain ⟨n, rfl⟩ := Int.eq_ofNat_of_zero_le (show 0 ≤ p4 by omega)
            have hn32 : n ≤ 32 := by
              unfold mostv at c2
              by_cases c4 : o < 2 ∨ 12 < o
              · rw [if_pos c4] at c2; omega
              · rw [if_neg c4, if_neg c3] at c2; omega
            rw [if_neg c3, hs, Option.bind_some, sized_v X n s (by omega) hn32]
            exact ⟨_, rfl⟩
    obtain ⟨⟨v, f⟩, hv⟩ := hv
    rw [hv, Option.bind_some]
    simp only [mortiselaw08_num.f, Option.bind_some]
    rw [if_neg (show ¬ ((80 : Int) = 0) by decide)]
    have e0 : (((([] : List Int)).length : Nat) : Int) = 0 := rfl
    rw [if_pos e0, hh, Option.bind_some]

end Go.Proofs.Ytmkhfedemoccoaa.Pure
