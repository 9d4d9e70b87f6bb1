/- Plain facts on bit-fields in bytes: the unit's number, its bytes, reading and writing. No condition beyond those each theorem names. -/
import Derived.Test.YtmkhfedemoccoaaPFdx6
import Derived.Test.YtmkhfedemoccoaaLf
namespace Go.Proofs.Ytmkhfedemoccoaa.Lf
open Go.RowKit Go.Proofs.Ytmkhfedemoccoaa.PFd Go.Proofs.YtmkhfedemoccoaaW.PrintWords Go.Proofs.YtmkhfedemoccoaaW.PrintMore Go.Proofs.Ytmkhfedemoccoaa.Lv
set_option linter.unusedVariables false

/-- Byte j of a word. -/
def byteOf (Y : BitVec 32) (j : Nat) : Int := ((Y.toNat / 2 ^ (8 * j) % 2 ^ 8 : Nat) : Int)
theorem byteOf_bits (Y : BitVec 32) (j i : Nat) : (byteOf Y j).toNat.testBit i = (decide (i < 8) && Y.getLsbD (8 * j + i)) := by
  unfold byteOf
  rw [Int.toNat_natCast, Nat.testBit_mod_two_pow, Nat.testBit_div_two_pow, BitVec.getLsbD, Nat.add_comm i]
theorem byteOf_range (Y : BitVec 32) (j : Nat) : 0 ≤ byteOf Y j ∧ byteOf Y j < 256 := by
  unfold byteOf
  have : Y.toNat / 2 ^ (8 * j) % 2 ^ 8 < 2 ^ 8 := Nat.mod_lt _ (by decide)
  omega
theorem byte_ext {x y : Int} (hx : 0 ≤ x ∧ x < 256) (hy : 0 ≤ y ∧ y < 256) (h : ∀ i, i < 8 → x.toNat.testBit i = y.toNat.testBit i) : x = y := by
  have hn : x.toNat = y.toNat := by
    apply Nat.eq_of_testBit_eq
    intro i
    by_cases hi : i < 8
    · exact h i hi
    · have e : ∀ z : Int, 0 ≤ z ∧ z < 256 → z.toNat.testBit i = false := by
        intro z hz
        apply Nat.testBit_lt_two_pow
        have h1 : (2 : Nat) ^ 8 ≤ 2 ^ i := Nat.pow_le_pow_right (by decide) (by omega)
        have h2 : (2 : Nat) ^ 8 = 256 := by decide
        omega
      rw [e x hx, e y hy]
  omega
theorem byteOf_ext {Y Z : BitVec 32} {j : Nat} (h : ∀ i, i < 8 → Y.getLsbD (8 * j + i) = Z.getLsbD (8 * j + i)) : byteOf Y j = byteOf Z j :=
  byte_ext (byteOf_range Y j) (byteOf_range Z j) fun i hi => by rw [byteOf_bits, byteOf_bits, h i hi]
theorem bvOf_bits (x : Int) (h0 : 0 ≤ x) (i : Nat) (hi : i < 32) : (bvOf x).getLsbD i = x.toNat.testBit i := by
  obtain ⟨n, rfl⟩ := Int.eq_ofNat_of_zero_le h0
  unfold bvOf
  rw [BitVec.ofInt_natCast, BitVec.getLsbD_ofNat]
  simp [hi]

/-- The unit's word. -/
def unitB (l : List Int) (off : Nat) (w : Nat) : BitVec 32 := bvF fun i => decide (i < 8 * w) && (rd l ((off + i / 8 : Nat) : Int)).toNat.testBit (i % 8)
def Bytes8 (l : List Int) : Prop := ∀ x ∈ l, 0 ≤ x ∧ x < 256
theorem rd_range {l : List Int} (h : Bytes8 l) (i : Int) : 0 ≤ rd l i ∧ rd l i < 256 := by
  unfold rd
  rw [List.getD_eq_getElem?_getD]
  cases e : l[i.toNat]? with
  | none => simp
  | some x => exact h x (List.mem_of_getElem? e)
theorem unitB_get (l : List Int) (off w i : Nat) (hw : w ≤ 4) : (unitB l off w).getLsbD i = (decide (i < 8 * w) && (rd l ((off + i / 8 : Nat) : Int)).toNat.testBit (i % 8)) := by
  unfold unitB
  rw [bvF_get]
  by_cases h : i < 8 * w
  · simp [h, show i < 32 by omega]
  · simp [h]
theorem num_v (l : List Int) (off : Nat) (hl : Bytes8 l) : ∀ w, w ≤ 4 → field_unit.num l off w = back (unitB l off w)
  | 0, _ => by
    have : unitB l off 0 = 0#32 := ext_get fun i hi => by rw [unitB_get _ _ _ _ (by decide)]; simp
    rw [this]; rfl
  | w + 1, hw => by
    have hr := rd_range hl ((off + w : Nat) : Int)
    have e1 : rd l ((off : Int) + (w : Int)) % 4294967296 = back (bvOf (rd l ((off + w : Nat) : Int))) := by
      rw [back_of _ hr.1 (by omega), Int.natCast_add]
      rw [Int.natCast_add] at hr
      omega
    have e2 : (8 * (w : Int)) = ((8 * w : Nat) : Int) := by omega
    show Go.bits .or .u32 (field_unit.num l off w) (shl .u32 (rd l ((off : Int) + (w : Int)) % 4294967296) (8 * (w : Int))) = _
    rw [num_v l off hl w (by omega), e1, e2, shl_bv _ _ (by omega), or_bv, of_back, of_back]
    congr 1
    refine ext_get fun i hi => ?_
    rw [BitVec.getLsbD_or, BitVec.getLsbD_shiftLeft, unitB_get _ _ _ _ (by omega), unitB_get _ _ _ _ hw]
    by_cases c1 : i < 8 * w
    · simp [c1, show i < 8 * (w + 1) by omega]
    · by_cases c2 : i < 8 * (w + 1)
      · have e3 : i / 8 = w := by omega
        have e4 : i - 8 * w = i % 8 := by omega
        simp only [hi, c1, c2, e3, e4]
        rw [bvOf_bits _ hr.1 _ (by omega)]
        simp
      · have e5 : (bvOf (rd l ((off + w : Nat) : Int))).getLsbD (i - 8 * w) = false ∨ ¬ i - 8 * w < 32 := by
          by_cases c3 : i - 8 * w < 32
          · left
            rw [bvOf_bits _ hr.1 _ c3]
            apply Nat.testBit_lt_two_pow
            have h1 : (2 : Nat) ^ 8 ≤ 2 ^ (i - 8 * w) := Nat.pow_le_pow_right (by decide) (by omega)
            have h2 : (2 : Nat) ^ 8 = 256 := by decide
            omega
          · exact .inr c3
        rcases e5 with e5 | e5
        · simp only [c1, c2, e5]; simp
        · omega
theorem byteOf_unit (l : List Int) (off w j : Nat) (hl : Bytes8 l) (hw : w ≤ 4) (hj : j < w) : byteOf (unitB l off w) j = rd l ((off + j : Nat) : Int) :=
  byte_ext (byteOf_range _ _) (rd_range hl _) fun i hi => by
    rw [byteOf_bits, unitB_get _ _ _ _ hw]
    simp [hi, show 8 * j + i < 8 * w by omega, show (8 * j + i) / 8 = j by omega, show (8 * j + i) % 8 = i by omega]
/-- What bytes a word has, as the list of its bytes. -/
theorem bytes_v (Y : BitVec 32) (w : Nat) (hw : w = 1 ∨ w = 2 ∨ w = 4) : word_Bytes.f 20 (back Y) w = some ((List.range w).map (byteOf Y)) := by
  have e : ∀ j : Nat, byteOf Y j = back Y / 2 ^ (8 * j) % 256 := by
    intro j
    unfold byteOf back
    rw [Int.natCast_emod, Int.natCast_ediv, Int.natCast_pow]; rfl
  rcases hw with rfl | rfl | rfl <;> simp [word_Bytes.f, word_Bytes.j0, word_Bytes.l0, wrap64, rd, List.range_succ, e]
/-- The bytes with a unit's bytes put in. -/
def spliced (l : List Int) (off w : Nat) (Y : BitVec 32) : List Int := l.take off ++ (List.range w).map (byteOf Y) ++ l.drop (off + w)
theorem spliced_length (l : List Int) (off w : Nat) (Y : BitVec 32) (h : off + w ≤ l.length) : (spliced l off w Y).length = l.length := by
  unfold spliced; simp; omega
theorem spliced_in (l : List Int) (off w j : Nat) (Y : BitVec 32) (h : off + w ≤ l.length) (hj : j < w) : rd (spliced l off w Y) ((off + j : Nat) : Int) = byteOf Y j := by
  unfold rd spliced
  rw [Int.toNat_natCast, List.getD_eq_getElem?_getD, List.append_assoc, List.getElem?_append_right (by simp; omega)]
  have e : off + j - (List.take off l).length = j := by rw [List.length_take]; omega
  rw [e, List.getElem?_append_left (by simpa using hj)]
  simp [hj]
theorem spliced_out (l : List Int) (off w i : Nat) (Y : BitVec 32) (h : off + w ≤ l.length) (hi : i < off ∨ off + w ≤ i) : rd (spliced l off w Y) (i : Int) = rd l (i : Int) := by
  unfold rd spliced
  rw [Int.toNat_natCast, List.getD_eq_getElem?_getD, List.getD_eq_getElem?_getD, List.append_assoc]
  rcases hi with hi | hi
  · rw [List.getElem?_append_left (by simp; omega), List.getElem?_take, if_pos hi]
  · rw [List.getElem?_append_right (by simp; omega), List.getElem?_append_right (by simp; omega), List.getElem?_drop]
    congr 2
    simp; omega
theorem spliced_bytes {l : List Int} {off w : Nat} {Y : BitVec 32} (h : Bytes8 l) : Bytes8 (spliced l off w Y) := by
  intro x hx
  unfold spliced at hx
  simp only [List.mem_append, List.mem_map] at hx
  rcases hx with (hx | ⟨j, _, rfl⟩) | hx
  · exact h x (List.mem_of_mem_take hx)
  · exact byteOf_range Y j
  · exact h x (List.mem_of_mem_drop hx)
theorem unit_spliced (l : List Int) (off w : Nat) (Y : BitVec 32) (hw : w ≤ 4) (h : off + w ≤ l.length) (hY : ∀ i, 8 * w ≤ i → Y.getLsbD i = false) : unitB (spliced l off w Y) off w = Y := ext_get fun i hi => by
  rw [unitB_get _ _ _ _ hw]
  by_cases c : i < 8 * w
  · rw [spliced_in l off w (i / 8) Y h (by omega), byteOf_bits]
    simp [c, show i % 8 < 8 by omega, show 8 * (i / 8) + i % 8 = i by omega]
  · simp [c, hY i (by omega)]
theorem spliced_same (l : List Int) (off w : Nat) (hl : Bytes8 l) (hw : w ≤ 4) (h : off + w ≤ l.length) : spliced l off w (unitB l off w) = l := by
  have hlen := spliced_length l off w (unitB l off w) h
  apply List.ext_getElem hlen
  intro i h1 h2
  have key : rd (spliced l off w (unitB l off w)) (i : Int) = rd l (i : Int) := by
    by_cases c : i < off ∨ off + w ≤ i
    · exact spliced_out l off w i _ h c
    · obtain ⟨j, rfl⟩ : ∃ j, i = off + j := ⟨i - off, by omega⟩
      rw [spliced_in l off w j _ h (by omega), byteOf_unit l off w j hl hw (by omega)]
  unfold rd at key
  simp only [Int.toNat_natCast, List.getD_eq_getElem?_getD, List.getElem?_eq_getElem h1, List.getElem?_eq_getElem h2, Option.getD_some] at key
  exact key
end Go.Proofs.Ytmkhfedemoccoaa.Lf
