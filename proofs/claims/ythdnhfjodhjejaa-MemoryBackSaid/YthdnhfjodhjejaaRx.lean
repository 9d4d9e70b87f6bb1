/- What is copied is byte by byte the same; what is stored is loaded (MemoryCopies, MemoryBack), in plain Lean. No condition beyond those each theorem names. -/
import Derived.Test.YthdnhfjodhjejaaRn
namespace Go.Proofs.Ythdnhfjodhjejaa.Ma
open Go.RowKit Go.Proofs.Ythdnhfjodhjejaa.PMe Go.Proofs.YthdnhfjodhjejaaW.PrintWords Go.Proofs.Ythdnhfjodhjejaa.La
set_option linter.unusedVariables false
variable {L : List Rec}
theorem pow2_or {n : Int} (h : pow2 n = true) : n = 1 ∨ n = 2 ∨ n = 4 := by
  simp only [pow2, Bool.or_eq_true, beq_iff_eq] at h; omega
theorem of_find3 {x : V3} {r : Rec} (h : ofR L x = some r) : findR L x.b = some r ∧ x.k = 2 ∧ x.v ≤ r.cs.length := by
  unfold ofR at h
  split at h
  · next hk =>
    obtain ⟨q, hq, h⟩ := Option.bind_eq_some_iff.mp h
    split at h
    · next hl => obtain rfl := Option.some.inj h; exact ⟨hq, hk, hl⟩
    · exact absurd h (by simp)
  · exact absurd h (by simp)
theorem find_self {k : Int} {r : Rec} (h : findR L k = some r) (cs : List S66) : findR (upd L r.id cs) k = some { r with cs := cs } := by
  rw [find_upd, h]; simp
theorem find_upd_any {k : Int} {r : Rec} (h : findR L k = some r) (id : Int) (cs : List S66) : ∃ r', findR (upd L id cs) k = some r' ∧ (id ≠ k → r' = r) ∧ (id = k → r' = { r with cs := cs }) := by
  rw [find_upd, h]
  have := (find_mem h).2
  refine ⟨_, rfl, ?_, ?_⟩
  · intro hn; simp only; rw [if_neg (by omega)]
  · intro hn; simp only; rw [if_pos (by omega)]
/-- Copy refuses by 3, and then nothing turns; or it copies. -/
theorem copy_or (x y : V3) (n al : Int) (hx : 0 ≤ x.v) (hy : 0 ≤ y.v) : copyF L x y n al = (3, L) ∨ ∃ r s, findR L x.b = some r ∧ findR L y.b = some s ∧ 1 ≤ n ∧ x.v + n ≤ r.cs.length ∧ y.v + n ≤ s.cs.length ∧ pow2 al = true ∧ x.k = 2 ∧ y.k = 2 ∧
    copyF L x y n al = (0, upd L r.id (put r.cs x.v.toNat (sub s.cs y.v.toNat n.toNat))) := by
  unfold copyF
  by_cases h0 : n < 1 ∨ pow2 al = false
  · rw [if_pos h0]; exact .inl rfl
  · rw [if_neg h0]
    have hp : pow2 al = true := by cases h : pow2 al <;> simp [h] at h0 ⊢
    cases h1 : atR L x n al with
    | none => exact .inl rfl
    | some r =>
      cases h2 : atR L y n al with
      | none => exact .inl rfl
      | some s =>
        simp only
        split
        · exact .inl rfl
        · obtain ⟨a1, a2, _, _⟩ := atR_some h1
          obtain ⟨b1, b2, _, _⟩ := atR_some h2
          obtain ⟨a3, a4, a5⟩ := of_find3 a1
          obtain ⟨b3, b4, b5⟩ := of_find3 b1
          exact .inr ⟨r, s, a3, b3, by omega, by omega, by omega, hp, a4, b4, rfl⟩
/-- What each byte is behind a copy. -/
theorem copied_get {r s : Rec} {a b n : Nat} (h1 : a + n ≤ r.cs.length) (h2 : b + n ≤ s.cs.length) (i : Nat) (hi : i < r.cs.length) :
    (put r.cs a (sub s.cs b n)).length = r.cs.length ∧ (put r.cs a (sub s.cs b n))[i]? = if a ≤ i ∧ i < a + n then s.cs[b + i - a]? else r.cs[i]? := by
  have hl := sub_len h2
  refine ⟨put_len (by omega), ?_⟩
  rw [put_get (by omega), hl]
  split
  · next c =>
    rw [sub_get _ _ _ _ (by omega)]
    congr 1; omega
  · rfl
/-- What is loaded out of bytes. -/
def loadL (l : List S66) : V3 × Int := match ptrF l with
  | some q => (q, 0)
  | none => numV l false
theorem load_at {x : V3} {n : Int} {r : Rec} (hp : pow2 n = true) (ha : atR L x n n = some r) : loadF L x n false = loadL (bytesAt r x n) := by
  unfold loadF loadL; rw [hp, ha]; simp only [if_true]; cases ptrF (bytesAt r x n) <;> rfl
theorem load_or (x : V3) (n : Int) (hx : 0 ≤ x.v) : (loadF L x n false).2 ≠ 0 ∨ ∃ r, atR L x n n = some r ∧ pow2 n = true ∧ loadF L x n false = loadL (bytesAt r x n) := by
  cases hp : pow2 n with
  | false => left; unfold loadF; rw [hp]; simp
  | true =>
    cases ha : atR L x n n with
    | none => left; unfold loadF; rw [hp, ha]; simp
    | some r => exact .inr ⟨r, rfl, rfl, load_at hp ha⟩
/-- What is wanted behind a store. -/
def wantF (n : Int) (v : V3) : V3 := if v.k = 1 then ⟨1, if n = 4 then v.v else if n = 2 then v.v % 65536 else v.v % 256, 0⟩ else v
theorem or_join (i : Nat) (x y : Int) (hx0 : 0 ≤ x) (hx : x % 2 ^ i = 0) (hx1 : x < 4294967296) (hy0 : 0 ≤ y) (hy : y < 2 ^ i) (hy1 : y < 4294967296) : bits .or .u32 y x = y + x := by
  have h := bits_join .u32 32 (by decide) wraps_u32 i x y hx0 hx hx1 hy0 hy hy1
  rw [or_bv] at h ⊢
  rw [BitVec.or_comm, h]; omega
theorem shlk (a : Int) (m : Int) (hm : m ≤ 32) : shl .u32 a m = (a * 2 ^ m.toNat) % 4294967296 := shl32le a m hm
theorem val1_of (x : Int) (h0 : 0 ≤ x) (h1 : x < 256) : val1 x = x := by
  unfold val1
  rw [shlk _ 0 (by omega)]
  have e : (x % 4294967296 * 2 ^ (0 : Int).toNat) % 4294967296 = x := by
    have : (2 : Int) ^ (0 : Int).toNat = 1 := by decide
    rw [this]; omega
  rw [e, or_join 0 x 0 h0 (by omega) (by omega) (by omega) (by decide) (by omega)]; omega
theorem val2_of (x y : Int) (h0 : 0 ≤ x) (h1 : x < 256) (h2 : 0 ≤ y) (h3 : y < 256) : val2 x y = x + y * 256 := by
  unfold val2
  rw [val1_of x h0 h1, shlk _ 8 (by omega)]
  have e : (y % 4294967296 * 2 ^ (8 : Int).toNat) % 4294967296 = y * 256 := by
    have : (2 : Int) ^ (8 : Int).toNat = 256 := by decide
    rw [this]; omega
  rw [e, or_join 8 (y * 256) x (by omega) (by omega) (by omega) h0 (by omega) (by omega)]
theorem val4_of (x y z u : Int) (h0 : 0 ≤ x) (h1 : x < 256) (h2 : 0 ≤ y) (h3 : y < 256) (h4 : 0 ≤ z) (h5 : z < 256) (h6 : 0 ≤ u) (h7 : u < 256) : val4 x y z u = x + y * 256 + z * 65536 + u * 16777216 := by
  unfold val4
  rw [val2_of x y h0 h1 h2 h3, shlk _ 16 (by omega), shlk _ 24 (by omega)]
  have e : (z % 4294967296 * 2 ^ (16 : Int).toNat) % 4294967296 = z * 65536 := by
    have : (2 : Int) ^ (16 : Int).toNat = 65536 := by decide
    rw [this]; omega
  have e' : (u % 4294967296 * 2 ^ (24 : Int).toNat) % 4294967296 = u * 16777216 := by
    have : (2 : Int) ^ (24 : Int).toNat = 16777216 := by decide
    rw [this]; omega
  rw [e, e', or_join 16 (z * 65536) (x + y * 256) (by omega) (by omega) (by omega) (by omega) (by omega) (by omega)]
  rw [or_join 24 (u * 16777216) _ (by omega) (by omega) (by omega) (by omega) (by omega) (by omega)]
/-- The bytes of a number are the number. -/
theorem load_num (v n : Int) (hn : n = 1 ∨ n = 2 ∨ n = 4) (h0 : 0 ≤ v) (h1 : v < 4294967296) : loadL ((bytesL v n).map cellN) = (⟨1, if n = 4 then v else if n = 2 then v % 65536 else v % 256, 0⟩, 0) := by
  rcases hn with rfl | rfl | rfl
  · have e1 : (bytesL v 1).map cellN = [cellN (v % 256)] := by rfl
    rw [e1]
    unfold loadL numV valF
    have e2 : ((word_Value.f 20 (([cellN (v % 256)] : List S66).map fun c => c.f1 % 256) false).getD (0, 0)).1 = v % 256 := by
      simp only [List.map_cons, List.map_nil, cellN]
      rw [value1, val1_of _ (by omega) (by omega)]
      simp [lowv]
    rw [e2]
    simp [ptrF, cellN]
  · have e1 : (bytesL v 2).map cellN = [cellN (v % 256), cellN (v / 256 % 256)] := by rfl
    rw [e1]
    unfold loadL numV valF
    have e2 : ((word_Value.f 20 (([cellN (v % 256), cellN (v / 256 % 256)] : List S66).map fun c => c.f1 % 256) false).getD (0, 0)).1 = v % 65536 := by
      simp only [List.map_cons, List.map_nil, cellN]
      rw [value2, val2_of _ _ (by omega) (by omega) (by omega) (by omega)]
      simp [lowv]; omega
    rw [e2]
    simp [ptrF, cellN]
  · have e1 : (bytesL v 4).map cellN = [cellN (v % 256), cellN (v / 256 % 256), cellN (v / 65536 % 256), cellN (v / 16777216 % 256)] := by rfl
    rw [e1]
    unfold loadL numV valF
    have e2 : ((word_Value.f 20 (([cellN (v % 256), cellN (v / 256 % 256), cellN (v / 65536 % 256), cellN (v / 16777216 % 256)] : List S66).map fun c => c.f1 % 256) false).getD (0, 0)).1 = v := by
      simp only [List.map_cons, List.map_nil, cellN]
      rw [value4, val4_of _ _ _ _ (by omega) (by omega) (by omega) (by omega) (by omega) (by omega) (by omega) (by omega)]
      simp [lowv]; omega
    rw [e2]
    simp [ptrF, cellN, isPart]
theorem load_parts (v : V3) (hk : v.k = 2) : loadL (partsC v) = (v, 0) := by
  obtain ⟨k, x, b⟩ := v
  simp only at hk; subst hk
  simp [loadL, partsC, ptrF, isPart]
theorem atR_same {x : V3} {n : Int} {r : Rec} (ha : atR L x n n = some r) (cs : List S66) (hl : cs.length = r.cs.length) : atR (upd L r.id cs) x n n = some { r with cs := cs } := by
  obtain ⟨a1, a2, a3, a4⟩ := atR_some ha
  obtain ⟨b1, b2, b3⟩ := of_find3 a1
  have hf := find_self b1 cs
  unfold atR ofR
  rw [if_pos b2, hf]
  simp only [Option.bind_some]
  rw [if_pos (by omega)]
  simp only [Option.bind_some]
  rw [if_pos (by omega)]
/-- Store refuses by 3, and then nothing turns; or what is loaded behind it is what was wanted. -/
theorem store_or (x : V3) (n : Int) (v : V3) (hx : 0 ≤ x.v) (h0 : 0 ≤ v.v) (h1 : v.v < 4294967296) : storeF L x n v = (3, L) ∨ ∃ r l, findR L x.b = some r ∧ (n = 1 ∨ n = 2 ∨ n = 4) ∧ l.length = n.toNat ∧ x.v + n ≤ r.cs.length ∧ x.k = 2 ∧ loadL l = (wantF n v, 0) ∧
    storeF L x n v = (0, upd L r.id (put r.cs x.v.toNat l)) ∧ loadF (upd L r.id (put r.cs x.v.toNat l)) x n false = (wantF n v, 0) ∧ (v.k = 1 ∨ v.k = 2) := by
  unfold storeF
  cases hp : pow2 n with
  | false => simp
  | true =>
    have hn := pow2_or hp
    simp only [if_true]
    cases ha : atR L x n n with
    | none => exact .inl rfl
    | some r =>
      obtain ⟨a1, a2, a3, a4⟩ := atR_some ha
      obtain ⟨b1, b2, b3⟩ := of_find3 a1
      have key : ∀ l : List S66, l.length = n.toNat → loadL l = (wantF n v, 0) → loadF (upd L r.id (put r.cs x.v.toNat l)) x n false = (wantF n v, 0) := by
        intro l hl hw
        have hpl : (put r.cs x.v.toNat l).length = r.cs.length := put_len (by omega)
        rw [load_at hp (atR_same ha _ hpl), ← hw]
        congr 1
        unfold bytesAt
        apply List.ext_getElem?
        intro q
        by_cases hq : q < n.toNat
        · rw [sub_get _ _ _ _ hq, put_get (by omega), if_pos (by omega)]
          congr 1; omega
        · rw [List.getElem?_eq_none (by rw [sub_len (by simp only [hpl]; omega)]; omega), List.getElem?_eq_none (by omega)]
      simp only
      by_cases k1 : v.k = 1
      · rw [if_pos k1]
        have hl : ((bytesL v.v n).map cellN).length = n.toNat := by rw [List.length_map, bytesL_len _ _ hn]
        have hw : loadL ((bytesL v.v n).map cellN) = (wantF n v, 0) := by rw [load_num v.v n hn h0 h1]; unfold wantF; rw [if_pos k1]
        exact .inr ⟨r, _, b1, hn, hl, by omega, b2, hw, rfl, key _ hl hw, .inl k1⟩
      · rw [if_neg k1]
        by_cases k2 : v.k = 2 ∧ n = 4
        · rw [if_pos k2]
          obtain ⟨k2, rfl⟩ := k2
          have hw : loadL (partsC v) = (wantF 4 v, 0) := by rw [load_parts v k2]; unfold wantF; rw [if_neg k1]
          exact .inr ⟨r, _, b1, hn, rfl, by omega, b2, hw, rfl, key _ rfl hw, .inr k2⟩
        · rw [if_neg k2]; exact .inl rfl
/-- What is loaded behind a copy is what was there. -/
theorem copy_load {x y : V3} {n : Int} {l : List S66} (hx : 0 ≤ x.v) (hy : 0 ≤ y.v) {s : Rec} (hs : findR L y.b = some s) (hl : sub s.cs y.v.toNat n.toNat = l) {z : V3} (hw : loadL l = (z, 0)) {L' : List Rec} (hc : copyF L x y n 1 = (0, L')) :
    (loadF L' x n false).2 ≠ 0 ∨ loadF L' x n false = (z, 0) := by
  rcases copy_or (L := L) x y n 1 hx hy with h | ⟨r, s', c1, c2, c3, c4, c5, c6, c7, c8, c9⟩
  · rw [h] at hc; simp at hc
  · obtain rfl := Option.some.inj (hs.symm.trans c2)
    rw [c9] at hc
    obtain ⟨_, rfl⟩ := Prod.mk.inj hc
    rcases load_or (L := upd L r.id (put r.cs x.v.toNat (sub s.cs y.v.toNat n.toNat))) x n hx with h | ⟨r', h1, h2, h3⟩
    · exact .inl h
    · right
      obtain ⟨a1, a2, a3, a4⟩ := atR_some h1
      obtain ⟨b1, b2, b3⟩ := of_find3 a1
      obtain rfl := Option.some.inj ((find_self c1 _).symm.trans b1)
      rw [h3, ← hw, ← hl]
      congr 1
      unfold bytesAt
      have hsl : (sub s.cs y.v.toNat n.toNat).length = n.toNat := sub_len (by omega)
      have hpl : (put r.cs x.v.toNat (sub s.cs y.v.toNat n.toNat)).length = r.cs.length := put_len (by omega)
      apply List.ext_getElem?
      intro q
      by_cases hq : q < n.toNat
      · rw [sub_get _ _ _ _ hq, put_get (by omega), if_pos (by omega)]
        congr 1; omega
      · rw [List.getElem?_eq_none (by rw [sub_len (by simp only [hpl]; omega)]; omega), List.getElem?_eq_none (by omega)]
end Go.Proofs.Ythdnhfjodhjejaa.Ma
