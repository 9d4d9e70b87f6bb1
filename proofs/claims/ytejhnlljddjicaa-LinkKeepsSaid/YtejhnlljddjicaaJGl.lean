/- Words of an image as bytes; encoded words are instructions. No condition beyond those each theorem names. And more of the kind: 4 texts in one. -/
import Derived.Test.YtejhnlljddjicaaJGj
import Derived.Test.YtejhnlljddjicaaJGk
import Derived.Test.YtejhnlljddjicaaJGf
import Derived.Test.YtejhnlljddjicaaJPLkx5
namespace Go.Proofs.Ytejhnlljddjicaa.Ma
open Go.RowKit Go.Maps Go.WideMaps Go.WideElems Go.ChangeMaps Go.ChangeShapes Go.WideShapes Go.Proofs.Ytejhnlljddjicaa.PLk Go.Proofs.YtejhnlljddjicaaW.PrintWords Go.Proofs.YtejhnlljddjicaaW.PrintLast Go.Proofs.YtejhnlljddjicaaW.PrintMore Go.Proofs.Ytejhnlljddjicaa.La
set_option linter.unusedVariables false
set_option linter.unusedSimpArgs false
theorem or_lh (i : Nat) (lo hi : Int) (h0 : 0 ≤ lo) (h1 : lo < 2 ^ i) (h2 : lo < 4294967296) (g0 : 0 ≤ hi) (g1 : hi < 4294967296) (g2 : hi % 2 ^ i = 0) : bits .or .u32 lo hi = lo + hi := by
 have h := bits_join .u32 32 (by decide) wraps_u32 i hi lo g0 g2 g1 h0 h1 h2
 rw [or_bv] at h ⊢
 rw [BitVec.or_comm, h]; omega
theorem or_zero (lo : Int) (h0 : 0 ≤ lo) (h2 : lo < 4294967296) : bits .or .u32 lo 0 = lo := by
 rw [or_lh 32 lo 0 h0 h2 h2 (by decide) (by decide) (by decide)]; omega
theorem shl_zero (m : Int) (hm : m < 32) : shl .u32 (0 % 4294967296) m = 0 := by rw [shl32 _ _ hm]; simp
theorem enc_near (op a imm : Int) (ho : 0 ≤ op ∧ op < 256) (ha : 0 ≤ a ∧ a < 16) : encW false op a 0 0 imm = op + a * 256 + imm % 65536 * 65536 := by
 have e1 : shl .u32 (a % 4294967296) 8 = a * 256 := by rw [shl32 _ _ (by decide)]; simp; omega
 have e2 : shl .u32 (imm % 4294967296) 16 = imm % 65536 * 65536 := by rw [shl32 _ _ (by decide)]; simp; omega
 unfold encW
 simp only [Bool.false_eq_true, if_false]
 rw [e1, e2, shl_zero _ (by decide), shl_zero _ (by decide), or_lh 8 op (a * 256) ho.1 (by omega) (by omega) (by omega) (by omega) (by omega), or_zero (op + a * 256) (by omega) (by omega), or_zero (op + a * 256) (by omega) (by omega), or_lh 16 _ _ (by omega) (by omega) (by omega) (by omega) (by omega) (by omega)]
theorem enc_far (op imm : Int) (ho : 0 ≤ op ∧ op < 256) : encW true op 0 0 0 imm = op + imm % 16777216 * 256 := by
 have e2 : shl .u32 (imm % 4294967296) 8 = imm % 16777216 * 256 := by rw [shl32 _ _ (by decide)]; simp; omega
 unfold encW
 simp only [if_true]
 rw [e2, shl_zero _ (by decide), shl_zero _ (by decide), shl_zero _ (by decide), or_zero op (by omega) (by omega), or_zero op (by omega) (by omega), or_zero op (by omega) (by omega), or_lh 8 _ _ (by omega) (by omega) (by omega) (by omega) (by omega) (by omega)]
theorem wrap32_bound (v : Int) : wrap32 v % 4294967296 = v % 4294967296 := by unfold wrap32; omega
/-- Encoded words are instructions. -/
theorem near_dec (op a imm : Int) (hf : enc_Form.f 20 op = some 3) (ho : 0 ≤ op ∧ op < 256) (ha : 0 ≤ a ∧ a < 16) : (decF (encW false op a 0 0 imm)).isSome = true ∧ 0 ≤ encW false op a 0 0 imm ∧ encW false op a 0 0 imm < 4294967296 := by
 have e := enc_near op a imm ho ha
 obtain ⟨v, hv⟩ : ∃ v, encW false op a 0 0 imm = v := ⟨_, rfl⟩
 rw [hv] at e ⊢
 have hr : 0 ≤ v ∧ v < 4294967296 := by omega
 have h1 : v % 256 = op := by omega
 have h2 : v / 256 % 16 = a := by omega
 rw [dec_is3 v hr (by rw [h1]; exact hf), h1, h2, enc_near op a _ ho ha, if_pos (by have := wrap32_bound v; omega)]
 exact ⟨rfl, hr⟩
theorem high_dec (a imm : Int) (ha : 0 ≤ a ∧ a < 16) : (decF (encW false 65 a 0 0 imm)).isSome = true ∧ 0 ≤ encW false 65 a 0 0 imm ∧ encW false 65 a 0 0 imm < 4294967296 := by
 have e := enc_near 65 a imm (by decide) ha
 obtain ⟨v, hv⟩ : ∃ v, encW false 65 a 0 0 imm = v := ⟨_, rfl⟩
 rw [hv] at e ⊢
 have hr : 0 ≤ v ∧ v < 4294967296 := by omega
 have h1 : v % 256 = 65 := by omega
 have h2 : v / 256 % 16 = a := by omega
 rw [dec_is4 v hr (by rw [h1]; rfl), h1, h2, enc_near 65 a _ (by decide) ha, if_pos (by omega)]
 exact ⟨rfl, hr⟩
theorem far_dec (op imm : Int) (hf : enc_Form.f 20 op = some 5) (ho : 0 ≤ op ∧ op < 256) : (decF (encW true op 0 0 0 imm)).isSome = true ∧ 0 ≤ encW true op 0 0 0 imm ∧ encW true op 0 0 0 imm < 4294967296 := by
 have e := enc_far op imm ho
 obtain ⟨v, hv⟩ : ∃ v, encW true op 0 0 0 imm = v := ⟨_, rfl⟩
 rw [hv] at e ⊢
 have hr : 0 ≤ v ∧ v < 4294967296 := by omega
 have h1 : v % 256 = op := by omega
 rw [dec_is5 v hr (by rw [h1]; exact hf), h1, enc_far op _ ho, if_pos (by have := wrap32_bound v; omega)]
 exact ⟨rfl, hr⟩
/-- The word at a byte of an image. -/
def wordAt (img : List Int) (a : Nat) : Int := (img[a]?).getD 0 + (img[a + 1]?).getD 0 * 256 + (img[a + 2]?).getD 0 * 65536 + (img[a + 3]?).getD 0 * 16777216
def BytesOk (img : List Int) : Prop := ∀ b ∈ img, 0 ≤ b ∧ b < 256
theorem val4_is (x y z u : Int) (hx : 0 ≤ x ∧ x < 256) (hy : 0 ≤ y ∧ y < 256) (hz : 0 ≤ z ∧ z < 256) (hu : 0 ≤ u ∧ u < 256) : val4 x y z u = x + y * 256 + z * 65536 + u * 16777216 := by
 have e0 : shl .u32 (x % 4294967296) 0 = x := by rw [shl32 _ _ (by decide)]; simp; omega
 have e1 : shl .u32 (y % 4294967296) 8 = y * 256 := by rw [shl32 _ _ (by decide)]; simp; omega
 have e2 : shl .u32 (z % 4294967296) 16 = z * 65536 := by rw [shl32 _ _ (by decide)]; simp; omega
 have e3 : shl .u32 (u % 4294967296) 24 = u * 16777216 := by rw [shl32 _ _ (by decide)]; simp; omega
 have f0 : bits .or .u32 0 x = x := by rw [or_lh 0 0 x (by decide) (by decide) (by decide) hx.1 (by omega) (by simp)]; omega
 have f1 : bits .or .u32 x (y * 256) = x + y * 256 := or_lh 8 _ _ hx.1 (by omega) (by omega) (by omega) (by omega) (by omega)
 have f2 : bits .or .u32 (x + y * 256) (z * 65536) = x + y * 256 + z * 65536 := or_lh 16 _ _ (by omega) (by omega) (by omega) (by omega) (by omega) (by omega)
 have f3 : bits .or .u32 (x + y * 256 + z * 65536) (u * 16777216) = x + y * 256 + z * 65536 + u * 16777216 := or_lh 24 _ _ (by omega) (by omega) (by omega) (by omega) (by omega) (by omega)
 unfold val4 val2 val1
 rw [e0, e1, e2, e3, f0, f1, f2, f3]
theorem four_of {img : List Int} {a : Nat} (h : a + 4 ≤ img.length) : ∃ x y z u, img[a]? = some x ∧ img[a + 1]? = some y ∧ img[a + 2]? = some z ∧ img[a + 3]? = some u ∧ (img.drop a).take 4 = [x, y, z, u] := by
 refine ⟨img[a], img[a + 1], img[a + 2], img[a + 3], List.getElem?_eq_getElem (by omega), List.getElem?_eq_getElem (by omega), List.getElem?_eq_getElem (by omega), List.getElem?_eq_getElem (by omega), ?_⟩
 rw [List.drop_eq_getElem_cons (by omega), List.drop_eq_getElem_cons (by omega), List.drop_eq_getElem_cons (by omega), List.drop_eq_getElem_cons (by omega)]
 rfl
/-- The reference reads the word at a byte of an image. -/
theorem value_at {img : List Int} (hb : BytesOk img) {a : Nat} (h : a + 4 ≤ img.length) : mortiseref01_Value.f 20 ((img.drop a).take 4) false = some (wordAt img a, 0) ∧ 0 ≤ wordAt img a ∧ wordAt img a < 4294967296 := by
 obtain ⟨x, y, z, u, hx, hy, hz, hu, e⟩ := four_of h
 have bx := hb x (List.mem_of_getElem? hx)
 have by_ := hb y (List.mem_of_getElem? hy)
 have bz := hb z (List.mem_of_getElem? hz)
 have bu := hb u (List.mem_of_getElem? hu)
 unfold wordAt
 rw [e, rvalue4, hx, hy, hz, hu, val4_is x y z u bx by_ bz bu]
 simp only [Option.getD_some]
 exact ⟨rfl, by omega, by omega⟩
theorem putI_get {img : List Int} {a : Nat} {v : Int} (h : a + 4 ≤ img.length) (i : Nat) : (putI img a v)[i]? = if i < a then img[i]? else if i < a + 4 then (wordB v)[i - a]? else img[i]? := by
 have hl : (img.take a).length = a := by rw [List.length_take]; omega
 have h4 : (wordB v).length = 4 := rfl
 unfold putI
 split
 ·next h1 => rw [List.getElem?_append_left (by omega), List.getElem?_take, if_pos h1]
 ·next h1 =>
  rw [List.getElem?_append_right (by omega), hl]
  split
  ·next h2 => rw [List.getElem?_append_left (by omega)]
  ·next h2 =>
   rw [List.getElem?_append_right (by omega), h4, List.getElem?_drop]
   congr 1; omega
theorem dataI_get {img d : List Int} {a : Nat} (h : a + d.length ≤ img.length) (i : Nat) : (dataI img a d)[i]? = if i < a then img[i]? else if i < a + d.length then d[i - a]? else img[i]? := by
 have hl : (img.take a).length = a := by rw [List.length_take]; omega
 unfold dataI
 split
 ·next h1 => rw [List.getElem?_append_left (by omega), List.getElem?_take, if_pos h1]
 ·next h1 =>
  rw [List.getElem?_append_right (by omega), hl]
  split
  ·next h2 => rw [List.getElem?_append_left (by omega)]
  ·next h2 =>
   rw [List.getElem?_append_right (by omega), List.getElem?_drop]
   congr 1; omega
theorem word_same {img : List Int} {a : Nat} {v : Int} (h : a + 4 ≤ img.length) (hv : 0 ≤ v ∧ v < 4294967296) : wordAt (putI img a v) a = v := by
 unfold wordAt
 rw [putI_get h, putI_get h, putI_get h, putI_get h]
 simp [wordB, show ¬ a + 1 < a by omega, show ¬ a + 2 < a by omega, show ¬ a + 3 < a by omega]
 omega
theorem word_other {img : List Int} {a b : Nat} {v : Int} (h : a + 4 ≤ img.length) (hd : b + 4 ≤ a ∨ a + 4 ≤ b) : wordAt (putI img a v) b = wordAt img b := by
 have e : ∀ i : Nat, b ≤ i → i < b + 4 → (putI img a v)[i]? = img[i]? := by
  intro i h1 h2
  rw [putI_get h]
  split
  ·rfl
  ·rw [if_neg (by omega)]
 unfold wordAt
 rw [e b (by omega) (by omega), e (b + 1) (by omega) (by omega), e (b + 2) (by omega) (by omega), e (b + 3) (by omega) (by omega)]
theorem word_data {img d : List Int} {a b : Nat} (h : a + d.length ≤ img.length) (hd : b + 4 ≤ a) : wordAt (dataI img a d) b = wordAt img b := by
 have e : ∀ i : Nat, i < b + 4 → (dataI img a d)[i]? = img[i]? := by
  intro i h2
  rw [dataI_get h, if_pos (by omega)]
 unfold wordAt
 rw [e b (by omega), e (b + 1) (by omega), e (b + 2) (by omega), e (b + 3) (by omega)]
theorem bytes_put {img : List Int} (h : BytesOk img) (a : Nat) (v : Int) : BytesOk (putI img a v) := by
 intro b hb
 unfold putI at hb
 rcases List.mem_append.1 hb with k | k
 ·exact h b (List.mem_of_mem_take k)
 ·rcases List.mem_append.1 k with k | k
  ·unfold wordB at k
   simp only [List.mem_cons, List.not_mem_nil, or_false] at k
   omega
  ·exact h b (List.mem_of_mem_drop k)
theorem bytes_data {img d : List Int} (h : BytesOk img) (hd : BytesOk d) (a : Nat) : BytesOk (dataI img a d) := by
 intro b hb
 unfold dataI at hb
 rcases List.mem_append.1 hb with k | k
 ·exact h b (List.mem_of_mem_take k)
 ·rcases List.mem_append.1 k with k | k
  ·exact hd b k
  ·exact h b (List.mem_of_mem_drop k)
theorem addr0 (g n : Nat) : (⟨g, 0, none⟩ : Addr).add n = ⟨g, n, none⟩ := by
 unfold Addr.add
 split
 ·next e => rw [e]
 ·simp
theorem img_C {w : World} {g n : Nat} {img : List Int} (h : Img w g n img) (hn : n ≤ 9223372036854775807) : Kd.C (Kd.int .u8) w (some ⟨g, 0, none⟩) n img := by
 refine Kd.C_of_reads (enc := Value.int .u8) (d := (0 : Int)) (h1 := fun _ => rfl) ⟨h.len, hn, fun _ => ⟨_, rfl, fun j hj => ?_⟩⟩
 have hl := h.len
 rw [addr0, blk_cell h.row]
 have hj2 : j < img.length := by omega
 simp [bytesV, List.getD_eq_getElem?_getD, hj2]
end Go.Proofs.Ytejhnlljddjicaa.Ma
namespace Go.Proofs.Ytejhnlljddjicaa.Ma
open Go.RowKit Go.Maps Go.WideMaps Go.WideElems Go.ChangeMaps Go.ChangeShapes Go.WideShapes Go.Proofs.Ytejhnlljddjicaa.PLk Go.Proofs.YtejhnlljddjicaaW.PrintWords Go.Proofs.YtejhnlljddjicaaW.PrintLast Go.Proofs.YtejhnlljddjicaaW.PrintMore Go.Proofs.Ytejhnlljddjicaa.La
set_option linter.unusedVariables false
set_option linter.unusedSimpArgs false
/-- Does a fix turn word k? -/
def fixedB (k : Nat) (x : FixV) : Bool := x.kind != 1 && (x.off == 4 * (k : Int) || (x.kind == 2 && x.off + 4 == 4 * (k : Int)))
/-- The image keeps the code. -/
structure CodeOk (ls : List ObjV) (img : List Int) : Prop where
 len : img.length = sizeN ls
 bytes : BytesOk img
 word : ∀ (i : Nat) (o : ObjV) (k : Nat) (v : Int), ls[i]? = some o → o.code[k]? = some v → (decF (wordAt img (codeN ls i + 4 * (k : Int)).toNat)).isSome = true ∧ (o.fixes.any (fixedB k) = false → wordAt img (codeN ls i + 4 * (k : Int)).toNat = v)
theorem code_apart {ls : List ObjV} {i j k m : Nat} {o p : ObjV} (hi : ls[i]? = some o) (hj : ls[j]? = some p) (hk : k < o.code.length) (hm : m < p.code.length) (hne : ¬ (i = j ∧ k = m)) : codeN ls i + 4 * (k : Int) + 4 ≤ codeN ls j + 4 * (m : Int) ∨ codeN ls j + 4 * (m : Int) + 4 ≤ codeN ls i + 4 * (k : Int) := by
 rcases Nat.lt_trichotomy i j with h | h | h
 ·have h1 := codeN_mono (ls := ls) (i + 1) (j - (i + 1))
  rw [show i + 1 + (j - (i + 1)) = j by omega, codeN_next hi] at h1
  exact .inl (by omega)
 ·subst h
  rcases Nat.lt_trichotomy k m with h2 | h2 | h2
  ·exact .inl (by omega)
  ·exact absurd ⟨rfl, h2⟩ hne
  ·exact .inr (by omega)
 ·have h1 := codeN_mono (ls := ls) (j + 1) (i - (j + 1))
  rw [show j + 1 + (i - (j + 1)) = i by omega, codeN_next hj] at h1
  exact .inr (by omega)
theorem CodeOk.put {ls : List ObjV} {img : List Int} (h : CodeOk ls img) {j m : Nat} {p : ObjV} (hj : ls[j]? = some p) (hm : m < p.code.length) {u : Int} (hu : (decF u).isSome = true ∧ 0 ≤ u ∧ u < 4294967296) (hF : p.fixes.any (fixedB m) = true) : CodeOk ls (putI img (codeN ls j + 4 * (m : Int)).toNat u) := by
 have hcj := code_in hj
 have hl : (codeN ls j + 4 * (m : Int)).toNat + 4 ≤ img.length := by rw [h.len]; omega
 refine ⟨(putI_length _ _ _ hl).trans h.len, bytes_put h.bytes _ _, fun i o k v hi hk => ?_⟩
 have hkl := (List.getElem?_eq_some_iff.1 hk).1
 have hci := code_in hi
 by_cases e : i = j ∧ k = m
 ·obtain ⟨rfl, rfl⟩ := e
  rw [hi] at hj
  injection hj with hj
  subst hj
  rw [word_same hl hu.2]
  exact ⟨hu.1, fun h2 => by rw [hF] at h2; cases h2⟩
 ·have ha := code_apart hi hj hkl hm e
  rw [word_other hl (by omega)]
  exact h.word i o k v hi hk
theorem CodeOk.put_data {ls : List ObjV} {img : List Int} (h : CodeOk ls img) {a : Nat} (h1 : codeN ls ls.length ≤ (a : Int)) (h2 : a + 4 ≤ sizeN ls) (u : Int) : CodeOk ls (putI img a u) := by
 have hl : a + 4 ≤ img.length := by rw [h.len]; exact h2
 refine ⟨(putI_length _ _ _ hl).trans h.len, bytes_put h.bytes _ _, fun i o k v hi hk => ?_⟩
 have hkl := (List.getElem?_eq_some_iff.1 hk).1
 have hci := code_in hi
 rw [word_other hl (by omega)]
 exact h.word i o k v hi hk
theorem wordsI_next {ls : List ObjV} {j k : Nat} {o : ObjV} {img : List Int} {v : Int} (hv : o.code[k]? = some v) : wordsI ls j o img (k + 1) = putI (wordsI ls j o img k) (codeN ls j + 4 * (k : Int)).toNat v := by
 show (match o.code[k]? with | some v => _ | none => _) = _
 rw [hv]
theorem wordsI_keeps {ls : List ObjV} {j : Nat} {o : ObjV} (h : ls[j]? = some o) (hI : o.In) {img : List Int} (hl : img.length = sizeN ls) (hb : BytesOk img) : ∀ m : Nat, m ≤ o.code.length → BytesOk (wordsI ls j o img m) ∧
  (∀ b : Nat, (b : Int) + 4 ≤ codeN ls j → wordAt (wordsI ls j o img m) b = wordAt img b) ∧ (∀ (k : Nat) (v : Int), k < m → o.code[k]? = some v → wordAt (wordsI ls j o img m) (codeN ls j + 4 * (k : Int)).toNat = v)
 | 0, _ => ⟨hb, fun _ _ => rfl, fun k v hk => absurd hk (Nat.not_lt_zero k)⟩
 | m + 1, hm => by
  obtain ⟨i1, i2, i3⟩ := wordsI_keeps h hI hl hb m (by omega)
  obtain ⟨u, hu⟩ : ∃ u, o.code[m]? = some u := ⟨_, List.getElem?_eq_getElem (by omega)⟩
  have hur := hI.code u (List.mem_of_getElem? hu)
  have hlen := wordsI_length h hl m (by omega)
  have hci := code_in h
  have hfit : (codeN ls j + 4 * (m : Int)).toNat + 4 ≤ (wordsI ls j o img m).length := by rw [hlen]; omega
  rw [wordsI_next hu]
  refine ⟨bytes_put i1 _ _, fun b hb2 => ?_, fun k v hk hv => ?_⟩
  ·rw [word_other hfit (by omega)]
   exact i2 b hb2
  ·by_cases e : k = m
   ·subst e
    rw [hu] at hv
    injection hv with hv
    subst hv
    exact word_same hfit hur
   ·rw [word_other hfit (by omega)]
    exact i3 k v (by omega) hv
theorem imgN_next {ls : List ObjV} {j : Nat} {o : ObjV} (h : ls[j]? = some o) : imgN ls (j + 1) = pieceI ls j o (imgN ls j) := by
 show (match ls[j]? with | some o => _ | none => _) = _
 rw [h]
theorem imgN_keeps {ls : List ObjV} (hI : ∀ o ∈ ls, o.In) : ∀ j : Nat, j ≤ ls.length → BytesOk (imgN ls j) ∧
  (∀ (i : Nat) (o : ObjV) (k : Nat) (v : Int), i < j → ls[i]? = some o → o.code[k]? = some v → wordAt (imgN ls j) (codeN ls i + 4 * (k : Int)).toNat = v)
 | 0, _ => ⟨fun b hb => by
   have hb : b ∈ List.replicate (sizeN ls) 0 := hb
   rw [List.mem_replicate] at hb
   omega, fun i _ _ _ hi => absurd hi (Nat.not_lt_zero i)⟩
 | j + 1, hj => by
  obtain ⟨i1, i2⟩ := imgN_keeps hI j (by omega)
  obtain ⟨o, ho⟩ : ∃ o, ls[j]? = some o := ⟨_, List.getElem?_eq_getElem (by omega)⟩
  have hoI := hI o (List.mem_of_getElem? ho)
  obtain ⟨w1, w2, w3⟩ := wordsI_keeps ho hoI (imgN_length ls j) i1 o.code.length (Nat.le_refl _)
  have hlen := wordsI_length ho (imgN_length ls j) o.code.length (Nat.le_refl _)
  have hcj := code_in ho
  have hb : ∀ (i : Nat) (p : ObjV) (k : Nat) (v : Int), i < j + 1 → ls[i]? = some p → p.code[k]? = some v → wordAt (wordsI ls j o (imgN ls j) o.code.length) (codeN ls i + 4 * (k : Int)).toNat = v := by
   intro i p k v hi hp hv
   have hkl := (List.getElem?_eq_some_iff.1 hv).1
   by_cases e : i = j
   ·subst e
    rw [ho] at hp
    injection hp with hp
    subst hp
    exact w3 k v hkl hv
   ·have h1 := codeN_mono (ls := ls) (i + 1) (j - (i + 1))
    rw [show i + 1 + (j - (i + 1)) = j by omega, codeN_next hp] at h1
    have h2 := codeN_nonneg (ls := ls) i
    rw [w2 _ (by omega)]
    exact i2 i p k v (by omega) hp hv
  rw [imgN_next ho]
  unfold pieceI
  split
  ·next hd =>
   have hdi := data_in ho hd
   have hfit : (dataN ls j - 4096).toNat + o.data.length ≤ (wordsI ls j o (imgN ls j) o.code.length).length := by rw [hlen]; omega
   refine ⟨bytes_data w1 hoI.data _, fun i p k v hi hp hv => ?_⟩
   have hkl := (List.getElem?_eq_some_iff.1 hv).1
   have hci := code_in hp
   rw [word_data hfit (by omega)]
   exact hb i p k v hi hp hv
  ·exact ⟨w1, hb⟩
theorem imgN_code {ls : List ObjV} (hp : PlanOk ls) (hI : ∀ o ∈ ls, o.In) : CodeOk ls (imgN ls ls.length) := by
 obtain ⟨h1, h2⟩ := imgN_keeps hI ls.length (Nat.le_refl _)
 refine ⟨imgN_length ls _, h1, fun i o k v hi hv => ?_⟩
 rw [h2 i o k v (List.getElem?_eq_some_iff.1 hi).1 hi hv]
 exact ⟨(hp.each i o hi).code k v hv, fun _ => rfl⟩
theorem fixed_any {o : ObjV} {x : FixV} {n m : Nat} (hx : o.fixes[n]? = some x) (h : fixedB m x = true) : o.fixes.any (fixedB m) = true := List.any_eq_true.2 ⟨x, List.mem_of_getElem? hx, h⟩
theorem fixF_keeps {ls : List ObjV} (hp : PlanOk ls) {img img' : List Int} (h : CodeOk ls img) {j n : Nat} {o : ObjV} (hj : ls[j]? = some o) (hI : o.In) {x : FixV} (hx : o.fixes[n]? = some x) (hf : fixF ls j o x img = some img') : CodeOk ls img' := by
 have hfit := ((hp.each j o hj).fixes n x hx).fits
 have hcj := code_in hj
 rcases fits_cases hfit with ⟨k1, h0, h1⟩ | ⟨k2, i, i2, hi, hi2, hop⟩ | ⟨k3, i, hi, hop⟩ | ⟨k4, i, hi, hop⟩
 ·have hdi := data_in hj (by omega)
  unfold fixF at hf
  simp only at hf
  rw [if_pos k1] at hf
  injection hf with hf
  subst hf
  exact h.put_data (by omega) (by omega) _
 ·obtain ⟨k, v, he, hk, hv, hd⟩ := instr_at hI hi
  obtain ⟨k', v', he', hk', _, _⟩ := instr_at hI hi2
  obtain ⟨ha, _⟩ := dec_near ⟨by omega, hv⟩ hd (.inl hop)
  unfold fixF at hf
  simp only at hf
  rw [if_neg (by omega), if_pos k2, hi] at hf
  simp only [Option.getD_some] at hf
  injection hf with hf
  subst hf
  have n1 := near_dec 64 i.a (IntKind.i16.wrap (((placeF (namesN ls ls.length) x.name).1 + x.add) % 4294967296)) rfl (by decide) (by omega)
  have n2 := high_dec i.a (((placeF (namesN ls ls.length) x.name).1 + x.add) % 4294967296 / 65536) (by omega)
  have c1 := h.put hj (List.getElem?_eq_some_iff.1 hk).1 n1 (fixed_any hx (by unfold fixedB; simp [k2, he]))
  have c2 := c1.put hj (List.getElem?_eq_some_iff.1 hk').1 n2 (fixed_any hx (by unfold fixedB; simp [k2, he']))
  rw [he, show codeN ls j + 4 * (k : Int) + 4 = codeN ls j + 4 * (k' : Int) by omega]
  exact c2
 ·obtain ⟨k, v, he, hk, hv, hd⟩ := instr_at hI hi
  unfold fixF at hf
  simp only at hf
  rw [if_neg (by omega), if_neg (by omega), hi] at hf
  simp only [Option.getD_some] at hf
  split at hf
  ·cases hf
  ·try rw [if_pos k3] at hf
   injection hf with hf
   subst hf
   have n1 := far_dec i.op (((placeF (namesN ls ls.length) x.name).1 + x.add - (4096 + (codeN ls j + x.off)) - 4) / 4) (by rcases hop with e | e <;> rw [e] <;> rfl) (by omega)
   rw [he] at n1 ⊢
   exact h.put hj (List.getElem?_eq_some_iff.1 hk).1 n1 (fixed_any hx (by unfold fixedB; simp [k3, he]))
 ·obtain ⟨k, v, he, hk, hv, hd⟩ := instr_at hI hi
  obtain ⟨ha, _⟩ := dec_near ⟨by omega, hv⟩ hd (.inr hop)
  unfold fixF at hf
  simp only at hf
  rw [if_neg (by omega), if_neg (by omega), hi] at hf
  simp only [Option.getD_some] at hf
  split at hf
  ·cases hf
  ·rw [if_neg (by omega)] at hf
   split at hf
   ·injection hf with hf
    subst hf
    have n1 := near_dec i.op i.a (((placeF (namesN ls ls.length) x.name).1 + x.add - (4096 + (codeN ls j + x.off)) - 4) / 4) (by rcases hop with e | e <;> rw [e] <;> rfl) (by omega) (by omega)
    rw [he] at n1 ⊢
    exact h.put hj (List.getElem?_eq_some_iff.1 hk).1 n1 (fixed_any hx (by unfold fixedB; simp [k4, he]))
   ·cases hf
theorem fixesI_keeps {ls : List ObjV} (hp : PlanOk ls) {j : Nat} {o : ObjV} (hj : ls[j]? = some o) (hI : o.In) {img : List Int} (h : CodeOk ls img) : ∀ (m : Nat) (img' : List Int), fixesI ls j o img m = some img' → CodeOk ls img'
 | 0, img', e => by
  injection e with e
  subst e
  exact h
 | m + 1, img', e => by
  have e : (fixesI ls j o img m).bind _ = some img' := e
  cases h1 : fixesI ls j o img m with
  | none => rw [h1] at e; cases e
  | some i =>
   rw [h1] at e
   simp only [Option.bind_some] at e
   have ih := fixesI_keeps hp hj hI h m i h1
   cases h2 : o.fixes[m]? with
   | none =>
    rw [h2] at e
    injection e with e
    subst e
    exact ih
   | some x =>
    rw [h2] at e
    exact fixF_keeps hp ih hj hI h2 e
theorem fixN_keeps {ls : List ObjV} (hp : PlanOk ls) (hI : ∀ o ∈ ls, o.In) : ∀ (j : Nat) (img : List Int), fixN ls j = some img → CodeOk ls img
 | 0, img, e => by
  injection e with e
  subst e
  exact imgN_code hp hI
 | j + 1, img, e => by
  have e : (fixN ls j).bind _ = some img := e
  cases h1 : fixN ls j with
  | none => rw [h1] at e; cases e
  | some i =>
   rw [h1] at e
   simp only [Option.bind_some] at e
   have ih := fixN_keeps hp hI j i h1
   cases h2 : ls[j]? with
   | none =>
    rw [h2] at e
    injection e with e
    subst e
    exact ih
   | some o =>
    rw [h2] at e
    exact fixesI_keeps hp h2 (hI o (List.mem_of_getElem? h2)) ih _ _ e
/-- The image of Link keeps the code. -/
theorem link_keeps {ls : List ObjV} {start : ByteArray} {img : List Int} (h : LinkYes ls start img) (hI : ∀ o ∈ ls, o.In) : CodeOk ls img := fixN_keeps h.plan hI _ _ h.fixed
/-- The objects' words are all that there is of code. -/
theorem tile {ls : List ObjV} : ∀ (j : Nat), j ≤ ls.length → ∀ a : Nat, a % 4 = 0 → (a : Int) < codeN ls j → ∃ (i : Nat) (o : ObjV) (k : Nat) (v : Int), ls[i]? = some o ∧ o.code[k]? = some v ∧ (a : Int) = codeN ls i + 4 * (k : Int)
 | 0, _, a, _, h => by have h : (a : Int) < 0 := h; omega
 | j + 1, hj, a, h4, h => by
  obtain ⟨o, ho⟩ : ∃ o, ls[j]? = some o := ⟨_, List.getElem?_eq_getElem (by omega)⟩
  rw [codeN_next ho] at h
  by_cases h2 : (a : Int) < codeN ls j
  ·exact tile j (by omega) a h4 h2
  ·have hc4 : codeN ls j % 4 = 0 := code_four j
   have hk : ((a : Int) - codeN ls j).toNat / 4 < o.code.length := by omega
   exact ⟨j, o, ((a : Int) - codeN ls j).toNat / 4, _, ho, List.getElem?_eq_getElem hk, by omega⟩
theorem code_word {ls : List ObjV} {img : List Int} (h : CodeOk ls img) {a : Nat} (h4 : a % 4 = 0) (ha : (a : Int) < codeN ls ls.length) : (decF (wordAt img a)).isSome = true := by
 obtain ⟨i, o, k, v, hi, hv, e⟩ := tile ls.length (Nat.le_refl _) a h4 ha
 have := (h.word i o k v hi hv).1
 rwa [← e, Int.toNat_natCast] at this
end Go.Proofs.Ytejhnlljddjicaa.Ma
namespace Go.Proofs.Ytejhnlljddjicaa.Ma
open Go.RowKit Go.Maps Go.WideMaps Go.WideElems Go.ChangeMaps Go.ChangeShapes Go.WideShapes Go.Proofs.Ytejhnlljddjicaa.PLk Go.Proofs.YtejhnlljddjicaaW.PrintWords Go.Proofs.YtejhnlljddjicaaW.PrintLast Go.Proofs.YtejhnlljddjicaaW.PrintMore Go.Proofs.Ytejhnlljddjicaa.La
set_option linter.unusedVariables false
set_option linter.unusedSimpArgs false
variable {w w' W : World}
set_option maxHeartbeats 4000000 in
set_option maxRecDepth 100000 in
theorem find_calls (A : Option Addr) (cap : Nat) (ls : List ObjV) (hO : ObjsR w A ls) (hI : ∀ o ∈ ls, o.In) (hl : ls.length ≤ 1466015503700) (hp : PlanOk ls) (name : ByteArray) (hs : name.size ≤ 140737488355328) :
  Calls Try.prog 16 #[.slice A ls.length cap, .string name] w fun e w' => e = .returned (.tuple #[.int .i64 (placeF (allN ls) name).1, .bool (look (allN ls) name).isSome, .int .i64 0]) ∧ Below w.heap.size w w' := by
 have HP := Aside0.mk hp
 have HS := Aside0.mk hs
 have PC := Aside0.mk (planned_calls (w := w) A cap ls hO hI hl)
 obtain ⟨n, hn⟩ : ∃ n, ls.length = n := ⟨_, rfl⟩
 rw [hn] at PC
 have HN := Aside0.mk hn
 rw [hn]
 clear hO hI hl hs hn hp
 go_enter Try.func16, Try.ntmps16
 go_upto_region 2 with (first | (go_at_call 9; refine PC.out.mono ?_; rintro e W2 ⟨hp2, hb⟩; have B2 := Aside0.mk hb; clear hb; rcases hp2 with ⟨pok, pb, nb, av, rfl, hpr⟩ | ⟨pno, c, rfl, hc⟩))
 rotate_left
 ·exact absurd HP.out pno
 have PR := Aside0.mk hpr
 clear hpr pok
 go_upto_region 4 with (fail)
 have p4 : W2.cell? ⟨pb, 4, none⟩ = some (.map (some nb)) := (blk_cell PR.out.head 4).trans rfl
 have hlk := PR.out.look_ok name HS.out
 rw [show namesN ls ls.length = allN ls from rfl] at hlk
 obtain ⟨⟨pl, pc⟩, hpp⟩ : ∃ pp, placeF (allN ls) name = pp := ⟨_, rfl⟩
 obtain ⟨ok, hok⟩ : ∃ ok, (look (allN ls) name).isSome = ok := ⟨_, rfl⟩
 rw [hpp, hok] at hlk
 simp only [placeV] at hlk
 have HPP := Aside0.mk hpp
 have HOK := Aside0.mk hok
 clear hpp hok
 go_upto_region 5 with (first | (refine wpList_store_row rfl 54 _ _ rfl W2.heap.size _ rfl rfl 54 _ (heap_alloc_last W2 _) (by as_aux_lemma => kernel_rfl) (by as_aux_lemma => kernel_rfl) (by as_aux_lemma => kernel_rfl) ?_; rw [World.setRow_alloc_new]))
 have R10 := Aside0.mk (show (W2.alloc (.cells #[.int .i64 pl, .bool pc] 54)).heap[W2.heap.size]? = some (.cells #[.int .i64 pl, .bool pc] 54 (0, 0)) from heap_at _ _ _ rfl)
 have B6 := Aside0.mk (below_alloc B2.out (.cells #[.int .i64 pl, .bool pc] 54))
 generalize W2.alloc (.cells #[.int .i64 pl, .bool pc] 54) = W5 at R10 B6 ⊢
 generalize W2.heap.size = g10 at R10 ⊢
 clear p4 hlk
 have a0 : W5.cell? ⟨g10, 0, none⟩ = some (.int .i64 pl) := (blk_cell R10.out 0).trans rfl
 go_wp2_with (fail)
 refine bodyPost_ret (results_tmp3 (t := 4) (u := 5) (v := 6) rfl _ _ _) rfl ?_
 exact ⟨by rw [HPP.out, HOK.out]; rfl, B6.out⟩
end Go.Proofs.Ytejhnlljddjicaa.Ma
namespace Go.Proofs.Ytejhnlljddjicaa.Ma
open Go.RowKit Go.Maps Go.WideMaps Go.WideElems Go.ChangeMaps Go.ChangeShapes Go.WideShapes Go.Proofs.Ytejhnlljddjicaa.PLk Go.Proofs.YtejhnlljddjicaaW.PrintWords Go.Proofs.YtejhnlljddjicaaW.PrintLast Go.Proofs.YtejhnlljddjicaaW.PrintMore Go.Proofs.Ytejhnlljddjicaa.La
set_option linter.unusedVariables false
set_option linter.unusedSimpArgs false
variable {w w' W : World}
def nF : ByteArray := ⟨#[102]⟩
def nG : ByteArray := ⟨#[103]⟩
def nX : ByteArray := ⟨#[120]⟩
def objA : ObjV := ⟨[99, 370], [], [⟨nF, false, 0⟩], [⟨3, 0, nG, 0⟩]⟩
def objB : ObjV := ⟨[576, 577, 8532, 3684], [1, 0, 0, 0, 42, 0, 0, 0], [⟨nG, false, 0⟩, ⟨nX, true, 0⟩], [⟨2, 0, nX, 4⟩]⟩
def imgAB : List Int := [99, 1, 0, 0, 114, 1, 0, 0, 64, 2, 28, 16, 65, 2, 0, 0, 84, 33, 0, 0, 100, 14, 0, 0, 1, 0, 0, 0, 42, 0, 0, 0]
theorem wordsA : mortiselaw25_words.f 60 [⟨99, 0, 0, 0, 0⟩, ⟨114, 1, 0, 0, 0⟩] = some [99, 370] := by decide +kernel
theorem wordsB : mortiselaw25_words.f 60 [⟨64, 2, 0, 0, 0⟩, ⟨65, 2, 0, 0, 0⟩, ⟨84, 1, 2, 0, 0⟩, ⟨100, 14, 0, 0, 0⟩] = some [576, 577, 8532, 3684] := by decide +kernel
theorem one_of {α : Type} {a x : α} {k : Nat} (h : [a][k]? = some x) : k = 0 ∧ x = a := by
 match k, h with
 | 0, h => exact ⟨rfl, by simpa using h.symm⟩
 | n + 1, h => simp at h
theorem two_of {α : Type} {a b x : α} {k : Nat} (h : [a, b][k]? = some x) : (k = 0 ∧ x = a) ∨ (k = 1 ∧ x = b) := by
 match k, h with
 | 0, h => exact .inl ⟨rfl, by simpa using h.symm⟩
 | 1, h => exact .inr ⟨rfl, by simpa using h.symm⟩
 | n + 2, h => simp at h
theorem fits1 : (fitsF objA ⟨3, 0, nG, 0⟩).2 = true := by decide +kernel
theorem fits2 : (fitsF objB ⟨2, 0, nX, 4⟩).2 = true := by decide +kernel
theorem dec_a : ∀ v ∈ objA.code, (decF v).isSome = true := by decide +kernel
theorem dec_b : ∀ v ∈ objB.code, (decF v).isSome = true := by decide +kernel
theorem nameF1 : nameF nF = true := by decide +kernel
theorem nameF2 : nameF nG = true := by decide +kernel
theorem nameF3 : nameF nX = true := by decide +kernel
theorem gx : nG ≠ nX := by decide +kernel
theorem checkA : CheckOk objA := by
 refine ⟨by decide, by decide, fun k v h => dec_a v (List.mem_of_getElem? h), fun k x h => ?_, fun k x h => ?_⟩
 ·obtain ⟨rfl, rfl⟩ := one_of h
  exact ⟨nameF1, by simp, by decide, by decide, fun _ => by decide⟩
 ·obtain ⟨rfl, rfl⟩ := one_of h
  exact ⟨fits1, fun s _ => by simp⟩
theorem checkB : CheckOk objB := by
 refine ⟨by decide, by decide, fun k v h => dec_b v (List.mem_of_getElem? h), fun k x h => ?_, fun k x h => ?_⟩
 ·rcases two_of h with ⟨rfl, rfl⟩ | ⟨rfl, rfl⟩
  ·exact ⟨nameF2, by simp, by decide, by decide, fun _ => by decide⟩
  ·exact ⟨nameF3, by simp [objB]; exact gx, by decide, by decide, fun h => by cases h⟩
 ·obtain ⟨rfl, rfl⟩ := one_of h
  exact ⟨fits2, fun s _ => by simp⟩
theorem planAB : PlanOk [objA, objB] := by
 refine ⟨fun j o h => ?_, by decide +kernel⟩
 rcases two_of h with ⟨rfl, rfl⟩ | ⟨rfl, rfl⟩
 ·exact checkA
 ·exact checkB
theorem planA : PlanOk [objA] := by
 refine ⟨fun j o h => ?_, by decide +kernel⟩
 obtain ⟨rfl, rfl⟩ := one_of h
 exact checkA
theorem fixAB : fixN [objA, objB] 2 = some imgAB := by decide +kernel
theorem yesAB : LinkYes [objA, objB] nF imgAB := ⟨planAB, by decide +kernel, by decide +kernel, by decide +kernel, by decide +kernel, by decide +kernel, fixAB⟩
theorem unkA : unkN [objA] = true := by decide +kernel
theorem noA (img : List Int) : ¬ LinkYes [objA] nF img := fun h => by have := h.known; rw [unkA] at this; cases this
theorem findX : (placeF (allN [objA, objB]) nX).1 = 4120 := by decide +kernel
theorem foundX : (look (allN [objA, objB]) nX).isSome = true := by decide +kernel
theorem sizeAB : sizeN [objA, objB] = 32 := by decide +kernel
theorem startAB : (placeF (allN [objA, objB]) nF).1 = 4096 := by decide +kernel
theorem inA : objA.In := by
 refine ⟨by decide, by decide, fun x h => ?_, fun x h => ?_, by decide, by decide, by decide, by decide⟩
 ·rcases List.mem_singleton.1 h with rfl
  exact ⟨by decide, by decide, by decide⟩
 ·rcases List.mem_singleton.1 h with rfl
  exact ⟨by decide, by decide, by decide, by decide⟩
theorem inB : objB.In := by
 refine ⟨by decide, by decide, fun x h => ?_, fun x h => ?_, by decide, by decide, by decide, by decide⟩
 ·have h : x ∈ [⟨nG, false, 0⟩, ⟨nX, true, 0⟩] := h
  simp only [List.mem_cons, List.not_mem_nil, or_false] at h
  rcases h with rfl | rfl
  ·exact ⟨by decide, by decide, by decide⟩
  ·exact ⟨by decide, by decide, by decide⟩
 ·rcases List.mem_singleton.1 h with rfl
  exact ⟨by decide, by decide, by decide, by decide⟩
theorem inAB : ∀ o ∈ [objA, objB], o.In := by
 intro o h
 simp only [List.mem_cons, List.not_mem_nil, or_false] at h
 rcases h with rfl | rfl
 ·exact inA
 ·exact inB
theorem inA1 : ∀ o ∈ [objA], o.In := by
 intro o h
 rcases List.mem_singleton.1 h with rfl
 exact inA
theorem runStop : stopOf (runM 100 (startR imgAB 24 4096 [])) = 1 := by decide +kernel
theorem runExit : (runM 100 (startR imgAB 24 4096 [])).S.exit = 42 := by decide +kernel
theorem okAB : okImg imgAB.length 24 4096 := by unfold okImg; decide
theorem bytesAB : ∀ b ∈ imgAB, 0 ≤ b ∧ b < 256 := by decide
/-! Rows of literal cells. -/
theorem flat_at {α : Type} (enc : α → List Value) (size : Nat) : ∀ (xs : List α) (j : Nat) (p : α) (i : Nat) (u : Value), (∀ x ∈ xs, (enc x).length = size) → xs[j]? = some p → (enc p)[i]? = some u → (xs.flatMap enc)[j * size + i]? = some u
 | [], j, p, i, u, _, hp, _ => by simp at hp
 | x :: r, 0, p, i, u, hs, hp, hu => by
  simp only [List.getElem?_cons_zero, Option.some.injEq] at hp
  subst hp
  rw [List.flatMap_cons, Nat.zero_mul, Nat.zero_add, List.getElem?_append_left (List.getElem?_eq_some_iff.1 hu).1]
  exact hu
 | x :: r, j + 1, p, i, u, hs, hp, hu => by
  rw [List.getElem?_cons_succ] at hp
  have hl := hs x List.mem_cons_self
  have ih := flat_at enc size r j p i u (fun y hy => hs y (List.mem_cons_of_mem _ hy)) hp hu
  rw [List.flatMap_cons, List.getElem?_append_right (by rw [hl, Nat.succ_mul]; omega), hl]
  rw [show (j + 1) * size + i - size = j * size + i by rw [Nat.succ_mul]; omega]
  exact ih
theorem rows_of {α : Type} (enc : α → List Value) (size : Nat) {xs : List α} {g : Nat} {ty : TypeId} (h : w.heap[g]? = some (.cells (xs.flatMap enc).toArray ty (0, 0))) (hl : xs.length ≤ 100) (hs : ∀ x ∈ xs, (enc x).length = size) : ReadsRow (fun x c => c = enc x) size w (some ⟨g, 0, none⟩) xs.length xs := by
 refine ⟨rfl, by omega, fun _ => ⟨_, rfl, fun j p hp => ⟨_, hs p (List.mem_of_getElem? hp), rfl, fun i u hu => ?_⟩⟩⟩
 rw [addr0, blk_cell h, List.getElem?_toArray]
 exact flat_at enc size xs j p i u hs hp hu
theorem C_none (k : IntKind) (w : World) : Kd.C (Kd.int k) w none 0 [] := ⟨rfl, by omega, fun h => absurd h (by omega)⟩
end Go.Proofs.Ytejhnlljddjicaa.Ma
