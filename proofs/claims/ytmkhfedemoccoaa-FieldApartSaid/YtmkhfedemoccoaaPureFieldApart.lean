/- The pure statement of FieldApart: fields that share no bit may be put in any order, and what is put is taken out. No condition. -/
import Derived.Test.YtmkhfedemoccoaaPFdx6
import Derived.Test.YtmkhfedemoccoaaLf
import Derived.Test.YtmkhfedemoccoaaLh
namespace Go.Proofs.Ytmkhfedemoccoaa.Pure
open Go.RowKit Go.Proofs.Ytmkhfedemoccoaa.PFd Go.Proofs.YtmkhfedemoccoaaW.PrintWords Go.Proofs.YtmkhfedemoccoaaW.PrintMore Go.Proofs.Ytmkhfedemoccoaa.Lv Go.Proofs.Ytmkhfedemoccoaa.Lf
set_option linter.unusedVariables false

theorem uint_value (X : BitVec 32) (n : Nat) (h1 : 1 ≤ n) (h2 : n ≤ 32) : field_Value.f 40 9 n (back X) = some (back (bvF (ext X n false)), 0) := by
  have hm : field_most.f 40 9 = some 32 := by decide +kernel
  have hs : word_Signed.f 9 = some false := by decide +kernel
  have hd : decide ((n : Int) > 32) = false := decide_eq_false (by omega)
  unfold field_Value.f
  rw [if_neg (by omega), hm, Option.bind_some, hd]
  simp [field_Value.j0, hs, sized_v X n false h1 h2]
theorem int_value (X : BitVec 32) (n : Nat) (h1 : 1 ≤ n) (h2 : n ≤ 32) : field_Value.f 40 8 n (back X) = some (back (bvF (ext X n true)), 0) := by
  have hm : field_most.f 40 8 = some 32 := by decide +kernel
  have hs : word_Signed.f 8 = some true := by decide +kernel
  have hd : decide ((n : Int) > 32) = false := decide_eq_false (by omega)
  unfold field_Value.f
  rw [if_neg (by omega), hm, Option.bind_some, hd]
  simp [field_Value.j0, hs, sized_v X n true h1 h2]
theorem apart_of {b n o m : Nat} (h : mask b n &&& mask o m = 0#32) (i : Nat) (hi : i < 32) : ¬ ((b ≤ i ∧ i < b + n) ∧ (o ≤ i ∧ i < o + m)) := by
  intro ⟨⟨c1, c2⟩, c3, c4⟩
  have := congrArg (fun A => A.getLsbD i) h
  simp only [BitVec.getLsbD_and, mask, bvF_get, hi, decide_eq_true c1, decide_eq_true c2, decide_eq_true c3, decide_eq_true c4] at this
  simp at this
theorem swap (A X Y : BitVec 32) (b n o m : Nat) (h : mask b n &&& mask o m = 0#32) : bvF (putf (bvF (putf A X b n)) Y o m) = bvF (putf (bvF (putf A Y o m)) X b n) := ext_get fun i hi => by
  have ha := apart_of h i hi
  simp only [bvF_get, putf, hi]
  by_cases c1 : b ≤ i ∧ i < b + n
  · by_cases c2 : o ≤ i ∧ i < o + m
    · exact absurd ⟨c1, c2⟩ ha
    · simp [c1, c2]
  · by_cases c2 : o ≤ i ∧ i < o + m
    · simp [c1, c2]
    · simp [c1, c2]
theorem out_in (A X Y : BitVec 32) (b n o m : Nat) (s : Bool) (h1 : 1 ≤ n) (hbn : b + n ≤ 32) (h : mask b n &&& mask o m = 0#32) :
    bvF (ext (bvF (putf (bvF (putf A X b n)) Y o m) >>> b) n s) = bvF (ext X n s) := ext_get fun i hi => by
  have key : ∀ q, q < n → (bvF (putf (bvF (putf A X b n)) Y o m) >>> b).getLsbD q = X.getLsbD q := by
    intro q hq
    have ha := apart_of h (b + q) (by omega)
    have c1 : b ≤ b + q ∧ b + q < b + n := by omega
    have c2 : ¬ (o ≤ b + q ∧ b + q < o + m) := fun c => ha ⟨c1, c⟩
    simp only [BitVec.getLsbD_ushiftRight, bvF_get, putf, if_neg c2, if_pos c1, show b + q < 32 by omega, show b + q - b = q by omega]
    simp
  simp only [bvF_get, ext, hi]
  by_cases c : i < n
  · simp [c, key i c]
  · simp [c, key (n - 1) (by omega)]
theorem known_in (K : BitVec 32) (b n o m : Nat) : (K ||| mask b n ||| mask o m) &&& mask b n = mask b n := ext_get fun i hi => by
  simp only [BitVec.getLsbD_or, BitVec.getLsbD_and]
  cases (mask b n).getLsbD i <;> simp

theorem FieldApart : mortiselaw08_FieldApart.Pure := by
  intro v kn b n x o m y hv hk hb hn hx ho hm hy
  refine ⟨60, ?_⟩
  obtain ⟨hv0, hv1⟩ := u32_of hv
  obtain ⟨hk0, hk1⟩ := u32_of hk
  obtain ⟨hx0, hx1⟩ := u32_of hx
  obtain ⟨hy0, hy1⟩ := u32_of hy
  obtain ⟨A, rfl⟩ := is_back v hv0 hv1
  obtain ⟨K, rfl⟩ := is_back kn hk0 hk1
  obtain ⟨X, rfl⟩ := is_back x hx0 hx1
  obtain ⟨Y, rfl⟩ := is_back y hy0 hy1
  have out : mortiselaw08_FieldApart.j0 60 (back A) (back K) b n (back X) o m (back Y) true = some true := by
    simp only [mortiselaw08_FieldApart.j0, if_true, fheads 59 (by omega), Option.bind_some]
  unfold mortiselaw08_FieldApart.f
  by_cases h : 0 ≤ b ∧ b ≤ 31 ∧ 1 ≤ n ∧ n ≤ 32 ∧ b + n ≤ 32
  · by_cases g : 0 ≤ o ∧ o ≤ 31 ∧ 1 ≤ m ∧ m ≤ 32 ∧ o + m ≤ 32
    · obtain ⟨b, rfl⟩ := Int.eq_ofNat_of_zero_le h.1
      obtain ⟨n, rfl⟩ := Int.eq_ofNat_of_zero_le (show 0 ≤ n by omega)
      obtain ⟨o, rfl⟩ := Int.eq_ofNat_of_zero_le g.1
      obtain ⟨m, rfl⟩ := Int.eq_ofNat_of_zero_le (show 0 ≤ m by omega)
      have h1 : 1 ≤ n := by omega
      have h2 : b + n ≤ 32 := by omega
      have g1 : 1 ≤ m := by omega
      have g2 : o + m ≤ 32 := by omega
      rw [mask_yes b n h1 h2, mask_yes o m g1 g2]
      simp only [Option.bind_some, mortiselaw08_num.f, if_true]
      rw [and_bv, of_back, of_back]
      by_cases c : mask b n &&& mask o m = 0#32
      · rw [c, show (back 0#32 != 0) = false by decide]
        have hv' := at_rounds (g := fun k => field_Value.f k 9 n (back X)) (fun k => field_Value.mono _ _ _ k) (show 40 ≤ 58 by omega) (uint_value X n h1 (by omega))
        have hw' := at_rounds (g := fun k => field_Value.f k 8 n (back X)) (fun k => field_Value.mono _ _ _ k) (show 40 ≤ 58 by omega) (int_value X n h1 (by omega))
        have e : K ||| mask o m ||| mask b n = K ||| mask b n ||| mask o m := by
          rw [BitVec.or_assoc, BitVec.or_comm (mask o m), ← BitVec.or_assoc]
        rw [mortiselaw08_FieldApart.j0, if_neg (by decide), put_yes A X K b n h1 h2, Option.bind_some, put_yes _ Y _ o m g1 g2, Option.bind_some, put_yes A Y K o m g1 g2, Option.bind_some, put_yes _ X _ b n h1 h2, Option.bind_some]
        simp only [mortiselaw08_num.f, Option.bind_some, if_true, swap A Y X o m b n (by rw [BitVec.and_comm]; exact c), e, bne_self_eq_false]
        rw [mortiselaw08_FieldApart.j1, if_neg (by decide), get_yes _ _ b n false h1 h2, get_yes _ _ b n true h1 h2, if_pos (known_in K b n o m), if_pos (known_in K b n o m), hv', hw', out_in A X Y b n o m false h1 h2 c, out_in A X Y b n o m true h1 h2 c]
        simp only [mortiselaw08_num.f, Option.bind_some, if_true, fheads 58 (by omega)]
      · have c' : (back (mask b n &&& mask o m) != 0) = true := bne_iff_ne.mpr fun e => c (back_inj e)
        rw [c']
        exact out
    · rw [mask_no o m g]
      obtain ⟨b, rfl⟩ := Int.eq_ofNat_of_zero_le h.1
      obtain ⟨n, rfl⟩ := Int.eq_ofNat_of_zero_le (show 0 ≤ n by omega)
      rw [mask_yes b n (by omega) (by omega)]
      simp only [Option.bind_some, mortiselaw08_num.f, if_true]
      rw [if_neg (by decide)]
      exact out
  · rw [mask_no b n h]
    by_cases g : 0 ≤ o ∧ o ≤ 31 ∧ 1 ≤ m ∧ m ≤ 32 ∧ o + m ≤ 32
    · obtain ⟨o, rfl⟩ := Int.eq_ofNat_of_zero_le g.1
      obtain ⟨m, rfl⟩ := Int.eq_ofNat_of_zero_le (show 0 ≤ m by omega)
      rw [mask_yes o m (by omega) (by omega)]
      simp only [Option.bind_some, mortiselaw08_num.f]
      rw [if_neg (by decide)]
      exact out
    · rw [mask_no o m g]
      simp only [Option.bind_some, mortiselaw08_num.f]
      rw [if_neg (by decide)]
      exact out

end Go.Proofs.Ytmkhfedemoccoaa.Pure
