/- The pure statement of FieldUnits: masks, taking out, putting in are the document's, at every unit, known bits, field, number. No condition. -/
import Derived.Test.YtmkhfedemoccoaaPFdx5
import Derived.Test.YtmkhfedemoccoaaLf
import Derived.Test.YtmkhfedemoccoaaLh
namespace Go.Proofs.Ytmkhfedemoccoaa.Pure
open Go.RowKit Go.Proofs.Ytmkhfedemoccoaa.PFd Go.Proofs.YtmkhfedemoccoaaW.PrintWords Go.Proofs.YtmkhfedemoccoaaW.PrintMore Go.Proofs.Ytmkhfedemoccoaa.Lv Go.Proofs.Ytmkhfedemoccoaa.Lf
set_option linter.unusedVariables false

theorem FieldUnits : mortiselaw08_FieldUnits.Pure := by
  intro v kn b n x hv hk hb hn hx
  refine ⟨60, ?_⟩
  obtain ⟨hv0, hv1⟩ := u32_of hv
  obtain ⟨hk0, hk1⟩ := u32_of hk
  obtain ⟨hx0, hx1⟩ := u32_of hx
  obtain ⟨A, rfl⟩ := is_back v hv0 hv1
  obtain ⟨K, rfl⟩ := is_back kn hk0 hk1
  obtain ⟨X, rfl⟩ := is_back x hx0 hx1
  unfold mortiselaw08_FieldUnits.f
  generalize (Go.bits .and .u32 (back X) 1 == 1) = s
  by_cases h : 0 ≤ b ∧ b ≤ 31 ∧ 1 ≤ n ∧ n ≤ 32 ∧ b + n ≤ 32
  · obtain ⟨b, rfl⟩ := Int.eq_ofNat_of_zero_le h.1
    obtain ⟨n, rfl⟩ := Int.eq_ofNat_of_zero_le (show 0 ≤ n by omega)
    have h1 : 1 ≤ n := by omega
    have h2 : b + n ≤ 32 := by omega
    rw [mask_yes b n h1 h2, rmask_yes 60 b n (by omega) h1 h2, get_yes A K b n s h1 h2, rget_yes 60 A K b n s (by omega) h1 h2, put_yes A X K b n h1 h2, rput_yes 60 A X K b n (by omega) h1 h2]
    simp only [Option.bind_some, mortiselaw08_num.f, if_true]
    by_cases c : K &&& mask b n = mask b n
    · simp only [if_pos c, Option.bind_some, if_true, beq_self_eq_true, fheads 60 (by omega)]
    · simp only [if_neg c, Option.bind_some, if_true, beq_self_eq_true, fheads 60 (by omega)]
  · rw [mask_no b n h, rmask_no 60 b n h, get_no _ _ b n s h, rget_no 60 _ _ b n s h, put_no _ _ _ b n h, rput_no 60 _ _ _ b n h]
    simp only [Option.bind_some, mortiselaw08_num.f, if_true, beq_self_eq_true, fheads 60 (by omega)]

end Go.Proofs.Ytmkhfedemoccoaa.Pure
