/- The pure statement of WordBytes: bytes of a number and the number of bytes are the document's. No condition. -/
import Derived.Test.YtmkhfedemoccoaaPWdx6
import Derived.Test.YtmkhfedemoccoaaLb
namespace Go.Proofs.Ytmkhfedemoccoaa.Pure
open Go.RowKit Go.Proofs.Ytmkhfedemoccoaa.PWd Go.Proofs.YtmkhfedemoccoaaW.PrintWords Go.Proofs.YtmkhfedemoccoaaW.PrintLast Go.Proofs.YtmkhfedemoccoaaW.PrintMore Go.Proofs.Ytmkhfedemoccoaa.La

theorem WordBytes : mortiselaw01_WordBytes.Pure := by
  intro v width l s hv hw hm hl hb
  have hl' : l.length ≤ 140737488351232 := by omega
  refine ⟨l.length + 40, ?_⟩
  obtain ⟨hv0, hv1⟩ := u32_of hv
  obtain ⟨r, h1, h2⟩ := value_eq l s
  obtain ⟨bs, h3, h4, h5⟩ := bytes_eq v width hv0
  have k1 : 20 ≤ l.length + 40 := by omega
  have h1' := at_rounds (g := fun k => word_Value.f k l s) (fun k => word_Value.mono _ _ k) k1 h1
  have h2' := at_rounds (g := fun k => mortiseref01_Value.f k l s) (fun k => mortiseref01_Value.mono _ _ k) k1 h2
  have h3' := at_rounds (g := fun k => word_Bytes.f k v width) (fun k => word_Bytes.mono _ _ k) k1 h3
  have h4' := at_rounds (g := fun k => mortiseref01_Bytes.f k v width) (fun k => mortiseref01_Bytes.mono _ _ k) k1 h4
  have h6 := same_self bs (by omega) (l.length + 40) (by omega)
  have h7 := same_self l (by omega) (l.length + 40) (by omega)
  have h8 := at_rounds (g := fun k => mortiselaw01_heads.f k) (fun k => mortiselaw01_heads.mono k) (show 30 ≤ l.length + 40 by omega) heads_true
  unfold mortiselaw01_WordBytes.f
  simp only [Option.bind_some, List.nil_append, List.length_nil, Nat.zero_add]
  rw [if_pos (by omega)]
  rw [h1', h2', h3', h4']
  simp only [Option.bind_some, h6, h7, h8, if_true]

end Go.Proofs.Ytmkhfedemoccoaa.Pure
