/-
  DERIVED. GIVEN WITH THE SEED: THE CARDS: each row of YtejhnlljddjicaaDoorRows.lean that lists a variable, with what it lists TIED to the program's text (the seventh form; the later family's looks); each row that meets fmt, with fmt's text TOLD by the authors' own Lean function (tested against real Go, not proved from fmt's source: count such statements apart). THE CARD IS WHAT COUNTS. Prove the row's statement (the work); the ties are given (YtejhnlljddjicaaDoorTie.lean); close each card by the builder's one call (the guide's Derived/Test/ToyasCard.lean, 'card_holds'). Laid BY PROGRAM, IN A SANDBOX (cutbox-door.mjs). By AI agents, Wed Nov 11 2026. No macro, syntax, notation, axiom, sorry.
-/
import Derived.Test.YtejhnlljddjicaaDoorRows
import GoSem.ClaimSeven
namespace Go.Proofs.YtejhnlljddjicaaDoor
namespace Rows

/-- THE TIED CARD OF 'mortiselaw21.EmuRuns'. -/
def emuRunsCard : Claim7 := { stood := { row := emuRunsRow, standIns := [], harness := (true, "10e69d12e01866f209362a8fa627c3acae509bf5f45a7be6887e03d02ddf4c68"), looks := true }, kinds := [], alts := [], laidByText := true, laidKinds := [.handle], laidTests := true, laidLooks := .later }
def EmuRunsCardSaid : Prop := Claim7.holds Tryd.pinned (.plain (OpenSpec.ofChange emuRunsSpec)) emuRunsCard

/-- THE TIED CARD OF 'mortiselaw21.EmuOn'. -/
def emuOnCard : Claim7 := { stood := { row := emuOnRow, standIns := [], harness := (true, "10e69d12e01866f209362a8fa627c3acae509bf5f45a7be6887e03d02ddf4c68"), looks := true }, kinds := [], alts := [], laidByText := true, laidKinds := [.handle], laidTests := true, laidLooks := .later }
def EmuOnCardSaid : Prop := Claim7.holds Tryd.pinned (.plain (OpenSpec.ofChange emuOnSpec)) emuOnCard

/-- THE TIED CARD OF 'mortiselaw21.EmuFirst'. -/
def emuFirstCard : Claim7 := { stood := { row := emuFirstRow, standIns := [], harness := (true, "10e69d12e01866f209362a8fa627c3acae509bf5f45a7be6887e03d02ddf4c68"), looks := true }, kinds := [], alts := [], laidByText := true, laidKinds := [.handle], laidTests := true, laidLooks := .later }
def EmuFirstCardSaid : Prop := Claim7.holds Tryd.pinned (.plain (OpenSpec.ofChange emuFirstSpec)) emuFirstCard

/-- THE TIED CARD OF 'mortiselaw21.EmuInput'. -/
def emuInputCard : Claim7 := { stood := { row := emuInputRow, standIns := [], harness := (true, "10e69d12e01866f209362a8fa627c3acae509bf5f45a7be6887e03d02ddf4c68"), looks := true }, kinds := [], alts := [], laidByText := true, laidKinds := [.handle], laidTests := true, laidLooks := .later }
def EmuInputCardSaid : Prop := Claim7.holds Tryd.pinned (.plain (OpenSpec.ofChange emuInputSpec)) emuInputCard

/-- THE TIED CARD OF 'mortiselaw21.EmuNobody'. -/
def emuNobodyCard : Claim7 := { stood := { row := emuNobodyRow, standIns := [], harness := (true, "10e69d12e01866f209362a8fa627c3acae509bf5f45a7be6887e03d02ddf4c68"), looks := true }, kinds := [], alts := [], laidByText := true, laidKinds := [.handle], laidTests := true, laidLooks := .later }
def EmuNobodyCardSaid : Prop := Claim7.holds Tryd.pinned (.plain (OpenSpec.ofChange emuNobodySpec)) emuNobodyCard

/-- THE SECOND FORM's CARD OF 'mortiselaw21.EmuRuns'. -/
def emuRunsUptoCard : Claim7 := { stood := { row := emuRunsUptoRow, standIns := [], harness := (true, "10e69d12e01866f209362a8fa627c3acae509bf5f45a7be6887e03d02ddf4c68"), looks := true }, kinds := [], alts := [], laidByText := true, laidKinds := [.handle], laidTests := true, laidLooks := .later }
def EmuRunsUptoCardSaid : Prop := Claim7.holds Tryd.pinned (.plain (OpenSpec.upto emuRunsSpec)) emuRunsUptoCard

/-- THE SECOND FORM's CARD OF 'mortiselaw21.EmuOn'. -/
def emuOnUptoCard : Claim7 := { stood := { row := emuOnUptoRow, standIns := [], harness := (true, "10e69d12e01866f209362a8fa627c3acae509bf5f45a7be6887e03d02ddf4c68"), looks := true }, kinds := [], alts := [], laidByText := true, laidKinds := [.handle], laidTests := true, laidLooks := .later }
def EmuOnUptoCardSaid : Prop := Claim7.holds Tryd.pinned (.plain (OpenSpec.upto emuOnSpec)) emuOnUptoCard

/-- THE SECOND FORM's CARD OF 'mortiselaw21.EmuFirst'. -/
def emuFirstUptoCard : Claim7 := { stood := { row := emuFirstUptoRow, standIns := [], harness := (true, "10e69d12e01866f209362a8fa627c3acae509bf5f45a7be6887e03d02ddf4c68"), looks := true }, kinds := [], alts := [], laidByText := true, laidKinds := [.handle], laidTests := true, laidLooks := .later }
def EmuFirstUptoCardSaid : Prop := Claim7.holds Tryd.pinned (.plain (OpenSpec.upto emuFirstSpec)) emuFirstUptoCard

/-- THE SECOND FORM's CARD OF 'mortiselaw21.EmuInput'. -/
def emuInputUptoCard : Claim7 := { stood := { row := emuInputUptoRow, standIns := [], harness := (true, "10e69d12e01866f209362a8fa627c3acae509bf5f45a7be6887e03d02ddf4c68"), looks := true }, kinds := [], alts := [], laidByText := true, laidKinds := [.handle], laidTests := true, laidLooks := .later }
def EmuInputUptoCardSaid : Prop := Claim7.holds Tryd.pinned (.plain (OpenSpec.upto emuInputSpec)) emuInputUptoCard

/-- THE SECOND FORM's CARD OF 'mortiselaw21.EmuNobody'. -/
def emuNobodyUptoCard : Claim7 := { stood := { row := emuNobodyUptoRow, standIns := [], harness := (true, "10e69d12e01866f209362a8fa627c3acae509bf5f45a7be6887e03d02ddf4c68"), looks := true }, kinds := [], alts := [], laidByText := true, laidKinds := [.handle], laidTests := true, laidLooks := .later }
def EmuNobodyUptoCardSaid : Prop := Claim7.holds Tryd.pinned (.plain (OpenSpec.upto emuNobodySpec)) emuNobodyUptoCard
end Rows
end Go.Proofs.YtejhnlljddjicaaDoor
