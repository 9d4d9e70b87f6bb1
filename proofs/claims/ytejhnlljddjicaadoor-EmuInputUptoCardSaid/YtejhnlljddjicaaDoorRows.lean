/-
  NARROWER THAN 'FOR EVERY INPUT', by the rows' own cells (each row's printed sentence says how): EmuRuns: laid · EmuOn: laid · EmuFirst: laid · EmuInput: laid · EmuNobody: laid.
  DERIVED. THE GIVEN ROWS OF THIS SEAT. 5 by the template 'for every input the law returns true; each argument reads behind the call as it read before'; 0 by the template 'total and deterministic' (their statements: YtejhnlljddjicaaDoorTotals.lean).
  GIVEN WITH THE SEED: the statements are not yours to turn. If you find one false, say at which input.
  Laid BY PROGRAM, IN A SANDBOX (cutbox-rows.mjs): the forced cells as the released guide's own fill.sh prints them over the translation 21d800003b611fe8… (all of the seat's roots in one cut). By AI agents, Wed Nov 11 2026. No macro, syntax, notation, axiom, sorry.
-/
import Derived.Test.YtejhnlljddjicaaDoorChecked
import GoSem.Claim
import GoSem.ClaimJoined
import GoSem.ClaimMapViews
import Derived.JoinedTies
import Derived.KernelRfl
namespace Go.Proofs.YtejhnlljddjicaaDoor
/- THE CELL 'sum', in the pinned program and in every row, IS THE sha256 OF THE DUMP (.gsa) THAT YtejhnlljddjicaaDoorProg.lean LOADS. Nothing in Lean hashes anything: it is a label: what it is worth is what the hold of that sum in a sandbox is worth. -/
noncomputable def Tryd.pinned : Pinned := { name := "ytejhnlljddjicaadoor", sum := "21d800003b611fe8f0b8c922c3c70a8bc5d82c51b13f2a44449d4c964fb578b7", checked := Tryd.checked }
namespace Rows
def none {H : Type} : Left H := { results := [], args := [] }

/- WHAT THE LISTED PACKAGE-LEVEL VARIABLES READ AS WHEN THE CALL BEGINS. Each datum BY PROGRAM (the guide's laid-datum.mjs) off the statement by which the dump's own 'gosem.cut.vars' lays the variable. In a bare row this is a premise. The card (YtejhnlljddjicaaDoorCards.lean) ties it to the program's text. -/
def laid_errors_errorType {H : Type} : DataW H := .iface "internal/reflectlite.rtype" (.agg [.ptr (.lit (.string [101, 114, 114, 111, 114]))])

/-- 'mortiselaw21.EmuRuns': WHATEVER THE INPUT: true; the input reads as it did. -/
def emuRunsSpec : ChangeSpec := { name := "emuRuns", fn := fun _ => fun
  | [d1, d2, d3] => { results := [.lit (.bool true)], args := [d1, d2, d3] }
  | _ => none }
def emuRunsRow : OpenClaim := { program := "ytejhnlljddjicaadoor", sum := "21d800003b611fe8f0b8c922c3c70a8bc5d82c51b13f2a44449d4c964fb578b7", func := "mortise/mortiselaw21.EmuRuns", spec := "emuRuns", inPlace := ["internal/reflectlite.ValueOf", "(internal/reflectlite.Value).Type", "(internal/reflectlite.Value).IsNil", "internal/reflectlite.TypeOf", "(internal/reflectlite.Value).Elem", "(internal/reflectlite.Value).Set"], unfollowed := true, recurses := true, named := ["errors.errorType"], apart := false, laid := [("errors.errorType", laid_errors_errorType)] }
def EmuRunsSaid : Prop := emuRunsRow.holds Tryd.pinned (OpenSpec.ofChange emuRunsSpec)

/-- ITS FALSE NEIGHBOUR: 'it returns false'. Refute it at one input. -/
def emuRunsWrong : ChangeSpec := { name := "emuRuns", fn := fun _ => fun
  | [d1, d2, d3] => { results := [.lit (.bool false)], args := [d1, d2, d3] }
  | _ => none }
def EmuRunsWrongFalsely : Prop := emuRunsRow.holds Tryd.pinned (OpenSpec.ofChange emuRunsWrong)

/-- 'mortiselaw21.EmuOn': WHATEVER THE INPUT: true; the input reads as it did. -/
def emuOnSpec : ChangeSpec := { name := "emuOn", fn := fun _ => fun
  | [d1, d2, d3] => { results := [.lit (.bool true)], args := [d1, d2, d3] }
  | _ => none }
def emuOnRow : OpenClaim := { program := "ytejhnlljddjicaadoor", sum := "21d800003b611fe8f0b8c922c3c70a8bc5d82c51b13f2a44449d4c964fb578b7", func := "mortise/mortiselaw21.EmuOn", spec := "emuOn", inPlace := ["internal/reflectlite.ValueOf", "(internal/reflectlite.Value).Type", "(internal/reflectlite.Value).IsNil", "internal/reflectlite.TypeOf", "(internal/reflectlite.Value).Elem", "(internal/reflectlite.Value).Set"], unfollowed := true, recurses := true, named := ["errors.errorType"], apart := false, laid := [("errors.errorType", laid_errors_errorType)] }
def EmuOnSaid : Prop := emuOnRow.holds Tryd.pinned (OpenSpec.ofChange emuOnSpec)

/-- ITS FALSE NEIGHBOUR: 'it returns false'. Refute it at one input. -/
def emuOnWrong : ChangeSpec := { name := "emuOn", fn := fun _ => fun
  | [d1, d2, d3] => { results := [.lit (.bool false)], args := [d1, d2, d3] }
  | _ => none }
def EmuOnWrongFalsely : Prop := emuOnRow.holds Tryd.pinned (OpenSpec.ofChange emuOnWrong)

/-- 'mortiselaw21.EmuFirst': WHATEVER THE INPUT: true; the input reads as it did. -/
def emuFirstSpec : ChangeSpec := { name := "emuFirst", fn := fun _ => fun
  | [d1, d2] => { results := [.lit (.bool true)], args := [d1, d2] }
  | _ => none }
def emuFirstRow : OpenClaim := { program := "ytejhnlljddjicaadoor", sum := "21d800003b611fe8f0b8c922c3c70a8bc5d82c51b13f2a44449d4c964fb578b7", func := "mortise/mortiselaw21.EmuFirst", spec := "emuFirst", inPlace := ["internal/reflectlite.ValueOf", "(internal/reflectlite.Value).Type", "(internal/reflectlite.Value).IsNil", "internal/reflectlite.TypeOf", "(internal/reflectlite.Value).Elem", "(internal/reflectlite.Value).Set"], unfollowed := true, recurses := true, named := ["errors.errorType"], apart := false, laid := [("errors.errorType", laid_errors_errorType)] }
def EmuFirstSaid : Prop := emuFirstRow.holds Tryd.pinned (OpenSpec.ofChange emuFirstSpec)

/-- ITS FALSE NEIGHBOUR: 'it returns false'. Refute it at one input. -/
def emuFirstWrong : ChangeSpec := { name := "emuFirst", fn := fun _ => fun
  | [d1, d2] => { results := [.lit (.bool false)], args := [d1, d2] }
  | _ => none }
def EmuFirstWrongFalsely : Prop := emuFirstRow.holds Tryd.pinned (OpenSpec.ofChange emuFirstWrong)

/-- 'mortiselaw21.EmuInput': WHATEVER THE INPUT: true; the input reads as it did. -/
def emuInputSpec : ChangeSpec := { name := "emuInput", fn := fun _ => fun
  | [d1, d2, d3, d4] => { results := [.lit (.bool true)], args := [d1, d2, d3, d4] }
  | _ => none }
def emuInputRow : OpenClaim := { program := "ytejhnlljddjicaadoor", sum := "21d800003b611fe8f0b8c922c3c70a8bc5d82c51b13f2a44449d4c964fb578b7", func := "mortise/mortiselaw21.EmuInput", spec := "emuInput", inPlace := ["internal/reflectlite.ValueOf", "(internal/reflectlite.Value).Type", "(internal/reflectlite.Value).IsNil", "internal/reflectlite.TypeOf", "(internal/reflectlite.Value).Elem", "(internal/reflectlite.Value).Set"], unfollowed := true, recurses := true, named := ["errors.errorType"], apart := false, laid := [("errors.errorType", laid_errors_errorType)] }
def EmuInputSaid : Prop := emuInputRow.holds Tryd.pinned (OpenSpec.ofChange emuInputSpec)

/-- ITS FALSE NEIGHBOUR: 'it returns false'. Refute it at one input. -/
def emuInputWrong : ChangeSpec := { name := "emuInput", fn := fun _ => fun
  | [d1, d2, d3, d4] => { results := [.lit (.bool false)], args := [d1, d2, d3, d4] }
  | _ => none }
def EmuInputWrongFalsely : Prop := emuInputRow.holds Tryd.pinned (OpenSpec.ofChange emuInputWrong)

/-- 'mortiselaw21.EmuNobody': WHATEVER THE INPUT: true; the input reads as it did. -/
def emuNobodySpec : ChangeSpec := { name := "emuNobody", fn := fun _ => fun
  | [d1, d2] => { results := [.lit (.bool true)], args := [d1, d2] }
  | _ => none }
def emuNobodyRow : OpenClaim := { program := "ytejhnlljddjicaadoor", sum := "21d800003b611fe8f0b8c922c3c70a8bc5d82c51b13f2a44449d4c964fb578b7", func := "mortise/mortiselaw21.EmuNobody", spec := "emuNobody", inPlace := ["internal/reflectlite.ValueOf", "(internal/reflectlite.Value).Type", "(internal/reflectlite.Value).IsNil", "internal/reflectlite.TypeOf", "(internal/reflectlite.Value).Elem", "(internal/reflectlite.Value).Set"], unfollowed := true, recurses := true, named := ["errors.errorType"], apart := false, laid := [("errors.errorType", laid_errors_errorType)] }
def EmuNobodySaid : Prop := emuNobodyRow.holds Tryd.pinned (OpenSpec.ofChange emuNobodySpec)

/-- ITS FALSE NEIGHBOUR: 'it returns false'. Refute it at one input. -/
def emuNobodyWrong : ChangeSpec := { name := "emuNobody", fn := fun _ => fun
  | [d1, d2] => { results := [.lit (.bool false)], args := [d1, d2] }
  | _ => none }
def EmuNobodyWrongFalsely : Prop := emuNobodyRow.holds Tryd.pinned (OpenSpec.ofChange emuNobodyWrong)

/- THE SECOND FORM. 'bulk': how many values and letters a reading holds, each counted each time it is reached (what is shared counts as often as it is met; a slice's spare places count too). A statement '..UptoSaid' is the law's where the arguments, and the package variables that the reading takes, are together of bulk at most 1048576: NARROWER than '..Said'. Prove '..Said' where nothing that the law and all that it calls make is longer than what came in: it says more and counts as full. Else prove '..UptoSaid'. A law counts once. -/
mutual
def uptoBulk {H : Type} : DataW H → Nat
  | .lit (.string bytes) => bytes.length + 1
  | .lit _ => 1
  | .nil => 1
  | .ptr d => uptoBulk d + 1
  | .slice elems spare => uptoBulkAll elems + uptoBulkAll spare + 1
  | .agg parts => uptoBulkAll parts + 1
  | .iface _ d => uptoBulk d + 1
  | .map entries => uptoBulkEntries entries + 1
  | .held _ => 1
def uptoBulkAll {H : Type} : List (DataW H) → Nat
  | [] => 0
  | d :: r => uptoBulk d + uptoBulkAll r
def uptoBulkEntries {H : Type} : List (Lit × DataW H) → Nat
  | [] => 0
  | x :: r => uptoBulkEntry x + uptoBulkEntries r
def uptoBulkEntry {H : Type} : Lit × DataW H → Nat
  | (.string bytes, d) => bytes.length + uptoBulk d + 1
  | (_, d) => uptoBulk d + 1
 end
def uptoSmall : (H : Type) → List (DataW H) → Bool := fun _ ds => decide (uptoBulkAll ds ≤ 1048576)
def OpenSpec.upto (s : _root_.Go.ChangeSpec) : _root_.Go.OpenSpec := { _root_.Go.OpenSpec.ofChange s with cond := some uptoSmall }

/-- 'mortiselaw21.EmuRuns', WHERE WHAT IT READS IS OF BULK AT MOST 1048576: true; the input reads as it did. -/
def emuRunsUptoRow : OpenClaim := { program := "ytejhnlljddjicaadoor", sum := "21d800003b611fe8f0b8c922c3c70a8bc5d82c51b13f2a44449d4c964fb578b7", func := "mortise/mortiselaw21.EmuRuns", spec := "emuRuns", inPlace := ["internal/reflectlite.ValueOf", "(internal/reflectlite.Value).Type", "(internal/reflectlite.Value).IsNil", "internal/reflectlite.TypeOf", "(internal/reflectlite.Value).Elem", "(internal/reflectlite.Value).Set"], unfollowed := true, recurses := true, named := ["errors.errorType"], apart := false, laid := [("errors.errorType", laid_errors_errorType)], narrowed := true }
def EmuRunsUptoSaid : Prop := emuRunsUptoRow.holds Tryd.pinned (OpenSpec.upto emuRunsSpec)

/-- 'mortiselaw21.EmuOn', WHERE WHAT IT READS IS OF BULK AT MOST 1048576: true; the input reads as it did. -/
def emuOnUptoRow : OpenClaim := { program := "ytejhnlljddjicaadoor", sum := "21d800003b611fe8f0b8c922c3c70a8bc5d82c51b13f2a44449d4c964fb578b7", func := "mortise/mortiselaw21.EmuOn", spec := "emuOn", inPlace := ["internal/reflectlite.ValueOf", "(internal/reflectlite.Value).Type", "(internal/reflectlite.Value).IsNil", "internal/reflectlite.TypeOf", "(internal/reflectlite.Value).Elem", "(internal/reflectlite.Value).Set"], unfollowed := true, recurses := true, named := ["errors.errorType"], apart := false, laid := [("errors.errorType", laid_errors_errorType)], narrowed := true }
def EmuOnUptoSaid : Prop := emuOnUptoRow.holds Tryd.pinned (OpenSpec.upto emuOnSpec)

/-- 'mortiselaw21.EmuFirst', WHERE WHAT IT READS IS OF BULK AT MOST 1048576: true; the input reads as it did. -/
def emuFirstUptoRow : OpenClaim := { program := "ytejhnlljddjicaadoor", sum := "21d800003b611fe8f0b8c922c3c70a8bc5d82c51b13f2a44449d4c964fb578b7", func := "mortise/mortiselaw21.EmuFirst", spec := "emuFirst", inPlace := ["internal/reflectlite.ValueOf", "(internal/reflectlite.Value).Type", "(internal/reflectlite.Value).IsNil", "internal/reflectlite.TypeOf", "(internal/reflectlite.Value).Elem", "(internal/reflectlite.Value).Set"], unfollowed := true, recurses := true, named := ["errors.errorType"], apart := false, laid := [("errors.errorType", laid_errors_errorType)], narrowed := true }
def EmuFirstUptoSaid : Prop := emuFirstUptoRow.holds Tryd.pinned (OpenSpec.upto emuFirstSpec)

/-- 'mortiselaw21.EmuInput', WHERE WHAT IT READS IS OF BULK AT MOST 1048576: true; the input reads as it did. -/
def emuInputUptoRow : OpenClaim := { program := "ytejhnlljddjicaadoor", sum := "21d800003b611fe8f0b8c922c3c70a8bc5d82c51b13f2a44449d4c964fb578b7", func := "mortise/mortiselaw21.EmuInput", spec := "emuInput", inPlace := ["internal/reflectlite.ValueOf", "(internal/reflectlite.Value).Type", "(internal/reflectlite.Value).IsNil", "internal/reflectlite.TypeOf", "(internal/reflectlite.Value).Elem", "(internal/reflectlite.Value).Set"], unfollowed := true, recurses := true, named := ["errors.errorType"], apart := false, laid := [("errors.errorType", laid_errors_errorType)], narrowed := true }
def EmuInputUptoSaid : Prop := emuInputUptoRow.holds Tryd.pinned (OpenSpec.upto emuInputSpec)

/-- 'mortiselaw21.EmuNobody', WHERE WHAT IT READS IS OF BULK AT MOST 1048576: true; the input reads as it did. -/
def emuNobodyUptoRow : OpenClaim := { program := "ytejhnlljddjicaadoor", sum := "21d800003b611fe8f0b8c922c3c70a8bc5d82c51b13f2a44449d4c964fb578b7", func := "mortise/mortiselaw21.EmuNobody", spec := "emuNobody", inPlace := ["internal/reflectlite.ValueOf", "(internal/reflectlite.Value).Type", "(internal/reflectlite.Value).IsNil", "internal/reflectlite.TypeOf", "(internal/reflectlite.Value).Elem", "(internal/reflectlite.Value).Set"], unfollowed := true, recurses := true, named := ["errors.errorType"], apart := false, laid := [("errors.errorType", laid_errors_errorType)], narrowed := true }
def EmuNobodyUptoSaid : Prop := emuNobodyUptoRow.holds Tryd.pinned (OpenSpec.upto emuNobodySpec)

end Rows
end Go.Proofs.YtejhnlljddjicaaDoor
