/-
  NARROWER THAN 'FOR EVERY INPUT', by the rows' own cells (each row's printed sentence says how): TurnSteps: loops · TurnBack: loops · TurnTwice: loops · TurnShort: loops · TurnNothing: loops · EditScripts: loops · EditMakes: loops · EditNothing: loops · EditJoins: loops · EditOwn: loops.
  DERIVED. THE GIVEN ROWS OF THIS SEAT. 10 by the template 'for every input the law returns true; each argument reads behind the call as it read before'; 0 by the template 'total and deterministic' (their statements: YtmkjjopflncedaaTotals.lean).
  GIVEN WITH THE SEED: the statements are not yours to turn. If you find one false, say at which input.
  Laid BY PROGRAM, IN A SANDBOX (cutbox-rows.mjs): the forced cells as the released guide's own fill.sh prints them over the translation 6e98ce5107d54b40… (all of the seat's roots in one cut). By AI agents, Wed Nov 11 2026. No macro, syntax, notation, axiom, sorry.
-/
import Derived.Test.YtmkjjopflncedaaChecked
import GoSem.Claim
import GoSem.ClaimJoined
import GoSem.ClaimMapViews
import Derived.JoinedTies
import Derived.KernelRfl
namespace Go.Proofs.Ytmkjjopflncedaa
/- THE CELL 'sum', in the pinned program and in every row, IS THE sha256 OF THE DUMP (.gsa) THAT YtmkjjopflncedaaProg.lean LOADS. Nothing in Lean hashes anything: it is a label: what it is worth is what the hold of that sum in a sandbox is worth. -/
noncomputable def Try.pinned : Pinned := { name := "ytmkjjopflncedaa", sum := "6e98ce5107d54b40bfcb9e84d8ca56c0398dd2df8f9964211b006223a131ab08", checked := Try.checked }
namespace Rows
def none {H : Type} : Left H := { results := [], args := [] }

/-- 'rectolaw22.TurnSteps': WHATEVER THE INPUT: true; the input reads as it did. -/
def turnStepsSpec : ChangeSpec := { name := "turnSteps", fn := fun _ => fun
  | [d1, d2] => { results := [.lit (.bool true)], args := [d1, d2] }
  | _ => none }
def turnStepsRow : OpenClaim := { program := "ytmkjjopflncedaa", sum := "6e98ce5107d54b40bfcb9e84d8ca56c0398dd2df8f9964211b006223a131ab08", func := "recto/rectolaw22.TurnSteps", spec := "turnSteps", inPlace := ["slices.overlaps[recto/api.Node]"], unfollowed := true, recurses := true, loops := true, apart := false }
def TurnStepsSaid : Prop := turnStepsRow.holds Try.pinned (OpenSpec.ofChange turnStepsSpec)

/-- ITS FALSE NEIGHBOUR: 'it returns false'. Refute it at one input. -/
def turnStepsWrong : ChangeSpec := { name := "turnSteps", fn := fun _ => fun
  | [d1, d2] => { results := [.lit (.bool false)], args := [d1, d2] }
  | _ => none }
def TurnStepsWrongFalsely : Prop := turnStepsRow.holds Try.pinned (OpenSpec.ofChange turnStepsWrong)

/-- 'rectolaw22.TurnBack': WHATEVER THE INPUT: true; the input reads as it did. -/
def turnBackSpec : ChangeSpec := { name := "turnBack", fn := fun _ => fun
  | [d1, d2] => { results := [.lit (.bool true)], args := [d1, d2] }
  | _ => none }
def turnBackRow : OpenClaim := { program := "ytmkjjopflncedaa", sum := "6e98ce5107d54b40bfcb9e84d8ca56c0398dd2df8f9964211b006223a131ab08", func := "recto/rectolaw22.TurnBack", spec := "turnBack", inPlace := ["slices.overlaps[recto/api.Node]"], unfollowed := true, recurses := true, loops := true, apart := false }
def TurnBackSaid : Prop := turnBackRow.holds Try.pinned (OpenSpec.ofChange turnBackSpec)

/-- ITS FALSE NEIGHBOUR: 'it returns false'. Refute it at one input. -/
def turnBackWrong : ChangeSpec := { name := "turnBack", fn := fun _ => fun
  | [d1, d2] => { results := [.lit (.bool false)], args := [d1, d2] }
  | _ => none }
def TurnBackWrongFalsely : Prop := turnBackRow.holds Try.pinned (OpenSpec.ofChange turnBackWrong)

/-- 'rectolaw22.TurnTwice': WHATEVER THE INPUT: true; the input reads as it did. -/
def turnTwiceSpec : ChangeSpec := { name := "turnTwice", fn := fun _ => fun
  | [d] => { results := [.lit (.bool true)], args := [d] }
  | _ => none }
def turnTwiceRow : OpenClaim := { program := "ytmkjjopflncedaa", sum := "6e98ce5107d54b40bfcb9e84d8ca56c0398dd2df8f9964211b006223a131ab08", func := "recto/rectolaw22.TurnTwice", spec := "turnTwice", inPlace := ["slices.overlaps[recto/api.Node]"], unfollowed := true, recurses := true, loops := true, apart := false }
def TurnTwiceSaid : Prop := turnTwiceRow.holds Try.pinned (OpenSpec.ofChange turnTwiceSpec)

/-- ITS FALSE NEIGHBOUR: 'it returns false'. Refute it at one input. -/
def turnTwiceWrong : ChangeSpec := { name := "turnTwice", fn := fun _ => fun
  | [d] => { results := [.lit (.bool false)], args := [d] }
  | _ => none }
def TurnTwiceWrongFalsely : Prop := turnTwiceRow.holds Try.pinned (OpenSpec.ofChange turnTwiceWrong)

/-- 'rectolaw22.TurnShort': WHATEVER THE INPUT: true; the input reads as it did. -/
def turnShortSpec : ChangeSpec := { name := "turnShort", fn := fun _ => fun
  | [d1, d2, d3] => { results := [.lit (.bool true)], args := [d1, d2, d3] }
  | _ => none }
def turnShortRow : OpenClaim := { program := "ytmkjjopflncedaa", sum := "6e98ce5107d54b40bfcb9e84d8ca56c0398dd2df8f9964211b006223a131ab08", func := "recto/rectolaw22.TurnShort", spec := "turnShort", inPlace := ["slices.overlaps[recto/api.Node]"], unfollowed := true, recurses := true, loops := true, apart := false }
def TurnShortSaid : Prop := turnShortRow.holds Try.pinned (OpenSpec.ofChange turnShortSpec)

/-- ITS FALSE NEIGHBOUR: 'it returns false'. Refute it at one input. -/
def turnShortWrong : ChangeSpec := { name := "turnShort", fn := fun _ => fun
  | [d1, d2, d3] => { results := [.lit (.bool false)], args := [d1, d2, d3] }
  | _ => none }
def TurnShortWrongFalsely : Prop := turnShortRow.holds Try.pinned (OpenSpec.ofChange turnShortWrong)

/-- 'rectolaw22.TurnNothing': WHATEVER THE INPUT: true; the input reads as it did. -/
def turnNothingSpec : ChangeSpec := { name := "turnNothing", fn := fun _ => fun
  | [d] => { results := [.lit (.bool true)], args := [d] }
  | _ => none }
def turnNothingRow : OpenClaim := { program := "ytmkjjopflncedaa", sum := "6e98ce5107d54b40bfcb9e84d8ca56c0398dd2df8f9964211b006223a131ab08", func := "recto/rectolaw22.TurnNothing", spec := "turnNothing", inPlace := ["slices.overlaps[recto/api.Node]"], unfollowed := true, recurses := true, loops := true, apart := false }
def TurnNothingSaid : Prop := turnNothingRow.holds Try.pinned (OpenSpec.ofChange turnNothingSpec)

/-- ITS FALSE NEIGHBOUR: 'it returns false'. Refute it at one input. -/
def turnNothingWrong : ChangeSpec := { name := "turnNothing", fn := fun _ => fun
  | [d] => { results := [.lit (.bool false)], args := [d] }
  | _ => none }
def TurnNothingWrongFalsely : Prop := turnNothingRow.holds Try.pinned (OpenSpec.ofChange turnNothingWrong)

/-- 'rectolaw21.EditScripts': WHATEVER THE INPUT: true; the input reads as it did. -/
def editScriptsSpec : ChangeSpec := { name := "editScripts", fn := fun _ => fun
  | [d1, d2] => { results := [.lit (.bool true)], args := [d1, d2] }
  | _ => none }
def editScriptsRow : OpenClaim := { program := "ytmkjjopflncedaa", sum := "6e98ce5107d54b40bfcb9e84d8ca56c0398dd2df8f9964211b006223a131ab08", func := "recto/rectolaw21.EditScripts", spec := "editScripts", inPlace := ["internal/abi.NoEscape", "slices.overlaps[recto/api.Node]"], unfollowed := true, recurses := true, loops := true, apart := false }
def EditScriptsSaid : Prop := editScriptsRow.holds Try.pinned (OpenSpec.ofChange editScriptsSpec)

/-- ITS FALSE NEIGHBOUR: 'it returns false'. Refute it at one input. -/
def editScriptsWrong : ChangeSpec := { name := "editScripts", fn := fun _ => fun
  | [d1, d2] => { results := [.lit (.bool false)], args := [d1, d2] }
  | _ => none }
def EditScriptsWrongFalsely : Prop := editScriptsRow.holds Try.pinned (OpenSpec.ofChange editScriptsWrong)

/-- 'rectolaw21.EditMakes': WHATEVER THE INPUT: true; the input reads as it did. -/
def editMakesSpec : ChangeSpec := { name := "editMakes", fn := fun _ => fun
  | [d1, d2] => { results := [.lit (.bool true)], args := [d1, d2] }
  | _ => none }
def editMakesRow : OpenClaim := { program := "ytmkjjopflncedaa", sum := "6e98ce5107d54b40bfcb9e84d8ca56c0398dd2df8f9964211b006223a131ab08", func := "recto/rectolaw21.EditMakes", spec := "editMakes", inPlace := ["internal/abi.NoEscape", "slices.overlaps[recto/api.Node]"], unfollowed := true, recurses := true, loops := true, apart := false }
def EditMakesSaid : Prop := editMakesRow.holds Try.pinned (OpenSpec.ofChange editMakesSpec)

/-- ITS FALSE NEIGHBOUR: 'it returns false'. Refute it at one input. -/
def editMakesWrong : ChangeSpec := { name := "editMakes", fn := fun _ => fun
  | [d1, d2] => { results := [.lit (.bool false)], args := [d1, d2] }
  | _ => none }
def EditMakesWrongFalsely : Prop := editMakesRow.holds Try.pinned (OpenSpec.ofChange editMakesWrong)

/-- 'rectolaw21.EditNothing': WHATEVER THE INPUT: true; the input reads as it did. -/
def editNothingSpec : ChangeSpec := { name := "editNothing", fn := fun _ => fun
  | [d1, d2] => { results := [.lit (.bool true)], args := [d1, d2] }
  | _ => none }
def editNothingRow : OpenClaim := { program := "ytmkjjopflncedaa", sum := "6e98ce5107d54b40bfcb9e84d8ca56c0398dd2df8f9964211b006223a131ab08", func := "recto/rectolaw21.EditNothing", spec := "editNothing", inPlace := ["internal/abi.NoEscape", "slices.overlaps[recto/api.Node]"], unfollowed := true, recurses := true, loops := true, apart := false }
def EditNothingSaid : Prop := editNothingRow.holds Try.pinned (OpenSpec.ofChange editNothingSpec)

/-- ITS FALSE NEIGHBOUR: 'it returns false'. Refute it at one input. -/
def editNothingWrong : ChangeSpec := { name := "editNothing", fn := fun _ => fun
  | [d1, d2] => { results := [.lit (.bool false)], args := [d1, d2] }
  | _ => none }
def EditNothingWrongFalsely : Prop := editNothingRow.holds Try.pinned (OpenSpec.ofChange editNothingWrong)

/-- 'rectolaw21.EditJoins': WHATEVER THE INPUT: true; the input reads as it did. -/
def editJoinsSpec : ChangeSpec := { name := "editJoins", fn := fun _ => fun
  | [d1, d2, d3] => { results := [.lit (.bool true)], args := [d1, d2, d3] }
  | _ => none }
def editJoinsRow : OpenClaim := { program := "ytmkjjopflncedaa", sum := "6e98ce5107d54b40bfcb9e84d8ca56c0398dd2df8f9964211b006223a131ab08", func := "recto/rectolaw21.EditJoins", spec := "editJoins", inPlace := ["internal/abi.NoEscape", "slices.overlaps[recto/api.Node]"], unfollowed := true, recurses := true, loops := true, apart := false }
def EditJoinsSaid : Prop := editJoinsRow.holds Try.pinned (OpenSpec.ofChange editJoinsSpec)

/-- ITS FALSE NEIGHBOUR: 'it returns false'. Refute it at one input. -/
def editJoinsWrong : ChangeSpec := { name := "editJoins", fn := fun _ => fun
  | [d1, d2, d3] => { results := [.lit (.bool false)], args := [d1, d2, d3] }
  | _ => none }
def EditJoinsWrongFalsely : Prop := editJoinsRow.holds Try.pinned (OpenSpec.ofChange editJoinsWrong)

/-- 'rectolaw21.EditOwn': WHATEVER THE INPUT: true; the input reads as it did. -/
def editOwnSpec : ChangeSpec := { name := "editOwn", fn := fun _ => fun
  | [d1, d2] => { results := [.lit (.bool true)], args := [d1, d2] }
  | _ => none }
def editOwnRow : OpenClaim := { program := "ytmkjjopflncedaa", sum := "6e98ce5107d54b40bfcb9e84d8ca56c0398dd2df8f9964211b006223a131ab08", func := "recto/rectolaw21.EditOwn", spec := "editOwn", inPlace := ["internal/abi.NoEscape", "slices.overlaps[recto/api.Node]"], unfollowed := true, recurses := true, loops := true, apart := false }
def EditOwnSaid : Prop := editOwnRow.holds Try.pinned (OpenSpec.ofChange editOwnSpec)

/-- ITS FALSE NEIGHBOUR: 'it returns false'. Refute it at one input. -/
def editOwnWrong : ChangeSpec := { name := "editOwn", fn := fun _ => fun
  | [d1, d2] => { results := [.lit (.bool false)], args := [d1, d2] }
  | _ => none }
def EditOwnWrongFalsely : Prop := editOwnRow.holds Try.pinned (OpenSpec.ofChange editOwnWrong)

/- THE SECOND FORM. 'bulk': how many values and letters a reading holds, each counted each time it is reached (what is shared counts as often as it is met; a slice's spare places count too). A statement '..UptoSaid' is the law's where the arguments, and the package variables that the reading takes, are together of bulk at most 1048576: NARROWER than '..Said'. Prove '..Said' where nothing that the law and all that it calls make is longer than what came in: it says more and counts as full. Else prove '..UptoSaid'. A law counts once. -/
mutual
def uptoBulk {H : Type} : DataW H → Nat
  | .lit (.string bytes) => bytes.length + 1
  | .lit _ => 1
  | .nil => 1
  | .ptr d => uptoBulk d + 1
  | .slice elems spare => uptoBulkAll elems + uptoBulkAll spare + 1
  | .agg parts => uptoBulkAll parts + 1
  | .iface _ d => uptoBulk d + 1
  | .map entries => uptoBulkEntries entries + 1
  | .held _ => 1
def uptoBulkAll {H : Type} : List (DataW H) → Nat
  | [] => 0
  | d :: r => uptoBulk d + uptoBulkAll r
def uptoBulkEntries {H : Type} : List (Lit × DataW H) → Nat
  | [] => 0
  | x :: r => uptoBulkEntry x + uptoBulkEntries r
def uptoBulkEntry {H : Type} : Lit × DataW H → Nat
  | (.string bytes, d) => bytes.length + uptoBulk d + 1
  | (_, d) => uptoBulk d + 1
 end
def uptoSmall : (H : Type) → List (DataW H) → Bool := fun _ ds => decide (uptoBulkAll ds ≤ 1048576)
def OpenSpec.upto (s : _root_.Go.ChangeSpec) : _root_.Go.OpenSpec := { _root_.Go.OpenSpec.ofChange s with cond := some uptoSmall }

/-- 'rectolaw22.TurnSteps', WHERE WHAT IT READS IS OF BULK AT MOST 1048576: true; the input reads as it did. -/
def turnStepsUptoRow : OpenClaim := { program := "ytmkjjopflncedaa", sum := "6e98ce5107d54b40bfcb9e84d8ca56c0398dd2df8f9964211b006223a131ab08", func := "recto/rectolaw22.TurnSteps", spec := "turnSteps", inPlace := ["slices.overlaps[recto/api.Node]"], unfollowed := true, recurses := true, loops := true, apart := false, narrowed := true }
def TurnStepsUptoSaid : Prop := turnStepsUptoRow.holds Try.pinned (OpenSpec.upto turnStepsSpec)

/-- 'rectolaw22.TurnBack', WHERE WHAT IT READS IS OF BULK AT MOST 1048576: true; the input reads as it did. -/
def turnBackUptoRow : OpenClaim := { program := "ytmkjjopflncedaa", sum := "6e98ce5107d54b40bfcb9e84d8ca56c0398dd2df8f9964211b006223a131ab08", func := "recto/rectolaw22.TurnBack", spec := "turnBack", inPlace := ["slices.overlaps[recto/api.Node]"], unfollowed := true, recurses := true, loops := true, apart := false, narrowed := true }
def TurnBackUptoSaid : Prop := turnBackUptoRow.holds Try.pinned (OpenSpec.upto turnBackSpec)

/-- 'rectolaw22.TurnTwice', WHERE WHAT IT READS IS OF BULK AT MOST 1048576: true; the input reads as it did. -/
def turnTwiceUptoRow : OpenClaim := { program := "ytmkjjopflncedaa", sum := "6e98ce5107d54b40bfcb9e84d8ca56c0398dd2df8f9964211b006223a131ab08", func := "recto/rectolaw22.TurnTwice", spec := "turnTwice", inPlace := ["slices.overlaps[recto/api.Node]"], unfollowed := true, recurses := true, loops := true, apart := false, narrowed := true }
def TurnTwiceUptoSaid : Prop := turnTwiceUptoRow.holds Try.pinned (OpenSpec.upto turnTwiceSpec)

/-- 'rectolaw22.TurnShort', WHERE WHAT IT READS IS OF BULK AT MOST 1048576: true; the input reads as it did. -/
def turnShortUptoRow : OpenClaim := { program := "ytmkjjopflncedaa", sum := "6e98ce5107d54b40bfcb9e84d8ca56c0398dd2df8f9964211b006223a131ab08", func := "recto/rectolaw22.TurnShort", spec := "turnShort", inPlace := ["slices.overlaps[recto/api.Node]"], unfollowed := true, recurses := true, loops := true, apart := false, narrowed := true }
def TurnShortUptoSaid : Prop := turnShortUptoRow.holds Try.pinned (OpenSpec.upto turnShortSpec)

/-- 'rectolaw22.TurnNothing', WHERE WHAT IT READS IS OF BULK AT MOST 1048576: true; the input reads as it did. -/
def turnNothingUptoRow : OpenClaim := { program := "ytmkjjopflncedaa", sum := "6e98ce5107d54b40bfcb9e84d8ca56c0398dd2df8f9964211b006223a131ab08", func := "recto/rectolaw22.TurnNothing", spec := "turnNothing", inPlace := ["slices.overlaps[recto/api.Node]"], unfollowed := true, recurses := true, loops := true, apart := false, narrowed := true }
def TurnNothingUptoSaid : Prop := turnNothingUptoRow.holds Try.pinned (OpenSpec.upto turnNothingSpec)

/-- 'rectolaw21.EditScripts', WHERE WHAT IT READS IS OF BULK AT MOST 1048576: true; the input reads as it did. -/
def editScriptsUptoRow : OpenClaim := { program := "ytmkjjopflncedaa", sum := "6e98ce5107d54b40bfcb9e84d8ca56c0398dd2df8f9964211b006223a131ab08", func := "recto/rectolaw21.EditScripts", spec := "editScripts", inPlace := ["internal/abi.NoEscape", "slices.overlaps[recto/api.Node]"], unfollowed := true, recurses := true, loops := true, apart := false, narrowed := true }
def EditScriptsUptoSaid : Prop := editScriptsUptoRow.holds Try.pinned (OpenSpec.upto editScriptsSpec)

/-- 'rectolaw21.EditMakes', WHERE WHAT IT READS IS OF BULK AT MOST 1048576: true; the input reads as it did. -/
def editMakesUptoRow : OpenClaim := { program := "ytmkjjopflncedaa", sum := "6e98ce5107d54b40bfcb9e84d8ca56c0398dd2df8f9964211b006223a131ab08", func := "recto/rectolaw21.EditMakes", spec := "editMakes", inPlace := ["internal/abi.NoEscape", "slices.overlaps[recto/api.Node]"], unfollowed := true, recurses := true, loops := true, apart := false, narrowed := true }
def EditMakesUptoSaid : Prop := editMakesUptoRow.holds Try.pinned (OpenSpec.upto editMakesSpec)

/-- 'rectolaw21.EditNothing', WHERE WHAT IT READS IS OF BULK AT MOST 1048576: true; the input reads as it did. -/
def editNothingUptoRow : OpenClaim := { program := "ytmkjjopflncedaa", sum := "6e98ce5107d54b40bfcb9e84d8ca56c0398dd2df8f9964211b006223a131ab08", func := "recto/rectolaw21.EditNothing", spec := "editNothing", inPlace := ["internal/abi.NoEscape", "slices.overlaps[recto/api.Node]"], unfollowed := true, recurses := true, loops := true, apart := false, narrowed := true }
def EditNothingUptoSaid : Prop := editNothingUptoRow.holds Try.pinned (OpenSpec.upto editNothingSpec)

/-- 'rectolaw21.EditJoins', WHERE WHAT IT READS IS OF BULK AT MOST 1048576: true; the input reads as it did. -/
def editJoinsUptoRow : OpenClaim := { program := "ytmkjjopflncedaa", sum := "6e98ce5107d54b40bfcb9e84d8ca56c0398dd2df8f9964211b006223a131ab08", func := "recto/rectolaw21.EditJoins", spec := "editJoins", inPlace := ["internal/abi.NoEscape", "slices.overlaps[recto/api.Node]"], unfollowed := true, recurses := true, loops := true, apart := false, narrowed := true }
def EditJoinsUptoSaid : Prop := editJoinsUptoRow.holds Try.pinned (OpenSpec.upto editJoinsSpec)

/-- 'rectolaw21.EditOwn', WHERE WHAT IT READS IS OF BULK AT MOST 1048576: true; the input reads as it did. -/
def editOwnUptoRow : OpenClaim := { program := "ytmkjjopflncedaa", sum := "6e98ce5107d54b40bfcb9e84d8ca56c0398dd2df8f9964211b006223a131ab08", func := "recto/rectolaw21.EditOwn", spec := "editOwn", inPlace := ["internal/abi.NoEscape", "slices.overlaps[recto/api.Node]"], unfollowed := true, recurses := true, loops := true, apart := false, narrowed := true }
def EditOwnUptoSaid : Prop := editOwnUptoRow.holds Try.pinned (OpenSpec.upto editOwnSpec)

end Rows
end Go.Proofs.Ytmkjjopflncedaa
