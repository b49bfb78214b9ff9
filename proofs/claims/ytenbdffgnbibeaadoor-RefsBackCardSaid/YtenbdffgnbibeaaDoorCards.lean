/-
  DERIVED. GIVEN WITH THE SEED: THE CARDS: each row of YtenbdffgnbibeaaDoorRows.lean that lists a variable, with what it lists TIED to the program's text (the seventh form; the later family's looks); each row that meets fmt, with fmt's text TOLD by the authors' own Lean function (tested against real Go, not proved from fmt's source: count such statements apart). THE CARD IS WHAT COUNTS. Prove the row's statement (the work); the ties are given (YtenbdffgnbibeaaDoorTie.lean); close each card by the builder's one call (the guide's Derived/Test/ToyasCard.lean, 'card_holds'). Laid BY PROGRAM, IN A SANDBOX (cutbox-door.mjs). By AI agents, Wed Nov 11 2026. No macro, syntax, notation, axiom, sorry.
-/
import Derived.Test.YtenbdffgnbibeaaDoorRows
import GoSem.ClaimSeven
namespace Go.Proofs.YtenbdffgnbibeaaDoor
namespace Rows

/-- THE TIED CARD OF 'rectolaw02.UtfBytes'. -/
def utfBytesCard : Claim7 := { stood := { row := utfBytesRow, standIns := [], harness := (true, "f2a57ac22dcbb3b200d99d52b1c522a349f206c77f83655b816d3d19dda30469"), looks := false }, kinds := [], alts := [], laidByText := true, laidKinds := [.data], laidTests := true, laidLooks := .later }
def UtfBytesCardSaid : Prop := Claim7.holds Tryd.pinned (.plain (OpenSpec.ofChange utfBytesSpec)) utfBytesCard

/-- THE TIED CARD OF 'rectolaw02.UtfFirsts'. -/
def utfFirstsCard : Claim7 := { stood := { row := utfFirstsRow, standIns := [], harness := (true, "f2a57ac22dcbb3b200d99d52b1c522a349f206c77f83655b816d3d19dda30469"), looks := false }, kinds := [], alts := [], laidByText := true, laidKinds := [.data], laidTests := true, laidLooks := .later }
def UtfFirstsCardSaid : Prop := Claim7.holds Tryd.pinned (.plain (OpenSpec.ofChange utfFirstsSpec)) utfFirstsCard

/-- THE TIED CARD OF 'rectolaw02.UtfBack'. -/
def utfBackCard : Claim7 := { stood := { row := utfBackRow, standIns := [], harness := (true, "f2a57ac22dcbb3b200d99d52b1c522a349f206c77f83655b816d3d19dda30469"), looks := false }, kinds := [], alts := [], laidByText := true, laidKinds := [.data], laidTests := true, laidLooks := .later }
def UtfBackCardSaid : Prop := Claim7.holds Tryd.pinned (.plain (OpenSpec.ofChange utfBackSpec)) utfBackCard

/-- THE TIED CARD OF 'rectolaw02.UtfStays'. -/
def utfStaysCard : Claim7 := { stood := { row := utfStaysRow, standIns := [], harness := (true, "f2a57ac22dcbb3b200d99d52b1c522a349f206c77f83655b816d3d19dda30469"), looks := false }, kinds := [], alts := [], laidByText := true, laidKinds := [.data], laidTests := true, laidLooks := .later }
def UtfStaysCardSaid : Prop := Claim7.holds Tryd.pinned (.plain (OpenSpec.ofChange utfStaysSpec)) utfStaysCard

/-- THE TIED CARD OF 'rectolaw02.UtfCleans'. -/
def utfCleansCard : Claim7 := { stood := { row := utfCleansRow, standIns := [], harness := (true, "f2a57ac22dcbb3b200d99d52b1c522a349f206c77f83655b816d3d19dda30469"), looks := false }, kinds := [], alts := [], laidByText := true, laidKinds := [.data], laidTests := true, laidLooks := .later }
def UtfCleansCardSaid : Prop := Claim7.holds Tryd.pinned (.plain (OpenSpec.ofChange utfCleansSpec)) utfCleansCard

/-- THE TIED CARD OF 'rectolaw04.RefsAt'. -/
def refsAtCard : Claim7 := { stood := { row := refsAtRow, standIns := [], harness := (true, "f2a57ac22dcbb3b200d99d52b1c522a349f206c77f83655b816d3d19dda30469"), looks := false }, kinds := [], alts := [], laidByText := true, laidKinds := [.data, .data, .data], laidTests := true, laidLooks := .later }
def RefsAtCardSaid : Prop := Claim7.holds Tryd.pinned (.plain (OpenSpec.ofChange refsAtSpec)) refsAtCard

/-- THE TIED CARD OF 'rectolaw04.RefsAll'. -/
def refsAllCard : Claim7 := { stood := { row := refsAllRow, standIns := [], harness := (true, "f2a57ac22dcbb3b200d99d52b1c522a349f206c77f83655b816d3d19dda30469"), looks := false }, kinds := [], alts := [], laidByText := true, laidKinds := [.data, .data, .data], laidTests := true, laidLooks := .later }
def RefsAllCardSaid : Prop := Claim7.holds Tryd.pinned (.plain (OpenSpec.ofChange refsAllSpec)) refsAllCard

/-- THE TIED CARD OF 'rectolaw04.RefsNames'. -/
def refsNamesCard : Claim7 := { stood := { row := refsNamesRow, standIns := [], harness := (true, "f2a57ac22dcbb3b200d99d52b1c522a349f206c77f83655b816d3d19dda30469"), looks := false }, kinds := [], alts := [], laidByText := true, laidKinds := [.data, .data, .data], laidTests := true, laidLooks := .later }
def RefsNamesCardSaid : Prop := Claim7.holds Tryd.pinned (.plain (OpenSpec.ofChange refsNamesSpec)) refsNamesCard

/-- THE TIED CARD OF 'rectolaw04.RefsPlain'. -/
def refsPlainCard : Claim7 := { stood := { row := refsPlainRow, standIns := [], harness := (true, "f2a57ac22dcbb3b200d99d52b1c522a349f206c77f83655b816d3d19dda30469"), looks := false }, kinds := [], alts := [], laidByText := true, laidKinds := [.data, .data, .data], laidTests := true, laidLooks := .later }
def RefsPlainCardSaid : Prop := Claim7.holds Tryd.pinned (.plain (OpenSpec.ofChange refsPlainSpec)) refsPlainCard

/-- THE TIED CARD OF 'rectolaw04.RefsEscapes'. -/
def refsEscapesCard : Claim7 := { stood := { row := refsEscapesRow, standIns := [], harness := (true, "f2a57ac22dcbb3b200d99d52b1c522a349f206c77f83655b816d3d19dda30469"), looks := false }, kinds := [], alts := [], laidByText := true, laidKinds := [.data, .data, .data, .data, .pinned], laidTests := true, laidLooks := .later }
def RefsEscapesCardSaid : Prop := Claim7.holds Tryd.pinned (.plain (OpenSpec.ofChange refsEscapesSpec)) refsEscapesCard

/-- THE TIED CARD OF 'rectolaw04.RefsBack'. -/
def refsBackCard : Claim7 := { stood := { row := refsBackRow, standIns := [], harness := (true, "f2a57ac22dcbb3b200d99d52b1c522a349f206c77f83655b816d3d19dda30469"), looks := false }, kinds := [], alts := [], laidByText := true, laidKinds := [.data, .data, .data, .data, .pinned], laidTests := true, laidLooks := .later }
def RefsBackCardSaid : Prop := Claim7.holds Tryd.pinned (.plain (OpenSpec.ofChange refsBackSpec)) refsBackCard

/-- THE SECOND FORM's CARD OF 'rectolaw02.UtfBytes'. -/
def utfBytesUptoCard : Claim7 := { stood := { row := utfBytesUptoRow, standIns := [], harness := (true, "f2a57ac22dcbb3b200d99d52b1c522a349f206c77f83655b816d3d19dda30469"), looks := false }, kinds := [], alts := [], laidByText := true, laidKinds := [.data], laidTests := true, laidLooks := .later }
def UtfBytesUptoCardSaid : Prop := Claim7.holds Tryd.pinned (.plain (OpenSpec.upto utfBytesSpec)) utfBytesUptoCard

/-- THE SECOND FORM's CARD OF 'rectolaw02.UtfFirsts'. -/
def utfFirstsUptoCard : Claim7 := { stood := { row := utfFirstsUptoRow, standIns := [], harness := (true, "f2a57ac22dcbb3b200d99d52b1c522a349f206c77f83655b816d3d19dda30469"), looks := false }, kinds := [], alts := [], laidByText := true, laidKinds := [.data], laidTests := true, laidLooks := .later }
def UtfFirstsUptoCardSaid : Prop := Claim7.holds Tryd.pinned (.plain (OpenSpec.upto utfFirstsSpec)) utfFirstsUptoCard

/-- THE SECOND FORM's CARD OF 'rectolaw02.UtfBack'. -/
def utfBackUptoCard : Claim7 := { stood := { row := utfBackUptoRow, standIns := [], harness := (true, "f2a57ac22dcbb3b200d99d52b1c522a349f206c77f83655b816d3d19dda30469"), looks := false }, kinds := [], alts := [], laidByText := true, laidKinds := [.data], laidTests := true, laidLooks := .later }
def UtfBackUptoCardSaid : Prop := Claim7.holds Tryd.pinned (.plain (OpenSpec.upto utfBackSpec)) utfBackUptoCard

/-- THE SECOND FORM's CARD OF 'rectolaw02.UtfStays'. -/
def utfStaysUptoCard : Claim7 := { stood := { row := utfStaysUptoRow, standIns := [], harness := (true, "f2a57ac22dcbb3b200d99d52b1c522a349f206c77f83655b816d3d19dda30469"), looks := false }, kinds := [], alts := [], laidByText := true, laidKinds := [.data], laidTests := true, laidLooks := .later }
def UtfStaysUptoCardSaid : Prop := Claim7.holds Tryd.pinned (.plain (OpenSpec.upto utfStaysSpec)) utfStaysUptoCard

/-- THE SECOND FORM's CARD OF 'rectolaw02.UtfCleans'. -/
def utfCleansUptoCard : Claim7 := { stood := { row := utfCleansUptoRow, standIns := [], harness := (true, "f2a57ac22dcbb3b200d99d52b1c522a349f206c77f83655b816d3d19dda30469"), looks := false }, kinds := [], alts := [], laidByText := true, laidKinds := [.data], laidTests := true, laidLooks := .later }
def UtfCleansUptoCardSaid : Prop := Claim7.holds Tryd.pinned (.plain (OpenSpec.upto utfCleansSpec)) utfCleansUptoCard

/-- THE SECOND FORM's CARD OF 'rectolaw04.RefsAt'. -/
def refsAtUptoCard : Claim7 := { stood := { row := refsAtUptoRow, standIns := [], harness := (true, "f2a57ac22dcbb3b200d99d52b1c522a349f206c77f83655b816d3d19dda30469"), looks := false }, kinds := [], alts := [], laidByText := true, laidKinds := [.data, .data, .data], laidTests := true, laidLooks := .later }
def RefsAtUptoCardSaid : Prop := Claim7.holds Tryd.pinned (.plain (OpenSpec.upto refsAtSpec)) refsAtUptoCard

/-- THE SECOND FORM's CARD OF 'rectolaw04.RefsAll'. -/
def refsAllUptoCard : Claim7 := { stood := { row := refsAllUptoRow, standIns := [], harness := (true, "f2a57ac22dcbb3b200d99d52b1c522a349f206c77f83655b816d3d19dda30469"), looks := false }, kinds := [], alts := [], laidByText := true, laidKinds := [.data, .data, .data], laidTests := true, laidLooks := .later }
def RefsAllUptoCardSaid : Prop := Claim7.holds Tryd.pinned (.plain (OpenSpec.upto refsAllSpec)) refsAllUptoCard

/-- THE SECOND FORM's CARD OF 'rectolaw04.RefsNames'. -/
def refsNamesUptoCard : Claim7 := { stood := { row := refsNamesUptoRow, standIns := [], harness := (true, "f2a57ac22dcbb3b200d99d52b1c522a349f206c77f83655b816d3d19dda30469"), looks := false }, kinds := [], alts := [], laidByText := true, laidKinds := [.data, .data, .data], laidTests := true, laidLooks := .later }
def RefsNamesUptoCardSaid : Prop := Claim7.holds Tryd.pinned (.plain (OpenSpec.upto refsNamesSpec)) refsNamesUptoCard

/-- THE SECOND FORM's CARD OF 'rectolaw04.RefsPlain'. -/
def refsPlainUptoCard : Claim7 := { stood := { row := refsPlainUptoRow, standIns := [], harness := (true, "f2a57ac22dcbb3b200d99d52b1c522a349f206c77f83655b816d3d19dda30469"), looks := false }, kinds := [], alts := [], laidByText := true, laidKinds := [.data, .data, .data], laidTests := true, laidLooks := .later }
def RefsPlainUptoCardSaid : Prop := Claim7.holds Tryd.pinned (.plain (OpenSpec.upto refsPlainSpec)) refsPlainUptoCard

/-- THE SECOND FORM's CARD OF 'rectolaw04.RefsEscapes'. -/
def refsEscapesUptoCard : Claim7 := { stood := { row := refsEscapesUptoRow, standIns := [], harness := (true, "f2a57ac22dcbb3b200d99d52b1c522a349f206c77f83655b816d3d19dda30469"), looks := false }, kinds := [], alts := [], laidByText := true, laidKinds := [.data, .data, .data, .data, .pinned], laidTests := true, laidLooks := .later }
def RefsEscapesUptoCardSaid : Prop := Claim7.holds Tryd.pinned (.plain (OpenSpec.upto refsEscapesSpec)) refsEscapesUptoCard

/-- THE SECOND FORM's CARD OF 'rectolaw04.RefsBack'. -/
def refsBackUptoCard : Claim7 := { stood := { row := refsBackUptoRow, standIns := [], harness := (true, "f2a57ac22dcbb3b200d99d52b1c522a349f206c77f83655b816d3d19dda30469"), looks := false }, kinds := [], alts := [], laidByText := true, laidKinds := [.data, .data, .data, .data, .pinned], laidTests := true, laidLooks := .later }
def RefsBackUptoCardSaid : Prop := Claim7.holds Tryd.pinned (.plain (OpenSpec.upto refsBackSpec)) refsBackUptoCard
end Rows
end Go.Proofs.YtenbdffgnbibeaaDoor
