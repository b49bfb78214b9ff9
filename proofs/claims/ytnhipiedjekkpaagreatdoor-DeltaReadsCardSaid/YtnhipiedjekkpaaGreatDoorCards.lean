/-
  DERIVED. GIVEN WITH THE SEED: THE CARDS: each row of YtnhipiedjekkpaaGreatDoorRows.lean that lists a variable, with what it lists TIED to the program's text (the seventh form; the later family's looks); each row that meets fmt, with fmt's text TOLD by the authors' own Lean function (tested against real Go, not proved from fmt's source: count such statements apart). THE CARD IS WHAT COUNTS. Prove the row's statement (the work); the ties are given (YtnhipiedjekkpaaGreatDoorTie.lean); close each card by the builder's one call (the guide's Derived/Test/ToyasCard.lean, 'card_holds'). Laid BY PROGRAM, IN A SANDBOX (cutbox-door.mjs). By AI agents, Wed Nov 11 2026. No macro, syntax, notation, axiom, sorry.
-/
import Derived.Test.YtnhipiedjekkpaaGreatDoorRows
import GoSem.ClaimSeven
namespace Go.Proofs.YtnhipiedjekkpaaGreatDoor
namespace Rows

/-- THE TIED CARD OF 'rectolaw23.DeltaWrites'. -/
def deltaWritesCard : Claim7 := { stood := { row := deltaWritesRow, standIns := [], harness := (true, "d7e8740e4acbd08609d7eb92c121f7e4a4fb981696d50d7081468741e56d3210"), looks := false }, kinds := [], alts := [], laidByText := true, laidKinds := [.data, .data, .pinned], laidTests := true, laidLooks := .later }
def DeltaWritesCardSaid : Prop := Claim7.holds Tryz.pinned (.plain (OpenSpec.ofChange deltaWritesSpec)) deltaWritesCard

/-- THE TIED CARD OF 'rectolaw23.DeltaReads'. -/
def deltaReadsCard : Claim7 := { stood := { row := deltaReadsRow, standIns := [], harness := (true, "d7e8740e4acbd08609d7eb92c121f7e4a4fb981696d50d7081468741e56d3210"), looks := false }, kinds := [], alts := [], laidByText := true, laidKinds := [.data, .data, .pinned], laidTests := true, laidLooks := .later }
def DeltaReadsCardSaid : Prop := Claim7.holds Tryz.pinned (.plain (OpenSpec.ofChange deltaReadsSpec)) deltaReadsCard

/-- THE TIED CARD OF 'rectolaw23.DeltaBack'. -/
def deltaBackCard : Claim7 := { stood := { row := deltaBackRow, standIns := [], harness := (true, "d7e8740e4acbd08609d7eb92c121f7e4a4fb981696d50d7081468741e56d3210"), looks := false }, kinds := [], alts := [], laidByText := true, laidKinds := [.data, .data, .pinned], laidTests := true, laidLooks := .later }
def DeltaBackCardSaid : Prop := Claim7.holds Tryz.pinned (.plain (OpenSpec.ofChange deltaBackSpec)) deltaBackCard

/-- THE TIED CARD OF 'rectolaw23.DeltaApart'. -/
def deltaApartCard : Claim7 := { stood := { row := deltaApartRow, standIns := [], harness := (true, "d7e8740e4acbd08609d7eb92c121f7e4a4fb981696d50d7081468741e56d3210"), looks := false }, kinds := [], alts := [], laidByText := true, laidKinds := [.data, .data, .pinned], laidTests := true, laidLooks := .later }
def DeltaApartCardSaid : Prop := Claim7.holds Tryz.pinned (.plain (OpenSpec.ofChange deltaApartSpec)) deltaApartCard

/-- THE SECOND FORM's CARD OF 'rectolaw23.DeltaWrites'. -/
def deltaWritesUptoCard : Claim7 := { stood := { row := deltaWritesUptoRow, standIns := [], harness := (true, "d7e8740e4acbd08609d7eb92c121f7e4a4fb981696d50d7081468741e56d3210"), looks := false }, kinds := [], alts := [], laidByText := true, laidKinds := [.data, .data, .pinned], laidTests := true, laidLooks := .later }
def DeltaWritesUptoCardSaid : Prop := Claim7.holds Tryz.pinned (.plain (OpenSpec.upto deltaWritesSpec)) deltaWritesUptoCard

/-- THE SECOND FORM's CARD OF 'rectolaw23.DeltaReads'. -/
def deltaReadsUptoCard : Claim7 := { stood := { row := deltaReadsUptoRow, standIns := [], harness := (true, "d7e8740e4acbd08609d7eb92c121f7e4a4fb981696d50d7081468741e56d3210"), looks := false }, kinds := [], alts := [], laidByText := true, laidKinds := [.data, .data, .pinned], laidTests := true, laidLooks := .later }
def DeltaReadsUptoCardSaid : Prop := Claim7.holds Tryz.pinned (.plain (OpenSpec.upto deltaReadsSpec)) deltaReadsUptoCard

/-- THE SECOND FORM's CARD OF 'rectolaw23.DeltaBack'. -/
def deltaBackUptoCard : Claim7 := { stood := { row := deltaBackUptoRow, standIns := [], harness := (true, "d7e8740e4acbd08609d7eb92c121f7e4a4fb981696d50d7081468741e56d3210"), looks := false }, kinds := [], alts := [], laidByText := true, laidKinds := [.data, .data, .pinned], laidTests := true, laidLooks := .later }
def DeltaBackUptoCardSaid : Prop := Claim7.holds Tryz.pinned (.plain (OpenSpec.upto deltaBackSpec)) deltaBackUptoCard

/-- THE SECOND FORM's CARD OF 'rectolaw23.DeltaApart'. -/
def deltaApartUptoCard : Claim7 := { stood := { row := deltaApartUptoRow, standIns := [], harness := (true, "d7e8740e4acbd08609d7eb92c121f7e4a4fb981696d50d7081468741e56d3210"), looks := false }, kinds := [], alts := [], laidByText := true, laidKinds := [.data, .data, .pinned], laidTests := true, laidLooks := .later }
def DeltaApartUptoCardSaid : Prop := Claim7.holds Tryz.pinned (.plain (OpenSpec.upto deltaApartSpec)) deltaApartUptoCard
end Rows
end Go.Proofs.YtnhipiedjekkpaaGreatDoor
