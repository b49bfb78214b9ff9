/-
  DERIVED. GIVEN WITH THE SEED: THE CARDS: each row of YtdoapeandigooaaDoorRows.lean that lists a variable, with what it lists TIED to the program's text (the seventh form; the later family's looks); each row that meets fmt, with fmt's text TOLD by the authors' own Lean function (tested against real Go, not proved from fmt's source: count such statements apart). THE CARD IS WHAT COUNTS. Prove the row's statement (the work); the ties are given (YtdoapeandigooaaDoorTie.lean); close each card by the builder's one call (the guide's Derived/Test/ToyasCard.lean, 'card_holds'). Laid BY PROGRAM, IN A SANDBOX (cutbox-door.mjs). By AI agents, Wed Nov 11 2026. No macro, syntax, notation, axiom, sorry.
-/
import Derived.Test.YtdoapeandigooaaDoorRows
import GoSem.ClaimSeven
namespace Go.Proofs.YtdoapeandigooaaDoor
namespace Rows

/-- THE TIED CARD OF 'rectolaw03.CharsReady'. -/
def charsReadyCard : Claim7 := { stood := { row := charsReadyRow, standIns := [], harness := (true, "286791b1c35eb73dee7434b94bddcead3cfa136b061fc4bce8446865194887da"), looks := false }, kinds := [], alts := [], laidByText := true, laidKinds := [.data, .data, .pinned], laidTests := true, laidLooks := .later }
def CharsReadyCardSaid : Prop := Claim7.holds Tryd.pinned (.plain (OpenSpec.ofChange charsReadySpec)) charsReadyCard

/-- THE TIED CARD OF 'rectolaw03.CharsLower'. -/
def charsLowerCard : Claim7 := { stood := { row := charsLowerRow, standIns := [], harness := (true, "286791b1c35eb73dee7434b94bddcead3cfa136b061fc4bce8446865194887da"), looks := false }, kinds := [], alts := [], laidByText := true, laidKinds := [.data, .data, .pinned], laidTests := true, laidLooks := .later }
def CharsLowerCardSaid : Prop := Claim7.holds Tryd.pinned (.plain (OpenSpec.ofChange charsLowerSpec)) charsLowerCard

/-- THE TIED CARD OF 'rectolaw03.CharsKinds'. -/
def charsKindsCard : Claim7 := { stood := { row := charsKindsRow, standIns := [], harness := (true, "286791b1c35eb73dee7434b94bddcead3cfa136b061fc4bce8446865194887da"), looks := false }, kinds := [], alts := [], laidByText := true, laidKinds := [.data, .data, .pinned], laidTests := true, laidLooks := .later }
def CharsKindsCardSaid : Prop := Claim7.holds Tryd.pinned (.plain (OpenSpec.ofChange charsKindsSpec)) charsKindsCard

/-- THE TIED CARD OF 'rectolaw03.CharsTexts'. -/
def charsTextsCard : Claim7 := { stood := { row := charsTextsRow, standIns := [], harness := (true, "286791b1c35eb73dee7434b94bddcead3cfa136b061fc4bce8446865194887da"), looks := false }, kinds := [], alts := [], laidByText := true, laidKinds := [.data, .data, .pinned], laidTests := true, laidLooks := .later }
def CharsTextsCardSaid : Prop := Claim7.holds Tryd.pinned (.plain (OpenSpec.ofChange charsTextsSpec)) charsTextsCard

/-- THE TIED CARD OF 'rectolaw03.CharsWords'. -/
def charsWordsCard : Claim7 := { stood := { row := charsWordsRow, standIns := [], harness := (true, "286791b1c35eb73dee7434b94bddcead3cfa136b061fc4bce8446865194887da"), looks := false }, kinds := [], alts := [], laidByText := true, laidKinds := [.data, .data, .pinned], laidTests := true, laidLooks := .later }
def CharsWordsCardSaid : Prop := Claim7.holds Tryd.pinned (.plain (OpenSpec.ofChange charsWordsSpec)) charsWordsCard

/-- THE TIED CARD OF 'rectolaw03.CharsStays'. -/
def charsStaysCard : Claim7 := { stood := { row := charsStaysRow, standIns := [], harness := (true, "286791b1c35eb73dee7434b94bddcead3cfa136b061fc4bce8446865194887da"), looks := false }, kinds := [], alts := [], laidByText := true, laidKinds := [.data, .data, .pinned], laidTests := true, laidLooks := .later }
def CharsStaysCardSaid : Prop := Claim7.holds Tryd.pinned (.plain (OpenSpec.ofChange charsStaysSpec)) charsStaysCard

/-- THE TIED CARD OF 'rectolaw06.PenTags'. -/
def penTagsCard : Claim7 := { stood := { row := penTagsRow, standIns := [], harness := (true, "286791b1c35eb73dee7434b94bddcead3cfa136b061fc4bce8446865194887da"), looks := false }, kinds := [], alts := [], laidByText := true, laidKinds := [.data, .data, .pinned], laidTests := true, laidLooks := .later }
def PenTagsCardSaid : Prop := Claim7.holds Tryd.pinned (.plain (OpenSpec.ofChange penTagsSpec)) penTagsCard

/-- THE TIED CARD OF 'rectolaw06.PenTexts'. -/
def penTextsCard : Claim7 := { stood := { row := penTextsRow, standIns := [], harness := (true, "286791b1c35eb73dee7434b94bddcead3cfa136b061fc4bce8446865194887da"), looks := false }, kinds := [], alts := [], laidByText := true, laidKinds := [.data, .data, .pinned], laidTests := true, laidLooks := .later }
def PenTextsCardSaid : Prop := Claim7.holds Tryd.pinned (.plain (OpenSpec.ofChange penTextsSpec)) penTextsCard

/-- THE SECOND FORM's CARD OF 'rectolaw03.CharsReady'. -/
def charsReadyUptoCard : Claim7 := { stood := { row := charsReadyUptoRow, standIns := [], harness := (true, "286791b1c35eb73dee7434b94bddcead3cfa136b061fc4bce8446865194887da"), looks := false }, kinds := [], alts := [], laidByText := true, laidKinds := [.data, .data, .pinned], laidTests := true, laidLooks := .later }
def CharsReadyUptoCardSaid : Prop := Claim7.holds Tryd.pinned (.plain (OpenSpec.upto charsReadySpec)) charsReadyUptoCard

/-- THE SECOND FORM's CARD OF 'rectolaw03.CharsLower'. -/
def charsLowerUptoCard : Claim7 := { stood := { row := charsLowerUptoRow, standIns := [], harness := (true, "286791b1c35eb73dee7434b94bddcead3cfa136b061fc4bce8446865194887da"), looks := false }, kinds := [], alts := [], laidByText := true, laidKinds := [.data, .data, .pinned], laidTests := true, laidLooks := .later }
def CharsLowerUptoCardSaid : Prop := Claim7.holds Tryd.pinned (.plain (OpenSpec.upto charsLowerSpec)) charsLowerUptoCard

/-- THE SECOND FORM's CARD OF 'rectolaw03.CharsKinds'. -/
def charsKindsUptoCard : Claim7 := { stood := { row := charsKindsUptoRow, standIns := [], harness := (true, "286791b1c35eb73dee7434b94bddcead3cfa136b061fc4bce8446865194887da"), looks := false }, kinds := [], alts := [], laidByText := true, laidKinds := [.data, .data, .pinned], laidTests := true, laidLooks := .later }
def CharsKindsUptoCardSaid : Prop := Claim7.holds Tryd.pinned (.plain (OpenSpec.upto charsKindsSpec)) charsKindsUptoCard

/-- THE SECOND FORM's CARD OF 'rectolaw03.CharsTexts'. -/
def charsTextsUptoCard : Claim7 := { stood := { row := charsTextsUptoRow, standIns := [], harness := (true, "286791b1c35eb73dee7434b94bddcead3cfa136b061fc4bce8446865194887da"), looks := false }, kinds := [], alts := [], laidByText := true, laidKinds := [.data, .data, .pinned], laidTests := true, laidLooks := .later }
def CharsTextsUptoCardSaid : Prop := Claim7.holds Tryd.pinned (.plain (OpenSpec.upto charsTextsSpec)) charsTextsUptoCard

/-- THE SECOND FORM's CARD OF 'rectolaw03.CharsWords'. -/
def charsWordsUptoCard : Claim7 := { stood := { row := charsWordsUptoRow, standIns := [], harness := (true, "286791b1c35eb73dee7434b94bddcead3cfa136b061fc4bce8446865194887da"), looks := false }, kinds := [], alts := [], laidByText := true, laidKinds := [.data, .data, .pinned], laidTests := true, laidLooks := .later }
def CharsWordsUptoCardSaid : Prop := Claim7.holds Tryd.pinned (.plain (OpenSpec.upto charsWordsSpec)) charsWordsUptoCard

/-- THE SECOND FORM's CARD OF 'rectolaw03.CharsStays'. -/
def charsStaysUptoCard : Claim7 := { stood := { row := charsStaysUptoRow, standIns := [], harness := (true, "286791b1c35eb73dee7434b94bddcead3cfa136b061fc4bce8446865194887da"), looks := false }, kinds := [], alts := [], laidByText := true, laidKinds := [.data, .data, .pinned], laidTests := true, laidLooks := .later }
def CharsStaysUptoCardSaid : Prop := Claim7.holds Tryd.pinned (.plain (OpenSpec.upto charsStaysSpec)) charsStaysUptoCard

/-- THE SECOND FORM's CARD OF 'rectolaw06.PenTags'. -/
def penTagsUptoCard : Claim7 := { stood := { row := penTagsUptoRow, standIns := [], harness := (true, "286791b1c35eb73dee7434b94bddcead3cfa136b061fc4bce8446865194887da"), looks := false }, kinds := [], alts := [], laidByText := true, laidKinds := [.data, .data, .pinned], laidTests := true, laidLooks := .later }
def PenTagsUptoCardSaid : Prop := Claim7.holds Tryd.pinned (.plain (OpenSpec.upto penTagsSpec)) penTagsUptoCard

/-- THE SECOND FORM's CARD OF 'rectolaw06.PenTexts'. -/
def penTextsUptoCard : Claim7 := { stood := { row := penTextsUptoRow, standIns := [], harness := (true, "286791b1c35eb73dee7434b94bddcead3cfa136b061fc4bce8446865194887da"), looks := false }, kinds := [], alts := [], laidByText := true, laidKinds := [.data, .data, .pinned], laidTests := true, laidLooks := .later }
def PenTextsUptoCardSaid : Prop := Claim7.holds Tryd.pinned (.plain (OpenSpec.upto penTextsSpec)) penTextsUptoCard
end Rows
end Go.Proofs.YtdoapeandigooaaDoor
