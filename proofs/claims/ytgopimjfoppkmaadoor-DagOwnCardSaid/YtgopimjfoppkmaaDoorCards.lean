/-
  DERIVED. GIVEN WITH THE SEED: THE CARDS: each row of YtgopimjfoppkmaaDoorRows.lean that lists a variable, with what it lists TIED to the program's text (the seventh form; the later family's looks); each row that meets fmt, with fmt's text TOLD by the authors' own Lean function (tested against real Go, not proved from fmt's source: count such statements apart). THE CARD IS WHAT COUNTS. Prove the row's statement (the work); the ties are given (YtgopimjfoppkmaaDoorTie.lean); close each card by the builder's one call (the guide's Derived/Test/ToyasCard.lean, 'card_holds'). Laid BY PROGRAM, IN A SANDBOX (cutbox-door.mjs). By AI agents, Wed Nov 11 2026. No macro, syntax, notation, axiom, sorry.
-/
import Derived.Test.YtgopimjfoppkmaaDoorRows
import GoSem.ClaimSeven
namespace Go.Proofs.YtgopimjfoppkmaaDoor
namespace Rows

/-- THE TIED CARD OF 'rectolaw31.DagPages'. -/
def dagPagesCard : Claim7 := { stood := { row := dagPagesRow, standIns := [], harness := (true, "144245fc45866c448c696eaf6389edb95f098b42c06b4fcc62ded465ceb6236e"), looks := false }, kinds := [], alts := [], laidByText := true, laidKinds := [.data], laidTests := true, laidLooks := .later }
def DagPagesCardSaid : Prop := Claim7.holds Tryd.pinned (.plain (OpenSpec.ofChange dagPagesSpec)) dagPagesCard

/-- THE TIED CARD OF 'rectolaw31.DagBases'. -/
def dagBasesCard : Claim7 := { stood := { row := dagBasesRow, standIns := [], harness := (true, "144245fc45866c448c696eaf6389edb95f098b42c06b4fcc62ded465ceb6236e"), looks := false }, kinds := [], alts := [], laidByText := true, laidKinds := [.data], laidTests := true, laidLooks := .later }
def DagBasesCardSaid : Prop := Claim7.holds Tryd.pinned (.plain (OpenSpec.ofChange dagBasesSpec)) dagBasesCard

/-- THE TIED CARD OF 'rectolaw31.DagFollows'. -/
def dagFollowsCard : Claim7 := { stood := { row := dagFollowsRow, standIns := [], harness := (true, "144245fc45866c448c696eaf6389edb95f098b42c06b4fcc62ded465ceb6236e"), looks := false }, kinds := [], alts := [], laidByText := true, laidKinds := [.data], laidTests := true, laidLooks := .later }
def DagFollowsCardSaid : Prop := Claim7.holds Tryd.pinned (.plain (OpenSpec.ofChange dagFollowsSpec)) dagFollowsCard

/-- THE TIED CARD OF 'rectolaw31.DagOwn'. -/
def dagOwnCard : Claim7 := { stood := { row := dagOwnRow, standIns := [], harness := (true, "144245fc45866c448c696eaf6389edb95f098b42c06b4fcc62ded465ceb6236e"), looks := false }, kinds := [], alts := [], laidByText := true, laidKinds := [.data], laidTests := true, laidLooks := .later }
def DagOwnCardSaid : Prop := Claim7.holds Tryd.pinned (.plain (OpenSpec.ofChange dagOwnSpec)) dagOwnCard

/-- THE SECOND FORM's CARD OF 'rectolaw31.DagPages'. -/
def dagPagesUptoCard : Claim7 := { stood := { row := dagPagesUptoRow, standIns := [], harness := (true, "144245fc45866c448c696eaf6389edb95f098b42c06b4fcc62ded465ceb6236e"), looks := false }, kinds := [], alts := [], laidByText := true, laidKinds := [.data], laidTests := true, laidLooks := .later }
def DagPagesUptoCardSaid : Prop := Claim7.holds Tryd.pinned (.plain (OpenSpec.upto dagPagesSpec)) dagPagesUptoCard

/-- THE SECOND FORM's CARD OF 'rectolaw31.DagBases'. -/
def dagBasesUptoCard : Claim7 := { stood := { row := dagBasesUptoRow, standIns := [], harness := (true, "144245fc45866c448c696eaf6389edb95f098b42c06b4fcc62ded465ceb6236e"), looks := false }, kinds := [], alts := [], laidByText := true, laidKinds := [.data], laidTests := true, laidLooks := .later }
def DagBasesUptoCardSaid : Prop := Claim7.holds Tryd.pinned (.plain (OpenSpec.upto dagBasesSpec)) dagBasesUptoCard

/-- THE SECOND FORM's CARD OF 'rectolaw31.DagFollows'. -/
def dagFollowsUptoCard : Claim7 := { stood := { row := dagFollowsUptoRow, standIns := [], harness := (true, "144245fc45866c448c696eaf6389edb95f098b42c06b4fcc62ded465ceb6236e"), looks := false }, kinds := [], alts := [], laidByText := true, laidKinds := [.data], laidTests := true, laidLooks := .later }
def DagFollowsUptoCardSaid : Prop := Claim7.holds Tryd.pinned (.plain (OpenSpec.upto dagFollowsSpec)) dagFollowsUptoCard

/-- THE SECOND FORM's CARD OF 'rectolaw31.DagOwn'. -/
def dagOwnUptoCard : Claim7 := { stood := { row := dagOwnUptoRow, standIns := [], harness := (true, "144245fc45866c448c696eaf6389edb95f098b42c06b4fcc62ded465ceb6236e"), looks := false }, kinds := [], alts := [], laidByText := true, laidKinds := [.data], laidTests := true, laidLooks := .later }
def DagOwnUptoCardSaid : Prop := Claim7.holds Tryd.pinned (.plain (OpenSpec.upto dagOwnSpec)) dagOwnUptoCard
end Rows
end Go.Proofs.YtgopimjfoppkmaaDoor
