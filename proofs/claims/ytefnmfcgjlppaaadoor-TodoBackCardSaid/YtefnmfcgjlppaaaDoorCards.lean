/-
  DERIVED. GIVEN WITH THE SEED: THE CARDS: each row of YtefnmfcgjlppaaaDoorRows.lean that lists a variable, with what it lists TIED to the program's text (the seventh form; the later family's looks); each row that meets fmt, with fmt's text TOLD by the authors' own Lean function (tested against real Go, not proved from fmt's source: count such statements apart). THE CARD IS WHAT COUNTS. Prove the row's statement (the work); the ties are given (YtefnmfcgjlppaaaDoorTie.lean); close each card by the builder's one call (the guide's Derived/Test/ToyasCard.lean, 'card_holds'). Laid BY PROGRAM, IN A SANDBOX (cutbox-door.mjs). By AI agents, Wed Nov 11 2026. No macro, syntax, notation, axiom, sorry.
-/
import Derived.Test.YtefnmfcgjlppaaaDoorRows
import GoSem.ClaimSeven
namespace Go.Proofs.YtefnmfcgjlppaaaDoor
namespace Rows

/-- THE TIED CARD OF 'graftagelaw42.TodoParses'. -/
def todoParsesCard : Claim7 := { stood := { row := todoParsesRow, standIns := [], harness := (true, "1a3ffc83c86ea2a45dcb8a57189bfdd380c02b4b9f262638edc86f3065f61127"), looks := false }, kinds := [], alts := [], laidByText := true, laidKinds := [.data], laidTests := true, laidLooks := .later }
def TodoParsesCardSaid : Prop := Claim7.holds Tryd.pinned (.plain (OpenSpec.ofChange todoParsesSpec)) todoParsesCard

/-- THE TIED CARD OF 'graftagelaw42.TodoAutos'. -/
def todoAutosCard : Claim7 := { stood := { row := todoAutosRow, standIns := [], harness := (true, "1a3ffc83c86ea2a45dcb8a57189bfdd380c02b4b9f262638edc86f3065f61127"), looks := false }, kinds := [], alts := [], laidByText := true, laidKinds := [.data], laidTests := true, laidLooks := .later }
def TodoAutosCardSaid : Prop := Claim7.holds Tryd.pinned (.plain (OpenSpec.ofChange todoAutosSpec)) todoAutosCard

/-- THE TIED CARD OF 'graftagelaw42.TodoMoved'. -/
def todoMovedCard : Claim7 := { stood := { row := todoMovedRow, standIns := [], harness := (true, "1a3ffc83c86ea2a45dcb8a57189bfdd380c02b4b9f262638edc86f3065f61127"), looks := false }, kinds := [], alts := [], laidByText := true, laidKinds := [.data], laidTests := true, laidLooks := .later }
def TodoMovedCardSaid : Prop := Claim7.holds Tryd.pinned (.plain (OpenSpec.ofChange todoMovedSpec)) todoMovedCard

/-- THE TIED CARD OF 'graftagelaw42.TodoTells'. -/
def todoTellsCard : Claim7 := { stood := { row := todoTellsRow, standIns := [], harness := (true, "1a3ffc83c86ea2a45dcb8a57189bfdd380c02b4b9f262638edc86f3065f61127"), looks := false }, kinds := [], alts := [], laidByText := true, laidKinds := [.data], laidTests := true, laidLooks := .later }
def TodoTellsCardSaid : Prop := Claim7.holds Tryd.pinned (.plain (OpenSpec.ofChange todoTellsSpec)) todoTellsCard

/-- THE TIED CARD OF 'graftagelaw42.TodoBack'. -/
def todoBackCard : Claim7 := { stood := { row := todoBackRow, standIns := [], harness := (true, "1a3ffc83c86ea2a45dcb8a57189bfdd380c02b4b9f262638edc86f3065f61127"), looks := false }, kinds := [], alts := [], laidByText := true, laidKinds := [.data], laidTests := true, laidLooks := .later }
def TodoBackCardSaid : Prop := Claim7.holds Tryd.pinned (.plain (OpenSpec.ofChange todoBackSpec)) todoBackCard

/-- THE SECOND FORM's CARD OF 'graftagelaw42.TodoParses'. -/
def todoParsesUptoCard : Claim7 := { stood := { row := todoParsesUptoRow, standIns := [], harness := (true, "1a3ffc83c86ea2a45dcb8a57189bfdd380c02b4b9f262638edc86f3065f61127"), looks := false }, kinds := [], alts := [], laidByText := true, laidKinds := [.data], laidTests := true, laidLooks := .later }
def TodoParsesUptoCardSaid : Prop := Claim7.holds Tryd.pinned (.plain (OpenSpec.upto todoParsesSpec)) todoParsesUptoCard

/-- THE SECOND FORM's CARD OF 'graftagelaw42.TodoAutos'. -/
def todoAutosUptoCard : Claim7 := { stood := { row := todoAutosUptoRow, standIns := [], harness := (true, "1a3ffc83c86ea2a45dcb8a57189bfdd380c02b4b9f262638edc86f3065f61127"), looks := false }, kinds := [], alts := [], laidByText := true, laidKinds := [.data], laidTests := true, laidLooks := .later }
def TodoAutosUptoCardSaid : Prop := Claim7.holds Tryd.pinned (.plain (OpenSpec.upto todoAutosSpec)) todoAutosUptoCard

/-- THE SECOND FORM's CARD OF 'graftagelaw42.TodoMoved'. -/
def todoMovedUptoCard : Claim7 := { stood := { row := todoMovedUptoRow, standIns := [], harness := (true, "1a3ffc83c86ea2a45dcb8a57189bfdd380c02b4b9f262638edc86f3065f61127"), looks := false }, kinds := [], alts := [], laidByText := true, laidKinds := [.data], laidTests := true, laidLooks := .later }
def TodoMovedUptoCardSaid : Prop := Claim7.holds Tryd.pinned (.plain (OpenSpec.upto todoMovedSpec)) todoMovedUptoCard

/-- THE SECOND FORM's CARD OF 'graftagelaw42.TodoTells'. -/
def todoTellsUptoCard : Claim7 := { stood := { row := todoTellsUptoRow, standIns := [], harness := (true, "1a3ffc83c86ea2a45dcb8a57189bfdd380c02b4b9f262638edc86f3065f61127"), looks := false }, kinds := [], alts := [], laidByText := true, laidKinds := [.data], laidTests := true, laidLooks := .later }
def TodoTellsUptoCardSaid : Prop := Claim7.holds Tryd.pinned (.plain (OpenSpec.upto todoTellsSpec)) todoTellsUptoCard

/-- THE SECOND FORM's CARD OF 'graftagelaw42.TodoBack'. -/
def todoBackUptoCard : Claim7 := { stood := { row := todoBackUptoRow, standIns := [], harness := (true, "1a3ffc83c86ea2a45dcb8a57189bfdd380c02b4b9f262638edc86f3065f61127"), looks := false }, kinds := [], alts := [], laidByText := true, laidKinds := [.data], laidTests := true, laidLooks := .later }
def TodoBackUptoCardSaid : Prop := Claim7.holds Tryd.pinned (.plain (OpenSpec.upto todoBackSpec)) todoBackUptoCard
end Rows
end Go.Proofs.YtefnmfcgjlppaaaDoor
