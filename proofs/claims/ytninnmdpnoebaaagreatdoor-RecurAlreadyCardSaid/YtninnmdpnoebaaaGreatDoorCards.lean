/-
  DERIVED. GIVEN WITH THE SEED: THE CARDS: each row of YtninnmdpnoebaaaGreatDoorRows.lean that lists a variable, with what it lists TIED to the program's text (the seventh form; the later family's looks); each row that meets fmt, with fmt's text TOLD by the authors' own Lean function (tested against real Go, not proved from fmt's source: count such statements apart). THE CARD IS WHAT COUNTS. Prove the row's statement (the work); the ties are given (YtninnmdpnoebaaaGreatDoorTie.lean); close each card by the builder's one call (the guide's Derived/Test/ToyasCard.lean, 'card_holds'). Laid BY PROGRAM, IN A SANDBOX (cutbox-door.mjs). By AI agents, Wed Nov 11 2026. No macro, syntax, notation, axiom, sorry.
-/
import Derived.Test.YtninnmdpnoebaaaGreatDoorRows
import GoSem.ClaimSeven
namespace Go.Proofs.YtninnmdpnoebaaaGreatDoor
namespace Rows

/-- THE TIED CARD OF 'graftagelaw24.RecurAlready'. -/
def recurAlreadyCard : Claim7 := { stood := { row := recurAlreadyRow, standIns := [], harness := (true, "2d71907d8876ddfcb5c33570b00eb040d4da51897d0b17d4268c1bba2407682b"), looks := true }, kinds := [], alts := [], laidByText := true, laidKinds := [.data, .data, .data, .sentinel, .sentinel], laidTests := true, laidLooks := .later }
def RecurAlreadyCardSaid : Prop := Claim7.holds Tryz.pinned (.plain (OpenSpec.ofChange recurAlreadySpec)) recurAlreadyCard

/-- THE SECOND FORM's CARD OF 'graftagelaw24.RecurAlready'. -/
def recurAlreadyUptoCard : Claim7 := { stood := { row := recurAlreadyUptoRow, standIns := [], harness := (true, "2d71907d8876ddfcb5c33570b00eb040d4da51897d0b17d4268c1bba2407682b"), looks := true }, kinds := [], alts := [], laidByText := true, laidKinds := [.data, .data, .data, .sentinel, .sentinel], laidTests := true, laidLooks := .later }
def RecurAlreadyUptoCardSaid : Prop := Claim7.holds Tryz.pinned (.plain (OpenSpec.upto recurAlreadySpec)) recurAlreadyUptoCard
end Rows
end Go.Proofs.YtninnmdpnoebaaaGreatDoor
