/-
  NARROWER THAN 'FOR EVERY INPUT', by the rows' own cells (each row's printed sentence says how): TodoParses: laid · TodoAutos: laid · TodoMoved: laid · TodoTells: laid · TodoBack: laid.
  DERIVED. THE GIVEN ROWS OF THIS SEAT. 5 by the template 'for every input the law returns true; each argument reads behind the call as it read before'; 0 by the template 'total and deterministic' (their statements: YtefnmfcgjlppaaaDoorTotals.lean).
  GIVEN WITH THE SEED: the statements are not yours to turn. If you find one false, say at which input.
  Laid BY PROGRAM, IN A SANDBOX (cutbox-rows.mjs): the forced cells as the released guide's own fill.sh prints them over the translation de2ba51626c988e9… (all of the seat's roots in one cut). By AI agents, Wed Nov 11 2026. No macro, syntax, notation, axiom, sorry.
-/
import Derived.Test.YtefnmfcgjlppaaaDoorChecked
import GoSem.Claim
import GoSem.ClaimJoined
import GoSem.ClaimMapViews
import Derived.JoinedTies
import Derived.KernelRfl
namespace Go.Proofs.YtefnmfcgjlppaaaDoor
/- THE CELL 'sum', in the pinned program and in every row, IS THE sha256 OF THE DUMP (.gsa) THAT YtefnmfcgjlppaaaDoorProg.lean LOADS. Nothing in Lean hashes anything: it is a label: what it is worth is what the hold of that sum in a sandbox is worth. -/
noncomputable def Tryd.pinned : Pinned := { name := "ytefnmfcgjlppaaadoor", sum := "de2ba51626c988e93971b1c8a18faf36283b3343182dad2a742b96adfe31852f", checked := Tryd.checked }
namespace Rows
def none {H : Type} : Left H := { results := [], args := [] }

/- WHAT THE LISTED PACKAGE-LEVEL VARIABLES READ AS WHEN THE CALL BEGINS. Each datum BY PROGRAM (the guide's laid-datum.mjs) off the statement by which the dump's own 'gosem.cut.vars' lays the variable. In a bare row this is a premise. The card (YtefnmfcgjlppaaaDoorCards.lean) ties it to the program's text. -/
def laid_graftage_todo_words {H : Type} : DataW H := .agg [.lit (.string [112, 105, 99, 107]), .lit (.string [114, 101, 119, 111, 114, 100]), .lit (.string [101, 100, 105, 116]), .lit (.string [115, 113, 117, 97, 115, 104]), .lit (.string [102, 105, 120, 117, 112]), .lit (.string [100, 114, 111, 112]), .lit (.string [98, 114, 101, 97, 107])]

/-- 'graftagelaw42.TodoParses': WHATEVER THE INPUT: true; the input reads as it did. -/
def todoParsesSpec : ChangeSpec := { name := "todoParses", fn := fun _ => fun
  | [d] => { results := [.lit (.bool true)], args := [d] }
  | _ => none }
def todoParsesRow : OpenClaim := { program := "ytefnmfcgjlppaaadoor", sum := "de2ba51626c988e93971b1c8a18faf36283b3343182dad2a742b96adfe31852f", func := "graftage/graftagelaw42.TodoParses", spec := "todoParses", inPlace := ["internal/bytealg.IndexByteString", "internal/bytealg.IndexString"], unfollowed := true, recurses := true, named := ["internal/bytealg.MaxLen", "graftage/todo.words"], apart := false, laid := [("graftage/todo.words", laid_graftage_todo_words)] }
def TodoParsesSaid : Prop := todoParsesRow.holds Tryd.pinned (OpenSpec.ofChange todoParsesSpec)

/-- ITS FALSE NEIGHBOUR: 'it returns false'. Refute it at one input. -/
def todoParsesWrong : ChangeSpec := { name := "todoParses", fn := fun _ => fun
  | [d] => { results := [.lit (.bool false)], args := [d] }
  | _ => none }
def TodoParsesWrongFalsely : Prop := todoParsesRow.holds Tryd.pinned (OpenSpec.ofChange todoParsesWrong)

/-- 'graftagelaw42.TodoAutos': WHATEVER THE INPUT: true; the input reads as it did. -/
def todoAutosSpec : ChangeSpec := { name := "todoAutos", fn := fun _ => fun
  | [d] => { results := [.lit (.bool true)], args := [d] }
  | _ => none }
def todoAutosRow : OpenClaim := { program := "ytefnmfcgjlppaaadoor", sum := "de2ba51626c988e93971b1c8a18faf36283b3343182dad2a742b96adfe31852f", func := "graftage/graftagelaw42.TodoAutos", spec := "todoAutos", inPlace := ["internal/bytealg.IndexByteString", "internal/bytealg.IndexString"], unfollowed := true, recurses := true, named := ["internal/bytealg.MaxLen", "graftage/todo.words"], apart := false, laid := [("graftage/todo.words", laid_graftage_todo_words)] }
def TodoAutosSaid : Prop := todoAutosRow.holds Tryd.pinned (OpenSpec.ofChange todoAutosSpec)

/-- ITS FALSE NEIGHBOUR: 'it returns false'. Refute it at one input. -/
def todoAutosWrong : ChangeSpec := { name := "todoAutos", fn := fun _ => fun
  | [d] => { results := [.lit (.bool false)], args := [d] }
  | _ => none }
def TodoAutosWrongFalsely : Prop := todoAutosRow.holds Tryd.pinned (OpenSpec.ofChange todoAutosWrong)

/-- 'graftagelaw42.TodoMoved': WHATEVER THE INPUT: true; the input reads as it did. -/
def todoMovedSpec : ChangeSpec := { name := "todoMoved", fn := fun _ => fun
  | [d] => { results := [.lit (.bool true)], args := [d] }
  | _ => none }
def todoMovedRow : OpenClaim := { program := "ytefnmfcgjlppaaadoor", sum := "de2ba51626c988e93971b1c8a18faf36283b3343182dad2a742b96adfe31852f", func := "graftage/graftagelaw42.TodoMoved", spec := "todoMoved", inPlace := ["internal/bytealg.IndexByteString", "internal/bytealg.IndexString"], unfollowed := true, recurses := true, named := ["internal/bytealg.MaxLen", "graftage/todo.words"], apart := false, laid := [("graftage/todo.words", laid_graftage_todo_words)] }
def TodoMovedSaid : Prop := todoMovedRow.holds Tryd.pinned (OpenSpec.ofChange todoMovedSpec)

/-- ITS FALSE NEIGHBOUR: 'it returns false'. Refute it at one input. -/
def todoMovedWrong : ChangeSpec := { name := "todoMoved", fn := fun _ => fun
  | [d] => { results := [.lit (.bool false)], args := [d] }
  | _ => none }
def TodoMovedWrongFalsely : Prop := todoMovedRow.holds Tryd.pinned (OpenSpec.ofChange todoMovedWrong)

/-- 'graftagelaw42.TodoTells': WHATEVER THE INPUT: true; the input reads as it did. -/
def todoTellsSpec : ChangeSpec := { name := "todoTells", fn := fun _ => fun
  | [d] => { results := [.lit (.bool true)], args := [d] }
  | _ => none }
def todoTellsRow : OpenClaim := { program := "ytefnmfcgjlppaaadoor", sum := "de2ba51626c988e93971b1c8a18faf36283b3343182dad2a742b96adfe31852f", func := "graftage/graftagelaw42.TodoTells", spec := "todoTells", inPlace := ["internal/bytealg.IndexByteString", "internal/bytealg.IndexString", "internal/abi.NoEscape"], unfollowed := true, recurses := true, named := ["internal/bytealg.MaxLen", "graftage/todo.words"], apart := false, laid := [("graftage/todo.words", laid_graftage_todo_words)] }
def TodoTellsSaid : Prop := todoTellsRow.holds Tryd.pinned (OpenSpec.ofChange todoTellsSpec)

/-- ITS FALSE NEIGHBOUR: 'it returns false'. Refute it at one input. -/
def todoTellsWrong : ChangeSpec := { name := "todoTells", fn := fun _ => fun
  | [d] => { results := [.lit (.bool false)], args := [d] }
  | _ => none }
def TodoTellsWrongFalsely : Prop := todoTellsRow.holds Tryd.pinned (OpenSpec.ofChange todoTellsWrong)

/-- 'graftagelaw42.TodoBack': WHATEVER THE INPUT: true; the input reads as it did. -/
def todoBackSpec : ChangeSpec := { name := "todoBack", fn := fun _ => fun
  | [d] => { results := [.lit (.bool true)], args := [d] }
  | _ => none }
def todoBackRow : OpenClaim := { program := "ytefnmfcgjlppaaadoor", sum := "de2ba51626c988e93971b1c8a18faf36283b3343182dad2a742b96adfe31852f", func := "graftage/graftagelaw42.TodoBack", spec := "todoBack", inPlace := ["internal/bytealg.IndexByteString", "internal/bytealg.IndexString", "internal/abi.NoEscape"], unfollowed := true, recurses := true, named := ["internal/bytealg.MaxLen", "graftage/todo.words"], apart := false, laid := [("graftage/todo.words", laid_graftage_todo_words)] }
def TodoBackSaid : Prop := todoBackRow.holds Tryd.pinned (OpenSpec.ofChange todoBackSpec)

/-- ITS FALSE NEIGHBOUR: 'it returns false'. Refute it at one input. -/
def todoBackWrong : ChangeSpec := { name := "todoBack", fn := fun _ => fun
  | [d] => { results := [.lit (.bool false)], args := [d] }
  | _ => none }
def TodoBackWrongFalsely : Prop := todoBackRow.holds Tryd.pinned (OpenSpec.ofChange todoBackWrong)

/- THE SECOND FORM. 'bulk': how many values and letters a reading holds, each counted each time it is reached (what is shared counts as often as it is met; a slice's spare places count too). A statement '..UptoSaid' is the law's where the arguments, and the package variables that the reading takes, are together of bulk at most 1048576: NARROWER than '..Said'. Prove '..Said' where nothing that the law and all that it calls make is longer than what came in: it says more and counts as full. Else prove '..UptoSaid'. A law counts once. -/
mutual
def uptoBulk {H : Type} : DataW H → Nat
  | .lit (.string bytes) => bytes.length + 1
  | .lit _ => 1
  | .nil => 1
  | .ptr d => uptoBulk d + 1
  | .slice elems spare => uptoBulkAll elems + uptoBulkAll spare + 1
  | .agg parts => uptoBulkAll parts + 1
  | .iface _ d => uptoBulk d + 1
  | .map entries => uptoBulkEntries entries + 1
  | .held _ => 1
def uptoBulkAll {H : Type} : List (DataW H) → Nat
  | [] => 0
  | d :: r => uptoBulk d + uptoBulkAll r
def uptoBulkEntries {H : Type} : List (Lit × DataW H) → Nat
  | [] => 0
  | x :: r => uptoBulkEntry x + uptoBulkEntries r
def uptoBulkEntry {H : Type} : Lit × DataW H → Nat
  | (.string bytes, d) => bytes.length + uptoBulk d + 1
  | (_, d) => uptoBulk d + 1
 end
def uptoSmall : (H : Type) → List (DataW H) → Bool := fun _ ds => decide (uptoBulkAll ds ≤ 1048576)
def OpenSpec.upto (s : _root_.Go.ChangeSpec) : _root_.Go.OpenSpec := { _root_.Go.OpenSpec.ofChange s with cond := some uptoSmall }

/-- 'graftagelaw42.TodoParses', WHERE WHAT IT READS IS OF BULK AT MOST 1048576: true; the input reads as it did. -/
def todoParsesUptoRow : OpenClaim := { program := "ytefnmfcgjlppaaadoor", sum := "de2ba51626c988e93971b1c8a18faf36283b3343182dad2a742b96adfe31852f", func := "graftage/graftagelaw42.TodoParses", spec := "todoParses", inPlace := ["internal/bytealg.IndexByteString", "internal/bytealg.IndexString"], unfollowed := true, recurses := true, named := ["internal/bytealg.MaxLen", "graftage/todo.words"], apart := false, laid := [("graftage/todo.words", laid_graftage_todo_words)], narrowed := true }
def TodoParsesUptoSaid : Prop := todoParsesUptoRow.holds Tryd.pinned (OpenSpec.upto todoParsesSpec)

/-- 'graftagelaw42.TodoAutos', WHERE WHAT IT READS IS OF BULK AT MOST 1048576: true; the input reads as it did. -/
def todoAutosUptoRow : OpenClaim := { program := "ytefnmfcgjlppaaadoor", sum := "de2ba51626c988e93971b1c8a18faf36283b3343182dad2a742b96adfe31852f", func := "graftage/graftagelaw42.TodoAutos", spec := "todoAutos", inPlace := ["internal/bytealg.IndexByteString", "internal/bytealg.IndexString"], unfollowed := true, recurses := true, named := ["internal/bytealg.MaxLen", "graftage/todo.words"], apart := false, laid := [("graftage/todo.words", laid_graftage_todo_words)], narrowed := true }
def TodoAutosUptoSaid : Prop := todoAutosUptoRow.holds Tryd.pinned (OpenSpec.upto todoAutosSpec)

/-- 'graftagelaw42.TodoMoved', WHERE WHAT IT READS IS OF BULK AT MOST 1048576: true; the input reads as it did. -/
def todoMovedUptoRow : OpenClaim := { program := "ytefnmfcgjlppaaadoor", sum := "de2ba51626c988e93971b1c8a18faf36283b3343182dad2a742b96adfe31852f", func := "graftage/graftagelaw42.TodoMoved", spec := "todoMoved", inPlace := ["internal/bytealg.IndexByteString", "internal/bytealg.IndexString"], unfollowed := true, recurses := true, named := ["internal/bytealg.MaxLen", "graftage/todo.words"], apart := false, laid := [("graftage/todo.words", laid_graftage_todo_words)], narrowed := true }
def TodoMovedUptoSaid : Prop := todoMovedUptoRow.holds Tryd.pinned (OpenSpec.upto todoMovedSpec)

/-- 'graftagelaw42.TodoTells', WHERE WHAT IT READS IS OF BULK AT MOST 1048576: true; the input reads as it did. -/
def todoTellsUptoRow : OpenClaim := { program := "ytefnmfcgjlppaaadoor", sum := "de2ba51626c988e93971b1c8a18faf36283b3343182dad2a742b96adfe31852f", func := "graftage/graftagelaw42.TodoTells", spec := "todoTells", inPlace := ["internal/bytealg.IndexByteString", "internal/bytealg.IndexString", "internal/abi.NoEscape"], unfollowed := true, recurses := true, named := ["internal/bytealg.MaxLen", "graftage/todo.words"], apart := false, laid := [("graftage/todo.words", laid_graftage_todo_words)], narrowed := true }
def TodoTellsUptoSaid : Prop := todoTellsUptoRow.holds Tryd.pinned (OpenSpec.upto todoTellsSpec)

/-- 'graftagelaw42.TodoBack', WHERE WHAT IT READS IS OF BULK AT MOST 1048576: true; the input reads as it did. -/
def todoBackUptoRow : OpenClaim := { program := "ytefnmfcgjlppaaadoor", sum := "de2ba51626c988e93971b1c8a18faf36283b3343182dad2a742b96adfe31852f", func := "graftage/graftagelaw42.TodoBack", spec := "todoBack", inPlace := ["internal/bytealg.IndexByteString", "internal/bytealg.IndexString", "internal/abi.NoEscape"], unfollowed := true, recurses := true, named := ["internal/bytealg.MaxLen", "graftage/todo.words"], apart := false, laid := [("graftage/todo.words", laid_graftage_todo_words)], narrowed := true }
def TodoBackUptoSaid : Prop := todoBackUptoRow.holds Tryd.pinned (OpenSpec.upto todoBackSpec)

end Rows
end Go.Proofs.YtefnmfcgjlppaaaDoor
