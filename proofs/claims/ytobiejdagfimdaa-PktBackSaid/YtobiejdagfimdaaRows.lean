/-
  No cell of these rows narrows 'for every input' (looked for: loops, veiled, ifaces, maps, wideKeys, modest, calm, conditions, laid).
  DERIVED. THE GIVEN ROWS OF THIS SEAT. 5 by the template 'for every input the law returns true; each argument reads behind the call as it read before'; 0 by the template 'total and deterministic' (their statements: YtobiejdagfimdaaTotals.lean).
  GIVEN WITH THE SEED: the statements are not yours to turn. If you find one false, say at which input.
  Laid BY PROGRAM, IN A SANDBOX (cutbox-rows.mjs): the forced cells as the released guide's own fill.sh prints them over the translation d184d0ee25f8e218… (all of the seat's roots in one cut). By AI agents, Wed Nov 11 2026. No macro, syntax, notation, axiom, sorry.
-/
import Derived.Test.YtobiejdagfimdaaChecked
import GoSem.Claim
import GoSem.ClaimJoined
import GoSem.ClaimMapViews
import Derived.JoinedTies
import Derived.KernelRfl
namespace Go.Proofs.Ytobiejdagfimdaa
/- THE CELL 'sum', in the pinned program and in every row, IS THE sha256 OF THE DUMP (.gsa) THAT YtobiejdagfimdaaProg.lean LOADS. Nothing in Lean hashes anything: it is a label: what it is worth is what the hold of that sum in a sandbox is worth. -/
noncomputable def Try.pinned : Pinned := { name := "ytobiejdagfimdaa", sum := "d184d0ee25f8e21881d8ab37d0894e8f0bf5c813dd6b01e0d8cf96b77510c37c", checked := Try.checked }
namespace Rows
def none {H : Type} : Left H := { results := [], args := [] }

/-- 'graftagelaw46.PktTakes': WHATEVER THE INPUT: true; the input reads as it did. -/
def pktTakesSpec : ChangeSpec := { name := "pktTakes", fn := fun _ => fun
  | [d1, d2] => { results := [.lit (.bool true)], args := [d1, d2] }
  | _ => none }
def pktTakesRow : OpenClaim := { program := "ytobiejdagfimdaa", sum := "d184d0ee25f8e21881d8ab37d0894e8f0bf5c813dd6b01e0d8cf96b77510c37c", func := "graftage/graftagelaw46.PktTakes", spec := "pktTakes", inPlace := ["internal/abi.NoEscape", "internal/bytealg.IndexByteString"], apart := false }
def PktTakesSaid : Prop := pktTakesRow.holds Try.pinned (OpenSpec.ofChange pktTakesSpec)

/-- ITS FALSE NEIGHBOUR: 'it returns false'. Refute it at one input. -/
def pktTakesWrong : ChangeSpec := { name := "pktTakes", fn := fun _ => fun
  | [d1, d2] => { results := [.lit (.bool false)], args := [d1, d2] }
  | _ => none }
def PktTakesWrongFalsely : Prop := pktTakesRow.holds Try.pinned (OpenSpec.ofChange pktTakesWrong)

/-- 'graftagelaw46.PktNext': WHATEVER THE INPUT: true; the input reads as it did. -/
def pktNextSpec : ChangeSpec := { name := "pktNext", fn := fun _ => fun
  | [d] => { results := [.lit (.bool true)], args := [d] }
  | _ => none }
def pktNextRow : OpenClaim := { program := "ytobiejdagfimdaa", sum := "d184d0ee25f8e21881d8ab37d0894e8f0bf5c813dd6b01e0d8cf96b77510c37c", func := "graftage/graftagelaw46.PktNext", spec := "pktNext", inPlace := ["internal/abi.NoEscape", "internal/bytealg.IndexByteString"], apart := false }
def PktNextSaid : Prop := pktNextRow.holds Try.pinned (OpenSpec.ofChange pktNextSpec)

/-- ITS FALSE NEIGHBOUR: 'it returns false'. Refute it at one input. -/
def pktNextWrong : ChangeSpec := { name := "pktNext", fn := fun _ => fun
  | [d] => { results := [.lit (.bool false)], args := [d] }
  | _ => none }
def PktNextWrongFalsely : Prop := pktNextRow.holds Try.pinned (OpenSpec.ofChange pktNextWrong)

/-- 'graftagelaw46.PktPuts': WHATEVER THE INPUT: true; the input reads as it did. -/
def pktPutsSpec : ChangeSpec := { name := "pktPuts", fn := fun _ => fun
  | [d] => { results := [.lit (.bool true)], args := [d] }
  | _ => none }
def pktPutsRow : OpenClaim := { program := "ytobiejdagfimdaa", sum := "d184d0ee25f8e21881d8ab37d0894e8f0bf5c813dd6b01e0d8cf96b77510c37c", func := "graftage/graftagelaw46.PktPuts", spec := "pktPuts", inPlace := ["internal/abi.NoEscape", "internal/bytealg.IndexByteString"], apart := false }
def PktPutsSaid : Prop := pktPutsRow.holds Try.pinned (OpenSpec.ofChange pktPutsSpec)

/-- ITS FALSE NEIGHBOUR: 'it returns false'. Refute it at one input. -/
def pktPutsWrong : ChangeSpec := { name := "pktPuts", fn := fun _ => fun
  | [d] => { results := [.lit (.bool false)], args := [d] }
  | _ => none }
def PktPutsWrongFalsely : Prop := pktPutsRow.holds Try.pinned (OpenSpec.ofChange pktPutsWrong)

/-- 'graftagelaw46.PktCuts': WHATEVER THE INPUT: true; the input reads as it did. -/
def pktCutsSpec : ChangeSpec := { name := "pktCuts", fn := fun _ => fun
  | [d1, d2] => { results := [.lit (.bool true)], args := [d1, d2] }
  | _ => none }
def pktCutsRow : OpenClaim := { program := "ytobiejdagfimdaa", sum := "d184d0ee25f8e21881d8ab37d0894e8f0bf5c813dd6b01e0d8cf96b77510c37c", func := "graftage/graftagelaw46.PktCuts", spec := "pktCuts", inPlace := ["internal/abi.NoEscape", "internal/bytealg.IndexByteString"], apart := false }
def PktCutsSaid : Prop := pktCutsRow.holds Try.pinned (OpenSpec.ofChange pktCutsSpec)

/-- ITS FALSE NEIGHBOUR: 'it returns false'. Refute it at one input. -/
def pktCutsWrong : ChangeSpec := { name := "pktCuts", fn := fun _ => fun
  | [d1, d2] => { results := [.lit (.bool false)], args := [d1, d2] }
  | _ => none }
def PktCutsWrongFalsely : Prop := pktCutsRow.holds Try.pinned (OpenSpec.ofChange pktCutsWrong)

/-- 'graftagelaw46.PktBack': WHATEVER THE INPUT: true; the input reads as it did. -/
def pktBackSpec : ChangeSpec := { name := "pktBack", fn := fun _ => fun
  | [d1, d2, d3] => { results := [.lit (.bool true)], args := [d1, d2, d3] }
  | _ => none }
def pktBackRow : OpenClaim := { program := "ytobiejdagfimdaa", sum := "d184d0ee25f8e21881d8ab37d0894e8f0bf5c813dd6b01e0d8cf96b77510c37c", func := "graftage/graftagelaw46.PktBack", spec := "pktBack", inPlace := ["internal/abi.NoEscape", "internal/bytealg.IndexByteString"], apart := false }
def PktBackSaid : Prop := pktBackRow.holds Try.pinned (OpenSpec.ofChange pktBackSpec)

/-- ITS FALSE NEIGHBOUR: 'it returns false'. Refute it at one input. -/
def pktBackWrong : ChangeSpec := { name := "pktBack", fn := fun _ => fun
  | [d1, d2, d3] => { results := [.lit (.bool false)], args := [d1, d2, d3] }
  | _ => none }
def PktBackWrongFalsely : Prop := pktBackRow.holds Try.pinned (OpenSpec.ofChange pktBackWrong)

/- THE SECOND FORM. 'bulk': how many values and letters a reading holds, each counted each time it is reached (what is shared counts as often as it is met; a slice's spare places count too). A statement '..UptoSaid' is the law's where the arguments, and the package variables that the reading takes, are together of bulk at most 1048576: NARROWER than '..Said'. Prove '..Said' where nothing that the law and all that it calls make is longer than what came in: it says more and counts as full. Else prove '..UptoSaid'. A law counts once. -/
mutual
def uptoBulk {H : Type} : DataW H → Nat
  | .lit (.string bytes) => bytes.length + 1
  | .lit _ => 1
  | .nil => 1
  | .ptr d => uptoBulk d + 1
  | .slice elems spare => uptoBulkAll elems + uptoBulkAll spare + 1
  | .agg parts => uptoBulkAll parts + 1
  | .iface _ d => uptoBulk d + 1
  | .map entries => uptoBulkEntries entries + 1
  | .held _ => 1
def uptoBulkAll {H : Type} : List (DataW H) → Nat
  | [] => 0
  | d :: r => uptoBulk d + uptoBulkAll r
def uptoBulkEntries {H : Type} : List (Lit × DataW H) → Nat
  | [] => 0
  | x :: r => uptoBulkEntry x + uptoBulkEntries r
def uptoBulkEntry {H : Type} : Lit × DataW H → Nat
  | (.string bytes, d) => bytes.length + uptoBulk d + 1
  | (_, d) => uptoBulk d + 1
 end
def uptoSmall : (H : Type) → List (DataW H) → Bool := fun _ ds => decide (uptoBulkAll ds ≤ 1048576)
def OpenSpec.upto (s : _root_.Go.ChangeSpec) : _root_.Go.OpenSpec := { _root_.Go.OpenSpec.ofChange s with cond := some uptoSmall }

/-- 'graftagelaw46.PktTakes', WHERE WHAT IT READS IS OF BULK AT MOST 1048576: true; the input reads as it did. -/
def pktTakesUptoRow : OpenClaim := { program := "ytobiejdagfimdaa", sum := "d184d0ee25f8e21881d8ab37d0894e8f0bf5c813dd6b01e0d8cf96b77510c37c", func := "graftage/graftagelaw46.PktTakes", spec := "pktTakes", inPlace := ["internal/abi.NoEscape", "internal/bytealg.IndexByteString"], apart := false, narrowed := true }
def PktTakesUptoSaid : Prop := pktTakesUptoRow.holds Try.pinned (OpenSpec.upto pktTakesSpec)

/-- 'graftagelaw46.PktNext', WHERE WHAT IT READS IS OF BULK AT MOST 1048576: true; the input reads as it did. -/
def pktNextUptoRow : OpenClaim := { program := "ytobiejdagfimdaa", sum := "d184d0ee25f8e21881d8ab37d0894e8f0bf5c813dd6b01e0d8cf96b77510c37c", func := "graftage/graftagelaw46.PktNext", spec := "pktNext", inPlace := ["internal/abi.NoEscape", "internal/bytealg.IndexByteString"], apart := false, narrowed := true }
def PktNextUptoSaid : Prop := pktNextUptoRow.holds Try.pinned (OpenSpec.upto pktNextSpec)

/-- 'graftagelaw46.PktPuts', WHERE WHAT IT READS IS OF BULK AT MOST 1048576: true; the input reads as it did. -/
def pktPutsUptoRow : OpenClaim := { program := "ytobiejdagfimdaa", sum := "d184d0ee25f8e21881d8ab37d0894e8f0bf5c813dd6b01e0d8cf96b77510c37c", func := "graftage/graftagelaw46.PktPuts", spec := "pktPuts", inPlace := ["internal/abi.NoEscape", "internal/bytealg.IndexByteString"], apart := false, narrowed := true }
def PktPutsUptoSaid : Prop := pktPutsUptoRow.holds Try.pinned (OpenSpec.upto pktPutsSpec)

/-- 'graftagelaw46.PktCuts', WHERE WHAT IT READS IS OF BULK AT MOST 1048576: true; the input reads as it did. -/
def pktCutsUptoRow : OpenClaim := { program := "ytobiejdagfimdaa", sum := "d184d0ee25f8e21881d8ab37d0894e8f0bf5c813dd6b01e0d8cf96b77510c37c", func := "graftage/graftagelaw46.PktCuts", spec := "pktCuts", inPlace := ["internal/abi.NoEscape", "internal/bytealg.IndexByteString"], apart := false, narrowed := true }
def PktCutsUptoSaid : Prop := pktCutsUptoRow.holds Try.pinned (OpenSpec.upto pktCutsSpec)

/-- 'graftagelaw46.PktBack', WHERE WHAT IT READS IS OF BULK AT MOST 1048576: true; the input reads as it did. -/
def pktBackUptoRow : OpenClaim := { program := "ytobiejdagfimdaa", sum := "d184d0ee25f8e21881d8ab37d0894e8f0bf5c813dd6b01e0d8cf96b77510c37c", func := "graftage/graftagelaw46.PktBack", spec := "pktBack", inPlace := ["internal/abi.NoEscape", "internal/bytealg.IndexByteString"], apart := false, narrowed := true }
def PktBackUptoSaid : Prop := pktBackUptoRow.holds Try.pinned (OpenSpec.upto pktBackSpec)

end Rows
end Go.Proofs.Ytobiejdagfimdaa
