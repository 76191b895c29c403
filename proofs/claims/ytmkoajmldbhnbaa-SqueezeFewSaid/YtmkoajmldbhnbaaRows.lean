/-
  No cell of these rows narrows 'for every input' (looked for: loops, veiled, ifaces, maps, wideKeys, modest, calm, conditions, laid).
  DERIVED. THE GIVEN ROWS OF THIS SEAT. 5 by the template 'for every input the law returns true; each argument reads behind the call as it read before'; 0 by the template 'total and deterministic' (their statements: YtmkoajmldbhnbaaTotals.lean).
  GIVEN WITH THE SEED: the statements are not yours to turn. If you find one false, say at which input.
  Laid BY PROGRAM, IN A SANDBOX (cutbox-rows.mjs): the forced cells as the released guide's own fill.sh prints them over the translation 8dbeb1c75c13b706… (all of the seat's roots in one cut). By AI agents, Wed Nov 11 2026. No macro, syntax, notation, axiom, sorry.
-/
import Derived.Test.YtmkoajmldbhnbaaChecked
import GoSem.Claim
import GoSem.ClaimJoined
import GoSem.ClaimMapViews
import Derived.JoinedTies
import Derived.KernelRfl
namespace Go.Proofs.Ytmkoajmldbhnbaa
/- THE CELL 'sum', in the pinned program and in every row, IS THE sha256 OF THE DUMP (.gsa) THAT YtmkoajmldbhnbaaProg.lean LOADS. Nothing in Lean hashes anything: it is a label: what it is worth is what the hold of that sum in a sandbox is worth. -/
noncomputable def Try.pinned : Pinned := { name := "ytmkoajmldbhnbaa", sum := "8dbeb1c75c13b70674fe79d90b7b99e12beb6e5b07848224f8307dd5b87ce2cd", checked := Try.checked }
namespace Rows
def none {H : Type} : Left H := { results := [], args := [] }

/-- 'graftagelaw03.SqueezePresses': WHATEVER THE INPUT: true; the input reads as it did. -/
def squeezePressesSpec : ChangeSpec := { name := "squeezePresses", fn := fun _ => fun
  | [d] => { results := [.lit (.bool true)], args := [d] }
  | _ => none }
def squeezePressesRow : OpenClaim := { program := "ytmkoajmldbhnbaa", sum := "8dbeb1c75c13b70674fe79d90b7b99e12beb6e5b07848224f8307dd5b87ce2cd", func := "graftage/graftagelaw03.SqueezePresses", spec := "squeezePresses", unfollowed := true, recurses := true, apart := false }
def SqueezePressesSaid : Prop := squeezePressesRow.holds Try.pinned (OpenSpec.ofChange squeezePressesSpec)

/-- ITS FALSE NEIGHBOUR: 'it returns false'. Refute it at one input. -/
def squeezePressesWrong : ChangeSpec := { name := "squeezePresses", fn := fun _ => fun
  | [d] => { results := [.lit (.bool false)], args := [d] }
  | _ => none }
def SqueezePressesWrongFalsely : Prop := squeezePressesRow.holds Try.pinned (OpenSpec.ofChange squeezePressesWrong)

/-- 'graftagelaw03.SqueezeSpreads': WHATEVER THE INPUT: true; the input reads as it did. -/
def squeezeSpreadsSpec : ChangeSpec := { name := "squeezeSpreads", fn := fun _ => fun
  | [d1, d2] => { results := [.lit (.bool true)], args := [d1, d2] }
  | _ => none }
def squeezeSpreadsRow : OpenClaim := { program := "ytmkoajmldbhnbaa", sum := "8dbeb1c75c13b70674fe79d90b7b99e12beb6e5b07848224f8307dd5b87ce2cd", func := "graftage/graftagelaw03.SqueezeSpreads", spec := "squeezeSpreads", unfollowed := true, recurses := true, apart := false }
def SqueezeSpreadsSaid : Prop := squeezeSpreadsRow.holds Try.pinned (OpenSpec.ofChange squeezeSpreadsSpec)

/-- ITS FALSE NEIGHBOUR: 'it returns false'. Refute it at one input. -/
def squeezeSpreadsWrong : ChangeSpec := { name := "squeezeSpreads", fn := fun _ => fun
  | [d1, d2] => { results := [.lit (.bool false)], args := [d1, d2] }
  | _ => none }
def SqueezeSpreadsWrongFalsely : Prop := squeezeSpreadsRow.holds Try.pinned (OpenSpec.ofChange squeezeSpreadsWrong)

/-- 'graftagelaw03.SqueezeBack': WHATEVER THE INPUT: true; the input reads as it did. -/
def squeezeBackSpec : ChangeSpec := { name := "squeezeBack", fn := fun _ => fun
  | [d1, d2, d3] => { results := [.lit (.bool true)], args := [d1, d2, d3] }
  | _ => none }
def squeezeBackRow : OpenClaim := { program := "ytmkoajmldbhnbaa", sum := "8dbeb1c75c13b70674fe79d90b7b99e12beb6e5b07848224f8307dd5b87ce2cd", func := "graftage/graftagelaw03.SqueezeBack", spec := "squeezeBack", unfollowed := true, recurses := true, apart := false }
def SqueezeBackSaid : Prop := squeezeBackRow.holds Try.pinned (OpenSpec.ofChange squeezeBackSpec)

/-- ITS FALSE NEIGHBOUR: 'it returns false'. Refute it at one input. -/
def squeezeBackWrong : ChangeSpec := { name := "squeezeBack", fn := fun _ => fun
  | [d1, d2, d3] => { results := [.lit (.bool false)], args := [d1, d2, d3] }
  | _ => none }
def SqueezeBackWrongFalsely : Prop := squeezeBackRow.holds Try.pinned (OpenSpec.ofChange squeezeBackWrong)

/-- 'graftagelaw03.SqueezeFew': WHATEVER THE INPUT: true; the input reads as it did. -/
def squeezeFewSpec : ChangeSpec := { name := "squeezeFew", fn := fun _ => fun
  | [d1, d2, d3] => { results := [.lit (.bool true)], args := [d1, d2, d3] }
  | _ => none }
def squeezeFewRow : OpenClaim := { program := "ytmkoajmldbhnbaa", sum := "8dbeb1c75c13b70674fe79d90b7b99e12beb6e5b07848224f8307dd5b87ce2cd", func := "graftage/graftagelaw03.SqueezeFew", spec := "squeezeFew", unfollowed := true, recurses := true, apart := false }
def SqueezeFewSaid : Prop := squeezeFewRow.holds Try.pinned (OpenSpec.ofChange squeezeFewSpec)

/-- ITS FALSE NEIGHBOUR: 'it returns false'. Refute it at one input. -/
def squeezeFewWrong : ChangeSpec := { name := "squeezeFew", fn := fun _ => fun
  | [d1, d2, d3] => { results := [.lit (.bool false)], args := [d1, d2, d3] }
  | _ => none }
def SqueezeFewWrongFalsely : Prop := squeezeFewRow.holds Try.pinned (OpenSpec.ofChange squeezeFewWrong)

/-- 'graftagelaw03.SqueezeBound': WHATEVER THE INPUT: true; the input reads as it did. -/
def squeezeBoundSpec : ChangeSpec := { name := "squeezeBound", fn := fun _ => fun
  | [d] => { results := [.lit (.bool true)], args := [d] }
  | _ => none }
def squeezeBoundRow : OpenClaim := { program := "ytmkoajmldbhnbaa", sum := "8dbeb1c75c13b70674fe79d90b7b99e12beb6e5b07848224f8307dd5b87ce2cd", func := "graftage/graftagelaw03.SqueezeBound", spec := "squeezeBound", unfollowed := true, recurses := true, apart := false }
def SqueezeBoundSaid : Prop := squeezeBoundRow.holds Try.pinned (OpenSpec.ofChange squeezeBoundSpec)

/-- ITS FALSE NEIGHBOUR: 'it returns false'. Refute it at one input. -/
def squeezeBoundWrong : ChangeSpec := { name := "squeezeBound", fn := fun _ => fun
  | [d] => { results := [.lit (.bool false)], args := [d] }
  | _ => none }
def SqueezeBoundWrongFalsely : Prop := squeezeBoundRow.holds Try.pinned (OpenSpec.ofChange squeezeBoundWrong)

/- THE SECOND FORM. 'bulk': how many values and letters a reading holds, each counted each time it is reached (what is shared counts as often as it is met; a slice's spare places count too). A statement '..UptoSaid' is the law's where the arguments, and the package variables that the reading takes, are together of bulk at most 1048576: NARROWER than '..Said'. Prove '..Said' where nothing that the law and all that it calls make is longer than what came in: it says more and counts as full. Else prove '..UptoSaid'. A law counts once. -/
mutual
def uptoBulk {H : Type} : DataW H → Nat
  | .lit (.string bytes) => bytes.length + 1
  | .lit _ => 1
  | .nil => 1
  | .ptr d => uptoBulk d + 1
  | .slice elems spare => uptoBulkAll elems + uptoBulkAll spare + 1
  | .agg parts => uptoBulkAll parts + 1
  | .iface _ d => uptoBulk d + 1
  | .map entries => uptoBulkEntries entries + 1
  | .held _ => 1
def uptoBulkAll {H : Type} : List (DataW H) → Nat
  | [] => 0
  | d :: r => uptoBulk d + uptoBulkAll r
def uptoBulkEntries {H : Type} : List (Lit × DataW H) → Nat
  | [] => 0
  | x :: r => uptoBulkEntry x + uptoBulkEntries r
def uptoBulkEntry {H : Type} : Lit × DataW H → Nat
  | (.string bytes, d) => bytes.length + uptoBulk d + 1
  | (_, d) => uptoBulk d + 1
 end
def uptoSmall : (H : Type) → List (DataW H) → Bool := fun _ ds => decide (uptoBulkAll ds ≤ 1048576)
def OpenSpec.upto (s : _root_.Go.ChangeSpec) : _root_.Go.OpenSpec := { _root_.Go.OpenSpec.ofChange s with cond := some uptoSmall }

/-- 'graftagelaw03.SqueezePresses', WHERE WHAT IT READS IS OF BULK AT MOST 1048576: true; the input reads as it did. -/
def squeezePressesUptoRow : OpenClaim := { program := "ytmkoajmldbhnbaa", sum := "8dbeb1c75c13b70674fe79d90b7b99e12beb6e5b07848224f8307dd5b87ce2cd", func := "graftage/graftagelaw03.SqueezePresses", spec := "squeezePresses", unfollowed := true, recurses := true, apart := false, narrowed := true }
def SqueezePressesUptoSaid : Prop := squeezePressesUptoRow.holds Try.pinned (OpenSpec.upto squeezePressesSpec)

/-- 'graftagelaw03.SqueezeSpreads', WHERE WHAT IT READS IS OF BULK AT MOST 1048576: true; the input reads as it did. -/
def squeezeSpreadsUptoRow : OpenClaim := { program := "ytmkoajmldbhnbaa", sum := "8dbeb1c75c13b70674fe79d90b7b99e12beb6e5b07848224f8307dd5b87ce2cd", func := "graftage/graftagelaw03.SqueezeSpreads", spec := "squeezeSpreads", unfollowed := true, recurses := true, apart := false, narrowed := true }
def SqueezeSpreadsUptoSaid : Prop := squeezeSpreadsUptoRow.holds Try.pinned (OpenSpec.upto squeezeSpreadsSpec)

/-- 'graftagelaw03.SqueezeBack', WHERE WHAT IT READS IS OF BULK AT MOST 1048576: true; the input reads as it did. -/
def squeezeBackUptoRow : OpenClaim := { program := "ytmkoajmldbhnbaa", sum := "8dbeb1c75c13b70674fe79d90b7b99e12beb6e5b07848224f8307dd5b87ce2cd", func := "graftage/graftagelaw03.SqueezeBack", spec := "squeezeBack", unfollowed := true, recurses := true, apart := false, narrowed := true }
def SqueezeBackUptoSaid : Prop := squeezeBackUptoRow.holds Try.pinned (OpenSpec.upto squeezeBackSpec)

/-- 'graftagelaw03.SqueezeFew', WHERE WHAT IT READS IS OF BULK AT MOST 1048576: true; the input reads as it did. -/
def squeezeFewUptoRow : OpenClaim := { program := "ytmkoajmldbhnbaa", sum := "8dbeb1c75c13b70674fe79d90b7b99e12beb6e5b07848224f8307dd5b87ce2cd", func := "graftage/graftagelaw03.SqueezeFew", spec := "squeezeFew", unfollowed := true, recurses := true, apart := false, narrowed := true }
def SqueezeFewUptoSaid : Prop := squeezeFewUptoRow.holds Try.pinned (OpenSpec.upto squeezeFewSpec)

/-- 'graftagelaw03.SqueezeBound', WHERE WHAT IT READS IS OF BULK AT MOST 1048576: true; the input reads as it did. -/
def squeezeBoundUptoRow : OpenClaim := { program := "ytmkoajmldbhnbaa", sum := "8dbeb1c75c13b70674fe79d90b7b99e12beb6e5b07848224f8307dd5b87ce2cd", func := "graftage/graftagelaw03.SqueezeBound", spec := "squeezeBound", unfollowed := true, recurses := true, apart := false, narrowed := true }
def SqueezeBoundUptoSaid : Prop := squeezeBoundUptoRow.holds Try.pinned (OpenSpec.upto squeezeBoundSpec)

end Rows
end Go.Proofs.Ytmkoajmldbhnbaa
