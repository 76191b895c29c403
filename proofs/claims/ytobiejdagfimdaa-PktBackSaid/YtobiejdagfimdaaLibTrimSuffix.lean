/- strings.TrimSuffix, in the print's shape. -/
import Derived.Test.YtobiejdagfimdaaBuf
import Derived.Test.YtobiejdagfimdaaShelf
namespace Go.Proofs.Ytobiejdagfimdaa.Hand
open Go.RowKit Go.Proofs.YtobiejdagfimdaaW.PrintWords Go.Proofs.YtobiejdagfimdaaW.PrintLast Go.Proofs.YtobiejdagfimdaaW.PrintMore
set_option linter.unusedVariables false
def strings_TrimSuffix.f (a0 a1 : ByteArray) : Option ByteArray := if a0.size ≤ 9223372036854775807 then some ⟨(Lib.trimSuffix a0.data.toList a1.data.toList).toArray⟩ else none
theorem strings_TrimSuffix.calls (a0 a1 : ByteArray) (r : ByteArray) (w : World) (h : strings_TrimSuffix.f a0 a1 = some r) :
    Calls Try.prog 31 #[.string a0, .string a1] w fun e w' => e = .returned (.string r) ∧ Drawn0 w w' := by
  unfold strings_TrimSuffix.f at h
  split at h
  · simp only [Option.some.injEq] at h
    subst h
    exact (Try.strings_TrimSuffix a0 a1 w (by assumption)).mono fun e w' ⟨he, hw⟩ => ⟨he, hw ▸ Drawn0.refl w⟩
  · cases h
end Go.Proofs.Ytobiejdagfimdaa.Hand
