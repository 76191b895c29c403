/- delta.Apply in the print's shape. -/
import Derived.Test.YtggjkijgbpnhiaaDlApplyB
namespace Go.Proofs.Ytggjkijgbpnhiaa.Hand
open Go.RowKit Go.Proofs.YtggjkijgbpnhiaaW.PrintWords Go.Proofs.YtggjkijgbpnhiaaW.PrintLast Go.Proofs.YtggjkijgbpnhiaaW.PrintMore
set_option linter.unusedVariables false
def delta_Apply.f (a0 a1 : ByteArray) : Option (ByteArray × Int) := if a0.size ≤ 1000000000 then (if a1.size ≤ 1000000000 then some (applyS a0 a1) else none) else none
theorem delta_Apply.calls (a0 a1 : ByteArray) (r1 : ByteArray) (r2 : Int) (w : World) (h : delta_Apply.f a0 a1 = some (r1, r2)) :
    Calls Try.prog 13 #[.string a0, .string a1] w fun e w' => e = .returned (.tuple #[.string r1, .int .i64 r2]) ∧ Below w.heap.size w w' := by
  unfold delta_Apply.f at h
  split at h
  · split at h
    · simp only [Option.some.injEq] at h
      have := apply_any a0 a1 w (by assumption) (by assumption)
      rw [h] at this
      exact this
    · cases h
  · cases h
end Go.Proofs.Ytggjkijgbpnhiaa.Hand
