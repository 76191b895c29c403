/- For every number the plain form of the law SqueezeBound gives true. -/
import Derived.Test.YtmkoajmldbhnbaaSqLives
import Derived.Test.YtmkoajmldbhnbaaPSqx6
namespace Go.Proofs.Ytmkoajmldbhnbaa.Pure
open Go.Proofs.Ytmkoajmldbhnbaa.Hand Go.Proofs.Ytmkoajmldbhnbaa.PSq
open Go.RowKit Go.Proofs.YtmkoajmldbhnbaaW.PrintWords Go.Proofs.YtmkoajmldbhnbaaW.PrintLast Go.Proofs.YtmkoajmldbhnbaaW.PrintMore
set_option linter.unusedVariables false
theorem SqueezeBound : graftagelaw03_SqueezeBound.Pure := by
  intro a _
  unfold graftagelaw03_SqueezeBound.f
  rw [lives_f]
  have e : squeeze_Bound.f a = graftageref03_Bound.f a := rfl
  split
  · rfl
  · rw [e]
    unfold graftageref03_Bound.f
    split <;> simp
end Go.Proofs.Ytmkoajmldbhnbaa.Pure
