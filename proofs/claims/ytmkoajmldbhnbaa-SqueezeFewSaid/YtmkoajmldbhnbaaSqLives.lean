/- The document's examples hold (lives). -/
import Derived.Test.YtmkoajmldbhnbaaPSqx3
namespace Go.Proofs.Ytmkoajmldbhnbaa.PSq
open Go.Proofs.Ytmkoajmldbhnbaa.Hand
open Go.RowKit Go.Proofs.YtmkoajmldbhnbaaW.PrintWords Go.Proofs.YtmkoajmldbhnbaaW.PrintLast Go.Proofs.YtmkoajmldbhnbaaW.PrintMore
set_option linter.unusedVariables false
set_option maxRecDepth 100000 in
theorem lives_f : graftagelaw03_lives.f = some true := by
  unfold graftagelaw03_lives.f; simp only [ByteArray.toList_eq]; kernel_rfl
end Go.Proofs.Ytmkoajmldbhnbaa.PSq
