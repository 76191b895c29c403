/- The document's examples hold (lives). -/
import Derived.Test.YtggjkijgbpnhiaaPDlx5
namespace Go.Proofs.Ytggjkijgbpnhiaa.PDl
open Go.Proofs.Ytggjkijgbpnhiaa.Hand
open Go.RowKit Go.Proofs.YtggjkijgbpnhiaaW.PrintWords Go.Proofs.YtggjkijgbpnhiaaW.PrintLast Go.Proofs.YtggjkijgbpnhiaaW.PrintMore
set_option linter.unusedVariables false
set_option maxRecDepth 100000 in
theorem lives_f : graftagelaw04_lives.f = some true := by
  unfold graftagelaw04_lives.f; simp only [ByteArray.toList_eq]; kernel_rfl
end Go.Proofs.Ytggjkijgbpnhiaa.PDl
