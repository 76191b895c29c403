/- For every delta the plain form of the law DeltaReads gives true; no condition beyond the statement's own bounds. -/
import Derived.Test.YtggjkijgbpnhiaaDlLives
import Derived.Test.YtggjkijgbpnhiaaDlCopiesR
import Derived.Test.YtggjkijgbpnhiaaPDlx11
namespace Go.Proofs.Ytggjkijgbpnhiaa.Pure
open Go.Proofs.Ytggjkijgbpnhiaa.Hand Go.Proofs.Ytggjkijgbpnhiaa.PDl
open Go.RowKit Go.Proofs.YtggjkijgbpnhiaaW.PrintWords Go.Proofs.YtggjkijgbpnhiaaW.PrintLast Go.Proofs.YtggjkijgbpnhiaaW.PrintMore
set_option linter.unusedVariables false
theorem DeltaReads : graftagelaw04_DeltaReads.Pure := by
  intro s _
  refine ⟨1100000, ?_⟩
  unfold graftagelaw04_DeltaReads.f
  by_cases c : (s.size : Int) > 1500
  · rw [if_pos c, lives_f]; rfl
  rw [if_neg c, Sizes_eq s (by omega) _ (by omega), Copies_eq s (by omega) _ (by omega)]
  have e1 : delta_Sizes.f s = some (if hdE s = 0 then hdN s else 0, if hdE s = 0 then hdM s else 0, hdE s) := by unfold delta_Sizes.f; rw [if_pos (by omega)]
  have e2 : delta_Copies.f s = some (copiesS s) := by unfold delta_Copies.f; rw [if_pos (by omega)]
  have hl := copiesS_len s
  rw [e1, e2]
  simp only [Option.bind_some]
  rw [if_pos trivial, if_pos trivial, if_pos trivial, Same_eq _ (by omega) _ (by omega), lives_f]
  simp
end Go.Proofs.Ytggjkijgbpnhiaa.Pure
