/- For every base and every delta the plain form of the law DeltaApplies gives true; no condition beyond the statement's own bounds. -/
import Derived.Test.YtggjkijgbpnhiaaDlLives
import Derived.Test.YtggjkijgbpnhiaaDlApplyR
import Derived.Test.YtggjkijgbpnhiaaPDlx7
import Derived.Test.YtggjkijgbpnhiaaPDlx2
namespace Go.Proofs.Ytggjkijgbpnhiaa.Pure
open Go.Proofs.Ytggjkijgbpnhiaa.Hand Go.Proofs.Ytggjkijgbpnhiaa.PDl
open Go.RowKit Go.Proofs.YtggjkijgbpnhiaaW.PrintWords Go.Proofs.YtggjkijgbpnhiaaW.PrintLast Go.Proofs.YtggjkijgbpnhiaaW.PrintMore
set_option linter.unusedVariables false
theorem DeltaApplies : graftagelaw04_DeltaApplies.Pure := by
  intro base s _ _
  refine ⟨1100000, ?_⟩
  unfold graftagelaw04_DeltaApplies.f graftagelaw04_few.f
  by_cases c : (base.size : Int) ≤ 1500
  · by_cases c2 : (s.size : Int) ≤ 1500
    · rw [if_pos c, decide_eq_true c2, Option.bind_some, if_pos rfl, Apply_eq base s (by omega) (by omega) _ (by omega), lives_f]
      unfold delta_Apply.f
      rw [if_pos (by omega), if_pos (by omega)]
      simp
    · rw [if_pos c, decide_eq_false c2, Option.bind_some, if_neg (by decide), lives_f]; rfl
  · rw [if_neg c, Option.bind_some, if_neg (by decide), lives_f]; rfl
end Go.Proofs.Ytggjkijgbpnhiaa.Pure
