/- For every base and every string the plain form of the law DeltaMakes gives true; no condition beyond the statement's own bounds. -/
import Derived.Test.YtggjkijgbpnhiaaDlLives
import Derived.Test.YtggjkijgbpnhiaaDlMakeR
import Derived.Test.YtggjkijgbpnhiaaPDlx5
import Derived.Test.YtggjkijgbpnhiaaPDlx2
namespace Go.Proofs.Ytggjkijgbpnhiaa.Pure
open Go.Proofs.Ytggjkijgbpnhiaa.Hand Go.Proofs.Ytggjkijgbpnhiaa.PDl
open Go.RowKit Go.Proofs.YtggjkijgbpnhiaaW.PrintWords Go.Proofs.YtggjkijgbpnhiaaW.PrintLast Go.Proofs.YtggjkijgbpnhiaaW.PrintMore
set_option linter.unusedVariables false
theorem DeltaMakes : graftagelaw04_DeltaMakes.Pure := by
  intro base s _ _
  refine ⟨(s.size + 3) * base.size + 31 + s.size, ?_⟩
  unfold graftagelaw04_DeltaMakes.f graftagelaw04_few.f
  by_cases c : (base.size : Int) ≤ 1500
  · by_cases c2 : (s.size : Int) ≤ 1500
    · rw [if_pos c, decide_eq_true c2, Option.bind_some, if_pos rfl, Make_eq base s (by omega) (by omega) _ (Nat.le_refl _), lives_f]
      unfold delta_Make.f
      simp
    · rw [if_pos c, decide_eq_false c2, Option.bind_some, if_neg (by decide), lives_f]; rfl
  · rw [if_neg c, Option.bind_some, if_neg (by decide), lives_f]; rfl
end Go.Proofs.Ytggjkijgbpnhiaa.Pure
