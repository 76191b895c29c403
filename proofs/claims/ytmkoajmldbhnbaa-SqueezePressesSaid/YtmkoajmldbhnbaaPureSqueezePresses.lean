/- For every string the plain form of the law SqueezePresses gives true; no condition beyond the statement's own bounds. -/
import Derived.Test.YtmkoajmldbhnbaaSqLives
import Derived.Test.YtmkoajmldbhnbaaSqPressR
import Derived.Test.YtmkoajmldbhnbaaSqSize
import Derived.Test.YtmkoajmldbhnbaaPSqx4
namespace Go.Proofs.Ytmkoajmldbhnbaa.PSq
open Go.Proofs.Ytmkoajmldbhnbaa.Hand
open Go.RowKit Go.Proofs.YtmkoajmldbhnbaaW.PrintWords Go.Proofs.YtmkoajmldbhnbaaW.PrintLast Go.Proofs.YtmkoajmldbhnbaaW.PrintMore
theorem bound_f (n : Nat) (h : n ≤ 1000000) : squeeze_Bound.f (n : Int) = some ((n : Int) + (n / 64 : Nat) + 16) := by
  unfold squeeze_Bound.f
  rw [if_neg (by omega), Int.tdiv_eq_ediv_of_nonneg (by omega), wrap64_id (n := (n : Int) / 64) (by omega) (by omega), wrap64_id (n := (n : Int) + (n : Int) / 64) (by omega) (by omega), wrap64_id (by omega) (by omega)]
  congr 1
end Go.Proofs.Ytmkoajmldbhnbaa.PSq
namespace Go.Proofs.Ytmkoajmldbhnbaa.Pure
open Go.Proofs.Ytmkoajmldbhnbaa.Hand Go.Proofs.Ytmkoajmldbhnbaa.PSq
open Go.RowKit Go.Proofs.YtmkoajmldbhnbaaW.PrintWords Go.Proofs.YtmkoajmldbhnbaaW.PrintLast Go.Proofs.YtmkoajmldbhnbaaW.PrintMore
set_option linter.unusedVariables false
theorem SqueezePresses : graftagelaw03_SqueezePresses.Pure := by
  intro s _
  refine ⟨263 * s.size + 20, ?_⟩
  unfold graftagelaw03_SqueezePresses.f
  by_cases c : (s.size : Int) > 3000
  · rw [if_pos c, lives_f]; rfl
  have hz := compS_size s (by omega)
  rw [if_neg c, Press_eq s (by omega) _ (Nat.le_refl _), lives_f, bound_f s.size (by omega)]
  unfold squeeze_Compress.f
  rw [if_pos (by omega)]
  simp only [Option.bind_some, if_true]
  rw [decide_eq_true (by omega)]
end Go.Proofs.Ytmkoajmldbhnbaa.Pure
