/- For every string and every bound the plain form of the law SqueezeSpreads gives true; no condition beyond the statement's own bounds. -/
import Derived.Test.YtmkoajmldbhnbaaSqLives
import Derived.Test.YtmkoajmldbhnbaaSqSpreadR
import Derived.Test.YtmkoajmldbhnbaaPSqx5
namespace Go.Proofs.Ytmkoajmldbhnbaa.Pure
open Go.Proofs.Ytmkoajmldbhnbaa.Hand Go.Proofs.Ytmkoajmldbhnbaa.PSq
open Go.RowKit Go.Proofs.YtmkoajmldbhnbaaW.PrintWords Go.Proofs.YtmkoajmldbhnbaaW.PrintLast Go.Proofs.YtmkoajmldbhnbaaW.PrintMore
set_option linter.unusedVariables false
theorem SqueezeSpreads : graftagelaw03_SqueezeSpreads.Pure := by
  intro s most _ _
  refine ⟨26000, ?_⟩
  obtain ⟨k, hk⟩ : ∃ k, 26000 = k + 1 := ⟨25999, rfl⟩
  unfold graftagelaw03_SqueezeSpreads.f
  have hl : graftagelaw03_SqueezeSpreads.j0 26000 s most true = some true := by
    rw [hk, graftagelaw03_SqueezeSpreads.j0, if_pos rfl, lives_f]; rfl
  by_cases c : (s.size : Int) > 3000
  · rw [if_pos c, hl]
  rw [if_neg c]
  by_cases c2 : most > 5000
  · rw [decide_eq_true c2, hl]
  rw [decide_eq_false c2, hk]
  rw [graftagelaw03_SqueezeSpreads.j0]
  rw [if_neg (by decide), graftageref03_Spread_eq s (by omega) most (by omega) k (by omega), lives_f]
  unfold squeeze_Decompress.f
  rw [if_pos (by omega), if_pos (by omega)]
  simp
end Go.Proofs.Ytmkoajmldbhnbaa.Pure
