/- For every base and every string the plain form of the law DeltaBack gives true; no condition beyond the statement's own bounds. -/
import Derived.Test.YtggjkijgbpnhiaaDlLives
import Derived.Test.YtggjkijgbpnhiaaDlTok
import Derived.Test.YtggjkijgbpnhiaaDlSizes
import Derived.Test.YtggjkijgbpnhiaaPDlx8
namespace Go.Proofs.Ytggjkijgbpnhiaa.Pure
open Go.Proofs.Ytggjkijgbpnhiaa.Hand Go.Proofs.Ytggjkijgbpnhiaa.PDl
open Go.RowKit Go.Proofs.YtggjkijgbpnhiaaW.PrintWords Go.Proofs.YtggjkijgbpnhiaaW.PrintLast Go.Proofs.YtggjkijgbpnhiaaW.PrintMore
set_option linter.unusedVariables false
theorem DeltaBack : graftagelaw04_DeltaBack.Pure := by
  intro base s _ _
  refine ⟨1, ?_⟩
  unfold graftagelaw04_DeltaBack.f
  have hl : graftagelaw04_DeltaBack.j0 (0 + 1) base s true = some true := by
    rw [graftagelaw04_DeltaBack.j0, if_pos rfl, lives_f]; rfl
  by_cases c : (base.size : Int) > 1048576
  · rw [if_pos c]; exact hl
  rw [if_neg c]
  by_cases c2 : (s.size : Int) > 1048576
  · rw [decide_eq_true c2]; exact hl
  rw [decide_eq_false c2]
  show graftagelaw04_DeltaBack.j0 (0 + 1) base s false = some true
  have hz := make_size base s (by omega) (by omega)
  have hm : delta_Make.f base s = some (delta_Make.g base s) := rfl
  have ha : delta_Apply.f base (delta_Make.g base s) = some (s, 0) := by
    unfold delta_Apply.f; rw [if_pos (by omega), if_pos (by omega), apply_make base s (by omega) (by omega)]
  obtain ⟨e1, e2, e3, e4⟩ := make_sizes base s (by omega) (by omega)
  have hsz : delta_Sizes.f (delta_Make.g base s) = some ((base.size : Int), (s.size : Int), 0) := by
    unfold delta_Sizes.f; rw [if_pos (by omega), e1, e2, e3]; rfl
  rw [graftagelaw04_DeltaBack.j0, if_neg (by decide), hm, Option.bind_some, ha, Option.bind_some, Option.bind_some, hsz, Option.bind_some, lives_f]
  simp
end Go.Proofs.Ytggjkijgbpnhiaa.Pure
