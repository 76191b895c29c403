/- For every string and place the plain form of the law PktTakes gives true; no condition beyond the statement's own bounds. -/
import Derived.Test.YtobiejdagfimdaaPktTake
import Derived.Test.YtobiejdagfimdaaPPktx7
namespace Go.Proofs.Ytobiejdagfimdaa.PPkt
open Go.Proofs.Ytobiejdagfimdaa.Hand
open Go.RowKit Go.Proofs.YtobiejdagfimdaaW.PrintWords Go.Proofs.YtobiejdagfimdaaW.PrintLast Go.Proofs.YtobiejdagfimdaaW.PrintMore
set_option linter.unusedVariables false
theorem lives_k : graftagelaw46_lives.f 40 = some true := by
  unfold graftagelaw46_lives.f
  simp only [ByteArray.toList_eq]
  kernel_rfl
theorem lives_f (k : Nat) (hk : 40 ≤ k) : graftagelaw46_lives.f k = some true := at_rounds (g := fun k => graftagelaw46_lives.f k) graftagelaw46_lives.mono hk lives_k
end Go.Proofs.Ytobiejdagfimdaa.PPkt
namespace Go.Proofs.Ytobiejdagfimdaa.Pure
open Go.Proofs.Ytobiejdagfimdaa.Hand Go.Proofs.Ytobiejdagfimdaa.PPkt
open Go.RowKit Go.Proofs.YtobiejdagfimdaaW.PrintWords Go.Proofs.YtobiejdagfimdaaW.PrintLast Go.Proofs.YtobiejdagfimdaaW.PrintMore
set_option linter.unusedVariables false
set_option linter.unusedSimpArgs false
theorem PktTakes : graftagelaw46_PktTakes.Pure := by
  intro s a _ _
  by_cases c : (s.size : Int) > 200000
  · refine ⟨40, ?_⟩
    unfold graftagelaw46_PktTakes.f
    rw [if_pos c, lives_f 40 (by omega)]; rfl
  · refine ⟨s.size + 60, ?_⟩
    have hl := allP_length s (s.size + 1) 0
    unfold graftagelaw46_PktTakes.f
    rw [if_neg c, pkt_Take_eq s (by omega) a _ (by omega), ref_Take_eq s (by omega) a _ (by omega), All_eq s (by omega) _ (by omega), ref_All_eq s (by omega) _ (by omega)]
    simp only [Option.bind_some, beq_self_eq_true, Bool.and_self, if_true]
    rw [same_self _ (by unfold allS; omega) _ (by unfold allS; omega)]
    simp only [Option.bind_some, if_true]
    rw [lives_f _ (by omega)]
    rfl
end Go.Proofs.Ytobiejdagfimdaa.Pure
