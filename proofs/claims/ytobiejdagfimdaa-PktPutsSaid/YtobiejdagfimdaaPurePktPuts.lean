/- For every list of pieces the plain form of the law PktPuts gives true; no condition beyond the statement's own bounds. -/
import Derived.Test.YtobiejdagfimdaaPktPut
namespace Go.Proofs.Ytobiejdagfimdaa.Pure
open Go.Proofs.Ytobiejdagfimdaa.Hand Go.Proofs.Ytobiejdagfimdaa.PPkt
open Go.RowKit Go.Proofs.YtobiejdagfimdaaW.PrintWords Go.Proofs.YtobiejdagfimdaaW.PrintLast Go.Proofs.YtobiejdagfimdaaW.PrintMore
set_option linter.unusedVariables false
set_option linter.unusedSimpArgs false
theorem PktPuts (l : List S24) (hl : l.length ≤ 9223372036854770000) (hz : ∀ p ∈ l, p.f1.size ≤ 140737488355328) : graftagelaw46_PktPuts.f (l.length + 61) l = some true := by
  unfold graftagelaw46_PktPuts.f
  obtain ⟨b, hb, hf⟩ := few_f l hl 200000 (by decide) (by decide) hz (l.length + 61) (by omega)
  rw [hb, lives_f _ (by omega)]
  simp only [Option.bind_some]
  cases b with
  | false => rfl
  | true =>
    obtain ⟨h1, h2⟩ := hf rfl
    rw [if_pos rfl, Put_eq l (by omega), ref_Put_eq l (by omega) (by omega) _ (by omega), Lines_eq l (by omega) hz _ (by omega), ref_Lines_eq l (by omega) hz _ (by omega), Join_eq l (by omega) (by omega), ref_Join_eq l (by omega) (by omega) _ (by omega)]
    have hlq := linesQ_length l
    simp only [Option.bind_some, if_true]
    rw [same05_self _ (by omega) _ (by omega)]
    simp
end Go.Proofs.Ytobiejdagfimdaa.Pure
