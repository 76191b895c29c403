/- For every string the plain form of the law SqueezeBack gives true; no condition beyond the statement's own bounds. -/
import Derived.Test.YtmkoajmldbhnbaaSqLives
import Derived.Test.YtmkoajmldbhnbaaSqTok
import Derived.Test.YtmkoajmldbhnbaaSqSize
import Derived.Test.YtmkoajmldbhnbaaSqDecF
import Derived.Test.YtmkoajmldbhnbaaPSqx6
namespace Go.Proofs.Ytmkoajmldbhnbaa.Pure
open Go.Proofs.Ytmkoajmldbhnbaa.Hand Go.Proofs.Ytmkoajmldbhnbaa.PSq
open Go.RowKit Go.Proofs.YtmkoajmldbhnbaaW.PrintWords Go.Proofs.YtmkoajmldbhnbaaW.PrintLast Go.Proofs.YtmkoajmldbhnbaaW.PrintMore
set_option linter.unusedVariables false
theorem SqueezeBack : graftagelaw03_SqueezeBack.Pure := by
  intro s cut b _ _ hb
  refine ⟨3, ?_⟩
  unfold graftagelaw03_SqueezeBack.f
  by_cases c : (s.size : Int) > 3000
  · rw [if_pos c, lives_f]; rfl
  have hz := compS_size s (by omega)
  have hz1 : (strOfNums [b]).size = 1 := by rw [strOfNums_size]; rfl
  have hz2 : (compS s ++ strOfNums [b]).size = (compS s).size + 1 := by rw [size_append, hz1]
  have d1 := dec_comp s (compS s) (by omega) [] (by simp)
  have d2 := dec_small s (by omega)
  have d3 := dec_comp s (compS s ++ strOfNums [b]) (by omega) (bytesOf (strOfNums [b])) (by rw [bytesOf_append])
  rw [if_neg (by intro h; have := congrArg List.length h; rw [bytesOf_length, hz1] at this; simp at this)] at d3
  rw [if_pos rfl] at d1
  have hbad : ∀ k, graftagelaw03_SqueezeBack.j1 (k + 1) s cut (compS s) true = some true := by
    intro k
    rw [graftagelaw03_SqueezeBack.j1, if_pos rfl, lives_f]; rfl
  have hfin : graftagelaw03_SqueezeBack.j0 (2 + 1) s cut (compS s) false = some true := by
    rw [graftagelaw03_SqueezeBack.j0, if_neg (by decide)]
    by_cases c1 : cut < 0
    · rw [if_pos c1]; exact hbad 1
    rw [if_neg c1]
    by_cases c2 : cut ≥ ((compS s).size : Int)
    · rw [decide_eq_true c2]; exact hbad 1
    rw [decide_eq_false c2, graftagelaw03_SqueezeBack.j1, if_neg (by decide), if_pos (by omega), if_pos (by omega)]
    have hx : ((compS s).extract 0 cut.toNat).size = cut.toNat := by rw [ByteArray.size_extract]; omega
    have d4 := dec_less s ((compS s).extract 0 cut.toNat) (by omega) cut.toNat (by omega) (by rw [bytesOf_extract]; simp)
    have e : squeeze_Decompress.f ((compS s).extract 0 cut.toNat) (s.size : Int) = some (⟨#[]⟩, 3) := by
      unfold squeeze_Decompress.f
      rw [if_pos (by omega), if_pos (by omega), d4]
    rw [e, lives_f]
    simp [toList_bytes]
  have e1 : squeeze_Compress.f s = some (compS s) := by unfold squeeze_Compress.f; rw [if_pos (by omega)]
  have e2 : squeeze_Decompress.f (compS s) (s.size : Int) = some (s, 0) := by
    unfold squeeze_Decompress.f; rw [if_pos (by omega), if_pos (by omega), d1]
  have e3 : squeeze_Decompress.f (compS s) ((s.size : Int) - 1) = some (⟨#[]⟩, 4) := by
    unfold squeeze_Decompress.f; rw [if_pos (by omega), if_pos (by omega), d2]
  have e4 : squeeze_Decompress.f (compS s ++ strOfNums [b]) (s.size : Int) = some (⟨#[]⟩, 2) := by
    unfold squeeze_Decompress.f; rw [if_pos (by omega), if_pos (by omega), d3]
  rw [if_neg c, e1, Option.bind_some, e2, Option.bind_some, wrap64_id (by omega) (by omega), e3, Option.bind_some, Option.bind_some, if_pos (by omega), e4, Option.bind_some]
  simp only
  exact hfin
end Go.Proofs.Ytmkoajmldbhnbaa.Pure
