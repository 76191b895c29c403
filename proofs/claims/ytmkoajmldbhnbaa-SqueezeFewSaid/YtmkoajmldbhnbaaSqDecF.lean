/- squeeze.Decompress in the print's shape. -/
import Derived.Test.YtmkoajmldbhnbaaSqDec
import Derived.Test.YtmkoajmldbhnbaaTakeO
namespace Go.Proofs.Ytmkoajmldbhnbaa.Hand
open Go.RowKit Go.Proofs.YtmkoajmldbhnbaaW.PrintWords Go.Proofs.YtmkoajmldbhnbaaW.PrintLast Go.Proofs.YtmkoajmldbhnbaaW.PrintMore
open Go.Proofs.Ytmkoajmldbhnbaa.PSqA
set_option linter.unusedVariables false
set_option linter.unusedSimpArgs false
theorem vb_pos (r : Nat) (m : Int) : 0 < (vb r m).length := by
  cases r with
  | zero => simp [vb]
  | succ r => unfold vb; split <;> simp
theorem tkG_okD (s : ByteArray) (p : Int) (h0 : 0 ≤ p) (h1 : p ≤ s.size) (h : (tkG s 10 p 0).2.2 = 0) : p < (tkG s 10 p 0).2.1 ∧ (tkG s 10 p 0).2.1 ≤ s.size ∧ 0 ≤ (tkG s 10 p 0).1 ∧ (tkG s 10 p 0).1 < 18446744073709551616 := by
  have e : tkG s (9 + 1) p 0 = ((tkG s 10 p 0).1, (tkG s 10 p 0).2.1, 0) := Prod.ext rfl (Prod.ext rfl h)
  obtain ⟨k1, m, k2, k3, k4, k5, _, _⟩ := tkG_vb s 9 p 0 _ _ (by omega) h0 h1 e
  have hv := vb_pos 9 m
  simp at k2 k4
  exact ⟨by omega, k1, by omega, by omega⟩
theorem takeS_okD (s : ByteArray) (q : Int) (h0 : 0 ≤ q) (h : (takeS s q).2.2 = 0) : q < (takeS s q).2.1 ∧ (takeS s q).2.1 ≤ s.size ∧ 0 ≤ (takeS s q).1 ∧ (takeS s q).1 < 18446744073709551616 := by
  unfold takeS at h ⊢
  by_cases c : q < 0 ∨ q > (s.size : Int)
  · rw [if_pos c] at h; exact absurd (show (_ : Int) = 0 from h) (by simp)
  · rw [if_neg c] at h ⊢
    exact tkG_okD s q h0 (by omega) h
def squeeze_Decompress.f (a0 : ByteArray) (a1 : Int) : Option (ByteArray × Int) := if a0.size ≤ 1000000 then (if a1 ≤ 1000000 then some (decS (takeS a0) a0 a1) else none) else none
theorem squeeze_Decompress.calls (a0 : ByteArray) (a1 : Int) (r1 : ByteArray) (r2 : Int) (w : World) (h : squeeze_Decompress.f a0 a1 = some (r1, r2)) :
    Calls Try.prog 12 #[.string a0, .int .i64 a1] w fun e w' => e = .returned (.tuple #[.string r1, .int .i64 r2]) ∧ Below w.heap.size w w' := by
  unfold squeeze_Decompress.f at h
  split at h
  · split at h
    · simp only [Option.some.injEq] at h
      have := dec_any (takeS a0) a0 a1 w (by assumption) (by assumption) (fun q hq0 hq1 => octet_Take_eq a0 (by omega) q 60 (by omega)) (takeS_okD a0)
      rw [h] at this
      exact this
    · cases h
  · cases h
end Go.Proofs.Ytmkoajmldbhnbaa.Hand
