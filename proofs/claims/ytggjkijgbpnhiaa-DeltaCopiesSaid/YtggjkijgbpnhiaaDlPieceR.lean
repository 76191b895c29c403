/- The reference's piece and heads, as the printed functions have them. -/
import Derived.Test.YtggjkijgbpnhiaaTakeR
import Derived.Test.YtggjkijgbpnhiaaDlHead
import Derived.Test.YtggjkijgbpnhiaaPDlx6
namespace Go.Proofs.Ytggjkijgbpnhiaa.PDl
open Go.Proofs.Ytggjkijgbpnhiaa.Hand
open Go.RowKit Go.Proofs.YtggjkijgbpnhiaaW.PrintWords Go.Proofs.YtggjkijgbpnhiaaW.PrintLast Go.Proofs.YtggjkijgbpnhiaaW.PrintMore
set_option linter.unusedVariables false
set_option linter.unusedSimpArgs false

def pieceR (X : Int × Int × Pc) : Int × Int × Int × Int := if X.1 = 0 then (if X.2.2.1 = true then (X.2.2.2.2, X.2.2.2.1, X.2.1, 0) else (X.2.2.2.2, -1, X.2.2.2.1, 0)) else (0, 0, 0, X.1)
theorem numS_zero (s : ByteArray) (p : Int) : numS s p 0 = if (takeS s p).2.2 = 0 then ((takeS s p).1, (takeS s p).2.1, 0) else (0, p, (takeS s p).2.2) := by unfold numS; rw [if_pos rfl]
theorem piece_eq (s : ByteArray) (hs : s.size ≤ 1000000000) (base told p came : Int) (hp0 : 0 ≤ p) (hp1 : p ≤ s.size) (hb0 : 0 ≤ base) (hb1 : base ≤ 1000000000) (hc : 0 ≤ came) (hct : came ≤ told) (ht : told ≤ 1000000000) (k : Nat) (hk : 30 ≤ k) :
    graftageref04_piece.f k s p base (told - came) = some (pieceR (pcX s base told p came)) := by
  obtain ⟨k, rfl⟩ : ∃ m, k = m + 1 + 1 := ⟨k - 2, by omega⟩
  unfold graftageref04_piece.f
  rw [graftageref01_Take_eq s (by omega) p _ (by omega), Option.bind_some]
  have hn := numS_ok s p 0 hp0 hp1
  rw [numS_zero] at hn
  by_cases c1 : (takeS s p).2.2 = 0
  rotate_left
  · rw [if_neg c1]
    have hx : pcX s base told p came = (failS (failS (failS (takeS s p).2.2 2 (decide ((0 : Int) / 2 = 0 ∨ (0 : Int) / 2 > 1024))) 2 (decide ((0 : Int) / 2 > told - came))) 3 (decide ((0 : Int) / 2 > (s.size : Int) - p)), p + 0 / 2, false, p, 0 / 2) := by
      unfold pcX
      rw [numS_zero, if_neg c1]
      simp only
      rw [if_neg (by decide)]
    have hX1 : (pcX s base told p came).1 = (takeS s p).2.2 := by rw [hx]; simp only; rw [fail_err _ _ _ c1, fail_err _ _ _ c1, fail_err _ _ _ c1]
    unfold pieceR
    rw [hX1, if_neg c1]
  rw [if_pos c1] at hn ⊢
  have hN : numS s p 0 = ((takeS s p).1, (takeS s p).2.1, 0) := by rw [numS_zero, if_pos c1]
  generalize (takeS s p).1 = x at *
  generalize (takeS s p).2.1 = q at *
  simp only at hn
  obtain ⟨x0, x1, q0, q1, _, _⟩ := hn
  rw [Int.tdiv_eq_ediv_of_nonneg x0, Int.tmod_eq_emod_of_nonneg x0, wrap_u64_id (n := x / 2) (by omega) (by omega)]
  by_cases cp : x % 2 = 1
  · have hpx : pcX s base told p came = (failS (failS (numS s q (failS 0 2 (decide (x / 2 = 0)))).2.2 40 (decide ((numS s q (failS 0 2 (decide (x / 2 = 0)))).1 > base ∨ x / 2 > base - min (numS s q (failS 0 2 (decide (x / 2 = 0)))).1 base))) 2 (decide (x / 2 > told - came)),
        (numS s q (failS 0 2 (decide (x / 2 = 0)))).2.1, true, min (numS s q (failS 0 2 (decide (x / 2 = 0)))).1 base, x / 2) := by
      unfold pcX; rw [hN]; simp only; rw [if_pos cp]
    by_cases z : x / 2 = 0
    · rw [if_pos z, graftageref04_piece.j0, if_pos rfl]
      have e2 : failS 0 2 (decide (x / 2 = 0)) = 2 := by rw [decide_eq_true z]; rfl
      rw [e2] at hpx
      have n2 : numS s q 2 = (0, q, 2) := by unfold numS; rw [if_neg (by omega)]
      have hX1 : (pcX s base told p came).1 = 2 := by rw [hpx, n2]; simp only; rw [fail_err 2 _ _ (by omega), fail_err 2 _ _ (by omega)]
      unfold pieceR
      rw [hX1, if_neg (by omega)]
    · rw [if_neg z, if_neg (by omega), graftageref04_piece.j0, if_neg (by decide), Int.tmod_eq_emod_of_nonneg x0, if_neg (by omega), graftageref01_Take_eq s (by omega) q _ (by omega), Option.bind_some]
      have e2 : failS 0 2 (decide (x / 2 = 0)) = 0 := by rw [decide_eq_false z]; rfl
      rw [e2] at hpx
      have hn2 := numS_ok s q 0 q0 q1
      rw [numS_zero] at hn2
      by_cases c2 : (takeS s q).2.2 = 0
      rotate_left
      · rw [if_neg c2]
        have n2 : numS s q 0 = (0, q, (takeS s q).2.2) := by rw [numS_zero, if_neg c2]
        have hX1 : (pcX s base told p came).1 = (takeS s q).2.2 := by rw [hpx, n2]; simp only; rw [fail_err _ _ _ c2, fail_err _ _ _ c2]
        unfold pieceR
        rw [hX1, if_neg c2]
      rw [if_pos c2] at hn2 ⊢
      have n2 : numS s q 0 = ((takeS s q).1, (takeS s q).2.1, 0) := by rw [numS_zero, if_pos c2]
      generalize (takeS s q).1 = a at *
      generalize (takeS s q).2.1 = q2 at *
      simp only at hn2
      obtain ⟨a0, a1, b0, b1, _, _⟩ := hn2
      rw [n2] at hpx
      simp only at hpx
      have hj : (if x / 2 > base then graftageref04_piece.j1 (k + 1) (told - came) (x / 2) a q2 true else graftageref04_piece.j1 (k + 1) (told - came) (x / 2) a q2 (decide (a > IntKind.u64.wrap (base - x / 2))))
          = graftageref04_piece.j1 (k + 1) (told - came) (x / 2) a q2 (decide (a > base ∨ x / 2 > base - min a base)) := by
        by_cases g1 : x / 2 > base
        · rw [if_pos g1, decide_eq_true (by omega)]
        · rw [if_neg g1, wrap_u64_id (by omega) (by omega)]
          congr 1
          rw [Bool.eq_iff_iff, decide_eq_true_iff, decide_eq_true_iff]
          omega
      rw [hj, graftageref04_piece.j1]
      by_cases c3 : a > base ∨ x / 2 > base - min a base
      · rw [if_pos (decide_eq_true c3)]
        have hX1 : (pcX s base told p came).1 = 40 := by rw [hpx]; simp only; rw [decide_eq_true c3, fail_true, if_pos rfl, fail_err _ _ _ (by omega)]
        unfold pieceR
        rw [hX1, if_neg (by omega)]
      rw [decide_eq_false c3, if_neg (by decide)]
      rw [decide_eq_false c3, fail_false] at hpx
      by_cases c4 : x / 2 > told - came
      · rw [if_pos c4]
        have hX1 : (pcX s base told p came).1 = 2 := by rw [hpx]; simp only; rw [decide_eq_true c4, fail_true, if_pos rfl]
        unfold pieceR
        rw [hX1, if_neg (by omega)]
      · rw [if_neg c4, hpx]
        unfold pieceR
        simp only
        rw [decide_eq_false c4, fail_false, if_pos rfl, if_pos trivial, wrap64_id (n := x / 2) (by omega) (by omega), wrap64_id (n := a) (by omega) (by omega), Int.min_eq_left (by omega)]
  · have hpx : pcX s base told p came = (failS (failS (failS 0 2 (decide (x / 2 = 0 ∨ x / 2 > 1024))) 2 (decide (x / 2 > told - came))) 3 (decide (x / 2 > (s.size : Int) - q)), q + x / 2, false, q, x / 2) := by
      unfold pcX; rw [hN]; simp only; rw [if_neg cp]
    have hj : (if x / 2 = 0 then graftageref04_piece.j0 (k + 1 + 1) s base (told - came) x q (x / 2) true else if x % 2 = 0 then graftageref04_piece.j0 (k + 1 + 1) s base (told - came) x q (x / 2) (decide (x / 2 > 1024)) else graftageref04_piece.j0 (k + 1 + 1) s base (told - came) x q (x / 2) false)
        = graftageref04_piece.j0 (k + 1 + 1) s base (told - came) x q (x / 2) (decide (x / 2 = 0 ∨ x / 2 > 1024)) := by
      by_cases z : x / 2 = 0
      · rw [if_pos z, decide_eq_true (Or.inl z)]
      · rw [if_neg z, if_pos (by omega)]
        congr 1
        rw [Bool.eq_iff_iff, decide_eq_true_iff, decide_eq_true_iff]
        omega
    rw [hj, graftageref04_piece.j0]
    by_cases c2 : x / 2 = 0 ∨ x / 2 > 1024
    · rw [if_pos (decide_eq_true c2)]
      have hX1 : (pcX s base told p came).1 = 2 := by rw [hpx]; simp only; rw [decide_eq_true c2, fail_true, if_pos rfl, fail_err 2 _ _ (by omega), fail_err 2 _ _ (by omega)]
      unfold pieceR
      rw [hX1, if_neg (by omega)]
    rw [decide_eq_false c2, if_neg (by decide), Int.tmod_eq_emod_of_nonneg x0, if_pos (by omega)]
    rw [decide_eq_false c2, fail_false] at hpx
    by_cases c3 : x / 2 > told - came
    · rw [if_pos c3]
      have hX1 : (pcX s base told p came).1 = 2 := by rw [hpx]; simp only; rw [decide_eq_true c3, fail_true, if_pos rfl, fail_err 2 _ _ (by omega)]
      unfold pieceR
      rw [hX1, if_neg (by omega)]
    rw [if_neg c3, wrap64_id (n := (s.size : Int) - q) (by omega) (by omega), wrap_u64_id (n := (s.size : Int) - q) (by omega) (by omega)]
    rw [decide_eq_false c3, fail_false] at hpx
    by_cases c4 : x / 2 > (s.size : Int) - q
    · rw [if_pos c4]
      have hX1 : (pcX s base told p came).1 = 3 := by rw [hpx]; simp only; rw [decide_eq_true c4, fail_true, if_pos rfl]
      unfold pieceR
      rw [hX1, if_neg (by omega)]
    · rw [if_neg c4, hpx]
      unfold pieceR
      simp only
      rw [decide_eq_false c4, fail_false, if_pos rfl, if_neg (by simp), wrap64_id (n := x / 2) (by omega) (by omega)]

def headsR (s : ByteArray) : Int × Int × Int × Int :=
  if (takeS s 0).2.2 = 0 then (if (takeS s (takeS s 0).2.1).2.2 = 0 then ((takeS s 0).1, (takeS s (takeS s 0).2.1).1, (takeS s (takeS s 0).2.1).2.1, 0) else (0, 0, 0, (takeS s (takeS s 0).2.1).2.2)) else (0, 0, 0, (takeS s 0).2.2)
theorem heads_eq (s : ByteArray) (hs : s.size ≤ 1000000000) (k : Nat) (hk : 30 ≤ k) : graftageref04_heads.f k s = some (headsR s) := by
  unfold graftageref04_heads.f headsR
  rw [graftageref01_Take_eq s (by omega) 0 _ (by omega), Option.bind_some]
  by_cases c1 : (takeS s 0).2.2 = 0
  · rw [if_pos c1, if_pos c1, graftageref01_Take_eq s (by omega) _ _ (by omega), Option.bind_some]
    split <;> rfl
  · rw [if_neg c1, if_neg c1]
/-- The two numbers at the head, as the reader has them. -/
theorem nums_heads (s : ByteArray) : (headsR s).2.2.2 = 0 → (numS s 0 0).1 = (headsR s).1 ∧ (numS s (numS s 0 0).2.1 (numS s 0 0).2.2) = ((headsR s).2.1, (headsR s).2.2.1, 0) := by
  unfold headsR
  rw [numS_zero]
  by_cases c1 : (takeS s 0).2.2 = 0
  · rw [if_pos c1, if_pos c1]
    simp only
    by_cases c2 : (takeS s (takeS s 0).2.1).2.2 = 0
    · rw [if_pos c2]
      intro _
      exact ⟨rfl, by rw [numS_zero, if_pos c2]⟩
    · rw [if_neg c2]
      intro h
      exact absurd h c2
  · rw [if_neg c1]
    intro h
    exact absurd h c1
theorem nums_heads_err (s : ByteArray) : (headsR s).2.2.2 ≠ 0 → (numS s (numS s 0 0).2.1 (numS s 0 0).2.2).2.2 = (headsR s).2.2.2 := by
  unfold headsR
  rw [numS_zero]
  by_cases c1 : (takeS s 0).2.2 = 0
  · rw [if_pos c1, if_pos c1]
    simp only
    by_cases c2 : (takeS s (takeS s 0).2.1).2.2 = 0
    · rw [if_pos c2]
      intro h
      exact absurd rfl h
    · rw [if_neg c2]
      intro _
      rw [numS_zero, if_neg c2]
  · rw [if_neg c1, if_neg c1]
    intro _
    simp only
    unfold numS
    rw [if_neg c1]
end Go.Proofs.Ytggjkijgbpnhiaa.PDl
