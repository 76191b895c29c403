/- The reference's Take, as the printed function has it: the plain takeS. -/
import Derived.Test.YtggjkijgbpnhiaaOctPlain
import Derived.Test.YtggjkijgbpnhiaaPDlx6
namespace Go.Proofs.Ytggjkijgbpnhiaa.PDl
open Go.Proofs.Ytggjkijgbpnhiaa.Hand
open Go.RowKit Go.Proofs.YtggjkijgbpnhiaaW.PrintWords Go.Proofs.YtggjkijgbpnhiaaW.PrintLast Go.Proofs.YtggjkijgbpnhiaaW.PrintMore
set_option linter.unusedVariables false
set_option linter.unusedSimpArgs false

theorem graftageref01_Take_l0 (s : ByteArray) (hs : s.size ≤ 9223372036854775000) (a : Int) (ha : 0 ≤ a) (r : Nat) : ∀ (k : Nat) (p acc i : Int), r ≤ 10 → 2 * r + 1 ≤ k → i = 10 - r → p = a + i → p ≤ s.size → 0 ≤ acc → acc < 128 ^ (10 - r) →
    graftageref01_Take.l0 k s a acc i = some (tkG s r p acc) := by
  induction r with
  | zero =>
    intro k p acc i _ hk hi hp hps h0 h1
    obtain ⟨k, rfl⟩ : ∃ m, k = m + 1 := ⟨k - 1, by omega⟩
    simp only [graftageref01_Take.l0]
    rw [if_neg (by omega)]
    rfl
  | succ r ih =>
    intro k p acc i hr hk hi hp hps h0 h1
    obtain ⟨k, rfl⟩ : ∃ m, k = m + 1 + 1 := ⟨k - 2, by omega⟩
    have hw : wrap64 (a + i) = p := by rw [← hp]; exact wrap64_id (by omega) (by omega)
    have hb := bt_range s p
    simp only [graftageref01_Take.l0]
    rw [if_pos (by omega), hw]
    by_cases e1 : p = (s.size : Int)
    · rw [if_pos (by omega), tkG, if_pos e1]
    rw [if_neg (by omega), if_pos (by omega), if_pos (by omega)]
    have hj : (if i = 9 then (if bt s p > 1 then (graftageref01_Take.j2 (k + 1) s a acc i (bt s p) true) else (if i > 0 then (graftageref01_Take.j2 (k + 1) s a acc i (bt s p) (bt s p == 0)) else (graftageref01_Take.j2 (k + 1) s a acc i (bt s p) false))) else (if i > 0 then (graftageref01_Take.j2 (k + 1) s a acc i (bt s p) (bt s p == 0)) else (graftageref01_Take.j2 (k + 1) s a acc i (bt s p) false)))
        = graftageref01_Take.j2 (k + 1) s a acc i (bt s p) (decide ((r = 0 ∧ bt s p > 1) ∨ (r < 9 ∧ bt s p = 0))) := by
      by_cases c1 : i = 9
      · rw [if_pos c1]
        by_cases c2 : bt s p > 1
        · rw [if_pos c2, decide_eq_true (Or.inl ⟨by omega, c2⟩)]
        · rw [if_neg c2, if_pos (by omega)]
          congr 1
          rw [Bool.eq_iff_iff, beq_iff_eq, decide_eq_true_iff]
          omega
      · rw [if_neg c1]
        by_cases c2 : i > 0
        · rw [if_pos c2]
          congr 1
          rw [Bool.eq_iff_iff, beq_iff_eq, decide_eq_true_iff]
          omega
        · rw [if_neg c2, decide_eq_false (by omega)]
    rw [hj, tkG, if_neg e1]
    simp only [graftageref01_Take.j2]
    by_cases c3 : (r = 0 ∧ bt s p > 1) ∨ (r < 9 ∧ bt s p = 0)
    · rw [if_pos (decide_eq_true c3), if_pos c3]
    rw [if_neg (by simpa using c3), if_neg c3, show Int.tmod (bt s p) 128 = bt s p % 128 from Int.tmod_eq_emod_of_nonneg hb.1]
    have hii : i = ((9 - r : Nat) : Int) := by omega
    have e9 : 10 - (r + 1) = 9 - r := by omega
    rw [e9] at h1
    have hor := add_step (9 - r) (by omega) (bt s p % 128) acc (by omega) (by omega) (fun _ => by omega) h0 h1
    have hsm := step_small (9 - r) (by omega) (bt s p % 128) acc (by omega) (by omega) (fun _ => by omega) h0 h1
    rw [if_pos (by rw [wrap64_id (by omega) (by omega)]; omega)]
    by_cases c4 : bt s p < 128
    · rw [if_pos c4, if_pos c4, hw, hii, hor, wrap64_id (by omega) (by omega), show bt s p % 128 = bt s p by omega]
    · rw [if_neg c4, if_neg c4, wrap64_id (n := i + 1) (by omega) (by omega)]
      conv => lhs; rw [show wrap64 (7 * i) = wrap64 (7 * ((9 - r : Nat) : Int)) by rw [hii]]
      rw [hor]
      exact ih k (p + 1) _ (i + 1) (by omega) (by omega) (by omega) (by omega) (by omega) (by omega) (by have := hsm.2.2; rw [show 9 - r + 1 = 10 - r by omega] at this; exact this)

theorem graftageref01_Take_eq (s : ByteArray) (hs : s.size ≤ 9223372036854775000) (a : Int) (k : Nat) (hk : 24 ≤ k) : graftageref01_Take.f k s a = some (takeS s a) := by
  obtain ⟨k, rfl⟩ : ∃ m, k = m + 1 := ⟨k - 1, by omega⟩
  unfold graftageref01_Take.f takeS
  by_cases h : a < 0
  · rw [if_pos h, if_pos (Or.inl h)]
    rfl
  rw [if_neg h]
  by_cases h' : a > (s.size : Int)
  · rw [if_pos (Or.inr h'), decide_eq_true h']
    rfl
  rw [if_neg (by omega), decide_eq_false h']
  simp only [graftageref01_Take.j0]
  rw [if_neg (by decide)]
  exact graftageref01_Take_l0 s hs a (by omega) 10 k a 0 0 (by omega) (by omega) (by omega) (by omega) (by omega) (by omega) (by decide)


end Go.Proofs.Ytggjkijgbpnhiaa.PDl
