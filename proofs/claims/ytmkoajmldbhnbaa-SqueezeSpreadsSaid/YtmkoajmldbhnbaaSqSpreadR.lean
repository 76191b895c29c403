/- The reference's Spread, as the printed function has it: the plain decS. -/
import Derived.Test.YtmkoajmldbhnbaaTakeR
import Derived.Test.YtmkoajmldbhnbaaSqDecF
import Derived.Test.YtmkoajmldbhnbaaPSqx5
namespace Go.Proofs.Ytmkoajmldbhnbaa.PSq
open Go.Proofs.Ytmkoajmldbhnbaa.Hand
open Go.RowKit Go.Proofs.YtmkoajmldbhnbaaW.PrintWords Go.Proofs.YtmkoajmldbhnbaaW.PrintLast Go.Proofs.YtmkoajmldbhnbaaW.PrintMore
set_option linter.unusedVariables false
set_option linter.unusedSimpArgs false

theorem spread_copy (s : ByteArray) (total p : Int) (out : List Int) (b n : Nat) (hb0 : 1 ≤ b) (hb : b ≤ out.length) (ho : out.length + n ≤ 1000000) (d : Nat) : ∀ (k j : Nat), j + d = n →
    graftageref03_Spread.l1 (k + d + 1) s total p (copyN out b j) n b j = graftageref03_Spread.l0 k s total p (copyN out b n) := by
  induction d with
  | zero =>
    intro k j hj
    obtain rfl : j = n := by omega
    simp only [graftageref03_Spread.l1, Nat.add_zero]
    rw [wrap64_id (by omega) (by omega), if_neg (by omega)]
  | succ d ih =>
    intro k j hj
    have hl := copyN_length out b j
    have e : k + (d + 1) + 1 = (k + d + 1) + 1 := by omega
    rw [e]
    rw [graftageref03_Spread.l1, wrap64_id (n := (n : Int)) (by omega) (by omega), wrap64_id (n := (b : Int)) (by omega) (by omega), wrap64_id (n := (j : Int) + 1) (by omega) (by omega), if_pos (by omega)]
    rw [wrap64_id (n := ((copyN out b j).length : Int) - b) (by omega) (by omega), if_pos (by omega), if_pos (by omega), if_pos (by omega)]
    have e2 : copyN out b j ++ [rd (copyN out b j) (((copyN out b j).length : Int) - b)] = copyN out b (j + 1) := by
      rw [copyN]
      congr 2
      unfold rd
      congr 1
      omega
    have e3 : (j : Int) + 1 = ((j + 1 : Nat) : Int) := by simp
    rw [e2, e3]
    exact ih k (j + 1) (by omega)

theorem spread_l0 (s : ByteArray) (hs : s.size ≤ 1000000) (total : Int) (ht0 : 0 ≤ total) (ht1 : total ≤ 500000) (d : Nat) : ∀ (k : Nat) (p : Int) (out : List Int), 0 ≤ p → p ≤ s.size → (out.length : Int) ≤ total → total.toNat - out.length < d → 5 * (total.toNat - out.length) + 40 ≤ k →
    graftageref03_Spread.l0 k s total p out = some (spreadQ (takeS s) s total d p out) := by
  induction d with
  | zero => intro k p out _ _ _ h; omega
  | succ d ih =>
    intro k p out hp0 hp1 hout hd hk
    obtain ⟨k, rfl⟩ : ∃ m, k = m + 1 + 1 + 1 := ⟨k - 3, by omega⟩
    simp only [graftageref03_Spread.l0]
    have hT := takeS_okD s
    rw [wrap_u64_id (n := (out.length : Int)) (by omega) (by omega), spreadQ]
    by_cases c0 : (out.length : Int) < total
    rotate_left
    · rw [if_neg c0, if_neg c0]
      by_cases c : p < (s.size : Int)
      · rw [if_pos c, if_pos c]
      · rw [if_neg c, if_neg c]
    rw [if_pos c0, if_pos c0, graftageref01_Take_eq s (by omega) p _ (by omega), Option.bind_some, pieceT]
    by_cases c1 : (takeS s p).2.2 = 0
    rotate_left
    · rw [if_neg c1, if_neg c1, if_neg c1]
    obtain ⟨a1, a2, a3, a4⟩ := hT p hp0 c1
    generalize hx : (takeS s p).1 = x at *
    generalize hq : (takeS s p).2.1 = q at *
    rw [if_pos c1, if_pos c1, Int.tdiv_eq_ediv_of_nonneg a3, Int.tmod_eq_emod_of_nonneg a3, wrap_u64_id (n := x / 2) (by omega) (by omega), wrap_u64_id (n := total - out.length) (by omega) (by omega)]
    have hj : (if x / 2 = 0 then graftageref03_Spread.j2 (k + 1 + 1) s total q out x (x / 2) true else if x % 2 = 1 then (if x / 2 < 4 then graftageref03_Spread.j2 (k + 1 + 1) s total q out x (x / 2) true else graftageref03_Spread.j2 (k + 1 + 1) s total q out x (x / 2) (decide (x / 2 > total - out.length))) else graftageref03_Spread.j2 (k + 1 + 1) s total q out x (x / 2) (decide (x / 2 > total - out.length)))
        = graftageref03_Spread.j2 (k + 1 + 1) s total q out x (x / 2) (decide (x / 2 < 1 ∨ (x % 2 = 1 ∧ x / 2 < 4) ∨ x / 2 > total - out.length)) := by
      by_cases g1 : x / 2 = 0
      · rw [if_pos g1, decide_eq_true (Or.inl (by omega))]
      rw [if_neg g1]
      by_cases g2 : x % 2 = 1
      · rw [if_pos g2]
        by_cases g3 : x / 2 < 4
        · rw [if_pos g3, decide_eq_true (Or.inr (Or.inl ⟨g2, g3⟩))]
        · rw [if_neg g3]
          congr 1
          rw [Bool.eq_iff_iff, decide_eq_true_iff, decide_eq_true_iff]
          omega
      · rw [if_neg g2]
        congr 1
        rw [Bool.eq_iff_iff, decide_eq_true_iff, decide_eq_true_iff]
        omega
    rw [hj]
    simp only [graftageref03_Spread.j2]
    by_cases c2 : x / 2 < 1 ∨ (x % 2 = 1 ∧ x / 2 < 4) ∨ x / 2 > total - out.length
    · rw [if_pos (decide_eq_true c2), if_pos c2, if_neg (by simp)]
    rw [if_neg (by simpa using c2), if_neg c2, Int.tmod_eq_emod_of_nonneg a3]
    have hn1 : 1 ≤ x / 2 := by omega
    have hn2 : x / 2 ≤ total - out.length := by omega
    obtain ⟨n, hn⟩ : ∃ n : Nat, x / 2 = n := Int.eq_ofNat_of_zero_le (by omega)
    by_cases c3 : x % 2 = 1
    · rw [if_pos c3, if_neg (by omega), graftageref01_Take_eq s (by omega) q _ (by omega), Option.bind_some]
      by_cases c4 : (takeS s q).2.2 = 0
      rotate_left
      · rw [if_neg c4, if_neg c4, if_neg c4]
      obtain ⟨b1, b2, b3, b4⟩ := hT q (by omega) c4
      generalize hx2 : (takeS s q).1 = y at *
      generalize hq2 : (takeS s q).2.1 = z at *
      rw [if_pos c4, if_pos c4]
      have hj3 : (if y = 0 then graftageref03_Spread.j3 (k + 1) s total z out (x / 2) y true else graftageref03_Spread.j3 (k + 1) s total z out (x / 2) y (decide (y > IntKind.u64.wrap (out.length : Int))))
          = graftageref03_Spread.j3 (k + 1) s total z out (x / 2) y (decide (y < 1 ∨ y > out.length)) := by
        rw [wrap_u64_id (n := (out.length : Int)) (by omega) (by omega)]
        by_cases g1 : y = 0
        · rw [if_pos g1, decide_eq_true (Or.inl (by omega))]
        · rw [if_neg g1]
          congr 1
          rw [Bool.eq_iff_iff, decide_eq_true_iff, decide_eq_true_iff]
          omega
      rw [hj3]
      simp only [graftageref03_Spread.j3]
      by_cases c5 : y < 1 ∨ y > out.length
      · rw [if_pos (decide_eq_true c5), if_pos c5, if_neg (by simp)]
      rw [if_neg (by simpa using c5), if_neg c5, if_pos rfl]
      obtain ⟨b, hb⟩ : ∃ b : Nat, y = b := Int.eq_ofNat_of_zero_le b3
      rw [hn, hb, Int.toNat_natCast, Int.toNat_natCast]
      have hc := spread_copy s total z out b n (by omega) (by omega) (by omega) n (k - n - 1) 0 (by omega)
      rw [show k - n - 1 + n + 1 = k by omega] at hc
      have hc' : graftageref03_Spread.l1 k s total z out n b 0 = graftageref03_Spread.l0 (k - n - 1) s total z (copyN out b n) := hc
      have hl := copyN_length out b n
      rw [hc']
      exact ih _ z _ (by omega) (by omega) (by omega) (by omega) (by omega)
    · rw [if_neg c3, if_pos (by omega), wrap64_id (n := (s.size : Int) - q) (by omega) (by omega), wrap_u64_id (n := (s.size : Int) - q) (by omega) (by omega)]
      by_cases c4 : (s.size : Int) - q < x / 2
      · rw [if_pos (by omega), if_pos c4, if_neg (by simp)]
      rw [if_neg (by omega), if_neg c4, if_pos rfl, if_pos (by omega), wrap64_id (n := x / 2) (by omega) (by omega), wrap64_id (n := q + x / 2) (by omega) (by omega), if_pos (by omega), if_pos (by omega)]
      have hsz : (s.extract q.toNat (q + x / 2).toNat).size = n := by rw [ByteArray.size_extract]; omega
      rw [if_pos (by omega)]
      have hl : (out ++ bytesOf (s.extract q.toNat (q + x / 2).toNat)).length = out.length + n := by rw [List.length_append, bytesOf_length, hsz]
      exact ih _ _ _ (by omega) (by omega) (by omega) (by omega) (by omega)

theorem graftageref03_Spread_eq (s : ByteArray) (hs : s.size ≤ 1000000) (most : Int) (hm : most ≤ 500000) (k : Nat) (hk : 5 * most.toNat + 50 ≤ k) : graftageref03_Spread.f k s most = some (decS (takeS s) s most) := by
  obtain ⟨k, rfl⟩ : ∃ m, k = m + 1 := ⟨k - 1, by omega⟩
  unfold graftageref03_Spread.f decS
  rw [graftageref01_Take_eq s (by omega) 0 _ (by omega), Option.bind_some]
  by_cases c1 : (takeS s 0).2.2 = 0
  rotate_left
  · rw [if_neg c1, if_neg c1]
  obtain ⟨a1, a2, a3, a4⟩ := takeS_okD s 0 (by omega) c1
  rw [if_pos c1, if_pos c1]
  by_cases c2 : most < 0
  · rw [if_pos c2, if_pos (Or.inl c2)]
    rfl
  rw [if_neg c2, wrap_u64_id (n := most) (by omega) (by omega)]
  simp only [graftageref03_Spread.j0]
  by_cases c3 : (takeS s 0).1 > most
  · rw [if_pos (decide_eq_true c3), if_pos (Or.inr c3)]
  rw [if_neg (by simpa using c3), if_neg (by omega)]
  exact spread_l0 s hs _ a3 (by omega) _ _ _ _ (by omega) a2 (by simp; omega) (by simp) (by simp; omega)
end Go.Proofs.Ytmkoajmldbhnbaa.PSq
