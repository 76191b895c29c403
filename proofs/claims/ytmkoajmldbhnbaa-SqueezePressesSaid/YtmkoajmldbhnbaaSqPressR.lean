/- The reference's Press, as the printed function has it: the plain compS. -/
import Derived.Test.YtmkoajmldbhnbaaPutR
import Derived.Test.YtmkoajmldbhnbaaSqScan
import Derived.Test.YtmkoajmldbhnbaaPSqx4
namespace Go.Proofs.Ytmkoajmldbhnbaa.PSq
open Go.Proofs.Ytmkoajmldbhnbaa.Hand
open Go.RowKit Go.Proofs.YtmkoajmldbhnbaaW.PrintWords Go.Proofs.YtmkoajmldbhnbaaW.PrintLast Go.Proofs.YtmkoajmldbhnbaaW.PrintMore
set_option linter.unusedVariables false
set_option linter.unusedSimpArgs false

theorem again_l1 (s : ByteArray) (hs : s.size ≤ 1000000) (t : Nat) (ht : t ≤ s.size) (d : Nat) (hd1 : 1 ≤ d) (hd : d ≤ t) (n b q : Int) (R : Int × Int) (K : Nat)
    (hnext : ∀ k', K ≤ k' → graftageref03_again.l0 k' s t (if 4 ≤ q ∧ n < q then q else n) (if 4 ≤ q ∧ n < q then (d : Int) else b) ((d : Int) + 1) = some R) (r : Nat) :
    ∀ (k : Nat) (m : Int), m + r = 258 → 0 ≤ m → K + r + 1 ≤ k → runG s ((t : Int) - d) t r m = q → graftageref03_again.l1 k s t n b d m = some R := by
  have fin : ∀ (k : Nat) (m : Int), m = q → K ≤ k → (if m ≥ 4 then (if m > n then (graftageref03_again.l0 k s t m d (wrap64 ((d : Int) + 1))) else (graftageref03_again.l0 k s t n b (wrap64 ((d : Int) + 1)))) else (graftageref03_again.l0 k s t n b (wrap64 ((d : Int) + 1)))) = some R := by
    intro k m hm hk
    subst hm
    have h := hnext k hk
    rw [wrap64_id (by omega) (by omega)]
    by_cases c1 : 4 ≤ m
    · rw [if_pos (by omega)]
      by_cases c2 : n < m
      · rw [if_pos (by omega)]
        rw [if_pos ⟨c1, c2⟩, if_pos ⟨c1, c2⟩] at h
        exact h
      · rw [if_neg (by omega)]
        rw [if_neg (fun h => c2 h.2), if_neg (fun h => c2 h.2)] at h
        exact h
    · rw [if_neg (by omega)]
      rw [if_neg (fun h => c1 h.1), if_neg (fun h => c1 h.1)] at h
      exact h
  induction r with
  | zero =>
    intro k m hm h0 hk hq
    obtain ⟨k, rfl⟩ : ∃ m, k = m + 1 := ⟨k - 1, by omega⟩
    rw [graftageref03_again.l1, if_neg (by omega)]
    exact fin k m hq (by omega)
  | succ r ih =>
    intro k m hm h0 hk hq
    obtain ⟨k, rfl⟩ : ∃ m, k = m + 1 := ⟨k - 1, by omega⟩
    rw [graftageref03_again.l1, if_pos (by omega), wrap64_id (n := (t : Int) + m) (by omega) (by omega), wrap64_id (n := (t : Int) + m - d) (by omega) (by omega), wrap64_id (n := m + 1) (by omega) (by omega)]
    rw [runG] at hq
    by_cases c1 : (t : Int) + m < s.size
    · rw [if_pos c1, if_pos (by omega), if_pos (by omega), if_pos (by omega)]
      rw [show (t : Int) + m - d = (t : Int) - d + m by omega]
      by_cases c2 : bt s ((t : Int) - d + m) = bt s ((t : Int) + m)
      · rw [if_pos ⟨c1, c2⟩] at hq
        rw [if_pos c2.symm]
        exact ih k (m + 1) (by omega) (by omega) (by omega) hq
      · rw [if_neg (fun h => c2 h.2)] at hq
        rw [if_neg (fun h => c2 h.symm)]
        exact fin k m hq (by omega)
    · rw [if_neg (fun h => c1 h.1)] at hq
      rw [if_neg c1]
      exact fin k m hq (by omega)
theorem again_l0 (s : ByteArray) (hs : s.size ≤ 1000000) (t : Nat) (ht : t ≤ s.size) (i : Nat) : ∀ (k : Nat) (n b : Int), i ≤ t → 262 * i + 5 ≤ k →
    graftageref03_again.l0 k s t n b ((t : Int) - i + 1) = some (scanQ s t i n b) := by
  induction i with
  | zero =>
    intro k n b _ hk
    obtain ⟨k, rfl⟩ : ∃ m, k = m + 1 + 1 := ⟨k - 2, by omega⟩
    rw [graftageref03_again.l0]
    split
    · rw [decide_eq_false (by omega), graftageref03_again.j1, if_neg (by decide)]; rfl
    · rw [graftageref03_again.j1, if_neg (by decide)]; rfl
  | succ i ih =>
    intro k n b hi hk
    obtain ⟨k, rfl⟩ : ∃ m, k = m + 1 + 1 := ⟨k - 2, by omega⟩
    have e : (t : Int) - ((i + 1 : Nat) : Int) + 1 = ((t - i : Nat) : Int) := by omega
    rw [e, graftageref03_again.l0, scanQ]
    by_cases c : (t : Int) - i ≤ 4096
    · rw [if_pos (by omega), if_pos c, decide_eq_true (by omega), graftageref03_again.j1, if_pos rfl]
      refine again_l1 s hs t ht (t - i) (by omega) (by omega) n b (Hand.runN s i t) _ (262 * i + 5) (fun k' hk' => ?_) 258 k 0 (by omega) (by omega) (by omega) (by unfold Hand.runN; rw [show (t : Int) - ((t - i : Nat) : Int) = i by omega])
      have h := fun n b => ih k' n b (by omega) hk'
      rw [show ((t - i : Nat) : Int) + 1 = (t : Int) - i + 1 by omega, h]
      split
      · rw [show ((t - i : Nat) : Int) = (t : Int) - i by omega]
      · rfl
    · rw [if_neg (by omega), if_neg c, graftageref03_again.j1, if_neg (by decide)]
theorem again_eq (s : ByteArray) (hs : s.size ≤ 1000000) (t : Nat) (ht : t ≤ s.size) (k : Nat) (hk : 262 * s.size + 5 ≤ k) : graftageref03_again.f k s t = some (bestS s t) := by
  unfold graftageref03_again.f
  rw [bestS_scan]
  have h := again_l0 s hs t ht t k 0 0 (Nat.le_refl _) (by omega)
  rw [show (t : Int) - t + 1 = 1 by omega] at h
  exact h
theorem plain_eq (s b : ByteArray) (f t : Nat) (hf : f ≤ t) (ht : t ≤ s.size) (hs : s.size ≤ 1000000) (hb : b.size ≤ 1000000000) (k : Nat) (hk : 10 ≤ k) : graftageref03_plain.f k b (s.extract f t) = some (flushS s b f t) := by
  have hz : (s.extract f t).size = t - f := by rw [ByteArray.size_extract]; omega
  unfold graftageref03_plain.f flushS
  by_cases c : f < t
  · rw [if_neg, if_pos c, hz]
    rotate_left
    · intro h
      rw [toList_bytes] at h
      have := congrArg List.length h
      simp at this
      omega
    rw [wrap64_id (by omega) (by omega), wrap_u64_id (by omega) (by omega), ref_Put_eq k hk b _ (by omega) (by omega) (by omega), Option.bind_some]
    have := putG_size b (2 * ((t - f : Nat) : Int))
    rw [if_pos (by omega), show ((t - f : Nat) : Int) = (t : Int) - f by omega]
  · rw [if_pos, if_neg c]
    rw [toList_bytes]
    have h0 : (s.extract f t).data.size = 0 := by show (s.extract f t).size = 0; omega
    have := Array.eq_empty_of_size_eq_zero h0
    rw [this]
theorem press_l0 (s : ByteArray) (hs : s.size ≤ 1000000) (d : Nat) : ∀ (k : Nat) (b : ByteArray) (f t : Nat), f ≤ t → t ≤ s.size → s.size ≤ t + d → b.size + (t - f) ≤ 10 + 41 * t → 262 * s.size + 20 + d ≤ k →
    graftageref03_Press.l0 k s b f t = some (compQ s d t f b) := by
  induction d with
  | zero =>
    intro k b f t hf ht hd hb hk
    obtain ⟨k, rfl⟩ : ∃ m, k = m + 1 := ⟨k - 1, by omega⟩
    rw [graftageref03_Press.l0, if_neg (by omega), if_pos (by omega), if_pos (by omega), Int.toNat_natCast, plain_eq s b f s.size (by omega) (by omega) hs (by omega) k (by omega)]
    rfl
  | succ d ih =>
    intro k b f t hf ht hd hb hk
    obtain ⟨k, rfl⟩ : ∃ m, k = m + 1 := ⟨k - 1, by omega⟩
    rw [graftageref03_Press.l0, compQ]
    by_cases c : t < s.size
    rotate_left
    · rw [if_neg (by omega), if_neg c, if_pos (by omega), if_pos (by omega), Int.toNat_natCast, plain_eq s b f s.size (by omega) (by omega) hs (by omega) k (by omega)]
      rfl
    rw [if_pos (by omega), if_pos c, again_eq s hs t ht k (by omega), Option.bind_some]
    have h4 : (bestS s t).1 = 0 ∨ 4 ≤ (bestS s t).1 := by rw [bestS_scan]; exact scan_four s t t 0 0 (Or.inl rfl)
    obtain ⟨r1, r2, r3, r4, r5⟩ := bestS_range s t ht
    generalize hn : (bestS s t).1 = n at *
    generalize hk2 : (bestS s t).2 = bk at *
    have hfl := flushS_size s b f t hf
    have hfl1 := flushS_size s b f (t + 1) (by omega)
    by_cases c1 : n < 4
    · obtain rfl : n = 0 := by omega
      rw [if_neg (show ¬ (0 : Int) > 0 by omega), if_pos (show (0 : Int) < 4 by omega), wrap64_id (n := (t : Int) + 1) (by omega) (by omega), wrap64_id (n := (t : Int) + 1 - f) (by omega) (by omega)]
      have e1 : (t : Int) + 1 = ((t + 1 : Nat) : Int) := by simp
      by_cases c2 : (t : Int) + 1 - f = 1024
      · rw [if_pos c2, if_pos c2, if_pos (by omega), if_pos (by omega), if_pos (by omega), e1, Int.toNat_natCast, Int.toNat_natCast, plain_eq s b f (t + 1) (by omega) (by omega) hs (by omega) k (by omega), Option.bind_some]
        exact ih k _ (t + 1) (t + 1) (by omega) (by omega) (by omega) (by omega) (by omega)
      · rw [if_neg c2, if_neg c2, e1]
        exact ih k b f (t + 1) (by omega) (by omega) (by omega) (by omega) (by omega)
    · rw [if_pos (by omega), if_neg c1, if_pos (by omega), if_pos (by omega), if_pos (by omega), Int.toNat_natCast, Int.toNat_natCast, plain_eq s b f t hf (by omega) hs (by omega) k (by omega), Option.bind_some]
      have hp1 := putG_size (flushS s b f t) (2 * n + 1)
      have hp2 := putG_size (octet_Put.g (flushS s b f t) (2 * n + 1)) bk
      rw [wrap64_id (n := 2 * n) (by omega) (by omega), wrap64_id (n := 2 * n + 1) (by omega) (by omega), wrap_u64_id (n := 2 * n + 1) (by omega) (by omega), ref_Put_eq k (by omega) _ _ (by omega) (by omega) (by omega), Option.bind_some]
      rw [wrap_u64_id (n := bk) (by omega) (by omega), ref_Put_eq k (by omega) _ _ (by omega) (by omega) (by omega), Option.bind_some, wrap64_id (n := (t : Int) + n) (by omega) (by omega)]
      rw [show (t : Int) + n = ((t + n.toNat : Nat) : Int) by omega]
      exact ih k _ _ _ (by omega) (by omega) (by omega) (by omega) (by omega)
theorem Press_eq (s : ByteArray) (hs : s.size ≤ 1000000) (k : Nat) (hk : 263 * s.size + 20 ≤ k) : graftageref03_Press.f k s = some (compS s) := by
  unfold graftageref03_Press.f
  have hp := putG_size ⟨#[]⟩ s.size
  have e0 : (⟨#[]⟩ : ByteArray).size = 0 := rfl
  rw [wrap_u64_id (by omega) (by omega), ref_Put_eq k (by omega) _ _ (by omega) (by omega) (by omega), Option.bind_some]
  exact press_l0 s hs s.size k _ 0 0 (by omega) (by omega) (by omega) (by omega) (by omega)
end Go.Proofs.Ytmkoajmldbhnbaa.PSq
