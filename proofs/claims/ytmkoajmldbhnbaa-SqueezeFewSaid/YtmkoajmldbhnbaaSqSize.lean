/- How many bytes Compress makes at most. No program in sight. -/
import Derived.Test.YtmkoajmldbhnbaaSqScan
namespace Go.Proofs.Ytmkoajmldbhnbaa.Hand
open Go.RowKit Go.Proofs.YtmkoajmldbhnbaaW.PrintWords Go.Proofs.YtmkoajmldbhnbaaW.PrintLast Go.Proofs.YtmkoajmldbhnbaaW.PrintMore
set_option linter.unusedVariables false
set_option linter.unusedSimpArgs false

theorem vb_one (n : Int) (h : n < 128) : (vb 9 n).length = 1 := by rw [vb_small _ _ h]; rfl
theorem vb_two (n : Int) (h : n < 16384) : (vb 9 n).length ≤ 2 := by
  by_cases c : n < 128
  · rw [vb_one n c]; omega
  · rw [vb_big 8 n (by omega), vb_small 8 _ (by omega)]; simp
theorem put_one (b : ByteArray) (n : Int) (h0 : 0 ≤ n) (h : n < 128) : (octet_Put.g b n).size = b.size + 1 := by rw [put_size b n h0 (by omega), vb_one n h]
theorem put_two (b : ByteArray) (n : Int) (h0 : 0 ≤ n) (h : n < 16384) : (octet_Put.g b n).size ≤ b.size + 2 := by rw [put_size b n h0 (by omega)]; have := vb_two n h; omega
theorem flush_cost (s b : ByteArray) (f t : Nat) (hf : f ≤ t) (ht : t ≤ s.size) (hl : t - f ≤ 1024) : (flushS s b f t).size ≤ b.size + (t - f) + 2 ∧ (t - f < 64 → (flushS s b f t).size ≤ b.size + (t - f) + 1) ∧ (f = t → flushS s b f t = b) := by
  unfold flushS
  by_cases c : f < t
  · rw [if_pos c]
    have h2 := put_two b (2 * ((t : Int) - f)) (by omega) (by omega)
    have hz : (s.extract f t).size = t - f := by rw [ByteArray.size_extract]; omega
    refine ⟨by rw [size_appS, hz]; omega, fun h => ?_, fun h => absurd h (by omega)⟩
    rw [size_appS, hz, put_one b _ (by omega) (by omega)]; omega
  · rw [if_neg c]
    exact ⟨by omega, fun _ => by omega, fun _ => rfl⟩
theorem match_cost (b : ByteArray) (n k : Int) (h4 : 4 ≤ n) (h1 : n ≤ 258) (k0 : 0 ≤ k) (k1 : k ≤ 4096) : (octet_Put.g (octet_Put.g b (2 * n + 1)) k).size ≤ b.size + 4 ∧ (n < 64 → (octet_Put.g (octet_Put.g b (2 * n + 1)) k).size ≤ b.size + 3) := by
  have h2 := put_two (octet_Put.g b (2 * n + 1)) k k0 (by omega)
  have h3 := put_two b (2 * n + 1) (by omega) (by omega)
  refine ⟨by omega, fun h => ?_⟩
  have h5 := put_one b (2 * n + 1) (by omega) (by omega)
  omega
theorem comp_size (s : ByteArray) (d : Nat) : ∀ (t f : Nat) (b : ByteArray), f ≤ t → t ≤ s.size → t - f ≤ 1023 → s.size ≤ t + d → 64 * b.size ≤ 128 + 65 * f → 64 * (compQ s d t f b).size ≤ 256 + 65 * s.size := by
  have fin : ∀ (f : Nat) (b : ByteArray), f ≤ s.size → s.size - f ≤ 1023 → 64 * b.size ≤ 128 + 65 * f → 64 * (flushS s b f s.size).size ≤ 256 + 65 * s.size := by
    intro f b hf hl hb
    obtain ⟨h1, h2, h3⟩ := flush_cost s b f s.size hf (Nat.le_refl _) (by omega)
    omega
  induction d with
  | zero =>
    intro t f b hf ht hl hd hb
    obtain rfl : t = s.size := by omega
    exact fin f b hf hl hb
  | succ d ih =>
    intro t f b hf ht hl hd hb
    rw [compQ]
    by_cases c : t < s.size
    rotate_left
    · rw [if_neg c]
      obtain rfl : t = s.size := by omega
      exact fin f b hf hl hb
    rw [if_pos c]
    obtain ⟨r1, r2, r3, r4, r5⟩ := bestS_range s t ht
    generalize hn : (bestS s t).1 = n at *
    generalize hk2 : (bestS s t).2 = bk at *
    by_cases c1 : n < 4
    · rw [if_pos c1]
      by_cases c2 : (t : Int) + 1 - f = 1024
      · rw [if_pos c2]
        have := flush_cost s b f (t + 1) (by omega) (by omega) (by omega)
        exact ih (t + 1) (t + 1) _ (by omega) (by omega) (by omega) (by omega) (by omega)
      · rw [if_neg c2]
        exact ih (t + 1) f b (by omega) (by omega) (by omega) (by omega) hb
    · rw [if_neg c1]
      obtain ⟨h1, h2, h3⟩ := flush_cost s b f t hf ht (by omega)
      obtain ⟨h4, h5⟩ := match_cost (flushS s b f t) n bk (by omega) r2 r4 r5
      refine ih _ _ _ (Nat.le_refl _) (by omega) (by omega) (by omega) ?_
      by_cases e : f = t
      · have h6 := congrArg ByteArray.size (h3 e)
        by_cases c3 : n < 64
        · have := h5 c3; omega
        · omega
      · by_cases c3 : n < 64
        · have := h5 c3
          by_cases c4 : t - f < 64
          · have := h2 c4; omega
          · omega
        · by_cases c4 : t - f < 64
          · have := h2 c4; omega
          · omega
theorem compS_size (s : ByteArray) (hs : s.size ≤ 16000) : 64 * (compS s).size ≤ 256 + 65 * s.size := by
  unfold compS
  have h := put_two ⟨#[]⟩ (s.size : Int) (by omega) (by omega)
  have e0 : (⟨#[]⟩ : ByteArray).size = 0 := rfl
  exact comp_size s s.size 0 0 _ (by omega) (by omega) (by omega) (by omega) (by omega)
end Go.Proofs.Ytmkoajmldbhnbaa.Hand
