/- How few bytes Compress makes of a string that repeats itself. No program in sight. -/
import Derived.Test.YtmkoajmldbhnbaaSqSize
namespace Go.Proofs.Ytmkoajmldbhnbaa.Hand
open Go.RowKit Go.Proofs.YtmkoajmldbhnbaaW.PrintWords Go.Proofs.YtmkoajmldbhnbaaW.PrintLast Go.Proofs.YtmkoajmldbhnbaaW.PrintMore
set_option linter.unusedVariables false
set_option linter.unusedSimpArgs false

theorem runG_long (s : ByteArray) (a b : Int) (r : Nat) : ∀ n : Int, 0 ≤ n → (∀ j : Int, n ≤ j → b + j < s.size → bt s (a + j) = bt s (b + j)) → n + r ≤ runG s a b r n ∨ (s.size : Int) - b ≤ runG s a b r n := by
  induction r with
  | zero => intro n h0 h; exact Or.inl (by simp [runG])
  | succ r ih =>
    intro n h0 h
    rw [runG]
    by_cases c : b + n < (s.size : Int)
    · rw [if_pos ⟨c, h n (Int.le_refl _) c⟩]
      rcases ih (n + 1) (by omega) (fun j hj hl => h j (by omega) hl) with h | h
      · left; omega
      · right; exact h
    · rw [if_neg (fun h => c h.1)]; right; omega
def Per (s : ByteArray) (t0 p : Nat) : Prop := 1 ≤ p ∧ p ≤ t0 ∧ p ≤ 4096 ∧ ∀ i : Int, (t0 : Int) ≤ i → i < s.size → bt s (i - p) = bt s i
theorem Per.best {s : ByteArray} {t0 p : Nat} (h : Per s t0 p) (t : Nat) (ht0 : t0 ≤ t) (ht : t + 4 ≤ s.size) : 258 ≤ (bestS s t).1 ∨ (s.size : Int) - t ≤ (bestS s t).1 := by
  obtain ⟨h1, h2, h3, h4⟩ := h
  have hr : 258 ≤ runN s ((t - p : Nat) : Int) t ∨ (s.size : Int) - t ≤ runN s ((t - p : Nat) : Int) t := by
    have := runG_long s ((t - p : Nat) : Int) t 258 0 (by omega) (fun j hj hl => by
      rw [show ((t - p : Nat) : Int) + j = (t : Int) + j - p by omega]
      exact h4 _ (by omega) hl)
    unfold runN
    omega
  have hs := scan_least s t (t - p) (by omega) (by omega) t 0 0 (by omega)
  rw [bestS_scan]
  omega
theorem best_none (s : ByteArray) (t : Nat) (ht : ¬ t + 4 ≤ s.size) : bestS s t = (0, 0) := by unfold bestS; rw [if_neg ht]
theorem few_short (s : ByteArray) (d : Nat) : ∀ (t f : Nat) (b : ByteArray), f ≤ t → t ≤ s.size → ¬ t + 4 ≤ s.size → s.size ≤ t + d → s.size - f < 64 → (compQ s d t f b).size ≤ b.size + (s.size - f) + 1 ∧ (f = s.size → compQ s d t f b = b) := by
  have fin : ∀ (f : Nat) (b : ByteArray), f ≤ s.size → s.size - f < 64 → (flushS s b f s.size).size ≤ b.size + (s.size - f) + 1 ∧ (f = s.size → flushS s b f s.size = b) := by
    intro f b hf h
    obtain ⟨h1, h2, h3⟩ := flush_cost s b f s.size hf (Nat.le_refl _) (by omega)
    exact ⟨h2 h, h3⟩
  induction d with
  | zero => intro t f b hf ht h4 hd hl; exact fin f b (by omega) hl
  | succ d ih =>
    intro t f b hf ht h4 hd hl
    rw [compQ]
    by_cases c : t < s.size
    · rw [if_pos c, best_none s t h4, if_pos (show (0 : Int) < 4 by omega), if_neg (by omega)]
      exact ih (t + 1) f b (by omega) (by omega) (by omega) (by omega) hl
    · rw [if_neg c]; exact fin f b (by omega) hl
theorem few_short2 (s : ByteArray) (d : Nat) : ∀ (t f : Nat) (b : ByteArray), f ≤ t → t ≤ s.size → ¬ t + 4 ≤ s.size → s.size ≤ t + d → t - f ≤ 1023 → (compQ s d t f b).size ≤ b.size + (s.size - f) + 4 := by
  have fin : ∀ (f : Nat) (b : ByteArray), f ≤ s.size → s.size - f ≤ 1023 → (flushS s b f s.size).size ≤ b.size + (s.size - f) + 4 := by
    intro f b hf h
    obtain ⟨h1, h2, h3⟩ := flush_cost s b f s.size hf (Nat.le_refl _) (by omega)
    omega
  induction d with
  | zero => intro t f b hf ht h4 hd hl; exact fin f b (by omega) (by omega)
  | succ d ih =>
    intro t f b hf ht h4 hd hl
    rw [compQ]
    by_cases c : t < s.size
    · rw [if_pos c, best_none s t h4, if_pos (show (0 : Int) < 4 by omega)]
      by_cases c2 : (t : Int) + 1 - f = 1024
      · rw [if_pos c2]
        have h1 := (few_short s d (t + 1) (t + 1) (flushS s b f (t + 1)) (by omega) (by omega) (by omega) (by omega) (by omega)).1
        have h2 := (flush_cost s b f (t + 1) (by omega) (by omega) (by omega)).1
        omega
      · rw [if_neg c2]
        exact ih (t + 1) f b (by omega) (by omega) (by omega) (by omega) (by omega)
    · rw [if_neg c]; exact fin f b (by omega) (by omega)
theorem few_even {s : ByteArray} {t0 p : Nat} (hp : Per s t0 p) (d : Nat) : ∀ (t : Nat) (b : ByteArray), t0 ≤ t → t ≤ s.size → s.size ≤ t + d → (compQ s d t t b).size ≤ b.size + 4 * ((s.size - t + 257) / 258) := by
  induction d with
  | zero =>
    intro t b h0 ht hd
    obtain rfl : t = s.size := by omega
    have := (few_short s 0 s.size s.size b (by omega) (by omega) (by omega) (by omega) (by omega)).2 rfl
    rw [this]; omega
  | succ d ih =>
    intro t b h0 ht hd
    by_cases h4 : t + 4 ≤ s.size
    · have hb := hp.best t h0 h4
      obtain ⟨r1, r2, r3, r4, r5⟩ := bestS_range s t ht
      rw [compQ, if_pos (by omega)]
      generalize hn : (bestS s t).1 = n at *
      generalize hk2 : (bestS s t).2 = bk at *
      rw [if_neg (by omega)]
      have h3 := (flush_cost s b t t (Nat.le_refl _) ht (by omega)).2.2 rfl
      rw [h3]
      have hm := (match_cost b n bk (by omega) r2 r4 r5).1
      have := ih (t + n.toNat) (octet_Put.g (octet_Put.g b (2 * n + 1)) bk) (by omega) (by omega) (by omega)
      omega
    · have := few_short s (d + 1) t t b (by omega) ht h4 hd (by omega)
      by_cases e : t = s.size
      · rw [this.2 e]; omega
      · omega
theorem few_any2 {s : ByteArray} {t0 p : Nat} (hp : Per s t0 p) (d : Nat) : ∀ (t f : Nat) (b : ByteArray), f ≤ t → t0 ≤ t → t ≤ s.size → s.size ≤ t + d → t - f ≤ 1023 → (compQ s d t f b).size ≤ b.size + (t - f) + 7 + 4 * ((s.size - t + 257) / 258) := by
  intro t f b hf h0 ht hd hl
  by_cases h4 : t + 4 ≤ s.size
  · obtain ⟨d, rfl⟩ : ∃ m, d = m + 1 := ⟨d - 1, by omega⟩
    have hb := hp.best t h0 h4
    obtain ⟨r1, r2, r3, r4, r5⟩ := bestS_range s t ht
    rw [compQ, if_pos (by omega)]
    generalize hn : (bestS s t).1 = n at *
    generalize hk2 : (bestS s t).2 = bk at *
    rw [if_neg (by omega)]
    have h3 := (flush_cost s b f t hf ht (by omega)).1
    have hm := (match_cost (flushS s b f t) n bk (by omega) r2 r4 r5).1
    have := few_even hp d (t + n.toNat) (octet_Put.g (octet_Put.g (flushS s b f t) (2 * n + 1)) bk) (by omega) (by omega) (by omega)
    omega
  · have := few_short2 s d t f b hf ht h4 hd hl
    omega
theorem few_from {s : ByteArray} {t0 p : Nat} (hp : Per s t0 p) (hts : t0 ≤ s.size) (d : Nat) : ∀ (t f : Nat) (b : ByteArray), f ≤ t → t ≤ t0 → s.size ≤ t + d → t - f ≤ 1023 → 64 * b.size ≤ 128 + 65 * f → (compQ s d t f b).size ≤ 9 + t0 + t0 / 64 + 4 * ((s.size - t0 + 257) / 258) := by
  have last : ∀ (d f : Nat) (b : ByteArray), f ≤ t0 → s.size ≤ t0 + d → t0 - f ≤ 1023 → 64 * b.size ≤ 128 + 65 * f → (compQ s d t0 f b).size ≤ 9 + t0 + t0 / 64 + 4 * ((s.size - t0 + 257) / 258) := by
    intro d f b hf hd hl hb
    have := few_any2 hp d t0 f b hf (Nat.le_refl _) hts hd hl
    omega
  induction d with
  | zero =>
    intro t f b hf ht hd hl hb
    obtain rfl : t = t0 := by omega
    exact last 0 f b hf hd hl hb
  | succ d ih =>
    intro t f b hf ht hd hl hb
    by_cases e : t = t0
    · subst e; exact last (d + 1) f b hf hd hl hb
    rw [compQ, if_pos (by omega)]
    obtain ⟨r1, r2, r3, r4, r5⟩ := bestS_range s t (by omega)
    generalize hn : (bestS s t).1 = n at *
    generalize hk2 : (bestS s t).2 = bk at *
    by_cases c1 : n < 4
    · rw [if_pos c1]
      by_cases c2 : (t : Int) + 1 - f = 1024
      · rw [if_pos c2]
        have := flush_cost s b f (t + 1) (by omega) (by omega) (by omega)
        exact ih (t + 1) (t + 1) _ (by omega) (by omega) (by omega) (by omega) (by omega)
      · rw [if_neg c2]
        exact ih (t + 1) f b (by omega) (by omega) (by omega) (by omega) hb
    · rw [if_neg c1]
      obtain ⟨h1, h2, h3⟩ := flush_cost s b f t hf (by omega) (by omega)
      obtain ⟨h4, h5⟩ := match_cost (flushS s b f t) n bk (by omega) r2 r4 r5
      by_cases c9 : t + n.toNat ≤ t0
      · refine ih _ _ _ (Nat.le_refl _) c9 (by omega) (by omega) ?_
        by_cases e : f = t
        · have h6 := congrArg ByteArray.size (h3 e)
          by_cases c3 : n < 64
          · have := h5 c3; omega
          · omega
        · by_cases c3 : n < 64
          · have := h5 c3
            by_cases c4 : t - f < 64
            · have := h2 c4; omega
            · omega
          · by_cases c4 : t - f < 64
            · have := h2 c4; omega
            · omega
      · have := few_even hp d (t + n.toNat) (octet_Put.g (octet_Put.g (flushS s b f t) (2 * n + 1)) bk) (by omega) (by omega) (by omega)
        have e1 : b.size ≤ 2 + f + f / 64 := by omega
        have e2 : (s.size - (t + n.toNat) + 257) / 258 ≤ (s.size - t0 + 257) / 258 := Nat.div_le_div_right (by omega)
        omega
theorem few_comp {s : ByteArray} {t0 p : Nat} (hp : Per s t0 p) (hts : t0 ≤ s.size) (hs : s.size ≤ 16000) : (compS s).size ≤ 9 + t0 + t0 / 64 + 4 * ((s.size - t0 + 257) / 258) := by
  have h := put_two ⟨#[]⟩ (s.size : Int) (by omega) (by omega)
  have e0 : (⟨#[]⟩ : ByteArray).size = 0 := rfl
  exact few_from hp hts s.size 0 0 _ (by omega) (by omega) (by omega) (by omega) (by omega)
theorem few_same (c : Int) (m : Nat) (h5 : 5 ≤ m) (hm : m ≤ 3000) (h0 : 0 ≤ c) (h1 : c ≤ 255) : (compS (strOfNums (List.replicate m c))).size ≤ 16 + m / 64 := by
  have hz : (strOfNums (List.replicate m c)).size = m := by rw [strOfNums_size, List.length_replicate]
  have hb : ∀ i : Int, 0 ≤ i → i < m → bt (strOfNums (List.replicate m c)) i = c := by
    intro i hi hlt
    rw [getD_bt _ _ hi, bytesOf_str (fun x hx => by rw [List.eq_of_mem_replicate hx]; exact ⟨h0, h1⟩), List.getD_eq_getElem?_getD, List.getElem?_replicate, if_pos (by omega)]
    rfl
  have hp : Per (strOfNums (List.replicate m c)) 1 1 := ⟨by omega, by omega, by omega, fun i hi hl => by rw [hz] at hl; rw [hb i (by omega) hl, hb _ (by omega) (by omega)]⟩
  have := few_comp hp (by omega) (by omega)
  rw [hz] at this
  omega
theorem few_twice (s : ByteArray) (h4 : 4 ≤ s.size) (hs : s.size ≤ 1500) : (compS (s ++ s)).size ≤ s.size + s.size / 64 + 16 + 4 * (s.size / 258 + 2) := by
  have hz : (s ++ s).size = s.size + s.size := by rw [size_append]
  have hl := bytesOf_length s
  have hp : Per (s ++ s) s.size s.size := ⟨by omega, by omega, by omega, fun i hi hlt => by
    rw [hz] at hlt
    rw [getD_bt _ _ (by omega), getD_bt _ _ (by omega), bytesOf_append, List.getD_eq_getElem?_getD, List.getD_eq_getElem?_getD, List.getElem?_append_left (by omega), List.getElem?_append_right (by omega), show (i - (s.size : Int)).toNat = i.toNat - (bytesOf s).length by omega]⟩
  have := few_comp hp (by omega) (by omega)
  rw [hz] at this
  omega
end Go.Proofs.Ytmkoajmldbhnbaa.Hand
