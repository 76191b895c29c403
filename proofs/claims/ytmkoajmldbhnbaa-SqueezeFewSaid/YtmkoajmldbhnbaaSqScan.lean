/- The longest earlier match: what the finder finds is what a scan over all places finds. No program in sight. -/
import Derived.Test.YtmkoajmldbhnbaaSqPress
import Derived.Test.YtmkoajmldbhnbaaStrPlain
namespace Go.Proofs.Ytmkoajmldbhnbaa.Hand
open Go.RowKit Go.Proofs.YtmkoajmldbhnbaaW.PrintWords Go.Proofs.YtmkoajmldbhnbaaW.PrintLast Go.Proofs.YtmkoajmldbhnbaaW.PrintMore
set_option linter.unusedVariables false
set_option linter.unusedSimpArgs false

def scanQ (s : ByteArray) (t : Nat) : Nat → Int → Int → Int × Int
  | 0, n, b => (n, b)
  | i + 1, n, b => if (t : Int) - i ≤ 4096 then (if 4 ≤ runN s i t ∧ n < runN s i t then scanQ s t i (runN s i t) (t - i) else scanQ s t i n b) else (n, b)

theorem runG_four (s : ByteArray) (a b : Int) (h : 4 ≤ runN s a b) : b + 4 ≤ s.size ∧ ∀ j : Nat, j < 4 → bt s (a + j) = bt s (b + j) := by
  unfold runN at h
  have e : (258 : Nat) = 254 + 1 + 1 + 1 + 1 := rfl
  rw [e, runG] at h
  split at h
  rotate_left
  · omega
  rename_i h0
  rw [runG] at h
  split at h
  rotate_left
  · omega
  rename_i h1
  rw [runG] at h
  split at h
  rotate_left
  · omega
  rename_i h2
  rw [runG] at h
  split at h
  rotate_left
  · omega
  rename_i h3
  refine ⟨by omega, fun j hj => ?_⟩
  obtain rfl | rfl | rfl | rfl : j = 0 ∨ j = 1 ∨ j = 2 ∨ j = 3 := by omega
  · exact h0.2
  · exact h1.2
  · exact h2.2
  · exact h3.2
theorem four_runG (s : ByteArray) (a b : Int) (hb : b + 4 ≤ s.size) (h : ∀ j : Nat, j < 4 → bt s (a + j) = bt s (b + j)) : 4 ≤ runN s a b := by
  unfold runN
  have e : (258 : Nat) = 254 + 1 + 1 + 1 + 1 := rfl
  rw [e, runG, if_pos ⟨by omega, h 0 (by omega)⟩, runG, if_pos ⟨by omega, h 1 (by omega)⟩, runG, if_pos ⟨by omega, h 2 (by omega)⟩, runG, if_pos ⟨by omega, h 3 (by omega)⟩]
  exact (runG_range s a b 254 _).1
theorem extract_four (s : ByteArray) (a b : Nat) (ha : a + 4 ≤ s.size) (hb : b + 4 ≤ s.size) : s.extract a (a + 4) = s.extract b (b + 4) ↔ ∀ j : Nat, j < 4 → bt s ((a : Int) + j) = bt s ((b : Int) + j) := by
  have hl := bytesOf_length s
  constructor
  · intro h j hj
    have e := congrArg bytesOf h
    rw [bytesOf_extract, bytesOf_extract] at e
    have e2 := congrArg (fun l => l.getD j 0) e
    simp only [List.getD_eq_getElem?_getD, List.getElem?_take, List.getElem?_drop] at e2
    rw [if_pos (by omega), if_pos (by omega)] at e2
    rw [getD_bt s _ (by omega), getD_bt s _ (by omega), List.getD_eq_getElem?_getD, List.getD_eq_getElem?_getD, show ((a : Int) + j).toNat = a + j by omega, show ((b : Int) + j).toNat = b + j by omega]
    exact e2
  · intro h
    apply bytesOf_inj
    rw [bytesOf_extract, bytesOf_extract]
    apply List.ext_getElem
    · simp only [List.length_take, List.length_drop]; omega
    · intro j h1 h2
      simp only [List.length_take, List.length_drop] at h1
      have e2 := h j (by omega)
      rw [getD_bt s _ (by omega), getD_bt s _ (by omega), List.getD_eq_getElem?_getD, List.getD_eq_getElem?_getD, show ((a : Int) + j).toNat = a + j by omega, show ((b : Int) + j).toNat = b + j by omega, List.getElem?_eq_getElem (by omega), List.getElem?_eq_getElem (by omega)] at e2
      rw [List.getElem_take, List.getElem_take, List.getElem_drop, List.getElem_drop]
      exact e2
theorem posS_prefix (s : ByteArray) (key : ByteArray) (m : Nat) (d : Nat) : ∃ r, posS s (m + d) key = posS s m key ++ r := by
  induction d with
  | zero => exact ⟨[], by simp⟩
  | succ d ih =>
    obtain ⟨r, hr⟩ := ih
    exact ⟨r ++ _, by rw [← Nat.add_assoc, posS, hr, List.append_assoc]⟩
theorem bestR_far (s : ByteArray) (t : Nat) (zs : List Int) (i : Nat) (n b : Int) (h : ∀ j, j < i → (t : Int) - zs.getD j 0 > 4096) : bestR s t zs i n b = (n, b) := by
  cases i with
  | zero => rfl
  | succ i => rw [bestR, if_neg (by have := h i (by omega); omega)]
theorem best_scan (s : ByteArray) (t : Nat) (ht : t + 4 ≤ s.size) (m : Nat) : ∀ n b : Int, 0 ≤ n → m ≤ t →
    bestR s t (posS s t (s.extract t (t + 4))) (posS s m (s.extract t (t + 4))).length n b = scanQ s t m n b := by
  induction m with
  | zero => intro n b _ _; rfl
  | succ m ih =>
    intro n b h0 hm
    have ih' := fun n b h0 => ih n b h0 (by omega)
    by_cases c : s.extract m (m + 4) = s.extract t (t + 4)
    · have e : posS s (m + 1) (s.extract t (t + 4)) = posS s m (s.extract t (t + 4)) ++ [(m : Int)] := by rw [posS, if_pos ⟨by omega, c⟩]
      obtain ⟨r, hr⟩ := posS_prefix s (s.extract t (t + 4)) (m + 1) (t - (m + 1))
      rw [show m + 1 + (t - (m + 1)) = t by omega, e] at hr
      have hg : (posS s t (s.extract t (t + 4))).getD (posS s m (s.extract t (t + 4))).length 0 = (m : Int) := by
        rw [hr, List.getD_eq_getElem?_getD]; simp
      have h4 : 4 ≤ runN s m t := four_runG s m t (by omega) ((extract_four s m t (by omega) (by omega)).1 c)
      rw [e, List.length_append, List.length_singleton, bestR, hg, scanQ]
      by_cases c2 : (t : Int) - m ≤ 4096
      · rw [if_pos c2, if_pos c2]
        by_cases c3 : n < runN s m t
        · rw [if_pos c3, if_pos ⟨h4, c3⟩, ih' _ _ (by omega)]
        · rw [if_neg c3, if_neg (fun h => c3 h.2), ih' _ _ h0]
      · rw [if_neg c2, if_neg c2]
    · have e : posS s (m + 1) (s.extract t (t + 4)) = posS s m (s.extract t (t + 4)) := by rw [posS, if_neg (fun h => c h.2), List.append_nil]
      have h4 : ¬ 4 ≤ runN s m t := fun h => c ((extract_four s m t (by omega) (by omega)).2 (runG_four s m t h).2)
      rw [e, scanQ]
      by_cases c2 : (t : Int) - m ≤ 4096
      · rw [if_pos c2, if_neg (fun h => h4 h.1), ih' _ _ h0]
      · rw [if_neg c2]
        refine bestR_far s t _ _ n b (fun j hj => ?_)
        obtain ⟨r, hr⟩ := posS_prefix s (s.extract t (t + 4)) m (t - m)
        rw [show m + (t - m) = t by omega] at hr
        rw [hr, List.getD_eq_getElem?_getD, List.getElem?_append_left hj, List.getElem?_eq_getElem hj, Option.getD_some]
        have := posS_mem s m (s.extract t (t + 4)) _ (List.getElem_mem hj)
        omega
theorem scan_none (s : ByteArray) (t : Nat) (ht : ¬ t + 4 ≤ s.size) (i : Nat) : ∀ n b : Int, scanQ s t i n b = (n, b) := by
  induction i with
  | zero => intro n b; rfl
  | succ i ih =>
    intro n b
    have hn : ¬ (4 ≤ runN s i t ∧ n < runN s i t) := fun h => ht (by have := (runG_four s i t h.1).1; omega)
    rw [scanQ, if_neg hn, ih]
    split <;> rfl
theorem bestS_scan (s : ByteArray) (t : Nat) : bestS s t = scanQ s t t 0 0 := by
  unfold bestS
  by_cases c : t + 4 ≤ s.size
  · rw [if_pos c, best_scan s t c t 0 0 (by omega) (Nat.le_refl _)]
  · rw [if_neg c, scan_none s t c]
theorem scan_four (s : ByteArray) (t : Nat) (i : Nat) : ∀ n b : Int, (n = 0 ∨ 4 ≤ n) → ((scanQ s t i n b).1 = 0 ∨ 4 ≤ (scanQ s t i n b).1) := by
  induction i with
  | zero => intro n b h; exact h
  | succ i ih =>
    intro n b h
    rw [scanQ]
    split
    · split
      · rename_i c; exact ih _ _ (Or.inr c.1)
      · exact ih _ _ h
    · exact h
/-- The scan finds at least what stands at each place that is near enough. -/
theorem scan_grows (s : ByteArray) (t : Nat) (i : Nat) : ∀ n b : Int, n ≤ (scanQ s t i n b).1 := by
  induction i with
  | zero => intro n b; exact Int.le_refl _
  | succ i ih =>
    intro n b
    rw [scanQ]
    split
    · split
      · rename_i c; have := ih (runN s i t) ((t : Int) - i); omega
      · exact ih _ _
    · exact Int.le_refl _
theorem scan_least (s : ByteArray) (t : Nat) (p : Nat) (hp : (t : Int) - p ≤ 4096) (h4 : 4 ≤ runN s p t) (i : Nat) : ∀ n b : Int, p < i → runN s p t ≤ (scanQ s t i n b).1 := by
  induction i with
  | zero => intro n b h; omega
  | succ i ih =>
    intro n b h
    rw [scanQ, if_pos (by omega)]
    by_cases e : p = i
    · subst e
      split
      · exact scan_grows s t p _ _
      · rename_i c
        have := scan_grows s t p n b
        omega
    · split
      · exact ih _ _ (by omega)
      · exact ih _ _ (by omega)
end Go.Proofs.Ytmkoajmldbhnbaa.Hand
