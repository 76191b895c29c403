/- The longest run: what the finder finds is what the scan over all places finds, where it is long enough. No program in sight but the printed scan. -/
import Derived.Test.YtggjkijgbpnhiaaDlFind
import Derived.Test.YtggjkijgbpnhiaaStrPlain
import Derived.Test.YtggjkijgbpnhiaaPDlx5
namespace Go.Proofs.Ytggjkijgbpnhiaa.PDl
open Go.Proofs.Ytggjkijgbpnhiaa.Hand
open Go.RowKit Go.Proofs.YtggjkijgbpnhiaaW.PrintWords Go.Proofs.YtggjkijgbpnhiaaW.PrintLast Go.Proofs.YtggjkijgbpnhiaaW.PrintMore
set_option linter.unusedVariables false
set_option linter.unusedSimpArgs false

/-- How far the base from p on and s from i on go on alike. -/
def zG (base s : ByteArray) (i p : Int) : Nat → Int → Int
  | 0, n => n
  | r + 1, n => if p + n < (base.size : Int) ∧ i + n < (s.size : Int) ∧ bt base (p + n) = bt s (i + n) then zG base s i p r (n + 1) else n
def zN (base s : ByteArray) (i : Nat) (p : Int) : Int := zG base s i p (s.size - i) 0
def lonQ (base s : ByteArray) (i : Nat) : Nat → Int × Int
  | 0 => (0, 0)
  | j + 1 => if (lonQ base s i j).2 < zN base s i j then ((j : Int), zN base s i j) else lonQ base s i j
theorem zG_range (base s : ByteArray) (i p : Int) (r : Nat) : ∀ n, n ≤ zG base s i p r n ∧ (i + n ≤ s.size → i + zG base s i p r n ≤ s.size) := by
  induction r with
  | zero => intro n; simp [zG]
  | succ r ih =>
    intro n
    rw [zG]
    split
    · have := ih (n + 1); exact ⟨by omega, fun h => this.2 (by omega)⟩
    · exact ⟨by omega, fun h => h⟩
theorem long_l1 (base s : ByteArray) (hb : base.size ≤ 1000000000) (hs : s.size ≤ 1000000000) (i : Nat) (hi : i ≤ s.size) (p : Nat) (hp : p < base.size) (a n q : Int) (R : Int × Int) (K : Nat)
    (hnext : ∀ k', K ≤ k' → graftageref04_longest.l0 k' base s i (if n < q then (p : Int) else a) (if n < q then q else n) ((p : Int) + 1) = some R) (r : Nat) :
    ∀ (k : Nat) (m : Int), 0 ≤ m → i + m ≤ s.size → (s.size : Int) ≤ i + m + r → K + r + 1 ≤ k → zG base s i p r m = q → graftageref04_longest.l1 k base s i a n p m = some R := by
  have fin : ∀ (k : Nat) (m : Int), m = q → K ≤ k → (if m > n then (graftageref04_longest.l0 k base s i p m (wrap64 ((p : Int) + 1))) else (graftageref04_longest.l0 k base s i a n (wrap64 ((p : Int) + 1)))) = some R := by
    intro k m hm hk
    subst hm
    have h := hnext k hk
    rw [wrap64_id (by omega) (by omega)]
    by_cases c : n < m
    · rw [if_pos c, if_pos c] at h; rw [if_pos c]; exact h
    · rw [if_neg c, if_neg c] at h; rw [if_neg c]; exact h
  induction r with
  | zero =>
    intro k m h0 h1 h2 hk hq
    obtain ⟨k, rfl⟩ : ∃ m, k = m + 1 := ⟨k - 1, by omega⟩
    rw [graftageref04_longest.l1, wrap64_id (n := (p : Int) + m) (by omega) (by omega), wrap64_id (n := (i : Int) + m) (by omega) (by omega)]
    by_cases c : (p : Int) + m < base.size
    · rw [if_pos c, if_neg (by omega)]; exact fin k m hq (by omega)
    · rw [if_neg c]; exact fin k m hq (by omega)
  | succ r ih =>
    intro k m h0 h1 h2 hk hq
    obtain ⟨k, rfl⟩ : ∃ m, k = m + 1 := ⟨k - 1, by omega⟩
    rw [graftageref04_longest.l1, wrap64_id (n := (p : Int) + m) (by omega) (by omega), wrap64_id (n := (i : Int) + m) (by omega) (by omega), wrap64_id (n := m + 1) (by omega) (by omega)]
    rw [zG] at hq
    by_cases c1 : (p : Int) + m < base.size
    · rw [if_pos c1]
      by_cases c2 : (i : Int) + m < s.size
      · rw [if_pos c2, if_pos (by omega), if_pos (by omega)]
        by_cases c3 : bt base ((p : Int) + m) = bt s ((i : Int) + m)
        · rw [if_pos ⟨c1, c2, c3⟩] at hq
          rw [if_pos c3]
          exact ih k (m + 1) (by omega) (by omega) (by omega) (by omega) hq
        · rw [if_neg (fun h => c3 h.2.2)] at hq
          rw [if_neg c3]; exact fin k m hq (by omega)
      · rw [if_neg (fun h => c2 h.2.1)] at hq
        rw [if_neg c2]; exact fin k m hq (by omega)
    · rw [if_neg (fun h => c1 h.1)] at hq
      rw [if_neg c1]; exact fin k m hq (by omega)
theorem long_l0 (base s : ByteArray) (hb : base.size ≤ 1000000000) (hs : s.size ≤ 1000000000) (i : Nat) (hi : i ≤ s.size) (d : Nat) : ∀ (k p : Nat), p + d = base.size → (s.size + 3) * d + 2 ≤ k →
    graftageref04_longest.l0 k base s i (lonQ base s i p).1 (lonQ base s i p).2 p = some (lonQ base s i base.size) := by
  induction d with
  | zero =>
    intro k p hp hk
    obtain ⟨k, rfl⟩ : ∃ m, k = m + 1 := ⟨k - 1, by omega⟩
    obtain rfl : p = base.size := by omega
    rw [graftageref04_longest.l0, if_neg (by omega)]
  | succ d ih =>
    intro k p hp hk
    obtain ⟨k, rfl⟩ : ∃ m, k = m + 1 := ⟨k - 1, by omega⟩
    rw [graftageref04_longest.l0, if_pos (by omega)]
    have hm : (s.size + 3) * (d + 1) = (s.size + 3) * d + (s.size + 3) := Nat.mul_succ _ _
    refine long_l1 base s hb hs i hi p (by omega) _ _ (zN base s i p) _ ((s.size + 3) * d + 2) (fun k' hk' => ?_) (s.size - i) k 0 (by omega) (by omega) (by omega) (by omega) rfl
    have h := ih k' (p + 1) (by omega) hk'
    rw [lonQ] at h
    rw [show ((p + 1 : Nat) : Int) = (p : Int) + 1 by omega] at h
    by_cases c : (lonQ base s i p).2 < zN base s i p
    · rw [if_pos c] at h; rw [if_pos c, if_pos c]; exact h
    · rw [if_neg c] at h; rw [if_neg c, if_neg c]; exact h
theorem longest_eq (base s : ByteArray) (hb : base.size ≤ 1000000000) (hs : s.size ≤ 1000000000) (i : Nat) (hi : i ≤ s.size) (k : Nat) (hk : (s.size + 3) * base.size + 2 ≤ k) : graftageref04_longest.f k base s i = some (lonQ base s i base.size) := by
  unfold graftageref04_longest.f
  exact long_l0 base s hb hs i hi base.size k 0 (by omega) hk

/-! the finder -/
def stepF (base t : ByteArray) (x : Int × Int) (p : Int) : Int × Int := if x.2 < matN base t p then (p, matN base t p) else x
theorem foldF_full (base t : ByteArray) (ht : 8 ≤ t.size) (zs : List Int) (a : Int) : zs.foldl (stepF base t) (a, (t.size : Int)) = (a, (t.size : Int)) := by
  induction zs with
  | nil => rfl
  | cons p zs ih =>
    have h := (matG_range base t p t.size 8).2 (by omega)
    have : matN base t p ≤ t.size := h
    rw [List.foldl_cons, stepF, if_neg (by simp only; omega)]
    exact ih
theorem findL_fold (base t : ByteArray) (ht : 8 ≤ t.size) (zs : List Int) : ∀ a n : Int, findL base t zs a n = zs.foldl (stepF base t) (a, n) := by
  induction zs with
  | nil => intro a n; rfl
  | cons p zs ih =>
    intro a n
    rw [findL, List.foldl_cons, stepF]
    simp only
    by_cases c : n < matN base t p
    · rw [if_pos c, if_pos c]
      by_cases c2 : matN base t p = t.size
      · rw [if_pos c2, c2, foldF_full base t ht]
      · rw [if_neg c2, ih]
    · rw [if_neg c, if_neg c]
      by_cases c2 : n = t.size
      · rw [if_pos c2, c2, foldF_full base t ht]
      · rw [if_neg c2, ih]
theorem bt_tail (s : ByteArray) (i : Nat) (hi : i ≤ s.size) (k : Int) (h0 : 0 ≤ k) : bt (s.extract i s.size) k = bt s (i + k) := by
  have hl := bytesOf_length s
  rw [getD_bt _ _ h0, getD_bt _ _ (by omega), bytesOf_extract, List.getD_eq_getElem?_getD, List.getD_eq_getElem?_getD, List.getElem?_take, List.getElem?_drop, show ((i : Int) + k).toNat = i + k.toNat by omega]
  by_cases c : k.toNat < s.size - i
  · rw [if_pos c]
  · rw [if_neg c, List.getElem?_eq_none (by omega)]
theorem mat_z (base s : ByteArray) (i : Nat) (hi : i ≤ s.size) (p : Int) (r : Nat) : ∀ n : Int, 0 ≤ n → matG base (s.extract i s.size) p r n = zG base s i p r n := by
  have hz : (s.extract i s.size).size = s.size - i := by rw [ByteArray.size_extract]; omega
  induction r with
  | zero => intro n _; rfl
  | succ r ih =>
    intro n h0
    rw [matG, zG, hz, bt_tail s i hi n h0]
    by_cases c : p + n < (base.size : Int) ∧ (i : Int) + n < (s.size : Int) ∧ bt base (p + n) = bt s ((i : Int) + n)
    · rw [if_pos c, if_pos ⟨c.1, by omega, c.2.2⟩, ih (n + 1) (by omega)]
    · rw [if_neg c, if_neg (fun h => c ⟨h.1, by omega, h.2.2⟩)]
theorem zG_more (base s : ByteArray) (i p : Int) (r : Nat) : ∀ (d : Nat) (n : Int), 0 ≤ n → (s.size : Int) ≤ i + n + r → zG base s i p (r + d) n = zG base s i p r n := by
  induction r with
  | zero =>
    intro d n h0 h
    cases d with
    | zero => rfl
    | succ d =>
      rw [show 0 + (d + 1) = d + 1 by omega]
      show zG base s i p (d + 1) n = n
      rw [zG, if_neg (fun k => by omega)]
  | succ r ih =>
    intro d n h0 h
    rw [show r + 1 + d = (r + d) + 1 by omega, zG, zG]
    split
    · exact ih d (n + 1) (by omega) (by omega)
    · rfl
theorem z_eight (base s : ByteArray) (i : Nat) (p : Int) (h : 8 ≤ zN base s i p) : p + 8 ≤ base.size ∧ (i : Int) + 8 ≤ s.size ∧ ∀ j : Nat, j < 8 → bt base (p + j) = bt s (i + j) := by
  have go : ∀ (r : Nat) (n : Int), zG base s i p r n > n → p + n < (base.size : Int) ∧ (i : Int) + n < s.size ∧ bt base (p + n) = bt s (i + n) := by
    intro r n hn
    cases r with
    | zero => simp [zG] at hn
    | succ r =>
      rw [zG] at hn
      split at hn
      · assumption
      · omega
  have step : ∀ (r : Nat) (n : Int), zG base s i p r n > n → ∃ r', zG base s i p r n = zG base s i p r' (n + 1) := by
    intro r n hn
    cases r with
    | zero => simp [zG] at hn
    | succ r =>
      rw [zG] at hn
      split at hn
      · rename_i c; exact ⟨r, by rw [zG, if_pos c]⟩
      · omega
  unfold zN at h
  have key : ∀ m : Nat, m ≤ 8 → ∃ r, 8 ≤ zG base s i p r m ∧ ∀ j : Nat, j < m → p + j < (base.size : Int) ∧ (i : Int) + j < s.size ∧ bt base (p + j) = bt s (i + j) := by
    intro m
    induction m with
    | zero => intro _; exact ⟨_, h, fun j hj => absurd hj (by omega)⟩
    | succ m ih =>
      intro hm
      obtain ⟨r, hr, hall⟩ := ih (by omega)
      have hg := go r m (by omega)
      obtain ⟨r', hr'⟩ := step r m (by omega)
      refine ⟨r', ?_, fun j hj => ?_⟩
      · rw [show ((m + 1 : Nat) : Int) = (m : Int) + 1 by omega, ← hr']; exact hr
      · by_cases e : j = m
        · subst e; exact hg
        · exact hall j (by omega)
  obtain ⟨r, _, hall⟩ := key 8 (Nat.le_refl _)
  have h7 := hall 7 (by omega)
  exact ⟨by omega, by omega, fun j hj => (hall j hj).2.2⟩
theorem eight_z (base s : ByteArray) (i : Nat) (p : Int) (h1 : p + 8 ≤ base.size) (h2 : (i : Int) + 8 ≤ s.size) (h : ∀ j : Nat, j < 8 → bt base (p + j) = bt s (i + j)) : zN base s i p = zG base s i p (s.size - i) 8 ∧ 8 ≤ zN base s i p := by
  have key : ∀ m : Nat, m ≤ 8 → zN base s i p = zG base s i p (s.size - i - m) m := by
    intro m
    induction m with
    | zero => intro _; rfl
    | succ m ih =>
      intro hm
      rw [ih (by omega)]
      have e : s.size - i - m = (s.size - i - (m + 1)) + 1 := by omega
      rw [e, zG, if_pos ⟨by omega, by omega, h m (by omega)⟩]
      rfl
  have h8 := key 8 (Nat.le_refl _)
  have hm := zG_more base s i p (s.size - i - 8) 8 8 (by omega) (by omega)
  rw [show s.size - i - 8 + 8 = s.size - i by omega] at hm
  have hr := (zG_range base s i p (s.size - i) 8).1
  rw [h8]
  exact ⟨hm.symm, by have : ((8 : Nat) : Int) = 8 := rfl; rw [this, ← hm]; exact hr⟩
theorem extract_eight (base s : ByteArray) (i p : Nat) (h1 : p + 8 ≤ base.size) (h2 : i + 8 ≤ s.size) : base.extract p (p + 8) = (s.extract i s.size).extract 0 8 ↔ ∀ j : Nat, j < 8 → bt base ((p : Int) + j) = bt s ((i : Int) + j) := by
  have hl := bytesOf_length base
  have hl2 := bytesOf_length s
  constructor
  · intro h j hj
    have e := congrArg bytesOf h
    rw [bytesOf_extract, bytesOf_extract, bytesOf_extract] at e
    have e2 := congrArg (fun l => l.getD j 0) e
    simp only [List.getD_eq_getElem?_getD, List.getElem?_take, List.getElem?_drop, List.drop_zero] at e2
    rw [if_pos (by omega), if_pos (by omega), if_pos (by omega)] at e2
    rw [getD_bt base _ (by omega), getD_bt s _ (by omega), List.getD_eq_getElem?_getD, List.getD_eq_getElem?_getD, show ((p : Int) + j).toNat = p + j by omega, show ((i : Int) + j).toNat = i + j by omega]
    exact e2
  · intro h
    apply bytesOf_inj
    rw [bytesOf_extract, bytesOf_extract, bytesOf_extract]
    apply List.ext_getElem?
    intro j
    simp only [List.getElem?_take, List.getElem?_drop, List.drop_zero]
    by_cases hj : j < 8
    · rw [if_pos (by omega), if_pos (by omega), if_pos (by omega)]
      have e2 := h j hj
      rw [getD_bt base _ (by omega), getD_bt s _ (by omega), List.getD_eq_getElem?_getD, List.getD_eq_getElem?_getD, show ((p : Int) + j).toNat = p + j by omega, show ((i : Int) + j).toNat = i + j by omega, List.getElem?_eq_getElem (by omega), List.getElem?_eq_getElem (by omega)] at e2
      rw [List.getElem?_eq_getElem (by omega), List.getElem?_eq_getElem (by omega)]
      exact congrArg some e2
    · rw [if_neg (by omega), if_neg (by omega)]
/-- What the scan has, and what the finder has, below a place. -/
theorem lon_fold (base s : ByteArray) (i : Nat) (hi : i + 8 ≤ s.size) (j : Nat) : j ≤ base.size →
    (8 ≤ (lonQ base s i j).2 ∧ (posS base j ((s.extract i s.size).extract 0 8)).foldl (stepF base (s.extract i s.size)) (0, 0) = lonQ base s i j) ∨ ((lonQ base s i j).2 < 8 ∧ (posS base j ((s.extract i s.size).extract 0 8)).foldl (stepF base (s.extract i s.size)) (0, 0) = (0, 0)) := by
  have hz : (s.extract i s.size).size = s.size - i := by rw [ByteArray.size_extract]; omega
  induction j with
  | zero => intro _; exact Or.inr ⟨by simp [lonQ], rfl⟩
  | succ j ih =>
    intro hj
    have h0 := ih (by omega)
    rw [posS, lonQ]
    by_cases c : j + 8 ≤ base.size ∧ base.extract j (j + 8) = (s.extract i s.size).extract 0 8
    · rw [if_pos c, List.foldl_append]
      obtain ⟨hz1, hz2⟩ := eight_z base s i j (by omega) (by omega) ((extract_eight base s i j c.1 hi).1 c.2)
      have hmn : matN base (s.extract i s.size) j = zN base s i j := by
        unfold matN
        rw [hz, mat_z base s i (by omega) j (s.size - i) 8 (by omega), hz1]
      rcases h0 with ⟨h8, he⟩ | ⟨h8, he⟩
      · rw [he, List.foldl_cons, List.foldl_nil, stepF, hmn]
        left
        split <;> exact ⟨by first | exact hz2 | exact h8, rfl⟩
      · rw [he, List.foldl_cons, List.foldl_nil, stepF, hmn, if_pos (show (0 : Int) < _ by omega), if_pos (by omega)]
        exact Or.inl ⟨hz2, rfl⟩
    · rw [if_neg c, List.append_nil]
      have hz8 : zN base s i j < 8 := by
        by_cases h : 8 ≤ zN base s i j
        · obtain ⟨g1, g2, g3⟩ := z_eight base s i j h
          exact absurd ⟨by omega, (extract_eight base s i j (by omega) hi).2 g3⟩ c
        · omega
      rcases h0 with ⟨h8, he⟩ | ⟨h8, he⟩
      · rw [if_neg (by omega)]; exact Or.inl ⟨h8, he⟩
      · right
        split
        · exact ⟨hz8, he⟩
        · exact ⟨h8, he⟩
theorem find_lon (base s : ByteArray) (i : Nat) (hi : i ≤ s.size) : (8 ≤ (lonQ base s i base.size).2 ∧ findS base base.size (s.extract i s.size) = lonQ base s i base.size) ∨ ((lonQ base s i base.size).2 < 8 ∧ findS base base.size (s.extract i s.size) = (0, 0)) := by
  have hz : (s.extract i s.size).size = s.size - i := by rw [ByteArray.size_extract]; omega
  unfold findS
  by_cases c : (s.extract i s.size).size < 8
  · rw [if_pos c]
    right
    refine ⟨?_, rfl⟩
    have h : ∀ j, (lonQ base s i j).2 < 8 := by
      intro j
      induction j with
      | zero => simp [lonQ]
      | succ j ih =>
        rw [lonQ]
        split
        · have := (zG_range base s i j (s.size - i) 0).2 (by omega)
          show zN base s i j < 8
          unfold zN
          omega
        · exact ih
    exact h _
  · rw [if_neg c, findL_fold base _ (by omega)]
    exact lon_fold base s i (by omega) base.size (Nat.le_refl _)
end Go.Proofs.Ytggjkijgbpnhiaa.PDl
