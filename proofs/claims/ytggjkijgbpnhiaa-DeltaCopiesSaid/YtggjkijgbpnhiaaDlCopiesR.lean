/- The reference's Sizes, Copies and Same, as the printed functions have them. -/
import Derived.Test.YtggjkijgbpnhiaaDlApplyR
import Derived.Test.YtggjkijgbpnhiaaDlSizes
import Derived.Test.YtggjkijgbpnhiaaDlCopies
import Derived.Test.YtggjkijgbpnhiaaPDlx11
namespace Go.Proofs.Ytggjkijgbpnhiaa.PDl
open Go.Proofs.Ytggjkijgbpnhiaa.Hand
open Go.RowKit Go.Proofs.YtggjkijgbpnhiaaW.PrintWords Go.Proofs.YtggjkijgbpnhiaaW.PrintLast Go.Proofs.YtggjkijgbpnhiaaW.PrintMore
set_option linter.unusedVariables false
set_option linter.unusedSimpArgs false
theorem hdE_heads (s : ByteArray) : hdE s = if (headsR s).2.2.2 = 0 then (if (headsR s).1 > 1048576 ∨ (headsR s).2.1 > 1048576 then 4 else 0) else (headsR s).2.2.2 := by
  by_cases c1 : (headsR s).2.2.2 = 0
  · obtain ⟨h1, h2⟩ := nums_heads s c1
    rw [if_pos c1]
    unfold hdE
    rw [h2, h1]
    simp only
    by_cases c2 : (headsR s).1 > 1048576 ∨ (headsR s).2.1 > 1048576
    · rw [if_pos c2, decide_eq_true c2]; rfl
    · rw [if_neg c2, decide_eq_false c2]; rfl
  · rw [if_neg c1]
    unfold hdE
    rw [nums_heads_err s c1, fail_err _ _ _ c1]
theorem headsR_range (s : ByteArray) : 0 ≤ (headsR s).1 ∧ (headsR s).1 < 18446744073709551616 ∧ 0 ≤ (headsR s).2.1 ∧ (headsR s).2.1 < 18446744073709551616 := by
  obtain ⟨k1, k2, k3, k4, _, _⟩ := numS_ok s 0 0 (by omega) (by omega)
  obtain ⟨m1, m2, m3, m4, _, _⟩ := numS_ok s (numS s 0 0).2.1 (numS s 0 0).2.2 k3 k4
  by_cases c1 : (headsR s).2.2.2 = 0
  · obtain ⟨h1, h2⟩ := nums_heads s c1
    rw [h2] at m1 m2
    exact ⟨by omega, by omega, m1, m2⟩
  · unfold headsR at c1 ⊢
    split
    · rename_i c2
      rw [if_pos c2] at c1
      split
      · rename_i c3; rw [if_pos c3] at c1; exact absurd rfl c1
      · simp
    · simp
theorem Sizes_eq (s : ByteArray) (hs : s.size ≤ 1000000000) (k : Nat) (hk : 30 ≤ k) : graftageref04_Sizes.f k s = some (if hdE s = 0 then hdN s else 0, if hdE s = 0 then hdM s else 0, hdE s) := by
  unfold graftageref04_Sizes.f
  rw [heads_eq s hs k hk, Option.bind_some]
  have hE := hdE_heads s
  obtain ⟨a1, a2, a3, a4⟩ := headsR_range s
  by_cases c1 : (headsR s).2.2.2 = 0
  · obtain ⟨h1, h2⟩ := nums_heads s c1
    have hN : hdN s = (headsR s).1 := by unfold hdN; rw [h1]
    have hM : hdM s = (headsR s).2.1 := by unfold hdM; rw [h2]
    rw [if_pos c1] at hE ⊢
    by_cases c2 : (headsR s).1 > 1048576
    · rw [if_pos (Or.inl c2)] at hE
      rw [if_pos c2, hE]; rfl
    · rw [if_neg c2]
      by_cases c3 : (headsR s).2.1 > 1048576
      · rw [if_pos (Or.inr c3)] at hE
        rw [if_pos c3, hE]; rfl
      · rw [if_neg (by omega)] at hE
        rw [if_neg c3, hE, if_pos rfl, if_pos rfl, hN, hM, wrap64_id (by omega) (by omega), wrap64_id (by omega) (by omega)]
  · rw [if_neg c1] at hE ⊢
    rw [hE, if_neg c1, if_neg c1]
theorem copies_l0 (s : ByteArray) (hs : s.size ≤ 1000000000) (base told : Int) (hb0 : 0 ≤ base) (hb : base ≤ 1000000000) (ht0 : 0 ≤ told) (ht : told ≤ 1000000000) (d : Nat) : ∀ (k : Nat) (p came : Int) (acc : List Pc), 0 ≤ p → p ≤ s.size → came = (acc.map (·.2.2)).sum → (acc.length : Int) ≤ came → came ≤ told → told - came < d → (told - came).toNat + 40 ≤ k →
    graftageref04_Copies.l0 k s base told p (runL acc 0) came = some (if (pcsQ s base told d p came acc).1 = 0 then (runL (pcsQ s base told d p came acc).2 0, 0) else ([], (pcsQ s base told d p came acc).1)) := by
  induction d with
  | zero => intro k p came acc _ _ _ _ _ h; omega
  | succ d ih =>
    intro k p came acc hp0 hp1 hc hcl hct hd hk
    obtain ⟨k, rfl⟩ : ∃ m, k = m + 1 := ⟨k - 1, by omega⟩
    have hc0 : 0 ≤ came := by omega
    rw [graftageref04_Copies.l0, pcsQ, wrap_u64_id (n := came) (by omega) (by omega)]
    by_cases c : came < told
    rotate_left
    · rw [if_neg c, if_neg c]
      by_cases c2 : p < (s.size : Int)
      · rw [if_pos c2, if_pos c2, if_neg (by simp)]
      · rw [if_neg c2, if_neg c2, if_pos rfl]
    rw [if_pos c, if_pos c, wrap_u64_id (n := told - came) (by omega) (by omega), piece_eq s hs base told p came hp0 hp1 hb0 hb hc0 hct ht k (by omega), Option.bind_some]
    by_cases ce : (pcX s base told p came).1 = 0
    rotate_left
    · unfold pieceR
      rw [if_neg ce]
      simp only
      rw [if_neg ce, if_neg ce, if_neg ce]
    obtain ⟨hn1, hn2, ha, hp2, hp3, hc1, hc2⟩ := pcX_ok s base told p came hp0 hp1 hb0 hc0 hct ce
    have hsn := runL_snoc (pcX s base told p came).2.2 acc 0
    rw [← hc, Int.zero_add] at hsn
    unfold pieceR
    rw [if_pos ce]
    generalize pcX s base told p came = X at *
    obtain ⟨e, p2, cp, a, n⟩ := X
    simp only at ce hn1 hn2 ha hp2 hp3 hc1 hc2 hsn
    subst ce
    have hrl := runL_length acc 0
    have hsum : ((acc ++ [(cp, a, n)]).map (·.2.2)).sum = came + n := by simp [hc]
    have hlen : ((acc ++ [(cp, a, n)]).length : Int) ≤ came + n := by simp; omega
    cases cp with
    | true =>
      simp only [if_true] at hsn ⊢
      rw [if_neg (by omega), if_pos (by omega), wrap64_id (n := came + n) (by omega) (by omega), ← hsn, ih k p2 (came + n) (acc ++ [(true, a, n)]) (by omega) hp3 hsum.symm hlen (by omega) (by omega) (by omega)]
    | false =>
      have h1 := hc2 rfl
      simp only [Bool.false_eq_true, if_false, List.append_nil] at hsn ⊢
      rw [if_pos (show (-1 : Int) < 0 by omega), wrap64_id (n := a + n) (by omega) (by omega), wrap64_id (n := came + n) (by omega) (by omega), h1, ← hsn, ih k p2 (came + n) (acc ++ [(false, a, n)]) (by omega) hp3 hsum.symm hlen (by omega) (by omega) (by omega)]
      rfl
theorem Copies_eq (s : ByteArray) (hs : s.size ≤ 1000000000) (k : Nat) (hk : 1100000 ≤ k) : graftageref04_Copies.f k s = some (copiesS s) := by
  unfold graftageref04_Copies.f copiesS
  rw [Sizes_eq s hs k (by omega), Option.bind_some]
  by_cases c1 : hdE s = 0
  · have hsm := hd_small s c1
    rw [if_pos c1, heads_eq s hs k (by omega), Option.bind_some]
    have hE := hdE_heads s
    have ch : (headsR s).2.2.2 = 0 := by
      by_cases ch : (headsR s).2.2.2 = 0
      · exact ch
      · rw [if_neg ch] at hE; omega
    obtain ⟨h1, h2⟩ := nums_heads s ch
    have hN : hdN s = (headsR s).1 := by unfold hdN; rw [h1]
    have hM : hdM s = (headsR s).2.1 := by unfold hdM; rw [h2]
    have hP : hdP s = (headsR s).2.2.1 := by unfold hdP; rw [h2]
    rw [if_pos c1, ← hN, ← hM, ← hP]
    unfold copiesR
    exact copies_l0 s hs (hdN s) (hdM s) (by omega) (by omega) (by omega) (by omega) _ k (hdP s) 0 [] (by omega) (by omega) rfl (by simp) (by omega) (by omega) (by omega)
  · simp [c1]
theorem same_l0 (l : List S34) (hl : l.length ≤ 1000000000) (d : Nat) : ∀ (k : Nat) (i : Int), 0 ≤ i → i ≤ l.length → (l.length : Int) - i = d → d < k → graftageref04_Same.l0 k l l i = some true := by
  induction d with
  | zero =>
    intro k i h0 h1 hd hk
    obtain ⟨k, rfl⟩ : ∃ m, k = m + 1 := ⟨k - 1, by omega⟩
    rw [graftageref04_Same.l0, if_neg (by omega)]
  | succ d ih =>
    intro k i h0 h1 hd hk
    obtain ⟨k, rfl⟩ : ∃ m, k = m + 1 := ⟨k - 1, by omega⟩
    rw [graftageref04_Same.l0, if_pos (by omega), if_pos h0, if_pos (by omega), if_neg (by simp), wrap64_id (by omega) (by omega)]
    exact ih k (i + 1) (by omega) (by omega) (by omega) (by omega)
theorem Same_eq (l : List S34) (hl : l.length ≤ 1000000000) (k : Nat) (hk : l.length + 1 ≤ k) : graftageref04_Same.f k l l = some true := by
  unfold graftageref04_Same.f
  rw [if_pos rfl]
  exact same_l0 l hl l.length k 0 (by omega) (by omega) (by omega) (by omega)
theorem pcsQ_len (s : ByteArray) (base told : Int) (hb0 : 0 ≤ base) (d : Nat) : ∀ (p came : Int) (acc : List Pc), 0 ≤ p → p ≤ s.size → 0 ≤ came → came ≤ told → (acc.length : Int) ≤ came → ((pcsQ s base told d p came acc).2.length : Int) ≤ told := by
  induction d with
  | zero => intro p came acc _ _ _ _ h; show (acc.length : Int) ≤ told; omega
  | succ d ih =>
    intro p came acc hp0 hp1 hc0 hct hl
    rw [pcsQ]
    by_cases c : came < told
    · rw [if_pos c]
      by_cases ce : (pcX s base told p came).1 = 0
      · rw [if_pos ce]
        obtain ⟨hn1, hn2, ha, hp2, hp3, hc1, hc2⟩ := pcX_ok s base told p came hp0 hp1 hb0 hc0 hct ce
        exact ih _ _ _ (by omega) hp3 (by omega) (by omega) (by simp; omega)
      · rw [if_neg ce]; simp only; omega
    · rw [if_neg c]; simp only; omega
theorem copiesS_len (s : ByteArray) : (copiesS s).1.length ≤ 1048576 := by
  unfold copiesS
  by_cases c1 : hdE s = 0
  · obtain ⟨h1, h2, h3, h4, h5, h6⟩ := hd_small s c1
    rw [if_pos c1]
    split
    · have := pcsQ_len s (hdN s) (hdM s) h1 ((hdM s).toNat + 1) (hdP s) 0 [] h5 h6 (by omega) h3 (by simp)
      have h := runL_length (copiesR s).2 0
      unfold copiesR at h ⊢
      simp only
      omega
    · simp
  · rw [if_neg c1]; simp
end Go.Proofs.Ytggjkijgbpnhiaa.PDl
