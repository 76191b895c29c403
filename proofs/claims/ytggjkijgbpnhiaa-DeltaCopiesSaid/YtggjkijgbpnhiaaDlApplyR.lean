/- The reference's Apply, as the printed function has it: the plain applyS. -/
import Derived.Test.YtggjkijgbpnhiaaDlPieceR
import Derived.Test.YtggjkijgbpnhiaaDlApplyF
import Derived.Test.YtggjkijgbpnhiaaPDlx7
namespace Go.Proofs.Ytggjkijgbpnhiaa.PDl
open Go.Proofs.Ytggjkijgbpnhiaa.Hand
open Go.RowKit Go.Proofs.YtggjkijgbpnhiaaW.PrintWords Go.Proofs.YtggjkijgbpnhiaaW.PrintLast Go.Proofs.YtggjkijgbpnhiaaW.PrintMore
set_option linter.unusedVariables false
set_option linter.unusedSimpArgs false
/-- What a piece without an error is. -/
theorem pcX_ok (s : ByteArray) (base told p came : Int) (hp0 : 0 ≤ p) (hp1 : p ≤ s.size) (hb0 : 0 ≤ base) (hc : 0 ≤ came) (hct : came ≤ told) (h : (pcX s base told p came).1 = 0) :
    1 ≤ (pcX s base told p came).2.2.2.2 ∧ (pcX s base told p came).2.2.2.2 ≤ told - came ∧ 0 ≤ (pcX s base told p came).2.2.2.1 ∧ p < (pcX s base told p came).2.1 ∧ (pcX s base told p came).2.1 ≤ s.size ∧
      ((pcX s base told p came).2.2.1 = true → (pcX s base told p came).2.2.2.1 + (pcX s base told p came).2.2.2.2 ≤ base) ∧ ((pcX s base told p came).2.2.1 = false → (pcX s base told p came).2.2.2.1 + (pcX s base told p came).2.2.2.2 = (pcX s base told p came).2.1) := by
  have zero_of : ∀ (e x : Int) (so : Bool), x ≠ 0 → failS e x so = 0 → e = 0 ∧ so = false := by
    intro e x so hx h
    unfold failS at h
    cases so with
    | true =>
      by_cases he : e = 0
      · rw [if_pos ⟨rfl, he⟩] at h; exact absurd h hx
      · rw [if_neg (fun k => he k.2)] at h; exact absurd h he
    | false => rw [if_neg (fun k => absurd k.1 (by decide))] at h; exact ⟨h, rfl⟩
  have hn := numS_ok s p 0 hp0 hp1
  unfold pcX at h ⊢
  obtain ⟨x, q, e, hN⟩ : ∃ x q e, numS s p 0 = (x, q, e) := ⟨_, _, _, rfl⟩
  rw [hN] at h hn ⊢
  simp only at h hn ⊢
  obtain ⟨x0, x1, q0, q1, hlt, _⟩ := hn
  by_cases cp : x % 2 = 1
  · rw [if_pos cp] at h ⊢
    obtain ⟨h1, h2⟩ := zero_of _ _ _ (by omega) h
    obtain ⟨h3, h4⟩ := zero_of _ _ _ (by omega) h1
    simp only at h2 h4 ⊢
    have hn2 := numS_ok s q (failS e 2 (decide (x / 2 = 0))) q0 q1
    obtain ⟨a, q2, e2, hN2⟩ : ∃ a q2 e2, numS s q (failS e 2 (decide (x / 2 = 0))) = (a, q2, e2) := ⟨_, _, _, rfl⟩
    rw [hN2] at hn2 h3 h4 ⊢
    simp only at hn2 h3 h4 ⊢
    obtain ⟨a0, a1, b0, b1, hlt2, hk⟩ := hn2
    have hz : failS e 2 (decide (x / 2 = 0)) = 0 := by
      by_cases hz : failS e 2 (decide (x / 2 = 0)) = 0
      · exact hz
      · have := hk hz; rw [h3] at this; exact this.symm
    obtain ⟨h5, h6⟩ := zero_of _ _ _ (by omega) hz
    subst h5
    have := hlt trivial rfl
    have := hlt2 hz h3
    have g2 := of_decide_eq_false h2
    have g4 := of_decide_eq_false h4
    have g6 := of_decide_eq_false h6
    exact ⟨by omega, by omega, by omega, by omega, b1, fun _ => by omega, (fun h => absurd h (by decide))⟩
  · rw [if_neg cp] at h ⊢
    obtain ⟨h1, h2⟩ := zero_of _ _ _ (by omega) h
    obtain ⟨h3, h4⟩ := zero_of _ _ _ (by omega) h1
    obtain ⟨h5, h6⟩ := zero_of _ _ _ (by omega) h3
    subst h5
    have := hlt trivial rfl
    have g2 := of_decide_eq_false h2
    have g4 := of_decide_eq_false h4
    have g6 := of_decide_eq_false h6
    simp only
    exact ⟨by omega, by omega, q0, by omega, by omega, (fun h => absurd h (by decide)), fun _ => trivial⟩
theorem apply_l0 (base s : ByteArray) (hb : base.size ≤ 1000000000) (hs : s.size ≤ 1000000000) (told : Int) (ht0 : 0 ≤ told) (ht : told ≤ 1000000000) (d : Nat) : ∀ (k : Nat) (p : Int) (o : ByteArray) (acc : List Pc), 0 ≤ p → p ≤ s.size → o = outL base s acc ⟨#[]⟩ → (o.size : Int) ≤ told → told.toNat - o.size < d → (told.toNat - o.size) + 40 ≤ k →
    graftageref04_Apply.l0 k base s base.size told p o = some (if (pcsQ s base.size told d p o.size acc).1 = 0 then (outL base s (pcsQ s base.size told d p o.size acc).2 ⟨#[]⟩, 0) else (⟨#[]⟩, (pcsQ s base.size told d p o.size acc).1)) := by
  induction d with
  | zero => intro k p o acc _ _ _ _ h; omega
  | succ d ih =>
    intro k p o acc hp0 hp1 ho hoz hd hk
    obtain ⟨k, rfl⟩ : ∃ m, k = m + 1 := ⟨k - 1, by omega⟩
    rw [graftageref04_Apply.l0, pcsQ, if_pos (by omega)]
    by_cases c : (o.size : Int) < told
    rotate_left
    · rw [if_neg c, if_neg c]
      by_cases c2 : p < (s.size : Int)
      · rw [if_pos c2, if_pos c2, if_neg (by simp)]
      · rw [if_neg c2, if_neg c2, if_pos rfl, ho]
    rw [if_pos c, if_pos c, wrap_u64_id (n := told - o.size) (by omega) (by omega), piece_eq s hs base.size told p o.size hp0 hp1 (by omega) (by omega) (by omega) (by omega) ht k (by omega), Option.bind_some]
    by_cases ce : (pcX s base.size told p o.size).1 = 0
    rotate_left
    · unfold pieceR
      rw [if_neg ce]
      simp only
      rw [if_neg ce, if_neg ce, if_neg ce]
    obtain ⟨hn1, hn2, ha, hp2, hp3, hc1, hc2⟩ := pcX_ok s base.size told p o.size hp0 hp1 (by omega) (by omega) (by omega) ce
    have hsn := outL_snoc base s (pcX s base.size told p o.size).2.2 acc ⟨#[]⟩
    rw [← ho] at hsn
    unfold pieceR
    rw [if_pos ce]
    generalize pcX s base.size told p o.size = X at *
    obtain ⟨e, p2, cp, a, n⟩ := X
    simp only at ce hn1 hn2 ha hp2 hp3 hc1 hc2 hsn
    subst ce
    cases cp with
    | true =>
      have h1 := hc1 rfl
      simp only [if_true]
      rw [if_neg (by omega), if_pos ha, wrap64_id (n := a + n) (by omega) (by omega), if_pos (by omega), if_pos (by omega)]
      have hz : (base.extract a.toNat (a + n).toNat).size = n.toNat := by rw [ByteArray.size_extract]; omega
      have hz2 : (o ++ base.extract a.toNat (a + n).toNat).size = o.size + n.toNat := by rw [size_append, hz]
      rw [if_pos (by omega)]
      simp only [if_true] at hsn
      rw [ih k p2 (o ++ base.extract a.toNat (a + n).toNat) (acc ++ [(true, a, n)]) (by omega) hp3 hsn.symm (by omega) (by omega) (by omega)]
      rw [hz2, show ((o.size + n.toNat : Nat) : Int) = (o.size : Int) + n by omega]
    | false =>
      have h1 := hc2 rfl
      simp only [Bool.false_eq_true, if_false]
      rw [if_pos (show (-1 : Int) < 0 by omega), if_pos ha, wrap64_id (n := a + n) (by omega) (by omega), if_pos (show a ≤ a + n by omega), if_pos (show a + n ≤ (s.size : Int) by omega)]
      have hz : (s.extract a.toNat (a + n).toNat).size = n.toNat := by rw [ByteArray.size_extract]; omega
      have hz2 : (o ++ s.extract a.toNat (a + n).toNat).size = o.size + n.toNat := by rw [size_append, hz]
      rw [if_pos (show o.size + (s.extract a.toNat (a + n).toNat).size ≤ 9223372036854775807 by omega)]
      simp only [Bool.false_eq_true, if_false] at hsn
      rw [h1] at *
      rw [ih k p2 (o ++ s.extract a.toNat p2.toNat) (acc ++ [(false, a, n)]) (by omega) hp3 hsn.symm (by omega) (by omega) (by omega)]
      rw [hz2, show ((o.size + n.toNat : Nat) : Int) = (o.size : Int) + n by omega]
      rfl
theorem Apply_eq (base s : ByteArray) (hb : base.size ≤ 1000000) (hs : s.size ≤ 1000000) (k : Nat) (hk : 1100000 ≤ k) : graftageref04_Apply.f k base s = some (applyS base s) := by
  unfold graftageref04_Apply.f applyS
  rw [heads_eq s (by omega) k (by omega), Option.bind_some]
  by_cases c1 : (headsR s).2.2.2 = 0
  rotate_left
  · rw [if_neg c1]
    have h := nums_heads_err s c1
    have hE : headE base s = (headsR s).2.2.2 := by
      unfold headE
      rw [h, fail_err _ _ _ c1, fail_err _ _ _ c1]
    rw [hE, if_neg c1]
  obtain ⟨h1, h2⟩ := nums_heads s c1
  have hR : applyR base s = pcsQ s base.size (headsR s).2.1 ((headsR s).2.1.toNat + 1) (headsR s).2.2.1 0 [] := by unfold applyR headM headP; rw [h2]
  have hE : headE base s = failS (failS 0 40 ((headsR s).1 != (base.size : Int))) 4 (decide (1048576 < (headsR s).2.1)) := by unfold headE; rw [h2, h1]
  obtain ⟨m1, m2, m3, m4, _, _⟩ := numS_ok s (numS s 0 0).2.1 (numS s 0 0).2.2 (numS_ok s 0 0 (by omega) (by omega)).2.2.1 (numS_ok s 0 0 (by omega) (by omega)).2.2.2.1
  rw [h2] at m1 m2 m3 m4
  simp only at m1 m2 m3 m4
  rw [if_pos c1, hR, hE, wrap_u64_id (n := (base.size : Int)) (by omega) (by omega)]
  by_cases c2 : (headsR s).1 = (base.size : Int)
  · rw [if_pos c2, show ((headsR s).1 != (base.size : Int)) = false by simp [c2], fail_false]
    by_cases c3 : 1048576 < (headsR s).2.1
    · rw [if_pos c3, decide_eq_true c3]
      rfl
    · rw [if_neg (by omega), decide_eq_false c3, fail_false, if_pos rfl, c2]
      have h := apply_l0 base s (by omega) (by omega) (headsR s).2.1 m1 (by omega) ((headsR s).2.1.toNat + 1) k (headsR s).2.2.1 ⟨#[]⟩ [] m3 m4 rfl (by show (0 : Int) ≤ _; omega) (by show _ - 0 < _; omega) (by show _ - 0 + 40 ≤ _; omega)
      exact h
  · rw [if_neg c2, show ((headsR s).1 != (base.size : Int)) = true by simpa using c2]
    have e40 : failS (failS 0 40 true) 4 (decide (1048576 < (headsR s).2.1)) = 40 := fail_err 40 _ _ (by omega)
    rw [e40, if_neg (by omega)]
end Go.Proofs.Ytggjkijgbpnhiaa.PDl
