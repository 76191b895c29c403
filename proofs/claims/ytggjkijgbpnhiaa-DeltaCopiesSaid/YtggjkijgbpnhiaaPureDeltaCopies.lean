/- For every base and every delta the plain form of the law DeltaCopies gives true; no condition beyond the statement's own bounds. -/
import Derived.Test.YtggjkijgbpnhiaaDlLives
import Derived.Test.YtggjkijgbpnhiaaDlApplyR
import Derived.Test.YtggjkijgbpnhiaaDlCopiesR
import Derived.Test.YtggjkijgbpnhiaaStrPlain
import Derived.Test.YtggjkijgbpnhiaaPDlx9
import Derived.Test.YtggjkijgbpnhiaaPDlx2
namespace Go.Proofs.Ytggjkijgbpnhiaa.PDl
open Go.Proofs.Ytggjkijgbpnhiaa.Hand
open Go.RowKit Go.Proofs.YtggjkijgbpnhiaaW.PrintWords Go.Proofs.YtggjkijgbpnhiaaW.PrintLast Go.Proofs.YtggjkijgbpnhiaaW.PrintMore
set_option linter.unusedVariables false
/-- What the law asks of the runs, one behind the other. -/
def Good (base t : ByteArray) : Int → List S34 → Prop
  | _, [] => True
  | at_, r :: l => 1 ≤ r.f2 ∧ at_ ≤ r.f1 ∧ 0 ≤ r.f1 ∧ r.f1 + r.f2 ≤ t.size ∧ 0 ≤ r.f0 ∧ r.f0 + r.f2 ≤ base.size ∧ base.extract r.f0.toNat (r.f0 + r.f2).toNat = t.extract r.f1.toNat (r.f1 + r.f2).toNat ∧ Good base t (r.f1 + r.f2) l
def GoodP (base s : ByteArray) (x : Pc) : Prop := 1 ≤ x.2.2 ∧ 0 ≤ x.2.1 ∧ (x.1 = true → x.2.1 + x.2.2 ≤ base.size) ∧ (x.1 = false → x.2.1 + x.2.2 ≤ s.size)
theorem pcs_good (base s : ByteArray) (told : Int) (d : Nat) : ∀ (p came : Int) (acc : List Pc), 0 ≤ p → p ≤ s.size → 0 ≤ came → came ≤ told → (∀ x ∈ acc, GoodP base s x) → ∀ x ∈ (pcsQ s base.size told d p came acc).2, GoodP base s x := by
  induction d with
  | zero => intro p came acc _ _ _ _ h; exact h
  | succ d ih =>
    intro p came acc hp0 hp1 hc0 hct h
    rw [pcsQ]
    by_cases c : came < told
    · rw [if_pos c]
      by_cases ce : (pcX s base.size told p came).1 = 0
      · rw [if_pos ce]
        obtain ⟨hn1, hn2, ha, hp2, hp3, hc1, hc2⟩ := pcX_ok s base.size told p came hp0 hp1 (by omega) hc0 hct ce
        refine ih _ _ _ (by omega) hp3 (by omega) (by omega) (fun x hx => ?_)
        rcases List.mem_append.1 hx with hx | hx
        · exact h x hx
        · obtain rfl := List.mem_singleton.1 hx
          exact ⟨hn1, ha, hc1, fun h => by have := hc2 h; omega⟩
      · rw [if_neg ce]; exact h
    · rw [if_neg c]; exact h
theorem good_runs (base s : ByteArray) (l : List Pc) : ∀ (o : ByteArray) (at_ : Int), at_ ≤ o.size → (∀ x ∈ l, GoodP base s x) → (∃ r, bytesOf (outL base s l o) = bytesOf o ++ r) ∧ Good base (outL base s l o) at_ (runL l o.size) := by
  induction l with
  | nil => intro o at_ _ _; exact ⟨⟨[], by simp [outL]⟩, trivial⟩
  | cons x l ih =>
    intro o at_ hat hg
    obtain ⟨c, a, n⟩ := x
    obtain ⟨g1, g2, g3, g4⟩ := hg (c, a, n) (List.mem_cons_self ..)
    have hg' := fun x hx => hg x (List.mem_cons_of_mem _ hx)
    simp only at g1 g2 g3 g4
    simp only [outL, runL]
    cases c with
    | true =>
      have h3 := g3 rfl
      simp only [if_true]
      have hz : (base.extract a.toNat (a + n).toNat).size = n.toNat := by rw [ByteArray.size_extract]; omega
      have hz2 : (o ++ base.extract a.toNat (a + n).toNat).size = o.size + n.toNat := by rw [size_append, hz]
      obtain ⟨⟨r, hr⟩, hG⟩ := ih (o ++ base.extract a.toNat (a + n).toNat) ((o.size : Int) + n) (by omega) hg'
      have hlen := congrArg List.length hr
      rw [bytesOf_append, List.length_append, List.length_append, bytesOf_length, bytesOf_length, bytesOf_length, hz] at hlen
      rw [hz2, show ((o.size + n.toNat : Nat) : Int) = (o.size : Int) + n by omega] at hG
      refine ⟨⟨bytesOf (base.extract a.toNat (a + n).toNat) ++ r, by rw [hr, bytesOf_append, List.append_assoc]⟩, g1, hat, (show (0:Int) ≤ (o.size:Int) by omega), (show (o.size : Int) + n ≤ ((outL base s l (o ++ base.extract a.toNat (a + n).toNat)).size : Int) by omega), g2, h3, ?_, hG⟩
      apply bytesOf_inj
      show bytesOf (base.extract a.toNat (a + n).toNat) = bytesOf ((outL base s l (o ++ base.extract a.toNat (a + n).toNat)).extract ((o.size : Int)).toNat ((o.size : Int) + n).toNat)
      rw [bytesOf_extract (outL base s l (o ++ base.extract a.toNat (a + n).toNat)), hr, bytesOf_append, List.append_assoc, Int.toNat_natCast, ← bytesOf_length o, List.drop_left, show ((bytesOf o).length + n).toNat - (bytesOf o).length = n.toNat by omega]
      rw [List.take_append_of_le_length (by rw [bytesOf_length, hz]; exact Nat.le_refl _), List.take_of_length_le (by rw [bytesOf_length, hz]; exact Nat.le_refl _)]
    | false =>
      have h4 := g4 rfl
      simp only [Bool.false_eq_true, if_false]
      have hz : (s.extract a.toNat (a + n).toNat).size = n.toNat := by rw [ByteArray.size_extract]; omega
      have hz2 : (o ++ s.extract a.toNat (a + n).toNat).size = o.size + n.toNat := by rw [size_append, hz]
      obtain ⟨⟨r, hr⟩, hG⟩ := ih (o ++ s.extract a.toNat (a + n).toNat) at_ (by omega) hg'
      rw [hz2, show ((o.size + n.toNat : Nat) : Int) = (o.size : Int) + n by omega] at hG
      exact ⟨⟨bytesOf (s.extract a.toNat (a + n).toNat) ++ r, by rw [hr, bytesOf_append, List.append_assoc]⟩, hG⟩
theorem copies_loop (base t : ByteArray) (hb : base.size ≤ 1000000000) (ht : t.size ≤ 1000000000) (L : List S34) (hL : L.length ≤ 1000000000) (hl : graftagelaw04_lives.f = some true) (d : Nat) : ∀ (k i : Nat) (at_ : Int), i + d = L.length → d < k → Good base t at_ (L.drop i) → graftagelaw04_DeltaCopies.l0 k base t L at_ i = some true := by
  induction d with
  | zero =>
    intro k i at_ hi hk _
    obtain ⟨k, rfl⟩ : ∃ m, k = m + 1 := ⟨k - 1, by omega⟩
    rw [graftagelaw04_DeltaCopies.l0, if_neg (by omega), hl]; rfl
  | succ d ih =>
    intro k i at_ hi hk hG
    obtain ⟨k, rfl⟩ : ∃ m, k = m + 1 := ⟨k - 1, by omega⟩
    have hlt : i < L.length := by omega
    rw [List.drop_eq_getElem_cons hlt] at hG
    have hrd : rd_T34 L (i : Int) = L[i] := by unfold rd_T34; rw [Int.toNat_natCast, List.getD_eq_getElem?_getD, List.getElem?_eq_getElem hlt]; rfl
    rw [graftagelaw04_DeltaCopies.l0, hrd]
    obtain ⟨g1, g2, g3, g4, g5, g6, g7, g8⟩ := hG
    generalize L[i] = r at *
    obtain ⟨a, b, n⟩ := r
    simp only at g1 g2 g3 g4 g5 g6 g7 g8 ⊢
    rw [if_pos (by omega), if_pos (by omega), if_neg (by omega), if_neg (by omega), wrap64_id (n := (t.size : Int) - b) (by omega) (by omega), if_neg (by omega), if_neg (by omega), if_neg (by omega), wrap64_id (n := (base.size : Int) - n) (by omega) (by omega), if_neg (by omega), if_pos (by omega), wrap64_id (n := a + n) (by omega) (by omega), if_pos (by omega), if_pos (by omega), if_pos (by omega), wrap64_id (n := b + n) (by omega) (by omega), if_pos (by omega), if_pos (by omega), g7, if_pos rfl, wrap64_id (n := (i : Int) + 1) (by omega) (by omega)]
    exact ih k (i + 1) (b + n) (by omega) (by omega) g8
theorem failS_zero (e x : Int) (so : Bool) (hx : x ≠ 0) (h : failS e x so = 0) : e = 0 ∧ so = false := by
  unfold failS at h
  cases so with
  | true =>
    by_cases he : e = 0
    · rw [if_pos ⟨rfl, he⟩] at h; exact absurd h hx
    · rw [if_neg (fun k => he k.2)] at h; exact absurd h he
  | false => rw [if_neg (fun k => absurd k.1 (by decide))] at h; exact ⟨h, rfl⟩
theorem apply_copies (base s : ByteArray) (hb : base.size ≤ 1048576) (h : (applyS base s).2 = 0) : ∃ l, (applyS base s).1 = outL base s l ⟨#[]⟩ ∧ copiesS s = (runL l 0, 0) ∧ (∀ x ∈ l, GoodP base s x) ∧ (applyS base s).1.size ≤ 1000000000 := by
  unfold applyS at h ⊢
  by_cases hE : headE base s = 0
  rotate_left
  · rw [if_neg hE] at h; exact absurd h hE
  rw [if_pos hE] at h ⊢
  by_cases hR : (applyR base s).1 = 0
  rotate_left
  · rw [if_neg hR] at h; exact absurd h hR
  rw [if_pos hR] at h ⊢
  unfold headE at hE
  obtain ⟨h1, h2⟩ := failS_zero _ _ _ (by omega) hE
  obtain ⟨h3, h4⟩ := failS_zero _ _ _ (by omega) h1
  have hn : (numS s 0 0).1 = base.size := by simpa using h4
  have hm : headM s ≤ 1048576 := by have := of_decide_eq_false h2; unfold headM; omega
  have hD : hdE s = 0 := by
    unfold hdE
    rw [h3, hn, decide_eq_false (by unfold headM at hm; omega)]
    rfl
  have hcr : copiesR s = applyR base s := by
    unfold copiesR applyR
    have e1 : hdN s = base.size := hn
    rw [e1]
    rfl
  obtain ⟨v1, v2, v3, v4, v5, v6⟩ := hd_small s hD
  refine ⟨(applyR base s).2, rfl, ?_, ?_, ?_⟩
  · unfold copiesS
    rw [if_pos hD, hcr, if_pos hR]
  · unfold applyR
    exact pcs_good base s (headM s) _ (headP s) 0 [] v5 v6 (by omega) v3 (fun x hx => by simp at hx)
  · have hsz : ∀ (l : List Pc) (o : ByteArray), (∀ x ∈ l, GoodP base s x) → ((outL base s l o).size : Int) = o.size + (l.map (·.2.2)).sum := by
      intro l
      induction l with
      | nil => intro o _; simp [outL]
      | cons x l ih =>
        intro o hg
        obtain ⟨c, a, n⟩ := x
        obtain ⟨g1, g2, g3, g4⟩ := hg (c, a, n) (List.mem_cons_self ..)
        simp only at g1 g2 g3 g4
        simp only [outL, List.map_cons, List.sum_cons]
        rw [ih _ (fun x hx => hg x (List.mem_cons_of_mem _ hx)), size_append]
        cases c with
        | true => have := g3 rfl; simp only [if_true]; rw [ByteArray.size_extract]; omega
        | false => have := g4 rfl; simp only [Bool.false_eq_true, if_false]; rw [ByteArray.size_extract]; omega
    have hsum : ∀ (d : Nat) (p came : Int) (acc : List Pc), 0 ≤ p → p ≤ s.size → 0 ≤ came → came ≤ headM s → (acc.map (·.2.2)).sum = came → ((pcsQ s base.size (headM s) d p came acc).2.map (·.2.2)).sum ≤ headM s := by
      intro d
      induction d with
      | zero => intro p came acc _ _ _ h1 h2; show (acc.map (·.2.2)).sum ≤ _; omega
      | succ d ih =>
        intro p came acc hp0 hp1 hc0 hct h
        rw [pcsQ]
        by_cases c : came < headM s
        · rw [if_pos c]
          by_cases ce : (pcX s base.size (headM s) p came).1 = 0
          · rw [if_pos ce]
            obtain ⟨hn1, hn2, ha, hp2, hp3, hc1, hc2⟩ := pcX_ok s base.size (headM s) p came hp0 hp1 (by omega) hc0 hct ce
            exact ih _ _ _ (by omega) hp3 (by omega) (by omega) (by simp [h])
          · rw [if_neg ce]; simp only; omega
        · rw [if_neg c]; simp only; omega
    have hg : ∀ x ∈ (applyR base s).2, GoodP base s x := by
      unfold applyR
      exact pcs_good base s (headM s) _ (headP s) 0 [] v5 v6 (by omega) v3 (fun x hx => by simp at hx)
    have h5 := hsz (applyR base s).2 ⟨#[]⟩ hg
    have h6 := hsum ((headM s).toNat + 1) (headP s) 0 [] v5 v6 (by omega) v3 rfl
    have e0 : (⟨#[]⟩ : ByteArray).size = 0 := rfl
    rw [e0] at h5
    unfold applyR at h5 ⊢
    simp only
    omega
end Go.Proofs.Ytggjkijgbpnhiaa.PDl
namespace Go.Proofs.Ytggjkijgbpnhiaa.Pure
open Go.Proofs.Ytggjkijgbpnhiaa.Hand Go.Proofs.Ytggjkijgbpnhiaa.PDl
open Go.RowKit Go.Proofs.YtggjkijgbpnhiaaW.PrintWords Go.Proofs.YtggjkijgbpnhiaaW.PrintLast Go.Proofs.YtggjkijgbpnhiaaW.PrintMore
set_option linter.unusedVariables false
theorem DeltaCopies : graftagelaw04_DeltaCopies.Pure := by
  intro base s _ _
  refine ⟨(copiesS s).1.length + 3, ?_⟩
  unfold graftagelaw04_DeltaCopies.f graftagelaw04_few.f
  by_cases c : (base.size : Int) ≤ 1500
  rotate_left
  · rw [if_neg c, Option.bind_some, if_neg (by decide), lives_f]; rfl
  by_cases c2 : (s.size : Int) ≤ 1500
  rotate_left
  · rw [if_pos c, decide_eq_false c2, Option.bind_some, if_neg (by decide), lives_f]; rfl
  have e1 : delta_Apply.f base s = some (applyS base s) := by unfold delta_Apply.f; rw [if_pos (by omega), if_pos (by omega)]
  have e2 : delta_Copies.f s = some (copiesS s) := by unfold delta_Copies.f; rw [if_pos (by omega)]
  rw [if_pos c, decide_eq_true c2, Option.bind_some, if_pos rfl, e1, Option.bind_some, e2, Option.bind_some]
  by_cases c3 : (applyS base s).2 = 0
  rotate_left
  · rw [if_neg c3, lives_f]; rfl
  obtain ⟨l, h1, h2, h3, h4⟩ := apply_copies base s (by omega) c3
  have hl := copiesS_len s
  rw [if_pos c3, h2]
  simp only
  rw [h2] at hl
  simp only at hl
  rw [if_pos trivial, graftagelaw04_DeltaCopies.j0, if_neg (by decide)]
  have hG := (good_runs base s l ⟨#[]⟩ 0 (Int.le_refl _) h3).2
  rw [← h1] at hG
  exact copies_loop base _ (by omega) h4 (runL l 0) (by omega) lives_f (runL l 0).length _ 0 0 (by omega) (by omega) hG
end Go.Proofs.Ytggjkijgbpnhiaa.Pure
