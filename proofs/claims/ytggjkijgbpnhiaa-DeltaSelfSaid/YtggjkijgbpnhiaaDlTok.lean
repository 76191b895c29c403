/- Make's bytes as a list of pieces, and what pieces makes of them. No program in sight. -/
import Derived.Test.YtggjkijgbpnhiaaDlApplyR
import Derived.Test.YtggjkijgbpnhiaaDlMake
import Derived.Test.YtggjkijgbpnhiaaDlCopies
import Derived.Test.YtggjkijgbpnhiaaStrPlain
import Derived.Test.YtggjkijgbpnhiaaPDlx4
namespace Go.Proofs.Ytggjkijgbpnhiaa.PDl
open Go.Proofs.Ytggjkijgbpnhiaa.Hand
open Go.RowKit Go.Proofs.YtggjkijgbpnhiaaW.PrintWords Go.Proofs.YtggjkijgbpnhiaaW.PrintLast Go.Proofs.YtggjkijgbpnhiaaW.PrintMore
set_option linter.unusedVariables false
set_option linter.unusedSimpArgs false

inductive Tok | lit (xs : List Int) | mat (n a : Nat)
def Tok.enc : Tok → List Int
  | .lit xs => vb 9 (2 * (xs.length : Int)) ++ xs
  | .mat n a => vb 9 (2 * (n : Int) + 1) ++ vb 9 (a : Int)
def Tok.len : Tok → Nat
  | .lit xs => xs.length
  | .mat n _ => n
def Tok.app (base : ByteArray) (out : List Int) : Tok → List Int
  | .lit xs => out ++ xs
  | .mat n a => out ++ bytesOf (base.extract a (a + n))
def Tok.ok (base : ByteArray) (told came : Nat) : Tok → Prop
  | .lit xs => 1 ≤ xs.length ∧ xs.length ≤ 1024 ∧ came + xs.length ≤ told
  | .mat n a => 1 ≤ n ∧ a + n ≤ base.size ∧ came + n ≤ told
def okT (base : ByteArray) (told : Nat) : Nat → List Tok → Prop
  | _, [] => True
  | c, x :: ts => x.ok base told c ∧ okT base told (c + x.len) ts
def runT (base : ByteArray) : List Int → List Tok → List Int
  | out, [] => out
  | out, x :: ts => runT base (x.app base out) ts
def lenT : List Tok → Nat
  | [] => 0
  | x :: ts => x.len + lenT ts
def encT : List Tok → List Int
  | [] => []
  | x :: ts => x.enc ++ encT ts
/-- The runs among the pieces. -/
def cpT : List Tok → Int → List S34
  | [], _ => []
  | .lit xs :: ts, b => cpT ts (b + xs.length)
  | .mat n a :: ts, b => ⟨a, b, n⟩ :: cpT ts (b + n)

theorem numS_read {s : ByteArray} {p n : Int} {rest : List Int} (h0 : 0 ≤ p) (hn0 : 0 ≤ n) (hn1 : n < 18446744073709551616) (h : (bytesOf s).drop p.toNat = vb 9 n ++ rest) : numS s p 0 = (n, p + (vb 9 n).length, 0) := by
  rw [numS_zero, takeS_read h0 hn0 hn1 h, if_pos rfl]
theorem tok_pc (P base : ByteArray) (hb : base.size ≤ 1048576) (p : Int) (told came : Nat) (ht : told ≤ 1048576) (x : Tok) (rest : List Int) (h0 : 0 ≤ p) (h : (bytesOf P).drop p.toNat = x.enc ++ rest) (hx : x.ok base told came) :
    ∃ q c a, pcX P base.size told p came = (0, q, (c, a, (x.len : Int))) ∧ p < q ∧ q ≤ P.size ∧ (bytesOf P).drop q.toNat = rest ∧ 0 ≤ a ∧
      (∀ o : ByteArray, bytesOf (outL base P [(c, a, (x.len : Int))] o) = x.app base (bytesOf o)) ∧ (∀ b, runL [(c, a, (x.len : Int))] b = cpT [x] b) := by
  have hl := congrArg List.length h
  rw [List.length_drop, bytesOf_length, List.length_append] at hl
  cases x with
  | lit xs =>
    obtain ⟨hx1, hx2, hx3⟩ := hx
    simp only [Tok.enc] at h hl
    rw [List.length_append] at hl
    have hp := vb_length_pos 9 (2 * (xs.length : Int))
    have e := numS_read (n := 2 * (xs.length : Int)) h0 (by omega) (by omega) (by rw [List.append_assoc] at h; exact h)
    refine ⟨p + (vb 9 (2 * (xs.length : Int))).length + xs.length, false, p + (vb 9 (2 * (xs.length : Int))).length, ?_, by omega, by omega, ?_, by omega, ?_, ?_⟩
    · unfold pcX
      rw [e]
      simp only
      rw [if_neg (by omega), decide_eq_false (by omega), fail_false, decide_eq_false (by omega), fail_false, decide_eq_false (by omega), fail_false]
      rw [show 2 * (xs.length : Int) / 2 = xs.length by omega]
      rfl
    · rw [show (p + ((vb 9 (2 * (xs.length : Int))).length : Int) + xs.length).toNat = p.toNat + ((vb 9 (2 * (xs.length : Int))).length + xs.length) by omega, ← List.drop_drop, h, ← List.length_append, List.drop_left]
    · intro o
      simp only [outL, Tok.len, Tok.app, Bool.false_eq_true, if_false]
      rw [bytesOf_append, bytesOf_extract, show (p + ((vb 9 (2 * (xs.length : Int))).length : Int)).toNat = p.toNat + (vb 9 (2 * (xs.length : Int))).length by omega, ← List.drop_drop, h, List.append_assoc, List.drop_left, show (p + (vb 9 (2 * (xs.length : Int))).length + (xs.length : Int)).toNat - (p.toNat + (vb 9 (2 * (xs.length : Int))).length) = xs.length by omega, List.take_left]
    · intro b; rfl
  | mat n a =>
    obtain ⟨hx1, hx2, hx3⟩ := hx
    simp only [Tok.enc] at h hl
    rw [List.length_append] at hl
    have hp := vb_length_pos 9 (2 * (n : Int) + 1)
    have hp2 := vb_length_pos 9 (a : Int)
    have e := numS_read (n := 2 * (n : Int) + 1) h0 (by omega) (by omega) (by rw [List.append_assoc] at h; exact h)
    have h2 : (bytesOf P).drop (p + (vb 9 (2 * (n : Int) + 1)).length).toNat = vb 9 (a : Int) ++ rest := by
      rw [show (p + ((vb 9 (2 * (n : Int) + 1)).length : Int)).toNat = p.toNat + (vb 9 (2 * (n : Int) + 1)).length by omega, ← List.drop_drop, h, List.append_assoc, List.drop_left]
    have e2 := numS_read (by omega) (by omega) (by omega) h2
    refine ⟨p + (vb 9 (2 * (n : Int) + 1)).length + (vb 9 (a : Int)).length, true, a, ?_, by omega, by omega, ?_, by omega, ?_, ?_⟩
    · unfold pcX
      rw [e]
      simp only
      have ez : failS 0 2 (decide ((2 * (n : Int) + 1) / 2 = 0)) = 0 := by rw [decide_eq_false (by omega)]; rfl
      rw [if_pos (by omega), ez, e2]
      simp only
      rw [decide_eq_false (by omega), fail_false, decide_eq_false (by omega), fail_false, Int.min_eq_left (by omega)]
      rw [show (2 * (n : Int) + 1) / 2 = n by omega]
      rfl
    · rw [show (p + ((vb 9 (2 * (n : Int) + 1)).length : Int) + (vb 9 (a : Int)).length).toNat = (p + ((vb 9 (2 * (n : Int) + 1)).length : Int)).toNat + (vb 9 (a : Int)).length by omega, ← List.drop_drop, h2, List.drop_left]
    · intro o
      simp only [outL, Tok.len, Tok.app, if_true]
      rw [bytesOf_append, show ((a : Int)).toNat = a from Int.toNat_natCast a, show ((a : Int) + (n : Int)).toNat = a + n by omega]
    · intro b; rfl
theorem outL_app (base s : ByteArray) (xs ys : List Pc) : ∀ o, outL base s (xs ++ ys) o = outL base s ys (outL base s xs o) := by
  induction xs with
  | nil => intro o; rfl
  | cons x xs ih => intro o; exact ih _
theorem runL_app (xs ys : List Pc) : ∀ b, runL (xs ++ ys) b = runL xs b ++ runL ys (b + (xs.map (·.2.2)).sum) := by
  induction xs with
  | nil => intro b; simp [runL]
  | cons x xs ih =>
    intro b
    simp only [List.cons_append, runL, List.map_cons, List.sum_cons]
    rw [ih, Int.add_assoc]
    split <;> simp
theorem cpT_cons (x : Tok) (ts : List Tok) (b : Int) : cpT (x :: ts) b = cpT [x] b ++ cpT ts (b + x.len) := by
  cases x <;> simp [cpT, Tok.len]
/-- What pieces makes of the bytes of such a list. -/
theorem toks_pcs (P base : ByteArray) (hb : base.size ≤ 1048576) (told : Nat) (ht : told ≤ 1048576) (ts : List Tok) : ∀ (p : Int) (came d : Nat) (acc : List Pc), 0 ≤ p → p ≤ P.size → (bytesOf P).drop p.toNat = encT ts → okT base told came ts → came + lenT ts = told → lenT ts < d →
    ∃ l : List Pc, pcsQ P base.size told d p came acc = (0, acc ++ l) ∧ (∀ o : ByteArray, bytesOf (outL base P l o) = runT base (bytesOf o) ts) ∧ (∀ b, runL l b = cpT ts b) ∧ (l.map (·.2.2)).sum = lenT ts := by
  induction ts with
  | nil =>
    intro p came d acc h0 hp h hok hl hd
    obtain ⟨d, rfl⟩ : ∃ m, d = m + 1 := ⟨d - 1, by omega⟩
    simp only [lenT] at hl
    simp only [encT] at h
    have hz := congrArg List.length h
    rw [List.length_drop, bytesOf_length] at hz
    simp at hz
    refine ⟨[], ?_, fun o => rfl, fun b => rfl, rfl⟩
    rw [pcsQ, if_neg (by omega), if_neg (by omega), List.append_nil]
  | cons x ts ih =>
    intro p came d acc h0 hp h hok hl hd
    obtain ⟨d, rfl⟩ : ∃ m, d = m + 1 := ⟨d - 1, by omega⟩
    obtain ⟨ho1, ho2⟩ := hok
    simp only [lenT] at hl hd
    have hx1 : 1 ≤ x.len := by cases x <;> simp only [Tok.ok, Tok.len] at * <;> omega
    obtain ⟨q, c, a, hpc, hq1, hq2, hq3, ha, hout, hrun⟩ := tok_pc P base hb p told came ht x (encT ts) h0 h ho1
    obtain ⟨l, hl1, hl2, hl3, hl4⟩ := ih q (came + x.len) d (acc ++ [(c, a, (x.len : Int))]) (by omega) hq2 hq3 ho2 (by omega) (by omega)
    refine ⟨(c, a, (x.len : Int)) :: l, ?_, fun o => ?_, fun b => ?_, ?_⟩
    · rw [pcsQ, if_pos (by omega), hpc]
      simp only
      rw [if_pos trivial, show (came : Int) + (x.len : Int) = ((came + x.len : Nat) : Int) by omega, hl1, List.append_assoc]
      rfl
    · rw [show (c, a, (x.len : Int)) :: l = [(c, a, (x.len : Int))] ++ l from rfl, outL_app, hl2, hout]; rfl
    · rw [show (c, a, (x.len : Int)) :: l = [(c, a, (x.len : Int))] ++ l from rfl, runL_app, hrun, hl3, cpT_cons x ts b]
      simp
    · simp [hl4, lenT]

/-! what Make lays -/
def litT (s : ByteArray) : Nat → Nat → Nat → List Tok
  | 0, _, _ => []
  | d + 1, f, t => if f < t then .lit (bytesOf (s.extract f (f + min 1024 (t - f)))) :: litT s d (f + min 1024 (t - f)) t else []
def mkT (s base : ByteArray) : Nat → Nat → Nat → List Tok
  | 0, _, f => litT s (s.size - f) f s.size
  | d + 1, i, f => if i < s.size then
      (if (findS base base.size (s.extract i s.size)).2 = 0 then mkT s base d (i + 1) f
       else litT s (i - f) f i ++ .mat (findS base base.size (s.extract i s.size)).2.toNat (findS base base.size (s.extract i s.size)).1.toNat :: mkT s base d (i + (findS base base.size (s.extract i s.size)).2.toNat) (i + (findS base base.size (s.extract i s.size)).2.toNat))
    else litT s (s.size - f) f s.size
theorem encT_app (xs ys : List Tok) : encT (xs ++ ys) = encT xs ++ encT ys := by
  induction xs with
  | nil => rfl
  | cons x xs ih => simp only [List.cons_append, encT, ih, List.append_assoc]
theorem runT_app (base : ByteArray) (ys : List Tok) (xs : List Tok) : ∀ out, runT base out (xs ++ ys) = runT base (runT base out xs) ys := by
  induction xs with
  | nil => intro out; rfl
  | cons x xs ih => intro out; exact ih _
theorem lenT_app (xs ys : List Tok) : lenT (xs ++ ys) = lenT xs + lenT ys := by
  induction xs with
  | nil => simp [lenT]
  | cons x xs ih => simp only [List.cons_append, lenT, ih]; omega
theorem okT_app (base : ByteArray) (told : Nat) (ys : List Tok) (xs : List Tok) : ∀ c, okT base told c xs → okT base told (c + lenT xs) ys → okT base told c (xs ++ ys) := by
  induction xs with
  | nil => intro c _ h; exact h
  | cons x xs ih => intro c h h2; exact ⟨h.1, ih _ h.2 (by rw [Nat.add_assoc]; exact h2)⟩
theorem lit_all (s base : ByteArray) (hs : s.size ≤ 1048576) (d : Nat) : ∀ (f t : Nat) (o : ByteArray), f ≤ t → t ≤ s.size → t - f ≤ d →
    bytesOf (layQ s d f t o) = bytesOf o ++ encT (litT s d f t) ∧ lenT (litT s d f t) = t - f ∧ okT base s.size f (litT s d f t) ∧ runT base ((bytesOf s).take f) (litT s d f t) = (bytesOf s).take t ∧ (∀ b, cpT (litT s d f t) b = []) := by
  have hl := bytesOf_length s
  induction d with
  | zero =>
    intro f t o hf ht hd
    obtain rfl : f = t := by omega
    exact ⟨by simp [layQ, litT, encT], by simp [litT, lenT], trivial, rfl, fun b => rfl⟩
  | succ d ih =>
    intro f t o hf ht hd
    rw [layQ, litT]
    by_cases c : f < t
    rotate_left
    · obtain rfl : f = t := by omega
      rw [if_neg c, if_neg c]
      exact ⟨by simp [encT], by simp [lenT], trivial, rfl, fun b => rfl⟩
    rw [if_pos c, if_pos c]
    obtain ⟨n, hn⟩ : ∃ n, min 1024 (t - f) = n := ⟨_, rfl⟩
    rw [hn]
    have hn1 : 1 ≤ n := by omega
    have hn2 : n ≤ 1024 := by omega
    have hn3 : f + n ≤ t := by omega
    have hz : (bytesOf (s.extract f (f + n))).length = n := by rw [bytesOf_length, ByteArray.size_extract]; omega
    obtain ⟨h1, h2, h3, h4, h5⟩ := ih (f + n) t (o ++ octet_Put.g ⟨#[]⟩ (2 * (n : Int)) ++ s.extract f (f + n)) hn3 ht (by omega)
    refine ⟨?_, ?_, ⟨⟨by rw [hz]; exact hn1, by rw [hz]; exact hn2, by rw [hz]; omega⟩, by simp only [Tok.len]; rw [hz]; exact h3⟩, ?_, fun b => ?_⟩
    · rw [h1, bytesOf_append, bytesOf_append, put_bytes _ _ (by omega) (by omega)]
      simp only [encT, Tok.enc, hz, bytesOf_empty, List.nil_append, List.append_assoc]
    · simp only [lenT, Tok.len, hz, h2]; omega
    · simp only [runT, Tok.app]
      have e : (bytesOf s).take f ++ bytesOf (s.extract f (f + n)) = (bytesOf s).take (f + n) := by
        rw [bytesOf_extract]
        conv => rhs; rw [← List.take_append_drop f ((bytesOf s).take (f + n))]
        rw [List.take_take, Nat.min_eq_left (by omega), List.drop_take]
      rw [e]; exact h4
    · simp only [cpT]; exact h5 _
theorem mat_same (s t : ByteArray) (p : Int) (r : Nat) : ∀ k : Int, 0 ≤ k → ∀ j : Int, k ≤ j → j < matG s t p r k → p + j < s.size ∧ j < t.size ∧ bt s (p + j) = bt t j := by
  induction r with
  | zero => intro k _ j h1 h2; simp only [matG] at h2; omega
  | succ r ih =>
    intro k h0 j h1 h2
    rw [matG] at h2
    split at h2
    · rename_i c
      by_cases e : j = k
      · subst e; exact c
      · exact ih (k + 1) (by omega) j (by omega) h2
    · omega
/-- What the finder finds stands there. -/
theorem find_spec (base t : ByteArray) : (findS base base.size t).2 = 0 ∨ (8 ≤ (findS base base.size t).2 ∧ 0 ≤ (findS base base.size t).1 ∧ (findS base base.size t).1 + (findS base base.size t).2 ≤ base.size ∧ (findS base base.size t).2 ≤ t.size ∧
    ∀ j : Int, 0 ≤ j → j < (findS base base.size t).2 → bt base ((findS base base.size t).1 + j) = bt t j) := by
  unfold findS
  by_cases c : t.size < 8
  · rw [if_pos c]; exact Or.inl rfl
  rw [if_neg c]
  have key : ∀ zs : List Int, (∀ x ∈ zs, 0 ≤ x ∧ x + 8 ≤ base.size ∧ ∀ j : Int, 0 ≤ j → j < 8 → bt base (x + j) = bt t j) → ∀ a n : Int, (n = 0 ∨ (8 ≤ n ∧ 0 ≤ a ∧ a + n ≤ base.size ∧ n ≤ t.size ∧ ∀ j : Int, 0 ≤ j → j < n → bt base (a + j) = bt t j)) →
      ((findL base t zs a n).2 = 0 ∨ (8 ≤ (findL base t zs a n).2 ∧ 0 ≤ (findL base t zs a n).1 ∧ (findL base t zs a n).1 + (findL base t zs a n).2 ≤ base.size ∧ (findL base t zs a n).2 ≤ t.size ∧ ∀ j : Int, 0 ≤ j → j < (findL base t zs a n).2 → bt base ((findL base t zs a n).1 + j) = bt t j)) := by
    intro zs
    induction zs with
    | nil => intro _ a n h; exact h
    | cons p zs ih =>
      intro hm a n h
      obtain ⟨p0, p1, p2⟩ := hm p (List.mem_cons_self ..)
      have hm' := fun x hx => hm x (List.mem_cons_of_mem _ hx)
      have hr := matG_range base t p t.size 8
      have hnew : 8 ≤ matN base t p ∧ 0 ≤ p ∧ p + matN base t p ≤ base.size ∧ matN base t p ≤ t.size ∧ ∀ j : Int, 0 ≤ j → j < matN base t p → bt base (p + j) = bt t j := by
        have h8 : 8 ≤ matN base t p := hr.1
        refine ⟨h8, p0, ?_, hr.2 (by omega), fun j h0 hj => ?_⟩
        · by_cases e : matN base t p = 8
          · omega
          · have := (mat_same base t p t.size 8 (by omega) (matN base t p - 1) (by omega) (by show matN base t p - 1 < matN base t p; omega)).1
            omega
        · by_cases e : j < 8
          · exact p2 j h0 e
          · exact (mat_same base t p t.size 8 (by omega) j (by omega) hj).2.2
      rw [findL]
      split
      · split
        · exact Or.inr hnew
        · exact ih hm' _ _ (Or.inr hnew)
      · split
        · exact h
        · exact ih hm' _ _ h
  refine key _ (fun x hx => ?_) 0 0 (Or.inl rfl)
  have go : ∀ m : Nat, x ∈ posS base m (t.extract 0 8) → 0 ≤ x ∧ x + 8 ≤ base.size ∧ base.extract x.toNat (x.toNat + 8) = t.extract 0 8 := by
    intro m
    induction m with
    | zero => intro h; simp [posS] at h
    | succ m ih =>
      intro h
      rw [posS] at h
      rcases List.mem_append.1 h with h | h
      · exact ih h
      · split at h
        · rename_i c2
          simp at h
          subst h
          exact ⟨by omega, by omega, by rw [Int.toNat_natCast]; exact c2.2⟩
        · simp at h
  obtain ⟨g1, g2, g3⟩ := go _ hx
  refine ⟨g1, g2, fun j h0 hj => ?_⟩
  have e := congrArg bytesOf g3
  rw [bytesOf_extract, bytesOf_extract] at e
  have e2 := congrArg (fun l => l.getD j.toNat 0) e
  simp only [List.getD_eq_getElem?_getD, List.getElem?_take, List.getElem?_drop, List.drop_zero] at e2
  rw [if_pos (by omega), if_pos (by omega)] at e2
  rw [getD_bt base _ (by omega), getD_bt t _ h0, List.getD_eq_getElem?_getD, List.getD_eq_getElem?_getD, show (x + j).toNat = x.toNat + j.toNat by omega]
  exact e2
theorem mk_all (s base : ByteArray) (hs : s.size ≤ 1048576) (hb : base.size ≤ 1048576) (d : Nat) : ∀ (i f : Nat) (o : ByteArray), f ≤ i → i ≤ s.size → s.size ≤ i + d →
    bytesOf (makeQ s base d i f o) = bytesOf o ++ encT (mkT s base d i f) ∧ lenT (mkT s base d i f) = s.size - f ∧ okT base s.size f (mkT s base d i f) ∧ runT base ((bytesOf s).take f) (mkT s base d i f) = bytesOf s := by
  have hl := bytesOf_length s
  have fin : ∀ (f : Nat) (o : ByteArray), f ≤ s.size → bytesOf (layQ s (s.size - f) f s.size o) = bytesOf o ++ encT (litT s (s.size - f) f s.size) ∧ lenT (litT s (s.size - f) f s.size) = s.size - f ∧ okT base s.size f (litT s (s.size - f) f s.size) ∧ runT base ((bytesOf s).take f) (litT s (s.size - f) f s.size) = bytesOf s := by
    intro f o hf
    obtain ⟨h1, h2, h3, h4, _⟩ := lit_all s base hs (s.size - f) f s.size o hf (Nat.le_refl _) (Nat.le_refl _)
    exact ⟨h1, h2, h3, by rw [h4, List.take_of_length_le (by omega)]⟩
  induction d with
  | zero => intro i f o hf hi hd; exact fin f o (by omega)
  | succ d ih =>
    intro i f o hf hi hd
    rw [makeQ, mkT]
    by_cases c : i < s.size
    rotate_left
    · rw [if_neg c, if_neg c]; exact fin f o (by omega)
    rw [if_pos c, if_pos c]
    by_cases c2 : (findS base base.size (s.extract i s.size)).2 = 0
    · rw [if_pos c2, if_pos c2]; exact ih (i + 1) f o (by omega) (by omega) (by omega)
    · rw [if_neg c2, if_neg c2]
      have hsp := (find_spec base (s.extract i s.size)).resolve_left c2
      rw [ByteArray.size_extract] at hsp
      generalize findS base base.size (s.extract i s.size) = X at *
      obtain ⟨a, n⟩ := X
      simp only at hsp ⊢
      obtain ⟨n8, a0, a1, n1, hbt⟩ := hsp
      obtain ⟨n, rfl⟩ : ∃ x : Nat, n = x := Int.eq_ofNat_of_zero_le (by omega)
      obtain ⟨a, rfl⟩ : ∃ x : Nat, a = x := Int.eq_ofNat_of_zero_le a0
      rw [Int.toNat_natCast, Int.toNat_natCast]
      obtain ⟨h1, h2, h3, h4, _⟩ := lit_all s base hs (i - f) f i o hf (by omega) (by omega)
      obtain ⟨g1, g2, g3, g4⟩ := ih (i + n) (i + n) (layQ s (i - f) f i o ++ octet_Put.g (octet_Put.g ⟨#[]⟩ (2 * (n : Int) + 1)) a) (Nat.le_refl _) (by omega) (by omega)
      have hcp : (bytesOf s).take i ++ bytesOf (base.extract a (a + n)) = (bytesOf s).take (i + n) := by
        have hlb := bytesOf_length base
        apply List.ext_getElem?
        intro j
        rw [bytesOf_extract]
        by_cases cj : j < i
        · rw [List.getElem?_append_left (by rw [List.length_take]; omega), List.getElem?_take, if_pos cj, List.getElem?_take, if_pos (by omega)]
        · rw [List.getElem?_append_right (by rw [List.length_take]; omega), List.length_take, Nat.min_eq_left (by omega), List.getElem?_take, List.getElem?_drop, List.getElem?_take]
          by_cases cn : j < i + n
          · rw [if_pos (by omega), if_pos cn]
            have e := hbt ((j - i : Nat) : Int) (by omega) (by omega)
            rw [getD_bt base _ (by omega), getD_bt _ _ (by omega), bytesOf_extract, List.getD_eq_getElem?_getD, List.getD_eq_getElem?_getD, List.getElem?_take, if_pos (by omega), List.getElem?_drop, show ((a : Int) + ((j - i : Nat) : Int)).toNat = a + (j - i) by omega, show i + (((j - i : Nat) : Int)).toNat = j by omega, List.getElem?_eq_getElem (by omega), List.getElem?_eq_getElem (by omega)] at e
            rw [List.getElem?_eq_getElem (by omega), List.getElem?_eq_getElem (by omega)]
            exact congrArg some e
          · rw [if_neg (by omega), if_neg cn]
      refine ⟨?_, ?_, okT_app base s.size _ _ f h3 (by rw [h2, show f + (i - f) = i by omega]; exact ⟨⟨by omega, by omega, by omega⟩, g3⟩), ?_⟩
      · rw [g1, bytesOf_append, h1, encT_app, put_bytes _ _ (by omega) (by omega), put_bytes _ _ (by omega) (by omega)]
        simp only [encT, Tok.enc, bytesOf_empty, List.nil_append, List.append_assoc]
      · rw [lenT_app, h2]
        simp only [lenT, Tok.len, g2]
        omega
      · rw [runT_app, h4]
        show runT base ((bytesOf s).take i ++ bytesOf (base.extract a (a + n))) _ = _
        rw [hcp]; exact g4
theorem make_enc (base s : ByteArray) (hs : s.size ≤ 1048576) (hb : base.size ≤ 1048576) : bytesOf (delta_Make.g base s) = vb 9 base.size ++ (vb 9 s.size ++ encT (mkT s base s.size 0 0)) ∧ lenT (mkT s base s.size 0 0) = s.size ∧ okT base s.size 0 (mkT s base s.size 0 0) ∧ runT base [] (mkT s base s.size 0 0) = bytesOf s := by
  unfold delta_Make.g
  rw [if_neg (by omega)]
  obtain ⟨h1, h2, h3, h4⟩ := mk_all s base hs hb s.size 0 0 (octet_Put.g (octet_Put.g ⟨#[]⟩ (base.size : Int)) (s.size : Int)) (Nat.le_refl _) (Nat.zero_le _) (by omega)
  refine ⟨?_, by rw [h2]; omega, h3, by simpa using h4⟩
  unfold makeS
  rw [h1, put_bytes _ _ (by omega) (by omega), put_bytes _ _ (by omega) (by omega), bytesOf_empty, List.nil_append, List.append_assoc]
/-- The two numbers at the head of what Make lays. -/
theorem make_head (base s : ByteArray) (hs : s.size ≤ 1048576) (hb : base.size ≤ 1048576) : numS (delta_Make.g base s) 0 0 = ((base.size : Int), ((vb 9 (base.size : Int)).length : Int), 0) ∧
    numS (delta_Make.g base s) (numS (delta_Make.g base s) 0 0).2.1 (numS (delta_Make.g base s) 0 0).2.2 = ((s.size : Int), ((vb 9 (base.size : Int)).length : Int) + (vb 9 (s.size : Int)).length, 0) := by
  obtain ⟨h1, _, _, _⟩ := make_enc base s hs hb
  have e1 := numS_read (s := delta_Make.g base s) (p := 0) (n := base.size) (by omega) (by omega) (by omega) (by simpa using h1)
  rw [Int.zero_add] at e1
  refine ⟨e1, ?_⟩
  rw [e1]
  simp only
  exact numS_read (by omega) (by omega) (by omega) (by rw [h1, Int.toNat_natCast, List.drop_left])
theorem make_pcs (base s : ByteArray) (hs : s.size ≤ 1048576) (hb : base.size ≤ 1048576) : ∃ l : List Pc, pcsQ (delta_Make.g base s) base.size s.size (s.size + 1) (((vb 9 (base.size : Int)).length : Int) + (vb 9 (s.size : Int)).length) 0 [] = (0, l) ∧ outL base (delta_Make.g base s) l ⟨#[]⟩ = s ∧ runL l 0 = cpT (mkT s base s.size 0 0) 0 := by
  obtain ⟨h1, h2, h3, h4⟩ := make_enc base s hs hb
  have hz := bytesOf_length (delta_Make.g base s)
  rw [h1, List.length_append, List.length_append] at hz
  obtain ⟨l, g1, g2, g3, _⟩ := toks_pcs (delta_Make.g base s) base hb s.size hs (mkT s base s.size 0 0) (((vb 9 (base.size : Int)).length : Int) + (vb 9 (s.size : Int)).length) 0 (s.size + 1) [] (by omega) (by omega)
    (by rw [h1, show (((vb 9 (base.size : Int)).length : Int) + ((vb 9 (s.size : Int)).length : Int)).toNat = (vb 9 (base.size : Int)).length + (vb 9 (s.size : Int)).length by omega, ← List.drop_drop, List.drop_left, List.drop_left]) h3 (by omega) (by omega)
  refine ⟨l, by simpa using g1, bytesOf_inj ?_, g3 0⟩
  rw [g2, bytesOf_empty, h4]
theorem apply_make (base s : ByteArray) (hs : s.size ≤ 1048576) (hb : base.size ≤ 1048576) : applyS base (delta_Make.g base s) = (s, 0) := by
  obtain ⟨e1, e2⟩ := make_head base s hs hb
  obtain ⟨l, g1, g2, g3⟩ := make_pcs base s hs hb
  have hE : headE base (delta_Make.g base s) = 0 := by
    unfold headE
    rw [e2, e1]
    simp only
    rw [show ((base.size : Int) != (base.size : Int)) = false by simp, fail_false, decide_eq_false (by omega), fail_false]
  have hR : applyR base (delta_Make.g base s) = (0, l) := by
    unfold applyR headM headP
    rw [e2]
    simp only
    rw [Int.toNat_natCast]
    exact g1
  unfold applyS
  rw [hE, if_pos rfl, hR]
  simp only
  rw [if_pos trivial, g2]
theorem make_sizes (base s : ByteArray) (hs : s.size ≤ 1048576) (hb : base.size ≤ 1048576) : hdE (delta_Make.g base s) = 0 ∧ hdN (delta_Make.g base s) = base.size ∧ hdM (delta_Make.g base s) = s.size ∧ hdP (delta_Make.g base s) = ((vb 9 (base.size : Int)).length : Int) + (vb 9 (s.size : Int)).length := by
  obtain ⟨e1, e2⟩ := make_head base s hs hb
  unfold hdE hdN hdM hdP
  rw [e2, e1]
  simp only
  rw [decide_eq_false (by omega), fail_false]
  refine ⟨?_, ?_, ?_, ?_⟩ <;> first | rfl | trivial
theorem copies_make (base s : ByteArray) (hs : s.size ≤ 1048576) (hb : base.size ≤ 1048576) : copiesS (delta_Make.g base s) = (cpT (mkT s base s.size 0 0) 0, 0) := by
  obtain ⟨e1, e2, e3, e4⟩ := make_sizes base s hs hb
  obtain ⟨l, g1, g2, g3⟩ := make_pcs base s hs hb
  have hR : copiesR (delta_Make.g base s) = (0, l) := by
    unfold copiesR
    rw [e2, e3, e4, Int.toNat_natCast]
    exact g1
  unfold copiesS
  rw [e1, if_pos rfl, hR]
  simp only
  rw [if_pos trivial, g3]
theorem layQ_most (s : ByteArray) (f : Nat) (o : ByteArray) : (layQ s (s.size - f) f s.size o).size ≤ o.size + 11 * s.size := by
  have := layQ_size s (s.size - f) f s.size o (Nat.le_refl _)
  omega
theorem makeQ_size (s base : ByteArray) (hb : base.size ≤ 1048576) (d : Nat) : ∀ (i f : Nat) (o : ByteArray), f ≤ i → i ≤ s.size → o.size ≤ 30 + 41 * f → (makeQ s base d i f o).size ≤ 30 + 52 * s.size := by
  induction d with
  | zero => intro i f o hf hi ho; have := layQ_most s f o; show (layQ s (s.size - f) f s.size o).size ≤ _; omega
  | succ d ih =>
    intro i f o hf hi ho
    rw [makeQ]
    split
    · split
      · exact ih (i + 1) f o (by omega) (by omega) ho
      · rename_i c c2
        have hsp := (find_spec base (s.extract i s.size)).resolve_left c2
        rw [ByteArray.size_extract] at hsp
        generalize findS base base.size (s.extract i s.size) = X at *
        obtain ⟨a, n⟩ := X
        simp only at hsp ⊢
        have h1 := layQ_size s (i - f) f i o (by omega)
        have h2 := putE_size (2 * n + 1)
        have h3 := putG_size (octet_Put.g ⟨#[]⟩ (2 * n + 1)) a
        exact ih _ _ _ (Nat.le_refl _) (by omega) (by rw [size_append]; omega)
    · have := layQ_most s f o; omega
theorem make_size (base s : ByteArray) (hb : base.size ≤ 1048576) (hs : s.size ≤ 1048576) : (delta_Make.g base s).size ≤ 100000000 := by
  unfold delta_Make.g
  rw [if_neg (by omega)]
  have h1 := putE_size (base.size : Int)
  have h2 := putG_size (octet_Put.g ⟨#[]⟩ (base.size : Int)) (s.size : Int)
  have := makeQ_size s base hb s.size 0 0 (octet_Put.g (octet_Put.g ⟨#[]⟩ (base.size : Int)) (s.size : Int)) (Nat.le_refl _) (Nat.zero_le _) (by omega)
  unfold makeS
  omega
end Go.Proofs.Ytggjkijgbpnhiaa.PDl
