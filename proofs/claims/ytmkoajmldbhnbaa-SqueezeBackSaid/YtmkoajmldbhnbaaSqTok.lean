/- Compress's bytes as a list of pieces, and what Decompress makes of such bytes: of all, of a part, of more. No program in sight. -/
import Derived.Test.YtmkoajmldbhnbaaSqScan
import Derived.Test.YtmkoajmldbhnbaaSqDec
namespace Go.Proofs.Ytmkoajmldbhnbaa.Hand
open Go.RowKit Go.Proofs.YtmkoajmldbhnbaaW.PrintWords Go.Proofs.YtmkoajmldbhnbaaW.PrintLast Go.Proofs.YtmkoajmldbhnbaaW.PrintMore
set_option linter.unusedVariables false
set_option linter.unusedSimpArgs false

/-- A number's bytes that break off. -/
theorem vb_cut (s : ByteArray) (r : Nat) : ∀ (p acc m : Int) (j : Nat), r ≤ 9 → 0 ≤ p → p ≤ s.size → 0 ≤ m → m < 2 * 128 ^ r → (r < 9 → m ≠ 0) → j < (vb r m).length → (bytesOf s).drop p.toNat = (vb r m).take j →
    tkG s (r + 1) p acc = (0, 0, 3) := by
  induction r with
  | zero =>
    intro p acc m j hr h0 hp hm0 hm1 hm2 hj h
    have hl := congrArg List.length h
    rw [List.length_drop, bytesOf_length, List.length_take] at hl
    simp [vb] at hj hl
    rw [tkG, if_pos (by omega)]
  | succ r ih =>
    intro p acc m j hr h0 hp hm0 hm1 hm2 hj h
    have hl := congrArg List.length h
    rw [List.length_drop, bytesOf_length, List.length_take] at hl
    by_cases c : j = 0
    · rw [tkG, if_pos (by omega)]
    obtain ⟨j, rfl⟩ : ∃ i, j = i + 1 := ⟨j - 1, by omega⟩
    have hbig : 128 ≤ m := by
      by_cases c2 : m < 128
      · rw [vb_small _ _ c2] at hj; simp at hj
      · omega
    rw [vb_big r m hbig] at h hj hl
    rw [List.take_succ_cons] at h
    rw [List.length_cons] at hj hl
    have hb : bt s p = m % 128 + 128 := by
      have := bt_of_drop s p [m % 128 + 128] ((vb r (m / 128)).take j) h0 (by simpa using h) 0 (by simp)
      simpa using this
    rw [tkG, if_neg (by omega), if_neg (by omega), if_neg (by omega)]
    rw [Int.pow_succ] at hm1
    refine ih (p + 1) _ (m / 128) j (by omega) (by omega) (by omega) (by omega) (by omega) (fun _ => by omega) (by omega) ?_
    rw [show (p + 1).toNat = p.toNat + 1 by omega, ← List.drop_drop, h]
    rfl
theorem takeS_cut {s : ByteArray} {a n : Int} {j : Nat} (h0 : 0 ≤ a) (ha : a ≤ s.size) (hn0 : 0 ≤ n) (hn1 : n < 18446744073709551616) (hj : j < (vb 9 n).length) (h : (bytesOf s).drop a.toNat = (vb 9 n).take j) : takeS s a = (0, 0, 3) := by
  unfold takeS
  rw [if_neg (by omega)]
  exact vb_cut s 9 a 0 n j (by omega) h0 ha hn0 (by simpa using hn1) (by omega) hj h

inductive Tok | lit (xs : List Int) | mat (n b : Nat)
def Tok.enc : Tok → List Int
  | .lit xs => vb 9 (2 * (xs.length : Int)) ++ xs
  | .mat n b => vb 9 (2 * (n : Int) + 1) ++ vb 9 (b : Int)
def Tok.app (out : List Int) : Tok → List Int
  | .lit xs => out ++ xs
  | .mat n b => copyN out b n
def Tok.ok (total : Nat) (out : List Int) : Tok → Prop
  | .lit xs => 1 ≤ xs.length ∧ out.length + xs.length ≤ total
  | .mat n b => 4 ≤ n ∧ 1 ≤ b ∧ b ≤ out.length ∧ out.length + n ≤ total
def okT (total : Nat) : List Int → List Tok → Prop
  | _, [] => True
  | out, x :: ts => x.ok total out ∧ okT total (x.app out) ts
def runT : List Int → List Tok → List Int
  | out, [] => out
  | out, x :: ts => runT (x.app out) ts
def encT : List Tok → List Int
  | [] => []
  | x :: ts => x.enc ++ encT ts

theorem tok_len (total : Nat) (out : List Int) (x : Tok) (h : x.ok total out) : out.length < (x.app out).length ∧ (x.app out).length ≤ total := by
  cases x with
  | lit xs => simp only [Tok.ok, Tok.app, List.length_append] at *; omega
  | mat n b => simp only [Tok.ok, Tok.app, copyN_length] at *; omega
theorem tok_full (P : ByteArray) (p : Int) (total : Nat) (ht : total ≤ 1000000) (out : List Int) (x : Tok) (rest : List Int) (h0 : 0 ≤ p) (h : (bytesOf P).drop p.toNat = x.enc ++ rest) (hx : x.ok total out) :
    ∃ q, pieceT (takeS P) P p out ((total : Int) - out.length) = (0, q, x.app out) ∧ 0 ≤ q ∧ (bytesOf P).drop q.toNat = rest ∧ p < q ∧ q ≤ P.size := by
  have hl := congrArg List.length h
  rw [List.length_drop, bytesOf_length, List.length_append] at hl
  cases x with
  | lit xs =>
    obtain ⟨hx1, hx2⟩ := hx
    simp only [Tok.enc] at h hl
    rw [List.length_append] at hl
    have hp := vb_length_pos 9 (2 * (xs.length : Int))
    have e := takeS_read (n := 2 * (xs.length : Int)) h0 (by omega) (by omega) (by rw [List.append_assoc] at h; exact h)
    refine ⟨p + (vb 9 (2 * (xs.length : Int))).length + xs.length, ?_, by omega, ?_, by omega, by omega⟩
    · unfold pieceT
      rw [e]
      simp only
      have hxs : bytesOf (P.extract (p + (vb 9 (2 * (xs.length : Int))).length).toNat (p + (vb 9 (2 * (xs.length : Int))).length + 2 * (xs.length : Int) / 2).toNat) = xs := by
        rw [bytesOf_extract, show (p + ((vb 9 (2 * (xs.length : Int))).length : Int)).toNat = p.toNat + (vb 9 (2 * (xs.length : Int))).length by omega, ← List.drop_drop, h, List.append_assoc, List.drop_left, show (p + (vb 9 (2 * (xs.length : Int))).length + 2 * (xs.length : Int) / 2).toNat - (p.toNat + (vb 9 (2 * (xs.length : Int))).length) = xs.length by omega, List.take_left]
      rw [if_pos trivial, if_neg (by omega), if_neg (by omega), if_neg (by omega), hxs]
      rw [show 2 * (xs.length : Int) / 2 = xs.length by omega]
      rfl
    · rw [show (p + ((vb 9 (2 * (xs.length : Int))).length : Int) + xs.length).toNat = p.toNat + ((vb 9 (2 * (xs.length : Int))).length + xs.length) by omega, ← List.drop_drop, h, ← List.length_append, List.drop_left]
  | mat n b =>
    obtain ⟨hx1, hx2, hx3, hx4⟩ := hx
    simp only [Tok.enc] at h hl
    rw [List.length_append] at hl
    have hp := vb_length_pos 9 (2 * (n : Int) + 1)
    have hp2 := vb_length_pos 9 (b : Int)
    have e := takeS_read (n := 2 * (n : Int) + 1) h0 (by omega) (by omega) (by rw [List.append_assoc] at h; exact h)
    have h2 : (bytesOf P).drop (p + (vb 9 (2 * (n : Int) + 1)).length).toNat = vb 9 (b : Int) ++ rest := by
      rw [show (p + ((vb 9 (2 * (n : Int) + 1)).length : Int)).toNat = p.toNat + (vb 9 (2 * (n : Int) + 1)).length by omega, ← List.drop_drop, h, List.append_assoc, List.drop_left]
    have e2 := takeS_read (by omega) (by omega) (by omega) h2
    refine ⟨p + (vb 9 (2 * (n : Int) + 1)).length + (vb 9 (b : Int)).length, ?_, by omega, ?_, by omega, by omega⟩
    · unfold pieceT
      rw [e]
      simp only
      rw [e2]
      simp only
      rw [if_pos trivial, if_neg (by omega), if_pos (by omega), if_pos trivial, if_neg (by omega)]
      rw [show (2 * (n : Int) + 1) / 2 = n by omega, Int.toNat_natCast, Int.toNat_natCast]
      rfl
    · rw [show (p + ((vb 9 (2 * (n : Int) + 1)).length : Int) + (vb 9 (b : Int)).length).toNat = (p + ((vb 9 (2 * (n : Int) + 1)).length : Int)).toNat + (vb 9 (b : Int)).length by omega, ← List.drop_drop, h2, List.drop_left]
theorem take_app_lt {α : Type} {A B : List α} {j : Nat} (h : j < A.length) : (A ++ B).take j = A.take j := List.take_append_of_le_length (by omega)
theorem take_app_ge {α : Type} {A B : List α} {j : Nat} (h : A.length ≤ j) : (A ++ B).take j = A ++ B.take (j - A.length) := by
  rw [List.take_append, List.take_of_length_le h]
theorem tok_cut (P : ByteArray) (p : Int) (total : Nat) (ht : total ≤ 1000000) (out : List Int) (x : Tok) (j : Nat) (h0 : 0 ≤ p) (hpz : p ≤ P.size) (hj : j < x.enc.length) (h : (bytesOf P).drop p.toNat = x.enc.take j) (hx : x.ok total out) :
    (pieceT (takeS P) P p out ((total : Int) - out.length)).1 = 3 := by
  cases x with
  | lit xs =>
    obtain ⟨hx1, hx2⟩ := hx
    simp only [Tok.enc] at h hj
    rw [List.length_append] at hj
    by_cases c : j < (vb 9 (2 * (xs.length : Int))).length
    · rw [take_app_lt c] at h
      have e := takeS_cut h0 hpz (by omega) (by omega) c h
      unfold pieceT
      rw [e]; rfl
    · rw [take_app_ge (by omega)] at h
      have e := takeS_read h0 (by omega) (by omega) h
      have hl := congrArg List.length h
      rw [List.length_drop, bytesOf_length, List.length_append, List.length_take] at hl
      unfold pieceT
      rw [e]
      simp only
      rw [if_pos trivial, if_neg (by omega), if_neg (by omega), if_pos (by omega)]
  | mat n b =>
    obtain ⟨hx1, hx2, hx3, hx4⟩ := hx
    simp only [Tok.enc] at h hj
    rw [List.length_append] at hj
    by_cases c : j < (vb 9 (2 * (n : Int) + 1)).length
    · rw [take_app_lt c] at h
      have e := takeS_cut h0 hpz (by omega) (by omega) c h
      unfold pieceT
      rw [e]; rfl
    · rw [take_app_ge (by omega)] at h
      have e := takeS_read h0 (by omega) (by omega) h
      have hl := congrArg List.length h
      rw [List.length_drop, bytesOf_length, List.length_append, List.length_take] at hl
      have h2 : (bytesOf P).drop (p + (vb 9 (2 * (n : Int) + 1)).length).toNat = (vb 9 (b : Int)).take (j - (vb 9 (2 * (n : Int) + 1)).length) := by
        rw [show (p + ((vb 9 (2 * (n : Int) + 1)).length : Int)).toNat = p.toNat + (vb 9 (2 * (n : Int) + 1)).length by omega, ← List.drop_drop, h, List.drop_left]
      have e2 := takeS_cut (by omega) (by omega) (by omega) (by omega) (by omega) h2
      unfold pieceT
      rw [e]
      simp only
      rw [e2]
      simp only
      rw [if_pos trivial, if_neg (by omega), if_pos (by omega)]
      rfl
theorem dec_full (P : ByteArray) (total : Nat) (ht : total ≤ 1000000) (rest : List Int) (ts : List Tok) : ∀ (p : Int) (out : List Int) (e : Nat), 0 ≤ p → p ≤ P.size → (bytesOf P).drop p.toNat = encT ts ++ rest → okT total out ts → (runT out ts).length = total → total - out.length < e →
    spreadQ (takeS P) P total e p out = if rest = [] then (strOfNums (runT out ts), 0) else (⟨#[]⟩, 2) := by
  induction ts with
  | nil =>
    intro p out e h0 hp h hok hr he
    obtain ⟨e, rfl⟩ : ∃ m, e = m + 1 := ⟨e - 1, by omega⟩
    simp only [runT] at hr
    simp only [encT, List.nil_append] at h
    have hl := congrArg List.length h
    rw [List.length_drop, bytesOf_length] at hl
    rw [spreadQ, if_neg (by omega)]
    by_cases c : rest = []
    · subst c
      rw [if_pos rfl, if_neg (by simp at hl; omega)]
      rfl
    · have : 0 < rest.length := List.length_pos_iff.2 c
      rw [if_neg c, if_pos (by omega)]
  | cons x ts ih =>
    intro p out e h0 hp h hok hr he
    obtain ⟨e, rfl⟩ : ∃ m, e = m + 1 := ⟨e - 1, by omega⟩
    obtain ⟨ho1, ho2⟩ := hok
    have hlen := tok_len total out x ho1
    simp only [encT, List.append_assoc] at h
    obtain ⟨q, hq1, hq0, hq2, hq3, hq4⟩ := tok_full P p total ht out x _ h0 h ho1
    rw [spreadQ, if_pos (by omega), hq1]
    simp only
    rw [if_pos trivial]
    exact ih q _ e hq0 hq4 hq2 ho2 hr (by omega)
theorem dec_cut (P : ByteArray) (total : Nat) (ht : total ≤ 1000000) (ts : List Tok) : ∀ (p : Int) (out : List Int) (e j : Nat), 0 ≤ p → p ≤ P.size → j < (encT ts).length → (bytesOf P).drop p.toNat = (encT ts).take j → okT total out ts → total - out.length < e →
    spreadQ (takeS P) P total e p out = (⟨#[]⟩, 3) := by
  induction ts with
  | nil => intro p out e j _ _ hj; simp [encT] at hj
  | cons x ts ih =>
    intro p out e j h0 hp hj h hok he
    obtain ⟨e, rfl⟩ : ∃ m, e = m + 1 := ⟨e - 1, by omega⟩
    obtain ⟨ho1, ho2⟩ := hok
    have hlen := tok_len total out x ho1
    simp only [encT] at h hj
    rw [List.length_append] at hj
    rw [spreadQ, if_pos (by omega)]
    by_cases c : j < x.enc.length
    · rw [take_app_lt c] at h
      have hc := tok_cut P p total ht out x j h0 hp c h ho1
      rw [hc]
      rfl
    · rw [take_app_ge (by omega)] at h
      obtain ⟨q, hq1, hq0, hq2, hq3, hq4⟩ := tok_full P p total ht out x _ h0 h ho1
      rw [hq1]
      simp only
      rw [if_pos trivial]
      exact ih q _ e _ hq0 hq4 (by omega) hq2 ho2 (by omega)

/-! what Compress makes -/
def litT (s : ByteArray) (f t : Nat) : List Tok := if f < t then [.lit (bytesOf (s.extract f t))] else []
def toksQ (s : ByteArray) : Nat → Nat → Nat → List Tok
  | 0, _, f => litT s f s.size
  | d + 1, t, f => if t < s.size then
      (if (bestS s t).1 < 4 then (if (t : Int) + 1 - f = 1024 then litT s f (t + 1) ++ toksQ s d (t + 1) (t + 1) else toksQ s d (t + 1) f)
       else litT s f t ++ .mat (bestS s t).1.toNat (bestS s t).2.toNat :: toksQ s d (t + (bestS s t).1.toNat) (t + (bestS s t).1.toNat))
    else litT s f s.size
theorem encT_app (xs ys : List Tok) : encT (xs ++ ys) = encT xs ++ encT ys := by
  induction xs with
  | nil => rfl
  | cons x xs ih => simp only [List.cons_append, encT, ih, List.append_assoc]
theorem runT_app (ys : List Tok) (xs : List Tok) : ∀ out, runT out (xs ++ ys) = runT (runT out xs) ys := by
  induction xs with
  | nil => intro out; rfl
  | cons x xs ih => intro out; exact ih _
theorem okT_app (total : Nat) (ys : List Tok) (xs : List Tok) : ∀ out, okT total out xs → okT total (runT out xs) ys → okT total out (xs ++ ys) := by
  induction xs with
  | nil => intro out _ h; exact h
  | cons x xs ih => intro out h h2; exact ⟨h.1, ih _ h.2 h2⟩
theorem flush_enc (s b : ByteArray) (f t : Nat) (ht : t ≤ s.size) (hs : s.size ≤ 1000000) : bytesOf (flushS s b f t) = bytesOf b ++ encT (litT s f t) := by
  unfold flushS litT
  by_cases c : f < t
  · have hz : (s.extract f t).size = t - f := by rw [ByteArray.size_extract]; omega
    rw [if_pos c, if_pos c, bytesOf_append, put_bytes _ _ (by omega) (by omega)]
    simp only [encT, Tok.enc, List.append_nil, List.append_assoc]
    rw [bytesOf_length, hz, show ((t - f : Nat) : Int) = (t : Int) - f by omega]
  · rw [if_neg c, if_neg c]; simp [encT]
theorem lit_run (s : ByteArray) (f t : Nat) (hf : f ≤ t) (ht : t ≤ s.size) : runT ((bytesOf s).take f) (litT s f t) = (bytesOf s).take t ∧ okT s.size ((bytesOf s).take f) (litT s f t) := by
  have hl := bytesOf_length s
  unfold litT
  by_cases c : f < t
  · rw [if_pos c]
    have hz : (s.extract f t).size = t - f := by rw [ByteArray.size_extract]; omega
    refine ⟨?_, ?_⟩
    · simp only [runT, Tok.app]
      rw [bytesOf_extract]
      conv => rhs; rw [← List.take_append_drop f ((bytesOf s).take t)]
      rw [List.take_take, Nat.min_eq_left hf, List.drop_take]
    · simp only [okT, Tok.ok, and_true, bytesOf_length, List.length_take]
      omega
  · rw [if_neg c]
    obtain rfl : f = t := by omega
    exact ⟨rfl, trivial⟩
theorem comp_enc (s : ByteArray) (hs : s.size ≤ 1000000) (d : Nat) : ∀ (t f : Nat) (b : ByteArray), t ≤ s.size → f ≤ t → bytesOf (compQ s d t f b) = bytesOf b ++ encT (toksQ s d t f) := by
  induction d with
  | zero => intro t f b ht hf; exact flush_enc s b f s.size (Nat.le_refl _) hs
  | succ d ih =>
    intro t f b ht hf
    rw [compQ, toksQ]
    by_cases c : t < s.size
    rotate_left
    · rw [if_neg c, if_neg c]; exact flush_enc s b f s.size (Nat.le_refl _) hs
    rw [if_pos c, if_pos c]
    obtain ⟨r1, r2, r3, r4, r5⟩ := bestS_range s t ht
    by_cases c1 : (bestS s t).1 < 4
    · rw [if_pos c1, if_pos c1]
      by_cases c2 : (t : Int) + 1 - f = 1024
      · rw [if_pos c2, if_pos c2, ih _ _ _ (by omega) (by omega), flush_enc s b f (t + 1) (by omega) hs, encT_app, List.append_assoc]
      · rw [if_neg c2, if_neg c2, ih _ _ _ (by omega) (by omega)]
    · rw [if_neg c1, if_neg c1, ih _ _ _ (by omega) (by omega), put_bytes _ _ (by omega) (by omega), put_bytes _ _ (by omega) (by omega), flush_enc s b f t (by omega) hs, encT_app]
      simp only [encT, Tok.enc, List.append_assoc]
      rw [show ((bestS s t).1.toNat : Int) = (bestS s t).1 by omega, show ((bestS s t).2.toNat : Int) = (bestS s t).2 by omega]
theorem runG_same (s : ByteArray) (a b : Int) (r : Nat) : ∀ n : Int, 0 ≤ n → (∀ j : Nat, (j : Int) < n → bt s (a + j) = bt s (b + j)) → ∀ j : Nat, (j : Int) < runG s a b r n → bt s (a + j) = bt s (b + j) := by
  induction r with
  | zero => intro n _ h; exact h
  | succ r ih =>
    intro n h0 h
    rw [runG]
    split
    · rename_i c
      refine ih (n + 1) (by omega) (fun j hj => ?_)
      by_cases e : (j : Int) = n
      · rw [e]; exact c.2
      · exact h j (by omega)
    · exact h
theorem scan_spec (s : ByteArray) (t : Nat) (i : Nat) : ∀ n b : Int, i ≤ t → (n = 0 ∨ (1 ≤ b ∧ b ≤ t ∧ n = runN s (t - b) t)) → ((scanQ s t i n b).1 = 0 ∨ (1 ≤ (scanQ s t i n b).2 ∧ (scanQ s t i n b).2 ≤ t ∧ (scanQ s t i n b).1 = runN s (t - (scanQ s t i n b).2) t)) := by
  induction i with
  | zero => intro n b _ h; exact h
  | succ i ih =>
    intro n b hi h
    rw [scanQ]
    split
    · split
      · exact ih _ _ (by omega) (Or.inr ⟨by omega, by omega, by rw [show (t : Int) - (t - i) = i by omega]⟩)
      · exact ih _ _ (by omega) h
    · exact h
theorem copy_run (l : List Int) (t b : Nat) (hb0 : 1 ≤ b) (hb : b ≤ t) (n : Nat) : t + n ≤ l.length → (∀ j, j < n → l.getD (t - b + j) 0 = l.getD (t + j) 0) → copyN (l.take t) b n = l.take (t + n) := by
  induction n with
  | zero => intro _ _; rfl
  | succ n ih =>
    intro hl h
    rw [copyN, ih (by omega) (fun j hj => h j (by omega))]
    rw [List.length_take, Nat.min_eq_left (by omega)]
    have e : (l.take (t + n)).getD (t + n - b) 0 = l.getD (t + n) 0 := by
      rw [List.getD_eq_getElem?_getD, List.getElem?_take, if_pos (by omega), show t + n - b = t - b + n by omega, ← List.getD_eq_getElem?_getD]
      exact h n (by omega)
    rw [e, ← Nat.add_assoc, List.take_add_one, List.getD_eq_getElem?_getD, List.getElem?_eq_getElem (show t + n < l.length by omega)]
    rfl
theorem toks_ok (s : ByteArray) (d : Nat) : ∀ (t f : Nat), t ≤ s.size → f ≤ t → s.size ≤ t + d → okT s.size ((bytesOf s).take f) (toksQ s d t f) ∧ runT ((bytesOf s).take f) (toksQ s d t f) = bytesOf s := by
  have hl := bytesOf_length s
  have fin : ∀ f, f ≤ s.size → okT s.size ((bytesOf s).take f) (litT s f s.size) ∧ runT ((bytesOf s).take f) (litT s f s.size) = bytesOf s := by
    intro f hf
    obtain ⟨h1, h2⟩ := lit_run s f s.size hf (Nat.le_refl _)
    exact ⟨h2, by rw [h1, List.take_of_length_le (by omega)]⟩
  induction d with
  | zero => intro t f ht hf hd; exact fin f (by omega)
  | succ d ih =>
    intro t f ht hf hd
    rw [toksQ]
    by_cases c : t < s.size
    rotate_left
    · rw [if_neg c]; exact fin f (by omega)
    rw [if_pos c]
    obtain ⟨r1, r2, r3, r4, r5⟩ := bestS_range s t ht
    have hsp := scan_spec s t t 0 0 (Nat.le_refl _) (Or.inl rfl)
    rw [← bestS_scan] at hsp
    by_cases c1 : (bestS s t).1 < 4
    · rw [if_pos c1]
      by_cases c2 : (t : Int) + 1 - f = 1024
      · rw [if_pos c2]
        obtain ⟨h1, h2⟩ := lit_run s f (t + 1) (by omega) (by omega)
        obtain ⟨h3, h4⟩ := ih (t + 1) (t + 1) (by omega) (by omega) (by omega)
        exact ⟨okT_app _ _ _ _ h2 (by rw [h1]; exact h3), by rw [runT_app, h1]; exact h4⟩
      · rw [if_neg c2]; exact ih (t + 1) f (by omega) (by omega) (by omega)
    · rw [if_neg c1]
      rcases hsp with hsp | ⟨hs1, hs2, hs3⟩
      · omega
      obtain ⟨h1, h2⟩ := lit_run s f t hf ht
      obtain ⟨h3, h4⟩ := ih (t + (bestS s t).1.toNat) (t + (bestS s t).1.toNat) (by omega) (by omega) (by omega)
      have hcp : copyN ((bytesOf s).take t) (bestS s t).2.toNat (bestS s t).1.toNat = (bytesOf s).take (t + (bestS s t).1.toNat) := by
        refine copy_run _ t _ (by omega) (by omega) _ (by omega) (fun j hj => ?_)
        have := runG_same s ((t : Int) - (bestS s t).2) t 258 0 (by omega) (fun j hj => absurd hj (by omega)) j (by have : (runG s ((t : Int) - (bestS s t).2) t 258 0) = (bestS s t).1 := hs3.symm; omega)
        rw [getD_bt s _ (by omega), getD_bt s _ (by omega)] at this
        rw [show t - (bestS s t).2.toNat + j = ((t : Int) - (bestS s t).2 + j).toNat by omega, show t + j = ((t : Int) + j).toNat by omega]
        exact this
      refine ⟨okT_app _ _ _ _ h2 ?_, ?_⟩
      · rw [h1]
        refine ⟨⟨by omega, by omega, by rw [List.length_take]; omega, by rw [List.length_take]; omega⟩, ?_⟩
        show okT s.size (copyN _ _ _) _
        rw [hcp]; exact h3
      · rw [runT_app, h1]
        show runT (copyN _ _ _) _ = _
        rw [hcp]; exact h4
theorem compS_enc (s : ByteArray) (hs : s.size ≤ 1000000) : ∃ ts, bytesOf (compS s) = vb 9 s.size ++ encT ts ∧ okT s.size [] ts ∧ runT [] ts = bytesOf s := by
  obtain ⟨h1, h2⟩ := toks_ok s s.size 0 0 (by omega) (by omega) (by omega)
  refine ⟨toksQ s s.size 0 0, ?_, by simpa using h1, by simpa using h2⟩
  unfold compS
  rw [comp_enc s hs _ _ _ _ (by omega) (by omega), put_bytes _ _ (by omega) (by omega), bytesOf_empty, List.nil_append]
/-- What Decompress makes of Compress's bytes with more behind them. -/
theorem dec_comp (s P : ByteArray) (hs : s.size ≤ 1000000) (rest : List Int) (h : bytesOf P = bytesOf (compS s) ++ rest) : decS (takeS P) P s.size = if rest = [] then (s, 0) else (⟨#[]⟩, 2) := by
  obtain ⟨ts, h1, h2, h3⟩ := compS_enc s hs
  rw [h1, List.append_assoc] at h
  have hp := vb_length_pos 9 (s.size : Int)
  have e := takeS_read (s := P) (a := 0) (n := s.size) (rest := encT ts ++ rest) (by omega) (by omega) (by omega) (by simpa using h)
  have hl := congrArg List.length h
  rw [bytesOf_length, List.length_append, List.length_append] at hl
  unfold decS
  rw [e]
  simp only
  rw [if_pos trivial, if_neg (by omega), dec_full P s.size hs rest ts _ [] _ (by omega) (by omega) ?_ h2 (by rw [h3, bytesOf_length]) (by simp), h3, str_bytesOf]
  rw [h, show (0 + ((vb 9 (s.size : Int)).length : Int)).toNat = (vb 9 (s.size : Int)).length by omega, List.drop_left]
theorem dec_less (s P : ByteArray) (hs : s.size ≤ 1000000) (j : Nat) (hj : j < (compS s).size) (h : bytesOf P = (bytesOf (compS s)).take j) : decS (takeS P) P s.size = (⟨#[]⟩, 3) := by
  obtain ⟨ts, h1, h2, h3⟩ := compS_enc s hs
  have hz := bytesOf_length (compS s)
  rw [h1, List.length_append] at hz
  rw [h1] at h
  have hp := vb_length_pos 9 (s.size : Int)
  unfold decS
  by_cases c : j < (vb 9 (s.size : Int)).length
  · rw [take_app_lt c] at h
    have e := takeS_cut (s := P) (a := 0) (n := s.size) (j := j) (by omega) (by omega) (by omega) (by omega) c (by simpa using h)
    rw [e]; rfl
  · rw [take_app_ge (by omega)] at h
    have e := takeS_read (s := P) (a := 0) (n := s.size) (by omega) (by omega) (by omega) (by simpa using h)
    have hl := congrArg List.length h
    rw [bytesOf_length, List.length_append] at hl
    rw [e]
    simp only
    rw [if_pos trivial, if_neg (by omega)]
    refine dec_cut P s.size hs ts _ [] _ (j - (vb 9 (s.size : Int)).length) (by omega) (by omega) (by omega) ?_ h2 (by simp)
    rw [h, show (0 + ((vb 9 (s.size : Int)).length : Int)).toNat = (vb 9 (s.size : Int)).length by omega, List.drop_left]
theorem dec_small (s : ByteArray) (hs : s.size ≤ 1000000) : decS (takeS (compS s)) (compS s) ((s.size : Int) - 1) = (⟨#[]⟩, 4) := by
  obtain ⟨ts, h1, h2, h3⟩ := compS_enc s hs
  have e := takeS_read (s := compS s) (a := 0) (n := s.size) (rest := encT ts) (by omega) (by omega) (by omega) (by simpa using h1)
  unfold decS
  rw [e]
  simp only
  rw [if_pos trivial, if_pos (Or.inr (by omega))]
end Go.Proofs.Ytmkoajmldbhnbaa.Hand
