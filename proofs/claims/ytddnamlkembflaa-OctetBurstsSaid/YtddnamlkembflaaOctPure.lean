/- octet's printed functions as plain ones. -/
import Derived.Test.YtddnamlkembflaaOctTake
import Derived.Test.YtddnamlkembflaaCrc
import Derived.Test.YtddnamlkembflaaPOctx1
import Derived.Test.YtddnamlkembflaaPOctx2
import Derived.Test.YtddnamlkembflaaPOctx3
import Derived.Test.YtddnamlkembflaaPOctx5
namespace Go.Proofs.Ytddnamlkembflaa.POct
open Go.Proofs.Ytddnamlkembflaa.Hand
open Go.RowKit Go.Proofs.YtddnamlkembflaaW.PrintWords Go.Proofs.YtddnamlkembflaaW.PrintLast Go.Proofs.YtddnamlkembflaaW.PrintMore
set_option linter.unusedVariables false
set_option linter.unusedSimpArgs false

/-! ## numbers and texts -/
theorem ref_Put_l0 (r : Nat) : ∀ (k : Nat) (b : ByteArray) (n : Int), r ≤ 9 → r + 1 ≤ k → 0 ≤ n → n < 2 * 128 ^ r → b.size + r ≤ 9223372036854770000 → graftageref01_Put.l0 k b n = some (b ++ strOfNums (vb r n)) := by
  induction r with
  | zero =>
    intro k b n _ hk h0 h1 hb
    obtain ⟨k, rfl⟩ : ∃ m, k = m + 1 := ⟨k - 1, by omega⟩
    simp at h1
    simp only [graftageref01_Put.l0, Option.bind_some, strOfNums_size, List.length_cons, List.length_nil]
    rw [if_neg (by omega), if_pos (by omega), show n % 256 = n by omega]
    rfl
  | succ r ih =>
    intro k b n hr hk h0 h1 hb
    obtain ⟨k, rfl⟩ : ∃ m, k = m + 1 := ⟨k - 1, by omega⟩
    have hp : (128 : Int) ^ r ≤ 128 ^ 8 := by exact_mod_cast Nat.pow_le_pow_right (by decide) (by omega)
    have e8 : (128 : Int) ^ 8 = 72057594037927936 := by decide
    rw [Int.pow_succ] at h1
    simp only [graftageref01_Put.l0, Option.bind_some, strOfNums_size, List.length_cons, List.length_nil]
    by_cases c : n < 128
    · rw [if_neg (by omega), if_pos (by omega), show n % 256 = n by omega, vb_small _ _ c]
    · rw [if_pos (by omega), if_pos (by omega), vb_big _ _ (by omega)]
      rw [Int.tmod_eq_emod_of_nonneg h0, Int.tdiv_eq_ediv_of_nonneg h0]
      rw [show (n % 128 % 256 + 128) % 256 = n % 128 + 128 by omega]
      rw [wrap_u64_id (by omega) (by omega)]
      rw [ih k _ (n / 128) (by omega) (by omega) (by omega) (by omega) (by rw [size_append, strOfNums_size]; simp; omega)]
      rw [append_assoc, ← strOfNums_append]
      rfl
theorem put_g (b : ByteArray) (n : Int) (h0 : 0 ≤ n) (h1 : n < 18446744073709551616) : octet_Put.g b n = b ++ strOfNums (vb 9 n) :=
  bytesOf_inj (by rw [put_bytes b n h0 h1, bytesOf_append, bytesOf_str (vb_range 9 n h0 (by simpa using h1))])
theorem ref_Put_eq (k : Nat) (hk : 10 ≤ k) (b : ByteArray) (n : Int) (hb : b.size ≤ 9223372036854760000) (h0 : 0 ≤ n) (h1 : n < 18446744073709551616) : graftageref01_Put.f k b n = some (octet_Put.g b n) := by
  rw [put_g b n h0 h1]
  exact ref_Put_l0 9 k b n (by omega) hk h0 (by simpa using h1) (by omega)

theorem word_f (b : ByteArray) (n : Int) (hb : b.size ≤ 9223372036854770000) : octet_Word.f b n = some (b ++ strOfNums (wordL n)) := by
  unfold octet_Word.f
  simp only [Option.bind_some]
  rw [if_pos (by rw [strOfNums_size]; simp; omega)]
  rfl
theorem ref_word_f (b : ByteArray) (n : Int) (hb : b.size ≤ 9223372036854770000) : graftageref01_Word.f b n = some (b ++ strOfNums (wordL n)) := word_f b n hb
theorem vb9_len (n : Int) : (vb 9 n).length ≤ 10 := vb_length_le 9 n
def textS (b s : ByteArray) : ByteArray := octet_Put.g b s.size ++ s
theorem text_f (b s : ByteArray) (hb : b.size ≤ 140737488355000) (hs : s.size ≤ 140737488355328) : octet_Text.f b s = some (textS b s) := by
  unfold octet_Text.f
  rw [if_pos (by omega), put_f hb (by omega) (by omega)]
  simp only [Option.bind_some]
  rw [if_pos (by rw [put_size _ _ (by omega) (by omega)]; have := vb9_len (s.size : Int); omega)]
  rfl
theorem ref_text_f (k : Nat) (hk : 10 ≤ k) (b s : ByteArray) (hb : b.size ≤ 140737488355000) (hs : s.size ≤ 140737488355328) : graftageref01_Text.f k b s = some (textS b s) := by
  unfold graftageref01_Text.f
  rw [if_pos (by omega), ref_Put_eq k hk b _ (by omega) (by omega) (by omega)]
  simp only [Option.bind_some]
  rw [if_pos (by rw [put_size _ _ (by omega) (by omega)]; have := vb9_len (s.size : Int); omega)]
  rfl
theorem text_bytes (b s : ByteArray) (hs : s.size ≤ 140737488355328) : bytesOf (textS b s) = bytesOf b ++ (vb 9 s.size ++ bytesOf s) := by
  unfold textS
  rw [bytesOf_append, put_bytes _ _ (by omega) (by omega), List.append_assoc]

/-! ## TakeText, TakeWord -/
def takeTextS (s : ByteArray) (a : Int) : ByteArray × Int × Int :=
  if (takeS s a).2.2 = 0 then (if (takeS s a).1 > 1048576 then (⟨#[]⟩, 0, 4) else if (takeS s a).1 > s.size - (takeS s a).2.1 then (⟨#[]⟩, 0, 3) else
    (s.extract (takeS s a).2.1.toNat ((takeS s a).2.1 + (takeS s a).1).toNat, (takeS s a).2.1 + (takeS s a).1, 0)) else (⟨#[]⟩, 0, (takeS s a).2.2)
theorem takeText_of (s : ByteArray) (hs : s.size ≤ 9223372036854770000) (a : Int) (x : Option (Int × Int × Int)) (hx : x = some (takeS s a)) :
    (x.bind fun bt101 => (if bt101.2.2 = 0 then (if bt101.1 > 1048576 then (some ((⟨#[]⟩ : ByteArray), 0, 4)) else (if (wrap64 (bt101.1)) > (wrap64 ((s.size : Int) - bt101.2.1)) then (some ((⟨#[]⟩ : ByteArray), 0, 3)) else (if 0 ≤ bt101.2.1 then (if bt101.2.1 ≤ (wrap64 (bt101.2.1 + (wrap64 (bt101.1)))) then (if (wrap64 (bt101.2.1 + (wrap64 (bt101.1)))) ≤ (s.size : Int) then (some (s.extract (bt101.2.1 : Int).toNat ((wrap64 (bt101.2.1 + (wrap64 (bt101.1)))) : Int).toNat, wrap64 (bt101.2.1 + (wrap64 (bt101.1))), 0)) else (none)) else (none)) else (none)))) else (some ((⟨#[]⟩ : ByteArray), 0, bt101.2.2)))) = some (takeTextS s a) := by
  subst hx
  simp only [Option.bind_some]
  unfold takeTextS
  by_cases c : (takeS s a).2.2 = 0
  · rw [if_pos c, if_pos c]
    obtain ⟨h0, h1, h2, h3, h4, _⟩ := takeS_ok (s := s) (a := a) (n := (takeS s a).1) (e := (takeS s a).2.1) (by rw [← c])
    by_cases c2 : (takeS s a).1 > 1048576
    · rw [if_pos c2, if_pos c2]
    rw [if_neg c2, if_neg c2, wrap64_id (n := (takeS s a).1) (by omega) (by omega), wrap64_id (n := (s.size : Int) - (takeS s a).2.1) (by omega) (by omega)]
    by_cases c3 : (takeS s a).1 > (s.size : Int) - (takeS s a).2.1
    · rw [if_pos c3, if_pos c3]
    rw [if_neg c3, if_neg c3, wrap64_id (n := (takeS s a).2.1 + (takeS s a).1) (by omega) (by omega), if_pos (by omega), if_pos (by omega), if_pos (by omega)]
  · rw [if_neg c, if_neg c]
theorem takeText_f (k : Nat) (hk : 24 ≤ k) (s : ByteArray) (hs : s.size ≤ 9223372036854770000) (a : Int) : octet_TakeText.f k s a = some (takeTextS s a) :=
  takeText_of s hs a _ (octet_Take_eq s (by omega) a k hk)
theorem ref_takeText_f (k : Nat) (hk : 24 ≤ k) (s : ByteArray) (hs : s.size ≤ 9223372036854770000) (a : Int) : graftageref01_TakeText.f k s a = some (takeTextS s a) :=
  takeText_of s hs a _ (graftageref01_Take_eq s (by omega) a k hk)

theorem takeWord_f (k : Nat) (hk : 1 ≤ k) (s : ByteArray) (hs : s.size ≤ 9223372036854770000) (a : Int) : octet_TakeWord.f k s a = some (takeWordS s a) := by
  obtain ⟨k, rfl⟩ : ∃ m, k = m + 1 := ⟨k - 1, by omega⟩
  unfold octet_TakeWord.f takeWordS
  by_cases h : a < 0
  · rw [if_pos h, if_pos (Or.inl h)]; rfl
  rw [if_neg h]
  by_cases h' : a > (s.size : Int)
  · rw [if_pos (Or.inr h'), decide_eq_true h']; rfl
  rw [if_neg (by omega), decide_eq_false h']
  simp only [octet_TakeWord.j0]
  rw [if_neg (by decide), wrap64_id (n := (s.size : Int) - a) (by omega) (by omega)]
  by_cases c : (s.size : Int) - a < 4
  · rw [if_pos c, if_pos c]
  rw [if_neg c, if_neg c, wrap64_id (n := a + 1) (by omega) (by omega), wrap64_id (n := a + 2) (by omega) (by omega), wrap64_id (n := a + 3) (by omega) (by omega), wrap64_id (n := a + 4) (by omega) (by omega)]
  rw [if_pos (by omega), if_pos (by omega), if_pos (by omega), if_pos (by omega), if_pos (by omega), if_pos (by omega), if_pos (by omega), if_pos (by omega)]
  rw [or_word _ _ _ _ (bt_range s a) (bt_range s (a + 1)) (bt_range s (a + 2)) (bt_range s (a + 3))]
theorem ref_takeWord_f (k : Nat) (hk : 1 ≤ k) (s : ByteArray) (hs : s.size ≤ 9223372036854770000) (a : Int) : graftageref01_TakeWord.f k s a = some (takeWordS s a) := by
  obtain ⟨k, rfl⟩ : ∃ m, k = m + 1 := ⟨k - 1, by omega⟩
  unfold graftageref01_TakeWord.f takeWordS
  by_cases h : a < 0
  · rw [if_pos h, if_pos (Or.inl h)]; rfl
  rw [if_neg h]
  by_cases h' : a > (s.size : Int)
  · rw [if_pos (Or.inr h'), decide_eq_true h']; rfl
  rw [if_neg (by omega), decide_eq_false h']
  simp only [graftageref01_TakeWord.j0]
  rw [if_neg (by decide), wrap64_id (n := (s.size : Int) - a) (by omega) (by omega)]
  by_cases c : (s.size : Int) - a < 4
  · rw [if_pos c, if_pos c]
  rw [if_neg c, if_neg c, wrap64_id (n := a + 1) (by omega) (by omega), wrap64_id (n := a + 2) (by omega) (by omega), wrap64_id (n := a + 3) (by omega) (by omega), wrap64_id (n := a + 4) (by omega) (by omega)]
  rw [if_pos (by omega), if_pos (by omega), if_pos (by omega), if_pos (by omega), if_pos (by omega), if_pos (by omega), if_pos (by omega), if_pos (by omega)]
  rw [add_word _ _ _ _ (bt_range s a) (bt_range s (a + 1)) (bt_range s (a + 2)) (bt_range s (a + 3))]

theorem lives_k : graftagelaw01_lives.f 200 = some true := by
  unfold graftagelaw01_lives.f octet_Open.f
  simp only [ByteArray.toList_eq]
  kernel_rfl
theorem lives_f (k : Nat) (hk : 200 ≤ k) : graftagelaw01_lives.f k = some true := at_rounds (g := fun k => graftagelaw01_lives.f k) graftagelaw01_lives.mono hk lives_k

end Go.Proofs.Ytddnamlkembflaa.POct
