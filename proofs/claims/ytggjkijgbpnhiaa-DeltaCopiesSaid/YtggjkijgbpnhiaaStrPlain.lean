/- Plain laws: a string's bytes as a list of numbers. No program in sight. -/
import Derived.Test.YtggjkijgbpnhiaaOctPlain
namespace Go.Proofs.Ytggjkijgbpnhiaa.Hand
open Go.RowKit Go.Proofs.YtggjkijgbpnhiaaW.PrintWords Go.Proofs.YtggjkijgbpnhiaaW.PrintLast Go.Proofs.YtggjkijgbpnhiaaW.PrintMore
set_option linter.unusedVariables false
set_option linter.unusedSimpArgs false

theorem toList_bytes (s : ByteArray) : s.toList = s.data.toList := ByteArray.toList_eq s
theorem bytesOf_inj {s t : ByteArray} (h : bytesOf s = bytesOf t) : s = t := by
  unfold bytesOf at h
  have h2 : s.data.toList = t.data.toList := by
    refine List.map_inj_right (f := fun b : UInt8 => (b.toNat : Int)) ?_ |>.1 h
    intro x y hxy
    have hxy' : ((x.toNat : Nat) : Int) = ((y.toNat : Nat) : Int) := hxy
    exact UInt8.toNat_inj.1 (by omega)
  cases s; cases t
  simp only [ByteArray.mk.injEq]
  exact Array.toList_inj.1 h2
theorem toList_iff {s t : ByteArray} : s.toList = t.toList ↔ s = t := by
  refine ⟨fun h => ?_, fun h => by rw [h]⟩
  rw [toList_bytes, toList_bytes] at h
  cases s; cases t
  simp only [ByteArray.mk.injEq]
  exact Array.toList_inj.1 h
theorem size_bytesOf (s : ByteArray) : s.size = (bytesOf s).length := (bytesOf_length s).symm
theorem bytesOf_append (s t : ByteArray) : bytesOf (s ++ t) = bytesOf s ++ bytesOf t := by
  simp [bytesOf, ByteArray.data_append]
theorem bytesOf_range (s : ByteArray) : ∀ c ∈ bytesOf s, 0 ≤ c ∧ c ≤ 255 := by
  intro c hc
  simp only [bytesOf, List.mem_map] at hc
  obtain ⟨b, _, rfl⟩ := hc
  have := b.toNat_lt
  omega
theorem bytesOf_str {xs : List Int} (h : ∀ c ∈ xs, 0 ≤ c ∧ c ≤ 255) : bytesOf (strOfNums xs) = xs := by
  simp only [bytesOf, strOfNums, List.map_map]
  conv => rhs; rw [← List.map_id xs]
  refine List.map_congr_left fun c hc => ?_
  have := h c hc
  simp only [Function.comp, id]
  rw [UInt8.toNat_ofNat']
  omega
theorem str_bytesOf (s : ByteArray) : strOfNums (bytesOf s) = s := bytesOf_inj (bytesOf_str (bytesOf_range s))
theorem strOfNums_size (xs : List Int) : (strOfNums xs).size = xs.length := by
  show (strOfNums xs).data.size = _
  simp [strOfNums]
theorem strOfNums_append (xs ys : List Int) : strOfNums (xs ++ ys) = strOfNums xs ++ strOfNums ys := by
  have h : (strOfNums (xs ++ ys)).data = (strOfNums xs ++ strOfNums ys).data := by
    simp [strOfNums, ByteArray.data_append]
  generalize hA : strOfNums (xs ++ ys) = A at *
  generalize hB : strOfNums xs ++ strOfNums ys = B at *
  cases A; cases B
  simpa using h
theorem bytesOf_extract (s : ByteArray) (i j : Nat) : bytesOf (s.extract i j) = ((bytesOf s).drop i).take (j - i) := by
  simp [bytesOf, ByteArray.data_extract, List.extract_eq_take_drop, List.map_take, List.map_drop]
theorem bt_get (s : ByteArray) (j : Nat) : bt s (j : Int) = (bytesOf s).getD j 0 := by
  rw [← rd_bytesOf]; simp [rd]
theorem getD_bt (s : ByteArray) (p : Int) (h : 0 ≤ p) : bt s p = (bytesOf s).getD p.toNat 0 := by
  rw [← rd_bytesOf]; rfl
theorem bytesOf_empty : bytesOf (⟨#[]⟩ : ByteArray) = [] := rfl
theorem size_append (s t : ByteArray) : (s ++ t).size = s.size + t.size := by
  rw [size_bytesOf, bytesOf_append, List.length_append, bytesOf_length, bytesOf_length]
theorem append_assoc (a b c : ByteArray) : a ++ b ++ c = a ++ (b ++ c) := bytesOf_inj (by simp [bytesOf_append])

/-- Bytes that stand at a place. -/
theorem ext_of_bt (s : ByteArray) (p e : Int) (xs : List Int) (h0 : 0 ≤ p) (he : e ≤ s.size) (hl : (xs.length : Int) = e - p) (h : ∀ j : Nat, j < xs.length → xs.getD j 0 = bt s (p + j)) :
    bytesOf (s.extract p.toNat e.toNat) = xs := by
  rw [bytesOf_extract]
  have hlen : xs.length = e.toNat - p.toNat := by omega
  apply List.ext_getElem
  · rw [List.length_take, List.length_drop, bytesOf_length]; omega
  · intro j h1 h2
    have hj := h j h2
    rw [List.getD_eq_getElem?_getD, List.getElem?_eq_getElem h2, Option.getD_some] at hj
    rw [hj, getD_bt s _ (by omega), List.getElem_take, List.getElem_drop]
    have hlt : p.toNat + j < (bytesOf s).length := by rw [bytesOf_length]; omega
    rw [List.getD_eq_getElem?_getD, show (p + (j : Int)).toNat = p.toNat + j by omega, List.getElem?_eq_getElem hlt, Option.getD_some]
theorem bt_of_drop (s : ByteArray) (p : Int) (xs rest : List Int) (h0 : 0 ≤ p) (h : (bytesOf s).drop p.toNat = xs ++ rest) (j : Nat) (hj : j < xs.length) : bt s (p + j) = xs.getD j 0 := by
  rw [getD_bt s _ (by omega), show (p + (j : Int)).toNat = p.toNat + j by omega]
  have : (bytesOf s)[p.toNat + j]? = ((bytesOf s).drop p.toNat)[j]? := by rw [List.getElem?_drop]
  rw [List.getD_eq_getElem?_getD, this, h, List.getElem?_append_left hj, List.getD_eq_getElem?_getD]

theorem takeS_ok {s : ByteArray} {a n e : Int} (h : takeS s a = (n, e, 0)) : 0 ≤ a ∧ a ≤ e ∧ e ≤ s.size ∧ 0 ≤ n ∧ n < 18446744073709551616 ∧ bytesOf (s.extract a.toNat e.toNat) = vb 9 n := by
  unfold takeS at h
  by_cases c : a < 0 ∨ a > (s.size : Int)
  · rw [if_pos c] at h; simp at h
  rw [if_neg c] at h
  obtain ⟨he, m, hn, hm0, hm1, hl, hj, _⟩ := tkG_vb s 9 a 0 n e (by omega) (by omega) (by omega) h
  have hn' : n = m := by simpa using hn
  subst hn'
  have hp := vb_length_pos 9 n
  refine ⟨by omega, by omega, he, hm0, by simpa using hm1, ext_of_bt s a e _ (by omega) he hl hj⟩
theorem takeS_read {s : ByteArray} {a n : Int} {rest : List Int} (h0 : 0 ≤ a) (hn0 : 0 ≤ n) (hn1 : n < 18446744073709551616) (h : (bytesOf s).drop a.toNat = vb 9 n ++ rest) : takeS s a = (n, a + (vb 9 n).length, 0) := by
  have hl := congrArg List.length h
  have hp := vb_length_pos 9 n
  rw [List.length_drop, bytesOf_length, List.length_append] at hl
  unfold takeS
  rw [if_neg (by omega), vb_tkG s 9 a 0 n (by omega) h0 hn0 (by simpa using hn1) (by omega) (by omega) (bt_of_drop s a _ rest h0 h)]
  simp
theorem takeS_cases (s : ByteArray) (a : Int) : (takeS s a).2.2 = 0 ∨ ∃ e, takeS s a = (0, 0, e) ∧ 1 ≤ e ∧ e ≤ 3 := by
  have h : ∀ r p acc, (tkG s r p acc).2.2 = 0 ∨ ∃ e, tkG s r p acc = (0, 0, e) ∧ 1 ≤ e ∧ e ≤ 3 := by
    intro r
    induction r with
    | zero => intro p acc; exact Or.inr ⟨2, rfl, by omega, by omega⟩
    | succ r ih =>
      intro p acc
      unfold tkG
      split
      · exact Or.inr ⟨3, rfl, by omega, by omega⟩
      · split
        · exact Or.inr ⟨2, rfl, by omega, by omega⟩
        · split
          · exact Or.inl rfl
          · exact ih _ _
  unfold takeS
  split
  · exact Or.inr ⟨1, rfl, by omega, by omega⟩
  · exact h _ _ _

/-- octet.Put's bytes. -/
theorem put_bytes (b : ByteArray) (n : Int) (h0 : 0 ≤ n) (h1 : n < 18446744073709551616) : bytesOf (octet_Put.g b n) = bytesOf b ++ vb 9 n := by
  unfold octet_Put.g
  rw [vnums_vb 9 n h0 (by simpa using h1)]
  refine bytesOf_str fun c hc => ?_
  rcases List.mem_append.1 hc with h | h
  · exact bytesOf_range b c h
  · exact vb_range 9 n h0 (by simpa using h1) c h
theorem put_size (b : ByteArray) (n : Int) (h0 : 0 ≤ n) (h1 : n < 18446744073709551616) : (octet_Put.g b n).size = b.size + (vb 9 n).length := by
  rw [size_bytesOf, put_bytes b n h0 h1, List.length_append, bytesOf_length]
theorem put_f {b : ByteArray} {n : Int} (hb : b.size ≤ 140737488355000) (h0 : 0 ≤ n) (h1 : n < 18446744073709551616) : octet_Put.f b n = some (octet_Put.g b n) := by
  unfold octet_Put.f; rw [if_pos hb, if_pos h0, if_pos h1]

/-! words -/
def wordL (n : Int) : List Int := [(n / 16777216) % 256, (n / 65536) % 256, (n / 256) % 256, n % 256]
theorem wordL_range (n : Int) : ∀ c ∈ wordL n, 0 ≤ c ∧ c ≤ 255 := by
  intro c hc
  simp only [wordL, List.mem_cons, List.mem_nil_iff, or_false] at hc
  omega
def word4 (a b c d : Int) : Int := a * 16777216 + b * 65536 + c * 256 + d
theorem wordL_word4 (a b c d : Int) (ha : 0 ≤ a ∧ a ≤ 255) (hb : 0 ≤ b ∧ b ≤ 255) (hc : 0 ≤ c ∧ c ≤ 255) (hd : 0 ≤ d ∧ d ≤ 255) : wordL (word4 a b c d) = [a, b, c, d] := by
  unfold wordL word4
  simp only [List.cons.injEq, and_true]
  omega
theorem word4_wordL (n : Int) (h0 : 0 ≤ n) (h1 : n < 4294967296) : word4 ((n / 16777216) % 256) ((n / 65536) % 256) ((n / 256) % 256) (n % 256) = n := by unfold word4; omega
theorem or_u32 (i : Nat) (x y : Int) (hi : i ≤ 32) (hx0 : 0 ≤ x) (hx : x % 2 ^ i = 0) (hx1 : x < 4294967296) (hy0 : 0 ≤ y) (hy : y < 2 ^ i) : Go.bits .or .u32 x y = x + y := by
  refine bits_join .u32 32 (by decide) (fun n h0 h1 => by rw [IntKind.wrap_u32]; simp at h1; omega) i x y hx0 hx (by simpa using hx1) hy0 hy ?_
  have : (2 : Int) ^ i ≤ 2 ^ 32 := by exact_mod_cast Nat.pow_le_pow_right (by decide) hi
  omega
theorem or_word (a b c d : Int) (ha : 0 ≤ a ∧ a ≤ 255) (hb : 0 ≤ b ∧ b ≤ 255) (hc : 0 ≤ c ∧ c ≤ 255) (hd : 0 ≤ d ∧ d ≤ 255) :
    Go.bits .or .u32 (Go.bits .or .u32 (Go.bits .or .u32 (((a % 4294967296) * 16777216) % 4294967296) (((b % 4294967296) * 65536) % 4294967296)) (((c % 4294967296) * 256) % 4294967296)) (d % 4294967296) = word4 a b c d := by
  rw [show ((a % 4294967296) * 16777216) % 4294967296 = a * 16777216 by omega, show ((b % 4294967296) * 65536) % 4294967296 = b * 65536 by omega, show ((c % 4294967296) * 256) % 4294967296 = c * 256 by omega, show d % 4294967296 = d by omega]
  have h1 : Go.bits .or .u32 (a * 16777216) (b * 65536) = a * 16777216 + b * 65536 := or_u32 24 _ _ (by omega) (by omega) (by simp) (by omega) (by omega) (by simp; omega)
  rw [h1]
  have h2 : Go.bits .or .u32 (a * 16777216 + b * 65536) (c * 256) = a * 16777216 + b * 65536 + c * 256 := or_u32 16 _ _ (by omega) (by omega) (by simp; omega) (by omega) (by omega) (by simp; omega)
  rw [h2]
  have h3 : Go.bits .or .u32 (a * 16777216 + b * 65536 + c * 256) d = a * 16777216 + b * 65536 + c * 256 + d := or_u32 8 _ _ (by omega) (by omega) (by simp; omega) (by omega) (by omega) (by simp; omega)
  rw [h3]
  rfl
theorem add_word (a b c d : Int) (ha : 0 ≤ a ∧ a ≤ 255) (hb : 0 ≤ b ∧ b ≤ 255) (hc : 0 ≤ c ∧ c ≤ 255) (hd : 0 ≤ d ∧ d ≤ 255) :
    (((((((a % 4294967296) * 16777216) % 4294967296) + (((b % 4294967296) * 65536) % 4294967296)) % 4294967296) + (((c % 4294967296) * 256) % 4294967296)) % 4294967296 + (d % 4294967296)) % 4294967296 = word4 a b c d := by
  unfold word4; omega
def takeWordS (s : ByteArray) (a : Int) : Int × Int × Int :=
  if a < 0 ∨ a > (s.size : Int) then (0, 0, 1) else if (s.size : Int) - a < 4 then (0, 0, 3) else (word4 (bt s a) (bt s (a + 1)) (bt s (a + 2)) (bt s (a + 3)), a + 4, 0)
theorem takeWordS_ok {s : ByteArray} {a n e : Int} (h : takeWordS s a = (n, e, 0)) : 0 ≤ a ∧ a ≤ e ∧ e ≤ s.size ∧ 0 ≤ n ∧ n < 4294967296 ∧ bytesOf (s.extract a.toNat e.toNat) = wordL n := by
  unfold takeWordS at h
  by_cases c : a < 0 ∨ a > (s.size : Int)
  · rw [if_pos c] at h; simp at h
  rw [if_neg c] at h
  by_cases c2 : (s.size : Int) - a < 4
  · rw [if_pos c2] at h; simp at h
  rw [if_neg c2] at h
  simp only [Prod.mk.injEq, and_true] at h
  obtain ⟨rfl, rfl⟩ := h
  have b0 := bt_range s a
  have b1 := bt_range s (a + 1)
  have b2 := bt_range s (a + 2)
  have b3 := bt_range s (a + 3)
  refine ⟨by omega, by omega, by omega, by unfold word4; omega, by unfold word4; omega, ?_⟩
  rw [wordL_word4 _ _ _ _ b0 b1 b2 b3]
  refine ext_of_bt s a (a + 4) _ (by omega) (by omega) (by simp; omega) fun j hj => ?_
  match j, hj with
  | 0, _ => simp
  | 1, _ => simp
  | 2, _ => simp
  | 3, _ => simp
  | j + 4, hj => simp at hj; omega
theorem takeWordS_read {s : ByteArray} {a n : Int} {rest : List Int} (h0 : 0 ≤ a) (hn0 : 0 ≤ n) (hn1 : n < 4294967296) (h : (bytesOf s).drop a.toNat = wordL n ++ rest) : takeWordS s a = (n, a + 4, 0) := by
  have hl := congrArg List.length h
  rw [List.length_drop, bytesOf_length, List.length_append] at hl
  have hw : (wordL n).length = 4 := rfl
  rw [hw] at hl
  have b := bt_of_drop s a _ rest h0 h
  have b0 := b 0 (by rw [hw]; omega)
  have b1 := b 1 (by rw [hw]; omega)
  have b2 := b 2 (by rw [hw]; omega)
  have b3 := b 3 (by rw [hw]; omega)
  simp [wordL] at b0 b1 b2 b3
  unfold takeWordS
  rw [if_neg (by omega), if_neg (by omega), b0, b1, b2, b3, word4_wordL n hn0 hn1]

end Go.Proofs.Ytggjkijgbpnhiaa.Hand
