/- The reference's Put, as the printed function has it: the plain octet_Put.g. -/
import Derived.Test.YtggjkijgbpnhiaaStrPlain
import Derived.Test.YtggjkijgbpnhiaaPDlx5
namespace Go.Proofs.Ytggjkijgbpnhiaa.PDl
open Go.Proofs.Ytggjkijgbpnhiaa.Hand
open Go.RowKit Go.Proofs.YtggjkijgbpnhiaaW.PrintWords Go.Proofs.YtggjkijgbpnhiaaW.PrintLast Go.Proofs.YtggjkijgbpnhiaaW.PrintMore
set_option linter.unusedVariables false
set_option linter.unusedSimpArgs false
theorem ref_Put_l0 (r : Nat) : ∀ (k : Nat) (b : ByteArray) (n : Int), r ≤ 9 → r + 1 ≤ k → 0 ≤ n → n < 2 * 128 ^ r → b.size + r ≤ 9223372036854770000 → graftageref01_Put.l0 k b n = some (b ++ strOfNums (vb r n)) := by
  induction r with
  | zero =>
    intro k b n _ hk h0 h1 hb
    obtain ⟨k, rfl⟩ : ∃ m, k = m + 1 := ⟨k - 1, by omega⟩
    simp at h1
    simp only [graftageref01_Put.l0, Option.bind_some, strOfNums_size, List.length_cons, List.length_nil]
    rw [if_neg (by omega), if_pos (by omega), show n % 256 = n by omega]
    rfl
  | succ r ih =>
    intro k b n hr hk h0 h1 hb
    obtain ⟨k, rfl⟩ : ∃ m, k = m + 1 := ⟨k - 1, by omega⟩
    have hp : (128 : Int) ^ r ≤ 128 ^ 8 := by exact_mod_cast Nat.pow_le_pow_right (by decide) (by omega)
    have e8 : (128 : Int) ^ 8 = 72057594037927936 := by decide
    rw [Int.pow_succ] at h1
    simp only [graftageref01_Put.l0, Option.bind_some, strOfNums_size, List.length_cons, List.length_nil]
    by_cases c : n < 128
    · rw [if_neg (by omega), if_pos (by omega), show n % 256 = n by omega, vb_small _ _ c]
    · rw [if_pos (by omega), if_pos (by omega), vb_big _ _ (by omega)]
      rw [Int.tmod_eq_emod_of_nonneg h0, Int.tdiv_eq_ediv_of_nonneg h0]
      rw [show (n % 128 % 256 + 128) % 256 = n % 128 + 128 by omega]
      rw [wrap_u64_id (by omega) (by omega)]
      rw [ih k _ (n / 128) (by omega) (by omega) (by omega) (by omega) (by rw [size_append, strOfNums_size]; simp; omega)]
      rw [append_assoc, ← strOfNums_append]
      rfl
theorem put_g (b : ByteArray) (n : Int) (h0 : 0 ≤ n) (h1 : n < 18446744073709551616) : octet_Put.g b n = b ++ strOfNums (vb 9 n) :=
  bytesOf_inj (by rw [put_bytes b n h0 h1, bytesOf_append, bytesOf_str (vb_range 9 n h0 (by simpa using h1))])
theorem ref_Put_eq (k : Nat) (hk : 10 ≤ k) (b : ByteArray) (n : Int) (hb : b.size ≤ 9223372036854760000) (h0 : 0 ≤ n) (h1 : n < 18446744073709551616) : graftageref01_Put.f k b n = some (octet_Put.g b n) := by
  rw [put_g b n h0 h1]
  exact ref_Put_l0 9 k b n (by omega) hk h0 (by simpa using h1) (by omega)

end Go.Proofs.Ytggjkijgbpnhiaa.PDl
