/- For every string the plain form of the law OctetSums gives true; no condition beyond the statement's own bound on the string. -/
import Derived.Test.YtddnamlkembflaaOctPure
import Derived.Test.YtddnamlkembflaaPOctx6
namespace Go.Proofs.Ytddnamlkembflaa.Pure
open Go.Proofs.Ytddnamlkembflaa.Hand Go.Proofs.Ytddnamlkembflaa.POct
open Go.RowKit Go.Proofs.YtddnamlkembflaaW.PrintWords Go.Proofs.YtddnamlkembflaaW.PrintLast Go.Proofs.YtddnamlkembflaaW.PrintMore
set_option linter.unusedVariables false
set_option linter.unusedSimpArgs false

/-! one byte -/
theorem sum_l1 (s : ByteArray) (len i : Int) (hi0 : 0 ≤ i) (hi1 : i ≤ 9223372036854775000) (d : Nat) : ∀ (k : Nat) (v : BitVec 32) (j : Int), j = 8 - d → d ≤ 8 → octet_Sum.l1 (k + d + 1) s (crcN v) len i j = octet_Sum.l0 k s (crcN (bitSteps d v)) len (i + 1) := by
  induction d with
  | zero =>
    intro k v j hj _
    rw [Nat.add_zero, octet_Sum.l1]
    rw [if_neg (by omega), wrap64_id (by omega) (by omega)]
    rfl
  | succ d ih =>
    intro k v j hj hd
    rw [show k + (d + 1) + 1 = (k + d + 1) + 1 by omega]
    rw [octet_Sum.l1]
    rw [if_pos (by omega), wrap64_id (n := j + 1) (by omega) (by omega), and_one, bitSteps, bitStep, half_n]
    by_cases c : crcN v % 2 = 1
    · rw [if_pos c, if_pos ((low_n v).1 c), poly_n, xor_bv]
      exact ih k _ _ (by omega) (by omega)
    · rw [if_neg c, if_neg (fun h => c ((low_n v).2 h))]
      exact ih k _ _ (by omega) (by omega)
theorem ref_sum_l1 (s : ByteArray) (i : Int) (hi0 : 0 ≤ i) (hi1 : i ≤ 9223372036854775000) (d : Nat) : ∀ (k : Nat) (v : BitVec 32) (j : Int), j = 8 - d → d ≤ 8 → graftageref01_Sum.l1 (k + d + 1) s (crcN v) i j = graftageref01_Sum.l0 k s (crcN (bitSteps d v)) (i + 1) := by
  induction d with
  | zero =>
    intro k v j hj _
    rw [Nat.add_zero, graftageref01_Sum.l1]
    rw [if_neg (by omega), wrap64_id (by omega) (by omega)]
    rfl
  | succ d ih =>
    intro k v j hj hd
    have hv := crcN_range v
    rw [show k + (d + 1) + 1 = (k + d + 1) + 1 by omega]
    rw [graftageref01_Sum.l1]
    rw [if_pos (by omega), wrap64_id (n := j + 1) (by omega) (by omega), Int.tmod_eq_emod_of_nonneg hv.1, Int.tdiv_eq_ediv_of_nonneg hv.1, show crcN v / 2 % 4294967296 = crcN v / 2 by omega, bitSteps, bitStep, half_n]
    by_cases c : crcN v % 2 = 1
    · rw [if_pos c, if_pos ((low_n v).1 c), poly_n, xor_bv]
      exact ih k _ _ (by omega) (by omega)
    · rw [if_neg c, if_neg (fun h => c ((low_n v).2 h))]
      exact ih k _ _ (by omega) (by omega)

theorem drop_cons (s : ByteArray) (i : Int) (h0 : 0 ≤ i) (h1 : i < s.size) : (bytesOf s).drop i.toNat = bt s i :: (bytesOf s).drop (i + 1).toNat := by
  have hlt : i.toNat < (bytesOf s).length := by rw [bytesOf_length]; omega
  rw [List.drop_eq_getElem_cons hlt, getD_bt s i h0, List.getD_eq_getElem?_getD, List.getElem?_eq_getElem hlt, show (i + 1).toNat = i.toNat + 1 by omega]
  rfl

theorem sum_l0 (s : ByteArray) (hs : s.size ≤ 9223372036854770000) (d : Nat) : ∀ (k : Nat) (v : BitVec 32) (i : Int), 0 ≤ i → (s.size : Int) - i = d → octet_Sum.l0 (k + 10 * d + 1) s (crcN v) s.size i = some (crcN (crcL v ((bytesOf s).drop i.toNat) ^^^ BitVec.allOnes 32)) := by
  induction d with
  | zero =>
    intro k v i h0 h1
    rw [Nat.mul_zero, Nat.add_zero, octet_Sum.l0]
    rw [if_neg (by omega), List.drop_eq_nil_of_le (by rw [bytesOf_length]; omega), ones_n, xor_bv, BitVec.xor_comm]
    rfl
  | succ d ih =>
    intro k v i h0 h1
    rw [show k + 10 * (d + 1) + 1 = (k + 10 * d + 1 + 8 + 1) + 1 by omega]
    have hb := bt_range s i
    rw [octet_Sum.l0]
    rw [if_pos (by omega), if_pos h0, if_pos (by omega), xor_byte _ _ hb.1 hb.2, sum_l1 s s.size i h0 (by omega) 8 (k + 10 * d + 1) _ 0 (by omega) (by omega), ih k _ (i + 1) (by omega) (by omega), drop_cons s i h0 (by omega)]
    rfl
theorem ref_sum_l0 (s : ByteArray) (hs : s.size ≤ 9223372036854770000) (d : Nat) : ∀ (k : Nat) (v : BitVec 32) (i : Int), 0 ≤ i → (s.size : Int) - i = d → graftageref01_Sum.l0 (k + 10 * d + 1) s (crcN v) i = some (crcN (crcL v ((bytesOf s).drop i.toNat) ^^^ BitVec.allOnes 32)) := by
  induction d with
  | zero =>
    intro k v i h0 h1
    rw [Nat.mul_zero, Nat.add_zero, graftageref01_Sum.l0]
    rw [if_neg (by omega), List.drop_eq_nil_of_le (by rw [bytesOf_length]; omega), ones_n, xor_bv]
    rfl
  | succ d ih =>
    intro k v i h0 h1
    rw [show k + 10 * (d + 1) + 1 = (k + 10 * d + 1 + 8 + 1) + 1 by omega]
    have hb := bt_range s i
    rw [graftageref01_Sum.l0]
    rw [if_pos (by omega), if_pos h0, xor_byte _ _ hb.1 hb.2, ref_sum_l1 s i h0 (by omega) 8 (k + 10 * d + 1) _ 0 (by omega) (by omega), ih k _ (i + 1) (by omega) (by omega), drop_cons s i h0 (by omega)]
    rfl

theorem sum_f (s : ByteArray) (hs : s.size ≤ 9223372036854770000) (k : Nat) (hk : 10 * s.size + 1 ≤ k) : octet_Sum.f k s = some (sumS s) := by
  obtain ⟨m, rfl⟩ : ∃ m, k = m + 10 * s.size + 1 := ⟨k - (10 * s.size + 1), by omega⟩
  unfold octet_Sum.f
  rw [ones_n, sum_l0 s hs s.size m _ 0 (by omega) (by omega)]
  rfl
theorem ref_sum_f (s : ByteArray) (hs : s.size ≤ 9223372036854770000) (k : Nat) (hk : 10 * s.size + 1 ≤ k) : graftageref01_Sum.f k s = some (sumS s) := by
  obtain ⟨m, rfl⟩ : ∃ m, k = m + 10 * s.size + 1 := ⟨k - (10 * s.size + 1), by omega⟩
  unfold graftageref01_Sum.f
  rw [ones_n, ref_sum_l0 s hs s.size m _ 0 (by omega) (by omega)]
  rfl

def sealS (s : ByteArray) : ByteArray := s ++ strOfNums (wordL (sumS s))
def openS (s : ByteArray) : ByteArray × Bool := if (s.size : Int) < 4 then (⟨#[]⟩, false) else if (sealS (s.extract 0 (s.size - 4))).toList = s.toList then (s.extract 0 (s.size - 4), true) else (⟨#[]⟩, false)
theorem seal_f (s : ByteArray) (hs : s.size ≤ 9223372036854760000) (k : Nat) (hk : 10 * s.size + 1 ≤ k) : octet_Seal.f k s = some (sealS s) := by
  unfold octet_Seal.f
  rw [sum_f s (by omega) k hk]
  simp only [Option.bind_some]
  rw [word_f s _ (by omega)]
  rfl
theorem ref_seal_f (s : ByteArray) (hs : s.size ≤ 9223372036854760000) (k : Nat) (hk : 10 * s.size + 1 ≤ k) : graftageref01_Seal.f k s = some (sealS s) := by
  unfold graftageref01_Seal.f
  rw [ref_sum_f s (by omega) k hk]
  simp only [Option.bind_some]
  rw [ref_word_f s _ (by omega)]
  rfl
theorem size_extract (s : ByteArray) (i j : Nat) (hj : j ≤ s.size) : (s.extract i j).size = j - i := by
  rw [size_bytesOf, bytesOf_extract, List.length_take, List.length_drop, bytesOf_length]; omega
theorem open_f (s : ByteArray) (hs : s.size ≤ 9223372036854760000) (k : Nat) (hk : 10 * s.size + 1 ≤ k) : octet_Open.f k s = some (openS s) := by
  unfold octet_Open.f openS
  by_cases c : (s.size : Int) < 4
  · rw [if_pos c, if_pos c]
  rw [if_neg c, if_neg c, wrap64_id (by omega) (by omega), if_pos (by omega), if_pos (by omega), show ((s.size : Int) - 4).toNat = s.size - 4 by omega]
  rw [seal_f _ (by rw [size_extract _ _ _ (by omega)]; omega) k (by rw [size_extract _ _ _ (by omega)]; omega)]
  simp only [Option.bind_some]
  split <;> rfl
theorem ref_open_f (s : ByteArray) (hs : s.size ≤ 9223372036854760000) (k : Nat) (hk : 10 * s.size + 1 ≤ k) : graftageref01_Open.f k s = some (openS s) := by
  unfold graftageref01_Open.f openS
  by_cases c : (s.size : Int) < 4
  · rw [if_pos c, if_pos c]
  rw [if_neg c, if_neg c, wrap64_id (by omega) (by omega), if_pos (by omega), if_pos (by omega), show ((s.size : Int) - 4).toNat = s.size - 4 by omega]
  rw [ref_seal_f _ (by rw [size_extract _ _ _ (by omega)]; omega) k (by rw [size_extract _ _ _ (by omega)]; omega)]
  simp only [Option.bind_some]
  split <;> rfl

theorem seal_size (s : ByteArray) : (sealS s).size = s.size + 4 := by
  unfold sealS
  rw [size_append, strOfNums_size]
  rfl
theorem open_seal (s : ByteArray) : openS (sealS s) = (s, true) := by
  have hx : (sealS s).extract 0 ((sealS s).size - 4) = s := by
    apply bytesOf_inj
    rw [bytesOf_extract, seal_size, List.drop_zero, show s.size + 4 - 4 - 0 = (bytesOf s).length by rw [bytesOf_length]; omega]
    unfold sealS
    rw [bytesOf_append, List.take_left]
  unfold openS
  rw [if_neg (by rw [seal_size]; omega), hx, if_pos rfl]

theorem OctetSums : graftagelaw01_OctetSums.Pure := by
  intro s hs
  refine ⟨10 * s.size + 241, ?_⟩
  unfold graftagelaw01_OctetSums.f
  rw [open_f s (by omega) _ (by omega), ref_open_f s (by omega) _ (by omega), seal_f s (by omega) _ (by omega)]
  simp only [Option.bind_some]
  rw [open_f (sealS s) (by rw [seal_size]; omega) _ (by rw [seal_size]; omega), open_seal, lives_f _ (by omega), sum_f s (by omega) _ (by omega), ref_sum_f s (by omega) _ (by omega), ref_seal_f s (by omega) _ (by omega)]
  simp

end Go.Proofs.Ytddnamlkembflaa.Pure
