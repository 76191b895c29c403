/- Plain laws: a string's bytes as a list of numbers. No program in sight. -/
import Derived.Test.YtobiejdagfimdaaBuf
namespace Go.Proofs.Ytobiejdagfimdaa.Hand
open Go.RowKit Go.Proofs.YtobiejdagfimdaaW.PrintWords Go.Proofs.YtobiejdagfimdaaW.PrintLast Go.Proofs.YtobiejdagfimdaaW.PrintMore
set_option linter.unusedVariables false
set_option linter.unusedSimpArgs false

theorem wrap64_id {n : Int} (h0 : -9223372036854775808 ≤ n) (h1 : n ≤ 9223372036854775807) : wrap64 n = n := by unfold wrap64; omega
theorem wrap_u64_id {n : Int} (h0 : 0 ≤ n) (h1 : n < 18446744073709551616) : IntKind.u64.wrap n = n := by
  simp [IntKind.wrap, IntKind.bits, IntKind.signed]; omega

theorem toList_bytes (s : ByteArray) : s.toList = s.data.toList := ByteArray.toList_eq s
theorem bytesOf_inj {s t : ByteArray} (h : bytesOf s = bytesOf t) : s = t := by
  unfold bytesOf at h
  have h2 : s.data.toList = t.data.toList := by
    refine List.map_inj_right (f := fun b : UInt8 => (b.toNat : Int)) ?_ |>.1 h
    intro x y hxy
    have hxy' : ((x.toNat : Nat) : Int) = ((y.toNat : Nat) : Int) := hxy
    exact UInt8.toNat_inj.1 (by omega)
  cases s; cases t
  simp only [ByteArray.mk.injEq]
  exact Array.toList_inj.1 h2
theorem toList_iff {s t : ByteArray} : s.toList = t.toList ↔ s = t := by
  refine ⟨fun h => ?_, fun h => by rw [h]⟩
  rw [toList_bytes, toList_bytes] at h
  cases s; cases t
  simp only [ByteArray.mk.injEq]
  exact Array.toList_inj.1 h
theorem size_bytesOf (s : ByteArray) : s.size = (bytesOf s).length := (bytesOf_length s).symm
theorem bytesOf_append (s t : ByteArray) : bytesOf (s ++ t) = bytesOf s ++ bytesOf t := by
  simp [bytesOf, ByteArray.data_append]
theorem bytesOf_range (s : ByteArray) : ∀ c ∈ bytesOf s, 0 ≤ c ∧ c ≤ 255 := by
  intro c hc
  simp only [bytesOf, List.mem_map] at hc
  obtain ⟨b, _, rfl⟩ := hc
  have := b.toNat_lt
  omega
theorem bytesOf_str {xs : List Int} (h : ∀ c ∈ xs, 0 ≤ c ∧ c ≤ 255) : bytesOf (strOfNums xs) = xs := by
  simp only [bytesOf, strOfNums, List.map_map]
  conv => rhs; rw [← List.map_id xs]
  refine List.map_congr_left fun c hc => ?_
  have := h c hc
  simp only [Function.comp, id]
  rw [UInt8.toNat_ofNat']
  omega
theorem str_bytesOf (s : ByteArray) : strOfNums (bytesOf s) = s := bytesOf_inj (bytesOf_str (bytesOf_range s))
theorem strOfNums_size (xs : List Int) : (strOfNums xs).size = xs.length := by
  show (strOfNums xs).data.size = _
  simp [strOfNums]
theorem strOfNums_append (xs ys : List Int) : strOfNums (xs ++ ys) = strOfNums xs ++ strOfNums ys := by
  have h : (strOfNums (xs ++ ys)).data = (strOfNums xs ++ strOfNums ys).data := by
    simp [strOfNums, ByteArray.data_append]
  generalize hA : strOfNums (xs ++ ys) = A at *
  generalize hB : strOfNums xs ++ strOfNums ys = B at *
  cases A; cases B
  simpa using h
theorem bytesOf_extract (s : ByteArray) (i j : Nat) : bytesOf (s.extract i j) = ((bytesOf s).drop i).take (j - i) := by
  simp [bytesOf, ByteArray.data_extract, List.extract_eq_take_drop, List.map_take, List.map_drop]
theorem bt_get (s : ByteArray) (j : Nat) : bt s (j : Int) = (bytesOf s).getD j 0 := by
  rw [← rd_bytesOf]; simp [rd]
theorem getD_bt (s : ByteArray) (p : Int) (h : 0 ≤ p) : bt s p = (bytesOf s).getD p.toNat 0 := by
  rw [← rd_bytesOf]; rfl
theorem bytesOf_empty : bytesOf (⟨#[]⟩ : ByteArray) = [] := rfl
theorem size_append (s t : ByteArray) : (s ++ t).size = s.size + t.size := by
  rw [size_bytesOf, bytesOf_append, List.length_append, bytesOf_length, bytesOf_length]
theorem append_assoc (a b c : ByteArray) : a ++ b ++ c = a ++ (b ++ c) := bytesOf_inj (by simp [bytesOf_append])

/-- Bytes that stand at a place. -/
theorem ext_of_bt (s : ByteArray) (p e : Int) (xs : List Int) (h0 : 0 ≤ p) (he : e ≤ s.size) (hl : (xs.length : Int) = e - p) (h : ∀ j : Nat, j < xs.length → xs.getD j 0 = bt s (p + j)) :
    bytesOf (s.extract p.toNat e.toNat) = xs := by
  rw [bytesOf_extract]
  have hlen : xs.length = e.toNat - p.toNat := by omega
  apply List.ext_getElem
  · rw [List.length_take, List.length_drop, bytesOf_length]; omega
  · intro j h1 h2
    have hj := h j h2
    rw [List.getD_eq_getElem?_getD, List.getElem?_eq_getElem h2, Option.getD_some] at hj
    rw [hj, getD_bt s _ (by omega), List.getElem_take, List.getElem_drop]
    have hlt : p.toNat + j < (bytesOf s).length := by rw [bytesOf_length]; omega
    rw [List.getD_eq_getElem?_getD, show (p + (j : Int)).toNat = p.toNat + j by omega, List.getElem?_eq_getElem hlt, Option.getD_some]
theorem bt_of_drop (s : ByteArray) (p : Int) (xs rest : List Int) (h0 : 0 ≤ p) (h : (bytesOf s).drop p.toNat = xs ++ rest) (j : Nat) (hj : j < xs.length) : bt s (p + j) = xs.getD j 0 := by
  rw [getD_bt s _ (by omega), show (p + (j : Int)).toNat = p.toNat + j by omega]
  have : (bytesOf s)[p.toNat + j]? = ((bytesOf s).drop p.toNat)[j]? := by rw [List.getElem?_drop]
  rw [List.getD_eq_getElem?_getD, this, h, List.getElem?_append_left hj, List.getD_eq_getElem?_getD]

end Go.Proofs.Ytobiejdagfimdaa.Hand
