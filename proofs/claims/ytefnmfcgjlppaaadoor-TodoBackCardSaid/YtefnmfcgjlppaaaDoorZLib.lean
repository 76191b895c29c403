/- strings.Index and internal/stringslite.Index at a text of one byte, in the print's shape. -/
import Derived.Test.YtefnmfcgjlppaaaDoorBuf
import Derived.Test.YtefnmfcgjlppaaaDoorShelf
namespace Go.Proofs.YtefnmfcgjlppaaaDoor.Hand
open Go.RowKit Go.Proofs.YtefnmfcgjlppaaaDoorW.PrintWords Go.Proofs.YtefnmfcgjlppaaaDoorW.PrintLast Go.Proofs.YtefnmfcgjlppaaaDoorW.PrintMore
set_option linter.unusedVariables false
def stringslite_Index.f (a0 a1 : ByteArray) : Option Int := if a1.size = 1 then some (Lib.indexByte a0.data.toList (a1.data.toList.getD 0 0)) else none
theorem one_of {a1 : ByteArray} (h : a1.size = 1) : a1 = ⟨#[a1.data.toList.getD 0 0]⟩ := by
  obtain ⟨⟨l⟩⟩ := a1
  match l, h with
  | [c], _ => rfl
theorem stringslite_Index.calls (a0 a1 : ByteArray) (r : Int) (w : World) (h : stringslite_Index.f a0 a1 = some r) :
    Calls Tryd.prog 56 #[.string a0, .string a1] w fun e w' => e = .returned (.int .i64 r) ∧ Drawn0 w w' := by
  simp only [stringslite_Index.f] at h
  by_cases c : a1.size = 1
  · rw [if_pos c, Option.some.injEq] at h
    rw [one_of c, ← h]
    exact (Tryd.stringslite_Index_one a0 _ w).mono fun e w' ⟨he, hw⟩ => ⟨he, hw ▸ Drawn0.refl w⟩
  · rw [if_neg c] at h; cases h
def strings_Index.f (a0 a1 : ByteArray) : Option Int := if a1.size = 1 then some (Lib.indexByte a0.data.toList (a1.data.toList.getD 0 0)) else none
theorem strings_Index.calls (a0 a1 : ByteArray) (r : Int) (w : World) (h : strings_Index.f a0 a1 = some r) :
    Calls Tryd.prog 41 #[.string a0, .string a1] w fun e w' => e = .returned (.int .i64 r) ∧ Drawn0 w w' := by
  simp only [strings_Index.f] at h
  by_cases c : a1.size = 1
  · rw [if_pos c, Option.some.injEq] at h
    rw [one_of c, ← h]
    exact (Tryd.strings_Index_one a0 _ w).mono fun e w' ⟨he, hw⟩ => ⟨he, hw ▸ Drawn0.refl w⟩
  · rw [if_neg c] at h; cases h
end Go.Proofs.YtefnmfcgjlppaaaDoor.Hand
/- Plain laws of byte strings, without octet. -/
namespace Go.Proofs.YtefnmfcgjlppaaaDoor.Hand
open Go.RowKit Go.Proofs.YtefnmfcgjlppaaaDoorW.PrintWords Go.Proofs.YtefnmfcgjlppaaaDoorW.PrintLast Go.Proofs.YtefnmfcgjlppaaaDoorW.PrintMore
set_option linter.unusedVariables false
set_option linter.unusedSimpArgs false
theorem wrap64_id {n : Int} (h0 : -9223372036854775808 ≤ n) (h1 : n ≤ 9223372036854775807) : wrap64 n = n := by unfold wrap64; omega
theorem toList_bytes (s : ByteArray) : s.toList = s.data.toList := ByteArray.toList_eq s
theorem bytesOf_inj {s t : ByteArray} (h : bytesOf s = bytesOf t) : s = t := by
  unfold bytesOf at h
  have h2 : s.data.toList = t.data.toList := by
    refine List.map_inj_right (f := fun b : UInt8 => (b.toNat : Int)) ?_ |>.1 h
    intro x y hxy
    have hxy' : ((x.toNat : Nat) : Int) = ((y.toNat : Nat) : Int) := hxy
    exact UInt8.toNat_inj.1 (by omega)
  cases s; cases t
  simp only [ByteArray.mk.injEq]
  exact Array.toList_inj.1 h2
theorem toList_iff {s t : ByteArray} : s.toList = t.toList ↔ s = t := by
  refine ⟨fun h => ?_, fun h => by rw [h]⟩
  rw [toList_bytes, toList_bytes] at h
  cases s; cases t
  simp only [ByteArray.mk.injEq]
  exact Array.toList_inj.1 h
theorem size_bytesOf (s : ByteArray) : s.size = (bytesOf s).length := (bytesOf_length s).symm
theorem bytesOf_append (s t : ByteArray) : bytesOf (s ++ t) = bytesOf s ++ bytesOf t := by
  simp [bytesOf, ByteArray.data_append]
theorem bytesOf_range (s : ByteArray) : ∀ c ∈ bytesOf s, 0 ≤ c ∧ c ≤ 255 := by
  intro c hc
  simp only [bytesOf, List.mem_map] at hc
  obtain ⟨b, _, rfl⟩ := hc
  have := b.toNat_lt
  omega
theorem bytesOf_str {xs : List Int} (h : ∀ c ∈ xs, 0 ≤ c ∧ c ≤ 255) : bytesOf (strOfNums xs) = xs := by
  simp only [bytesOf, strOfNums, List.map_map]
  conv => rhs; rw [← List.map_id xs]
  refine List.map_congr_left fun c hc => ?_
  have := h c hc
  simp only [Function.comp, id]
  rw [UInt8.toNat_ofNat']
  omega
theorem str_bytesOf (s : ByteArray) : strOfNums (bytesOf s) = s := bytesOf_inj (bytesOf_str (bytesOf_range s))
theorem strOfNums_size (xs : List Int) : (strOfNums xs).size = xs.length := by
  show (strOfNums xs).data.size = _
  simp [strOfNums]
theorem strOfNums_append (xs ys : List Int) : strOfNums (xs ++ ys) = strOfNums xs ++ strOfNums ys := by
  have h : (strOfNums (xs ++ ys)).data = (strOfNums xs ++ strOfNums ys).data := by
    simp [strOfNums, ByteArray.data_append]
  generalize hA : strOfNums (xs ++ ys) = A at *
  generalize hB : strOfNums xs ++ strOfNums ys = B at *
  cases A; cases B
  simpa using h
theorem bytesOf_extract (s : ByteArray) (i j : Nat) : bytesOf (s.extract i j) = ((bytesOf s).drop i).take (j - i) := by
  simp [bytesOf, ByteArray.data_extract, List.extract_eq_take_drop, List.map_take, List.map_drop]
theorem bt_get (s : ByteArray) (j : Nat) : bt s (j : Int) = (bytesOf s).getD j 0 := by
  rw [← rd_bytesOf]; simp [rd]
theorem getD_bt (s : ByteArray) (p : Int) (h : 0 ≤ p) : bt s p = (bytesOf s).getD p.toNat 0 := by
  rw [← rd_bytesOf]; rfl
theorem bytesOf_empty : bytesOf (⟨#[]⟩ : ByteArray) = [] := rfl
theorem size_append (s t : ByteArray) : (s ++ t).size = s.size + t.size := by
  rw [size_bytesOf, bytesOf_append, List.length_append, bytesOf_length, bytesOf_length]
theorem append_assoc (a b c : ByteArray) : a ++ b ++ c = a ++ (b ++ c) := bytesOf_inj (by simp [bytesOf_append])

/-- Bytes that stand at a place. -/
theorem ext_of_bt (s : ByteArray) (p e : Int) (xs : List Int) (h0 : 0 ≤ p) (he : e ≤ s.size) (hl : (xs.length : Int) = e - p) (h : ∀ j : Nat, j < xs.length → xs.getD j 0 = bt s (p + j)) :
    bytesOf (s.extract p.toNat e.toNat) = xs := by
  rw [bytesOf_extract]
  have hlen : xs.length = e.toNat - p.toNat := by omega
  apply List.ext_getElem
  · rw [List.length_take, List.length_drop, bytesOf_length]; omega
  · intro j h1 h2
    have hj := h j h2
    rw [List.getD_eq_getElem?_getD, List.getElem?_eq_getElem h2, Option.getD_some] at hj
    rw [hj, getD_bt s _ (by omega), List.getElem_take, List.getElem_drop]
    have hlt : p.toNat + j < (bytesOf s).length := by rw [bytesOf_length]; omega
    rw [List.getD_eq_getElem?_getD, show (p + (j : Int)).toNat = p.toNat + j by omega, List.getElem?_eq_getElem hlt, Option.getD_some]
theorem bt_of_drop (s : ByteArray) (p : Int) (xs rest : List Int) (h0 : 0 ≤ p) (h : (bytesOf s).drop p.toNat = xs ++ rest) (j : Nat) (hj : j < xs.length) : bt s (p + j) = xs.getD j 0 := by
  rw [getD_bt s _ (by omega), show (p + (j : Int)).toNat = p.toNat + j by omega]
  have : (bytesOf s)[p.toNat + j]? = ((bytesOf s).drop p.toNat)[j]? := by rw [List.getElem?_drop]
  rw [List.getD_eq_getElem?_getD, this, h, List.getElem?_append_left hj, List.getD_eq_getElem?_getD]
end Go.Proofs.YtefnmfcgjlppaaaDoor.Hand
/- strings.IndexByte, in the print's shape. -/
namespace Go.Proofs.YtefnmfcgjlppaaaDoor.Hand
open Go.RowKit Go.Proofs.YtefnmfcgjlppaaaDoorW.PrintWords Go.Proofs.YtefnmfcgjlppaaaDoorW.PrintLast Go.Proofs.YtefnmfcgjlppaaaDoorW.PrintMore
set_option linter.unusedVariables false
def strings_IndexByte.f (a0 : ByteArray) (a1 : Int) : Option Int := some (Lib.indexByte a0.data.toList a1.toNat.toUInt8)
theorem strings_IndexByte.calls (a0 : ByteArray) (a1 : Int) (r : Int) (w : World) (h : strings_IndexByte.f a0 a1 = some r) :
    Calls Tryd.prog 73 #[.string a0, .int .u8 a1] w fun e w' => e = .returned (.int .i64 r) ∧ Drawn0 w w' := by
  simp only [strings_IndexByte.f, Option.some.injEq] at h
  subst h
  exact (Tryd.strings_IndexByte a0 a1 w).mono fun e w' ⟨he, hw⟩ => ⟨he, hw ▸ Drawn0.refl w⟩
end Go.Proofs.YtefnmfcgjlppaaaDoor.Hand
