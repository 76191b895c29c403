/- For every string, place and mask the plain form of the law OctetBursts gives true; no condition beyond the statement's own bounds. -/
import Derived.Test.YtddnamlkembflaaPureOctetSums
import Derived.Test.YtddnamlkembflaaBurst
import Derived.Test.YtddnamlkembflaaPOctx6
namespace Go.Proofs.Ytddnamlkembflaa.Pure
open Go.Proofs.Ytddnamlkembflaa.Hand Go.Proofs.Ytddnamlkembflaa.POct
open Go.RowKit Go.Proofs.YtddnamlkembflaaW.PrintWords Go.Proofs.YtddnamlkembflaaW.PrintLast Go.Proofs.YtddnamlkembflaaW.PrintMore
set_option linter.unusedVariables false
set_option linter.unusedSimpArgs false

theorem wf_u32 {n : Int} (h : (Lit.int .u32 n).wf = true) : 0 ≤ n ∧ n < 4294967296 := by
  simp [Lit.wf, IntKind.min, IntKind.max, IntKind.signed, IntKind.bits] at h; omega
theorem sum_range (s : ByteArray) : 0 ≤ sumS s ∧ sumS s < 4294967296 := crcN_range _
theorem sum_ne {s t : ByteArray} (h : crcL (BitVec.allOnes 32) (bytesOf t) ≠ crcL (BitVec.allOnes 32) (bytesOf s)) : sumS t ≠ sumS s := by
  intro e
  apply h
  unfold sumS crcN at e
  have e2 : (crcL (BitVec.allOnes 32) (bytesOf t) ^^^ BitVec.allOnes 32) = (crcL (BitVec.allOnes 32) (bytesOf s) ^^^ BitVec.allOnes 32) := BitVec.eq_of_toNat_eq (by omega)
  have e3 := congrArg (· ^^^ BitVec.allOnes 32) e2
  simpa [BitVec.xor_assoc] using e3
theorem open_other (t : ByteArray) (n : Int) (h0 : 0 ≤ n) (h1 : n < 4294967296) (hne : sumS t ≠ n) : openS (t ++ strOfNums (wordL n)) = (⟨#[]⟩, false) := by
  have hz : (t ++ strOfNums (wordL n)).size = t.size + 4 := by rw [size_append, strOfNums_size]; rfl
  have hx : (t ++ strOfNums (wordL n)).extract 0 ((t ++ strOfNums (wordL n)).size - 4) = t := by
    apply bytesOf_inj
    rw [bytesOf_extract, hz, List.drop_zero, show t.size + 4 - 4 - 0 = (bytesOf t).length by rw [bytesOf_length]; omega, bytesOf_append, List.take_left]
  unfold openS
  rw [if_neg (by rw [hz]; omega), hx, if_neg]
  intro e
  have e1 := congrArg bytesOf (toList_iff.1 e)
  unfold sealS at e1
  rw [bytesOf_append, bytesOf_append, bytesOf_str (wordL_range _), bytesOf_str (wordL_range _)] at e1
  have e2 := List.append_cancel_left e1
  have s0 := sum_range t
  have e3 := word4_wordL (sumS t) s0.1 s0.2
  have e4 := word4_wordL n h0 h1
  simp only [wordL, List.cons.injEq, and_true] at e2
  obtain ⟨q1, q2, q3, q4⟩ := e2
  rw [q1, q2, q3, q4, e4] at e3
  exact hne e3.symm

theorem OctetBursts : graftagelaw01_OctetBursts.Pure := by
  intro s a m hs _ hm
  obtain ⟨m0, m1⟩ := wf_u32 hm
  refine ⟨10 * s.size + 501, ?_⟩
  unfold graftagelaw01_OctetBursts.f
  by_cases c : a < 0
  · rw [if_pos c, graftagelaw01_OctetBursts.j0, if_pos rfl, lives_f _ (by omega)]; rfl
  rw [if_neg c]
  by_cases c2 : a > 1099511627776
  · rw [decide_eq_true c2, graftagelaw01_OctetBursts.j0, if_pos rfl, lives_f _ (by omega)]; rfl
  rw [decide_eq_false c2, graftagelaw01_OctetBursts.j0, if_neg (by decide), lives_f _ (by omega)]
  have hf : graftageref01_Flip.f s a m = some (strOfNums (flipN a m (bytesOf s) 32)) := by
    unfold graftageref01_Flip.f
    rw [if_pos (by omega), if_pos (by omega), if_pos (by omega), if_pos m0, if_pos m1]
  rw [hf]
  simp only [Option.bind_some]
  have hr := flipN_range a m (bytesOf s) (bytesOf_range s) 32
  have hb : bytesOf (strOfNums (flipN a m (bytesOf s) 32)) = flipN a m (bytesOf s) 32 := bytesOf_str hr
  have hz : (strOfNums (flipN a m (bytesOf s) 32)).size = s.size := by rw [strOfNums_size, flipN_length, bytesOf_length]
  by_cases e : (strOfNums (flipN a m (bytesOf s) 32)).toList = s.toList
  · rw [if_pos e]
  rw [if_neg e]
  have hne : flipN a m (bytesOf s) 32 ≠ bytesOf s := by
    intro h
    apply e
    rw [h, str_bytesOf]
  have hsum : sumS (strOfNums (flipN a m (bytesOf s) 32)) ≠ sumS s := by
    apply sum_ne
    rw [hb]
    obtain ⟨a', rfl⟩ := Int.eq_ofNat_of_zero_le (show 0 ≤ a by omega)
    exact burst_sum (bytesOf s) (bytesOf_range s) a' m _ hne
  have s0 := sum_range s
  generalize strOfNums (flipN a m (bytesOf s) 32) = t at *
  rw [sum_f s (by omega) _ (by omega)]
  simp only [Option.bind_some]
  rw [word_f t _ (by omega)]
  simp only [Option.bind_some]
  rw [open_f _ (by rw [size_append, strOfNums_size]; simp [wordL]; omega) _ (by rw [size_append, strOfNums_size]; simp [wordL]; omega), open_other t _ s0.1 s0.2 hsum]
  simp only [Option.bind_some, if_true]
  rw [sum_f t (by omega) _ (by omega)]
  simp only [Option.bind_some]
  rw [if_neg hsum]
  rfl

end Go.Proofs.Ytddnamlkembflaa.Pure
