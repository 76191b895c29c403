/- For every laid sequence the plain form of the law OctetBack gives true; no condition beyond the statement's own bounds on strings and numbers. -/
import Derived.Test.YtddnamlkembflaaOctPure
import Derived.Test.YtddnamlkembflaaPOctx5
namespace Go.Proofs.Ytddnamlkembflaa.Pure
open Go.Proofs.Ytddnamlkembflaa.Hand Go.Proofs.Ytddnamlkembflaa.POct
open Go.RowKit Go.Proofs.YtddnamlkembflaaW.PrintWords Go.Proofs.YtddnamlkembflaaW.PrintLast Go.Proofs.YtddnamlkembflaaW.PrintMore
set_option linter.unusedVariables false
set_option linter.unusedSimpArgs false

theorem takeTextS_read {s t : ByteArray} {a : Int} {rest : List Int} (h0 : 0 ≤ a) (ht : t.size ≤ 1048576) (h : (bytesOf s).drop a.toNat = vb 9 t.size ++ (bytesOf t ++ rest)) :
    takeTextS s a = (t, a + (vb 9 t.size).length + t.size, 0) := by
  have e := takeS_read (s := s) (a := a) (n := t.size) (rest := bytesOf t ++ rest) h0 (by omega) (by omega) h
  have hl := congrArg List.length h
  have hp := vb_length_pos 9 (t.size : Int)
  rw [List.length_drop, bytesOf_length, List.length_append, List.length_append, bytesOf_length] at hl
  unfold takeTextS
  rw [e]
  simp only [if_true]
  rw [if_neg (by omega), if_neg (by omega)]
  congr 1
  apply bytesOf_inj
  rw [bytesOf_extract, show (a + (vb 9 (t.size : Int)).length).toNat = a.toNat + (vb 9 (t.size : Int)).length by omega, ← List.drop_drop, h, List.drop_left]
  rw [show (a + (vb 9 (t.size : Int)).length + (t.size : Int)).toNat - (a.toNat + (vb 9 (t.size : Int)).length) = (bytesOf t).length by rw [bytesOf_length]; omega, List.take_left]

theorem OctetBack (a t b : ByteArray) (n w : Int) (ha : a.size ≤ 140737488351232) (ht : t.size ≤ 140737488351232) (hb : b.size ≤ 140737488351232) (hn0 : 0 ≤ n) (hn1 : n < 18446744073709551616) (hw0 : 0 ≤ w) (hw1 : w < 4294967296) :
    graftagelaw01_OctetBack.f 260 a t b n w = some true := by
  unfold graftagelaw01_OctetBack.f
  rw [lives_f 260 (by omega)]
  by_cases c : (t.size : Int) > 1048576
  · rw [if_pos c]; rfl
  rw [if_neg c]
  have hvn := vb9_len n
  have hvt := vb9_len (t.size : Int)
  have z1 : (octet_Put.g a n).size = a.size + (vb 9 n).length := put_size a n hn0 hn1
  have z2 : (octet_Put.g a n ++ strOfNums (wordL w)).size = a.size + (vb 9 n).length + 4 := by rw [size_append, z1, strOfNums_size]; rfl
  have z3 : (textS (octet_Put.g a n ++ strOfNums (wordL w)) t).size = a.size + (vb 9 n).length + 4 + (vb 9 t.size).length + t.size := by
    rw [textS, size_append, put_size _ _ (by omega) (by omega), z2]
  rw [put_f (by omega) hn0 hn1]
  simp only [Option.bind_some]
  rw [word_f _ w (by omega)]
  simp only [Option.bind_some]
  rw [text_f _ t (by omega) (by omega)]
  simp only [Option.bind_some, if_true]
  rw [ref_Put_eq 260 (by omega) a n (by omega) hn0 hn1]
  simp only [Option.bind_some, if_true]
  rw [ref_word_f _ w (by omega)]
  simp only [Option.bind_some, if_true]
  rw [ref_text_f 260 (by omega) _ t (by omega) (by omega)]
  simp only [Option.bind_some, bne_self_eq_false]
  rw [graftagelaw01_OctetBack.j0, if_neg (by decide), if_pos (by omega)]
  have hq : bytesOf (textS (octet_Put.g a n ++ strOfNums (wordL w)) t ++ b) = bytesOf a ++ (vb 9 n ++ (wordL w ++ (vb 9 t.size ++ (bytesOf t ++ bytesOf b)))) := by
    rw [bytesOf_append, text_bytes _ _ (by omega), bytesOf_append, put_bytes a n hn0 hn1, bytesOf_str (wordL_range w)]
    simp only [List.append_assoc]
  have hqs : (textS (octet_Put.g a n ++ strOfNums (wordL w)) t ++ b).size ≤ 9223372036854770000 := by rw [size_append, z3]; omega
  generalize hQ : textS (octet_Put.g a n ++ strOfNums (wordL w)) t ++ b = Q at *
  have d1 : (bytesOf Q).drop ((a.size : Int)).toNat = vb 9 n ++ (wordL w ++ (vb 9 t.size ++ (bytesOf t ++ bytesOf b))) := by
    rw [hq, Int.toNat_natCast, size_bytesOf a, List.drop_left]
  have d2 : (bytesOf Q).drop ((a.size : Int) + (vb 9 n).length).toNat = wordL w ++ (vb 9 t.size ++ (bytesOf t ++ bytesOf b)) := by
    rw [show ((a.size : Int) + (vb 9 n).length).toNat = ((a.size : Int)).toNat + (vb 9 n).length by omega, ← List.drop_drop, d1, List.drop_left]
  have d3 : (bytesOf Q).drop ((a.size : Int) + (vb 9 n).length + 4).toNat = vb 9 t.size ++ (bytesOf t ++ bytesOf b) := by
    rw [show ((a.size : Int) + (vb 9 n).length + 4).toNat = ((a.size : Int) + (vb 9 n).length).toNat + (wordL w).length by show _ = _ + 4; omega, ← List.drop_drop, d2, List.drop_left]
  rw [octet_Take_eq Q (by omega) _ 259 (by omega), takeS_read (by omega) hn0 hn1 d1]
  simp only [Option.bind_some]
  rw [takeWord_f 259 (by omega) Q hqs _, takeWordS_read (by omega) hw0 hw1 d2]
  simp only [Option.bind_some]
  rw [takeText_f 259 (by omega) Q hqs _, takeTextS_read (by omega) (by omega) d3]
  simp only [Option.bind_some, if_true, z1, z2, z3]
  rw [if_pos (by omega), if_pos (by omega)]
  simp only [Option.some.injEq, beq_iff_eq]
  omega

end Go.Proofs.Ytddnamlkembflaa.Pure
