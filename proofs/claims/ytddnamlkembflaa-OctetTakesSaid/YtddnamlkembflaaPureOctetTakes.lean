/- For every string and place the plain form of the law OctetTakes gives true; no condition beyond the statement's own bounds on the string. -/
import Derived.Test.YtddnamlkembflaaOctPure
import Derived.Test.YtddnamlkembflaaPOctx4
namespace Go.Proofs.Ytddnamlkembflaa.Pure
open Go.Proofs.Ytddnamlkembflaa.Hand Go.Proofs.Ytddnamlkembflaa.POct
open Go.RowKit Go.Proofs.YtddnamlkembflaaW.PrintWords Go.Proofs.YtddnamlkembflaaW.PrintLast Go.Proofs.YtddnamlkembflaaW.PrintMore
set_option linter.unusedVariables false
set_option linter.unusedSimpArgs false

theorem put_slice {s : ByteArray} {a : Int} (h : (takeS s a).2.2 = 0) : (octet_Put.g (⟨#[]⟩ : ByteArray) (takeS s a).1).toList = (s.extract a.toNat (takeS s a).2.1.toNat).toList := by
  obtain ⟨h0, h1, h2, h3, h4, h5⟩ := takeS_ok (s := s) (a := a) (n := (takeS s a).1) (e := (takeS s a).2.1) (by rw [← h])
  exact toList_iff.2 (bytesOf_inj (by rw [put_bytes _ _ h3 h4, h5]; rfl))
theorem word_slice {s : ByteArray} {a : Int} (h : (takeWordS s a).2.2 = 0) : ((⟨#[]⟩ : ByteArray) ++ strOfNums (wordL (takeWordS s a).1)).toList = (s.extract a.toNat (takeWordS s a).2.1.toNat).toList := by
  obtain ⟨h0, h1, h2, h3, h4, h5⟩ := takeWordS_ok (s := s) (a := a) (n := (takeWordS s a).1) (e := (takeWordS s a).2.1) (by rw [← h])
  exact toList_iff.2 (bytesOf_inj (by rw [bytesOf_append, bytesOf_str (wordL_range _), h5]; rfl))
theorem takeTextS_ok {s : ByteArray} {a : Int} (hs : s.size ≤ 140737488351232) (h : (takeTextS s a).2.2 = 0) : 0 ≤ a ∧ a ≤ (takeTextS s a).2.1 ∧ (takeTextS s a).2.1 ≤ s.size ∧ (takeTextS s a).1.size ≤ 1048576 ∧
    (textS (⟨#[]⟩ : ByteArray) (takeTextS s a).1).toList = (s.extract a.toNat (takeTextS s a).2.1.toNat).toList := by
  unfold takeTextS at h ⊢
  by_cases c : (takeS s a).2.2 = 0
  · rw [if_pos c] at h ⊢
    obtain ⟨h0, h1, h2, h3, h4, h5⟩ := takeS_ok (s := s) (a := a) (n := (takeS s a).1) (e := (takeS s a).2.1) (by rw [← c])
    by_cases c2 : (takeS s a).1 > 1048576
    · rw [if_pos c2] at h; simp at h
    rw [if_neg c2] at h ⊢
    by_cases c3 : (takeS s a).1 > (s.size : Int) - (takeS s a).2.1
    · rw [if_pos c3] at h; simp at h
    rw [if_neg c3] at h ⊢
    have hz : (s.extract (takeS s a).2.1.toNat ((takeS s a).2.1 + (takeS s a).1).toNat).size = (takeS s a).1.toNat := by
      rw [size_bytesOf, bytesOf_extract, List.length_take, List.length_drop, bytesOf_length]; omega
    simp only
    refine ⟨h0, by omega, by omega, by rw [hz]; omega, toList_iff.2 (bytesOf_inj ?_)⟩
    rw [text_bytes _ _ (by rw [hz]; omega), hz, bytesOf_empty, List.nil_append, show (((takeS s a).1.toNat : Nat) : Int) = (takeS s a).1 by omega, ← h5]
    rw [bytesOf_extract, bytesOf_extract, bytesOf_extract]
    rw [show ((takeS s a).2.1 + (takeS s a).1).toNat - a.toNat = ((takeS s a).2.1.toNat - a.toNat) + (((takeS s a).2.1 + (takeS s a).1).toNat - (takeS s a).2.1.toNat) by omega]
    rw [List.take_add, List.drop_drop, show a.toNat + ((takeS s a).2.1.toNat - a.toNat) = (takeS s a).2.1.toNat by omega]
  · rw [if_neg c] at h; exact absurd h c

theorem OctetTakes : graftagelaw01_OctetTakes.Pure := by
  intro s a hs _
  refine ⟨201, ?_⟩
  unfold graftagelaw01_OctetTakes.f
  rw [octet_Take_eq s (by omega) a 201 (by omega), graftageref01_Take_eq s (by omega) a 201 (by omega), takeText_f 201 (by omega) s (by omega) a, ref_takeText_f 201 (by omega) s (by omega) a, takeWord_f 201 (by omega) s (by omega) a, ref_takeWord_f 201 (by omega) s (by omega) a, lives_f 201 (by omega)]
  simp only [Option.bind_some, if_true]
  simp only [graftagelaw01_OctetTakes.j0, bne_self_eq_false, Bool.false_eq_true, if_false]
  have hw := word_f (⟨#[]⟩ : ByteArray) (takeWordS s a).1 (by show 0 ≤ _; omega)
  by_cases c1 : (takeS s a).2.2 = 0
  · obtain ⟨h0, h1, h2, h3, h4, h5⟩ := takeS_ok (s := s) (a := a) (n := (takeS s a).1) (e := (takeS s a).2.1) (by rw [← c1])
    rw [if_pos c1, put_f (by show 0 ≤ _; omega) h3 h4]
    simp only [Option.bind_some]
    rw [if_pos h0, if_pos h1, if_pos h2, if_pos (put_slice c1)]
    by_cases c2 : (takeTextS s a).2.2 = 0
    · obtain ⟨_, k1, k2, k3, k4⟩ := takeTextS_ok hs c2
      rw [if_pos c2, text_f _ _ (by show 0 ≤ _; omega) (by omega)]
      simp only [Option.bind_some]
      rw [if_pos k1, if_pos k2, if_pos k4]
      by_cases c3 : (takeWordS s a).2.2 = 0
      · obtain ⟨_, w1, w2, _⟩ := takeWordS_ok (s := s) (a := a) (n := (takeWordS s a).1) (e := (takeWordS s a).2.1) (by rw [← c3])
        rw [if_pos c3, hw]
        simp only [Option.bind_some]
        rw [if_pos w1, if_pos w2, if_pos (word_slice c3)]
      · rw [if_neg c3]
    · rw [if_neg c2]
      by_cases c3 : (takeWordS s a).2.2 = 0
      · obtain ⟨_, w1, w2, _⟩ := takeWordS_ok (s := s) (a := a) (n := (takeWordS s a).1) (e := (takeWordS s a).2.1) (by rw [← c3])
        rw [if_pos c3, hw]
        simp only [Option.bind_some]
        rw [if_pos w1, if_pos w2, if_pos (word_slice c3)]
      · rw [if_neg c3]
  · rw [if_neg c1]
    by_cases c2 : (takeTextS s a).2.2 = 0
    · obtain ⟨h0, k1, k2, k3, k4⟩ := takeTextS_ok hs c2
      rw [if_pos c2, text_f _ _ (by show 0 ≤ _; omega) (by omega)]
      simp only [Option.bind_some]
      rw [if_pos h0, if_pos k1, if_pos k2, if_pos k4]
      by_cases c3 : (takeWordS s a).2.2 = 0
      · obtain ⟨_, w1, w2, _⟩ := takeWordS_ok (s := s) (a := a) (n := (takeWordS s a).1) (e := (takeWordS s a).2.1) (by rw [← c3])
        rw [if_pos c3, hw]
        simp only [Option.bind_some]
        rw [if_pos w1, if_pos w2, if_pos (word_slice c3)]
      · rw [if_neg c3]
    · rw [if_neg c2]
      by_cases c3 : (takeWordS s a).2.2 = 0
      · obtain ⟨h0, w1, w2, _⟩ := takeWordS_ok (s := s) (a := a) (n := (takeWordS s a).1) (e := (takeWordS s a).2.1) (by rw [← c3])
        rw [if_pos c3, hw]
        simp only [Option.bind_some]
        rw [if_pos h0, if_pos w1, if_pos w2, if_pos (word_slice c3)]
      · rw [if_neg c3]

end Go.Proofs.Ytddnamlkembflaa.Pure
