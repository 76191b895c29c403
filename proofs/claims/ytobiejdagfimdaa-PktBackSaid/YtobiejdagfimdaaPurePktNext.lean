/- For every string the plain form of the law PktNext gives true; no condition beyond the statement's own bound. -/
import Derived.Test.YtobiejdagfimdaaPurePktTakes
import Derived.Test.YtobiejdagfimdaaPPktx8
namespace Go.Proofs.Ytobiejdagfimdaa.Pure
open Go.Proofs.Ytobiejdagfimdaa.Hand Go.Proofs.Ytobiejdagfimdaa.PPkt
open Go.RowKit Go.Proofs.YtobiejdagfimdaaW.PrintWords Go.Proofs.YtobiejdagfimdaaW.PrintLast Go.Proofs.YtobiejdagfimdaaW.PrintMore
set_option linter.unusedVariables false
set_option linter.unusedSimpArgs false

theorem allP_succ (s : ByteArray) (d : Nat) (p : Int) : allP s (d + 1) p = if p < (s.size : Int) then (if (takeP s p).2.2.2 = 0 then (if (allP s d (takeP s p).2.2.1).2 = 0 then (⟨(takeP s p).1, (takeP s p).2.1⟩ :: (allP s d (takeP s p).2.2.1).1, 0) else ([], (allP s d (takeP s p).2.2.1).2)) else ([], (takeP s p).2.2.2)) else ([], 0) := rfl
theorem takeP_in (s : ByteArray) (a : Int) (h0 : 0 ≤ a) (h1 : a ≤ s.size) : takeP s a = (if (s.size : Int) - a < 4 then (0, ⟨#[]⟩, 0, 3) else
    if hexN s 4 a 0 < 0 ∨ (1 < hexN s 4 a 0 ∧ hexN s 4 a 0 ≤ 4) ∨ hexN s 4 a 0 > 65520 then (0, ⟨#[]⟩, 0, 2) else
    if hexN s 4 a 0 = 0 then (2, ⟨#[]⟩, a + 4, 0) else
    if hexN s 4 a 0 = 1 then (3, ⟨#[]⟩, a + 4, 0) else
    if (s.size : Int) - a < hexN s 4 a 0 then (0, ⟨#[]⟩, 0, 3) else
    (1, s.extract (a + 4).toNat (a + hexN s 4 a 0).toNat, a + hexN s 4 a 0, 0)) := by
  unfold takeP
  rw [if_neg (by omega)]
section
variable (s : ByteArray) (n : Int) (h0 : 0 ≤ n) (h1 : n ≤ s.size)
include h0 h1
theorem rest_size : ((s.extract n.toNat s.size).size : Int) = s.size - n := by
  rw [size_bytesOf (s.extract n.toNat s.size), bytesOf_extract, List.length_take, List.length_drop, bytesOf_length]; omega
theorem rest_bt (q : Int) (hq0 : 0 ≤ q) (hq : q < s.size - n) : bt (s.extract n.toNat s.size) q = bt s (n + q) := by
  rw [getD_bt _ _ hq0, getD_bt _ _ (by omega), bytesOf_extract, List.getD_eq_getElem?_getD, List.getD_eq_getElem?_getD, List.getElem?_take_of_lt (by omega), List.getElem?_drop]
  congr 2
  omega
theorem rest_hex (r : Nat) : ∀ (q acc : Int), 0 ≤ q → q + r ≤ s.size - n → hexN (s.extract n.toNat s.size) r q acc = hexN s r (n + q) acc := by
  induction r with
  | zero => intro q acc _ _; rfl
  | succ r ih =>
    intro q acc hq0 hq
    rw [hexN, hexN, rest_bt s n h0 h1 q hq0 (by omega), ih (q + 1) _ (by omega) (by omega), show n + q + 1 = n + (q + 1) by omega]
theorem rest_extract (i j : Nat) (hj : (j : Int) ≤ s.size - n) : (s.extract n.toNat s.size).extract i j = s.extract (n.toNat + i) (n.toNat + j) := by
  have _h := h1
  apply bytesOf_inj
  rw [bytesOf_extract, bytesOf_extract, bytesOf_extract, List.drop_take, List.drop_drop, List.take_take]
  congr 1
  omega
theorem rest_take (q : Int) (hq0 : 0 ≤ q) (hq : q ≤ s.size - n) : (takeP (s.extract n.toNat s.size) q).1 = (takeP s (n + q)).1 ∧ (takeP (s.extract n.toNat s.size) q).2.1 = (takeP s (n + q)).2.1 ∧ (takeP (s.extract n.toNat s.size) q).2.2.2 = (takeP s (n + q)).2.2.2 ∧
    ((takeP s (n + q)).2.2.2 = 0 → (takeP (s.extract n.toNat s.size) q).2.2.1 + n = (takeP s (n + q)).2.2.1) := by
  have hz := rest_size s n h0 h1
  rw [takeP_in _ q hq0 (by omega), takeP_in s (n + q) (by omega) (by omega), hz]
  by_cases c2 : (s.size : Int) - (n + q) < 4
  · rw [if_pos (by omega), if_pos c2]; simp
  rw [if_neg (by omega), if_neg c2, rest_hex s n h0 h1 4 q 0 hq0 (by omega)]
  have hr := hexN_range s 4 (n + q) 0 (by omega)
  generalize hexN s 4 (n + q) 0 = m at *
  by_cases c3 : m < 0 ∨ (1 < m ∧ m ≤ 4) ∨ m > 65520
  · rw [if_pos c3, if_pos c3]; simp
  rw [if_neg c3, if_neg c3]
  by_cases c4 : m = 0
  · rw [if_pos c4, if_pos c4]; simp; omega
  rw [if_neg c4, if_neg c4]
  by_cases c5 : m = 1
  · rw [if_pos c5, if_pos c5]; simp; omega
  rw [if_neg c5, if_neg c5]
  by_cases c6 : (s.size : Int) - (n + q) < m
  · rw [if_pos (by omega), if_pos c6]; simp
  rw [if_neg (by omega), if_neg c6]
  refine ⟨rfl, ?_, rfl, fun _ => by simp; omega⟩
  simp only
  rw [rest_extract s n h0 h1 _ _ (by omega)]
  congr 1 <;> omega
theorem rest_all (d : Nat) : ∀ q : Int, 0 ≤ q → q ≤ s.size - n → allP (s.extract n.toNat s.size) d q = allP s d (n + q) := by
  have hz := rest_size s n h0 h1
  induction d with
  | zero => intro q _ _; rfl
  | succ d ih =>
    intro q hq0 hq
    obtain ⟨t1, t2, t3, t4⟩ := rest_take s n h0 h1 q hq0 hq
    rw [allP, allP, hz, t1, t2, t3]
    by_cases c : q < (s.size : Int) - n
    · rw [if_pos c, if_pos (show n + q < (s.size : Int) by omega)]
      by_cases e : (takeP s (n + q)).2.2.2 = 0
      · have ht := takeP_ok e
        have t5 := t4 e
        rw [if_pos e, if_pos e, ih _ (by omega) (by omega), show n + (takeP (s.extract n.toNat s.size) q).2.2.1 = (takeP s (n + q)).2.2.1 by omega]
      · rw [if_neg e, if_neg e]
    · rw [if_neg c, if_neg (show ¬ n + q < (s.size : Int) by omega)]
end
theorem all_depth (s : ByteArray) (d : Nat) : ∀ (e : Nat) (p : Int), 0 ≤ p → (s.size : Int) - p < d → (s.size : Int) - p < e → allP s d p = allP s e p := by
  induction d with
  | zero =>
    intro e p h0 h1 h2
    cases e with
    | zero => rfl
    | succ e => rw [allP_succ, if_neg (by omega)]; rfl
  | succ d ih =>
    intro e p h0 h1 h2
    cases e with
    | zero => rw [allP_succ, if_neg (by omega)]; rfl
    | succ e =>
      rw [allP, allP]
      by_cases c : p < (s.size : Int)
      · rw [if_pos c, if_pos c]
        by_cases q : (takeP s p).2.2.2 = 0
        · have ht := takeP_ok q
          rw [if_pos q, if_pos q, ih e (takeP s p).2.2.1 (by omega) (by omega) (by omega)]
        · rw [if_neg q, if_neg q]
      · rw [if_neg c, if_neg c]
/-- All of what stands behind a place. -/
theorem all_rest (s : ByteArray) (n : Int) (h0 : 0 ≤ n) (h1 : n ≤ s.size) : allS (s.extract n.toNat s.size) = allP s (s.size + 1) n := by
  have hz := rest_size s n h0 h1
  unfold allS
  rw [rest_all s n h0 h1 _ 0 (by omega) (by omega), Int.add_zero]
  exact all_depth s _ _ n h0 (by omega) (by omega)

theorem toList_nil_iff (s : ByteArray) : s.toList = ([] : List UInt8) ↔ s.size = 0 := by
  rw [toList_bytes]
  constructor
  · intro h
    show s.data.size = 0
    rw [← Array.length_toList, h]; rfl
  · intro h
    apply List.eq_nil_of_length_eq_zero
    rw [Array.length_toList]; exact h

theorem PktNext : graftagelaw46_PktNext.Pure := by
  intro s _
  by_cases c : (s.size : Int) > 3000
  · refine ⟨40, ?_⟩
    unfold graftagelaw46_PktNext.f
    rw [if_pos c, lives_f 40 (by omega)]; rfl
  refine ⟨s.size + 61, ?_⟩
  unfold graftagelaw46_PktNext.f
  rw [if_neg c, pkt_Take_eq s (by omega) 0 _ (by omega), All_eq s (by omega) _ (by omega), lives_f _ (by omega)]
  simp only [Option.bind_some]
  have hA : allS s = allP s (s.size + 1) 0 := rfl
  by_cases e : (takeP s 0).2.2.2 = 0
  · have ht := takeP_ok e
    rw [if_pos e, if_neg (by omega), decide_eq_false (by omega), graftagelaw46_PktNext.j0, if_neg (by decide), if_pos (by omega), if_pos (by omega)]
    have hz := rest_size s (takeP s 0).2.2.1 (by omega) (by omega)
    rw [All_eq _ (by omega) _ (by omega), all_rest s _ (by omega) (by omega), lives_f _ (by omega)]
    simp only [Option.bind_some]
    rw [hA, allP_succ s s.size 0, if_pos (show (0 : Int) < (s.size : Int) by omega), if_pos e]
    rw [all_depth s s.size (s.size + 1) (takeP s 0).2.2.1 (by omega) (by omega) (by omega)]
    have hl := allP_length s (s.size + 1) (takeP s 0).2.2.1
    generalize allP s (s.size + 1) (takeP s 0).2.2.1 = R at *
    by_cases q : R.2 = 0
    · rw [if_pos q, if_pos q]
      simp only [if_true, List.length_cons]
      rw [wrap64_id (by omega) (by omega), if_pos (by omega), if_pos (by omega)]
      have hr : rd_T24 (⟨(takeP s 0).1, (takeP s 0).2.1⟩ :: R.1) 0 = ⟨(takeP s 0).1, (takeP s 0).2.1⟩ := rfl
      rw [hr]
      simp only [beq_self_eq_true, Bool.and_self, if_true]
      rw [if_pos (by omega)]
      simp only [List.drop_succ_cons, List.drop_zero]
      rw [same_self _ (by omega) _ (by omega)]
      simp
    · rw [if_neg q, if_neg q]
      simp
  · rw [if_neg e]
    by_cases z : s.toList = ([] : List UInt8)
    · have hz := (toList_nil_iff s).1 z
      rw [if_pos z, hA, allP_succ s s.size 0, if_neg (show ¬ (0 : Int) < (s.size : Int) by omega)]
      simp
    · have hz : s.size ≠ 0 := fun h => z ((toList_nil_iff s).2 h)
      rw [if_neg z, hA, allP_succ s s.size 0, if_pos (show (0 : Int) < (s.size : Int) by omega), if_neg e]
      simp
end Go.Proofs.Ytobiejdagfimdaa.Pure
