/- The plain law of todo.Auto: the reference's answer is autoQ. -/
import Derived.Test.YtefnmfcgjlppaaaDoorZRow
import Derived.Test.YtefnmfcgjlppaaaDoorZPTdx18
namespace Go.Proofs.YtefnmfcgjlppaaaDoor.Pure
open Go.RowKit Go.Proofs.YtefnmfcgjlppaaaDoor.PTd Go.Proofs.YtefnmfcgjlppaaaDoor.Hand Go.Proofs.YtefnmfcgjlppaaaDoorW.PrintWords Go.Proofs.YtefnmfcgjlppaaaDoorW.PrintLast
set_option linter.unusedVariables false
set_option linter.unusedSimpArgs false
theorem begins_f (s p : ByteArray) : graftageref42_begins.f s p = some (preQ s p) := hasPre_f s p
theorem pre_bt {s p : ByteArray} (h : preQ s p = true) (j : Nat) (hj : j < p.size) : bt s j = bt p j := by
  unfold preQ at h
  simp only [Bool.and_eq_true, decide_eq_true_eq, beq_iff_eq] at h
  have e : s.extract 0 p.size = p := toList_iff.1 h.2
  have e2 := congrArg bytesOf e
  rw [bytesOf_extract, List.drop_zero, Nat.sub_zero] at e2
  rw [bt_get, bt_get, ← e2, List.getD_eq_getElem?_getD, List.getD_eq_getElem?_getD, List.getElem?_take_of_lt hj]
theorem first_at (s : ByteArray) (n : Nat) (hn : n < s.size) (h : bt s n = 32) (h2 : ∀ j : Nat, j < n → bt s j ≠ 32) : firstOf s 32 = n := by
  obtain ⟨h3, h4, h5, _⟩ := firstOf_spec s 32
  have c32 : ((32 : UInt8).toNat : Int) = 32 := rfl
  rw [c32] at h4 h5
  rcases Nat.lt_trichotomy (firstOf s 32) n with c | c | c
  · exact absurd (h5 (by omega)) (h2 _ c)
  · exact c
  · exact absurd h (h4 n c)
theorem first_fx {s : ByteArray} (h : preQ s fxP = true) : firstOf s 32 = 6 := by
  have hz := preQ_size h
  have e7 : fxP.size = 7 := rfl
  refine first_at s 6 (by omega) (by rw [pre_bt h 6 (by omega)]; rfl) (fun j hj => ?_)
  rw [pre_bt h j (by omega)]
  have : j = 0 ∨ j = 1 ∨ j = 2 ∨ j = 3 ∨ j = 4 ∨ j = 5 := by omega
  rcases this with rfl | rfl | rfl | rfl | rfl | rfl <;> decide
theorem first_sq {s : ByteArray} (h : preQ s sqP = true) : firstOf s 32 = 7 := by
  have hz := preQ_size h
  have e8 : sqP.size = 8 := rfl
  refine first_at s 7 (by omega) (by rw [pre_bt h 7 (by omega)]; rfl) (fun j hj => ?_)
  rw [pre_bt h j (by omega)]
  have : j = 0 ∨ j = 1 ∨ j = 2 ∨ j = 3 ∨ j = 4 ∨ j = 5 ∨ j = 6 := by omega
  rcases this with rfl | rfl | rfl | rfl | rfl | rfl | rfl <;> decide
theorem asks_l0 (n : Nat) : ∀ (s : ByteArray) (k : Int), s.size ≤ n → s.size ≤ 1000000000000000 → Ev (fun m => graftageref42_asks.l0 m s k) ((firstL n s k).2, (firstL n s k).1) := by
  induction n with
  | zero =>
    intro s k hs hb
    have h1 : preQ s fxP = false := Bool.eq_false_iff.2 (fun h => by have := preQ_size h; have : fxP.size = 7 := rfl; omega)
    have h2 : preQ s sqP = false := Bool.eq_false_iff.2 (fun h => by have := preQ_size h; have : sqP.size = 8 := rfl; omega)
    refine Ev.succ (Ev.congr (g := fun m => graftageref42_asks.j1 m s k false) (fun m => ?_) (Ev.succ (Ev.of (fun m => ?_))))
    · rw [graftageref42_asks.l0]
      change (graftageref42_begins.f s fxP).bind _ = _
      rw [begins_f, Option.bind_some, h1, if_neg (by simp)]
      change (graftageref42_begins.f s sqP).bind _ = _
      rw [begins_f, Option.bind_some, h2]
    · rw [graftageref42_asks.j1, if_neg (by simp)]; rfl
  | succ n ih =>
    intro s k hs hb
    rw [firstL]
    have hbl := blank_ev s (by omega)
    cases h1 : preQ s fxP with
    | true =>
      rw [if_pos rfl]
      have hz := preQ_size h1
      have e7 : fxP.size = 7 := rfl
      rw [first_fx h1] at hbl
      have hi := fun k' => ih (s.extract 7 s.size) k' (by rw [ByteArray.size_extract]; omega) (by rw [ByteArray.size_extract]; omega)
      have hw : wrap64 (((6 : Nat) : Int) + 1) = 7 := wrap64_id (by decide) (by decide)
      refine Ev.succ (Ev.congr (g := fun m => graftageref42_asks.j1 m s k true) (fun m => ?_) (Ev.succ ?_))
      · rw [graftageref42_asks.l0]
        change (graftageref42_begins.f s fxP).bind _ = _
        rw [begins_f, Option.bind_some, h1, if_pos rfl]
      · by_cases hk : k = 0
        · rw [if_pos hk]
          refine Ev.congr (fun m => ?_) (Ev.bind (g := fun t m => if 0 ≤ wrap64 (t + 1) then (if wrap64 (t + 1) ≤ (s.size : Int) then graftageref42_asks.l0 m (s.extract (wrap64 (t + 1)).toNat s.size) 5 else none) else none) hbl (Ev.congr (fun m => ?_) (hi 5)))
          · rw [graftageref42_asks.j1, if_pos rfl, if_pos hk]
            change (graftageref42_begins.f s fxP).bind _ = _
            rw [begins_f, Option.bind_some, h1, if_pos rfl]
          · rw [hw, if_pos (by decide), if_pos (by omega)]; rfl
        · rw [if_neg hk]
          refine Ev.congr (fun m => ?_) (Ev.bind (g := fun t m => if 0 ≤ wrap64 (t + 1) then (if wrap64 (t + 1) ≤ (s.size : Int) then graftageref42_asks.l0 m (s.extract (wrap64 (t + 1)).toNat s.size) k else none) else none) hbl (Ev.congr (fun m => ?_) (hi k)))
          · rw [graftageref42_asks.j1, if_pos rfl, if_neg hk]
          · rw [hw, if_pos (by decide), if_pos (by omega)]; rfl
    | false =>
      rw [if_neg (show ¬ (false = true) by simp)]
      cases h2 : preQ s sqP with
      | true =>
        rw [if_pos rfl]
        have hz := preQ_size h2
        have e8 : sqP.size = 8 := rfl
        rw [first_sq h2] at hbl
        have hi := fun k' => ih (s.extract 8 s.size) k' (by rw [ByteArray.size_extract]; omega) (by rw [ByteArray.size_extract]; omega)
        have hw : wrap64 (((7 : Nat) : Int) + 1) = 8 := wrap64_id (by decide) (by decide)
        refine Ev.succ (Ev.congr (g := fun m => graftageref42_asks.j1 m s k true) (fun m => ?_) (Ev.succ ?_))
        · rw [graftageref42_asks.l0]
          change (graftageref42_begins.f s fxP).bind _ = _
          rw [begins_f, Option.bind_some, h1, if_neg (by simp)]
          change (graftageref42_begins.f s sqP).bind _ = _
          rw [begins_f, Option.bind_some, h2]
        · by_cases hk : k = 0
          · rw [if_pos hk]
            refine Ev.congr (fun m => ?_) (Ev.bind (g := fun t m => if 0 ≤ wrap64 (t + 1) then (if wrap64 (t + 1) ≤ (s.size : Int) then graftageref42_asks.l0 m (s.extract (wrap64 (t + 1)).toNat s.size) 4 else none) else none) hbl (Ev.congr (fun m => ?_) (hi 4)))
            · rw [graftageref42_asks.j1, if_pos rfl, if_pos hk]
              change (graftageref42_begins.f s fxP).bind _ = _
              rw [begins_f, Option.bind_some, h1, if_neg (by simp)]
            · rw [hw, if_pos (by decide), if_pos (by omega)]; rfl
          · rw [if_neg hk]
            refine Ev.congr (fun m => ?_) (Ev.bind (g := fun t m => if 0 ≤ wrap64 (t + 1) then (if wrap64 (t + 1) ≤ (s.size : Int) then graftageref42_asks.l0 m (s.extract (wrap64 (t + 1)).toNat s.size) k else none) else none) hbl (Ev.congr (fun m => ?_) (hi k)))
            · rw [graftageref42_asks.j1, if_pos rfl, if_neg hk]
            · rw [hw, if_pos (by decide), if_pos (by omega)]; rfl
      | false =>
        rw [if_neg (show ¬ (false = true) by simp)]
        refine Ev.succ (Ev.congr (g := fun m => graftageref42_asks.j1 m s k false) (fun m => ?_) (Ev.succ (Ev.of (fun m => ?_))))
        · rw [graftageref42_asks.l0]
          change (graftageref42_begins.f s fxP).bind _ = _
          rw [begins_f, Option.bind_some, h1, if_neg (by simp)]
          change (graftageref42_begins.f s sqP).bind _ = _
          rw [begins_f, Option.bind_some, h2]
        · rw [graftageref42_asks.j1, if_neg (by simp)]
theorem asks_ev (s : ByteArray) (hb : s.size ≤ 1000000000000000) : Ev (fun m => graftageref42_asks.f m s) ((firstQ s).2, (firstQ s).1) := asks_l0 s.size s 0 (Nat.le_refl _) hb
theorem rd_mem (l : List Todo) (i : Nat) (h : i < l.length) : rd_T34 l i ∈ l := by
  have : rd_T34 l i = l[i] := by
    unfold rd_T34
    rw [Int.toNat_natCast, List.getD_eq_getElem?_getD, List.getElem?_eq_getElem h]; rfl
  rw [this]; exact List.getElem_mem h
def goalR (l : List Todo) (a : Nat) : Int × Int := if (goalQ l a).1 < 0 then (-1, 0) else goalQ l a
theorem goal_l0 (l : List Todo) (hl : l.length ≤ 1000000000) (a : Nat) (ha : a < l.length) (kq : Int) (s : ByteArray) (d : Nat) : ∀ i : Nat, a = i + d →
    Ev (fun k => graftageref42_goal.l0 k l a kq s i) (if idxQ (mendsQ s) ((l.take a).drop i) i < 0 then (-1, 0) else (idxQ (mendsQ s) ((l.take a).drop i) i, kq)) := by
  induction d with
  | zero =>
    intro i hi
    have h1 : (l.take a).length = a := by rw [List.length_take]; omega
    rw [List.drop_of_length_le (by omega), idxQ, if_pos (by decide)]
    refine Ev.succ (Ev.of (fun k => ?_))
    rw [graftageref42_goal.l0, if_neg (by omega)]
  | succ d ih =>
    intro i hi
    have hw : wrap64 ((i : Int) + 1) = ((i + 1 : Nat) : Int) := by rw [wrap64_id (by omega) (by omega)]; rfl
    have ih' := ih (i + 1) (by omega)
    rw [drop_take_cons l a i (by omega) (by omega), idxQ]
    refine Ev.succ ?_
    unfold mendsQ at *
    cases hm : makesQ (rd_T34 l i) with
    | true =>
      cases ht : ((rd_T34 l i).f2.toList == s.toList) with
      | true =>
        rw [if_pos (show (true && true) = true from rfl), if_neg (by omega)]
        refine Ev.of (fun k => ?_)
        rw [graftageref42_goal.l0, if_pos (by omega), if_pos (by omega), if_pos (by omega), rmakes_f, Option.bind_some, hm, if_pos rfl, if_pos (beq_iff_eq.1 ht)]
      | false =>
        rw [if_neg (show ¬ (true && false) = true by simp)]
        refine Ev.congr (fun k => ?_) ih'
        rw [graftageref42_goal.l0, if_pos (by omega), if_pos (by omega), if_pos (by omega), rmakes_f, Option.bind_some, hm, if_pos rfl, if_neg (beq_eq_false_iff_ne.1 ht), hw]
    | false =>
      rw [if_neg (show ¬ (false && _) = true by simp)]
      refine Ev.congr (fun k => ?_) ih'
      rw [graftageref42_goal.l0, if_pos (by omega), if_pos (by omega), if_pos (by omega), rmakes_f, Option.bind_some, hm, if_neg (by simp), hw]
theorem goal_ev (l : List Todo) (hl : l.length ≤ 1000000000) (hs : Sized l) (a : Nat) (ha : a < l.length) : Ev (fun k => graftageref42_goal.f k l a) (goalR l a) := by
  have hk := asks_ev (rd_T34 l a).f2 (hs _ (rd_mem l a ha)).2
  unfold goalR goalQ
  generalize firstQ (rd_T34 l a).f2 = F at *
  obtain ⟨s, kq⟩ := F
  dsimp only at *
  have hj : ∀ b : Bool, Ev (fun k => graftageref42_goal.j0 k l a kq s b) (if b = true then (-1, 0) else if idxQ (mendsQ s) (l.take a) 0 < 0 then (-1, 0) else (idxQ (mendsQ s) (l.take a) 0, kq)) := by
    intro b
    refine Ev.succ ?_
    cases b with
    | true => exact Ev.of (fun k => by rw [graftageref42_goal.j0, if_pos rfl]; rfl)
    | false =>
      rw [if_neg (by simp)]
      have := goal_l0 l hl a ha kq s a 0 (by omega)
      rw [List.drop_zero] at this
      refine Ev.congr (fun k => ?_) this
      rw [graftageref42_goal.j0, if_neg (by simp)]
      rfl
  by_cases h1 : (rd_T34 l a).f0 = 1
  · by_cases h2 : kq = 0
    · rw [if_pos (show (rd_T34 l a).f0 ≠ 1 ∨ kq = 0 from Or.inr h2), if_pos (show (-1 : Int) < 0 by decide)]
      refine Ev.val (Ev.congr (fun k => ?_) (Ev.bind (g := fun t k => if (rd_T34 l a).f0 = 1 then graftageref42_goal.j0 k l a t.1 t.2 (t.1 == 0) else graftageref42_goal.j0 k l a t.1 t.2 true) hk (Ev.congr (fun k => if_pos h1) (hj _)))) ?_
      · rw [graftageref42_goal.f, if_pos (by omega), if_pos (by omega)]
      · rw [h2, if_pos (show ((0 : Int) == 0) = true from rfl)]
    · rw [if_neg (show ¬ ((rd_T34 l a).f0 ≠ 1 ∨ kq = 0) from fun h => h.elim (fun h => h h1) h2)]
      refine Ev.val (Ev.congr (fun k => ?_) (Ev.bind (g := fun t k => if (rd_T34 l a).f0 = 1 then graftageref42_goal.j0 k l a t.1 t.2 (t.1 == 0) else graftageref42_goal.j0 k l a t.1 t.2 true) hk (Ev.congr (fun k => if_pos h1) (hj _)))) ?_
      · rw [graftageref42_goal.f, if_pos (by omega), if_pos (by omega)]
      · rw [beq_eq_false_iff_ne.mpr h2, if_neg (by simp)]
  · rw [if_pos (show (rd_T34 l a).f0 ≠ 1 ∨ kq = 0 from Or.inl h1), if_pos (show (-1 : Int) < 0 by decide)]
    refine Ev.val (Ev.congr (fun k => ?_) (Ev.bind (g := fun t k => if (rd_T34 l a).f0 = 1 then graftageref42_goal.j0 k l a t.1 t.2 (t.1 == 0) else graftageref42_goal.j0 k l a t.1 t.2 true) hk (Ev.congr (fun k => if_neg h1) (hj true)))) ?_
    · rw [graftageref42_goal.f, if_pos (by omega), if_pos (by omega)]
    · rw [if_pos rfl]
theorem goalQ_lt (l : List Todo) (k : Nat) : (goalQ l k).1 < k ∧ -1 ≤ (goalQ l k).1 := by
  unfold goalQ
  split
  · dsimp only; omega
  · have := idxQ_bound (mendsQ (firstQ (rd_T34 l k).f2).1) (l.take k) 0 (Int.le_refl 0)
    have h2 : (l.take k).length ≤ k := by rw [List.length_take]; omega
    dsimp only; omega
theorem beh_nil (l : List Todo) (i : Nat) : ∀ k, k ≤ i + 1 → behQ l i k = [] := by
  intro k
  induction k with
  | zero => intro _; rfl
  | succ k ih =>
    intro hk
    have := goalQ_lt l k
    rw [behQ, ih (by omega), if_neg (by omega)]; rfl
theorem auto_l1 (l : List Todo) (hl : l.length ≤ 256) (hs : Sized l) (i : Nat) (hi : i < l.length) (hg : (goalQ l i).1 < 0) (r : List Todo) (h : Ev (fun k => graftageref42_Auto.l0 k l (outQ l (i + 1)) ((i + 1 : Nat) : Int)) r) (d : Nat) : ∀ k : Nat, l.length = k + d →
    Ev (fun m => graftageref42_Auto.l1 m l (outQ l i ++ [rd_T34 l i] ++ behQ l i k) i k) r := by
  have hw : ∀ j : Nat, j ≤ 256 → wrap64 ((j : Int) + 1) = ((j + 1 : Nat) : Int) := fun j hj => by rw [wrap64_id (by omega) (by omega)]; rfl
  induction d with
  | zero =>
    intro k hk
    obtain rfl : l.length = k := hk
    refine Ev.succ (Ev.congr (fun m => ?_) h)
    rw [graftageref42_Auto.l1, if_neg (by omega), hw i (by omega)]
    rw [outQ, if_neg (by omega), List.append_assoc]
  | succ d ih =>
    intro k hk
    have ih' := ih (k + 1) (by omega)
    rw [behQ, ← List.append_assoc] at ih'
    have hge := goal_ev l (by omega) hs k (by omega)
    refine Ev.succ (Ev.congr (fun m => ?_) (Ev.bind (g := fun t m => if t.1 = (i : Int) then (if 0 ≤ (k : Int) then (if (outQ l i ++ [rd_T34 l i] ++ behQ l i k).length < 3518437208883 then graftageref42_Auto.l1 m l ((outQ l i ++ [rd_T34 l i] ++ behQ l i k) ++ [(⟨t.2, (rd_T34 l k).f1, (rd_T34 l k).f2⟩ : Todo)]) i (wrap64 ((k : Int) + 1)) else none) else none) else graftageref42_Auto.l1 m l (outQ l i ++ [rd_T34 l i] ++ behQ l i k) i (wrap64 ((k : Int) + 1))) hge ?_))
    · rw [graftageref42_Auto.l1, if_pos (by omega)]
    · have hlen := outQ_length l i
      have hbl := behQ_length l i k
      have hsm : i * (l.length + 1) ≤ 256 * 257 := Nat.mul_le_mul (by omega) (by omega)
      rw [hw k (by omega)]
      unfold goalR
      by_cases c : (goalQ l k).1 = i
      · rw [if_neg (by omega)]
        rw [if_pos c] at ih'
        refine Ev.congr (fun m => ?_) ih'
        rw [if_pos c, if_pos (by omega), if_pos (by simp; omega)]
      · rw [if_neg c, List.append_nil] at ih'
        refine Ev.congr (fun m => if_neg ?_) ih'
        split
        · dsimp only; omega
        · exact c
theorem auto_l0 (l : List Todo) (hl : l.length ≤ 256) (hs : Sized l) (d : Nat) : ∀ i : Nat, l.length = i + d → Ev (fun m => graftageref42_Auto.l0 m l (outQ l i) i) (outQ l l.length) := by
  have hw : ∀ j : Nat, j ≤ 256 → wrap64 ((j : Int) + 1) = ((j + 1 : Nat) : Int) := fun j hj => by rw [wrap64_id (by omega) (by omega)]; rfl
  induction d with
  | zero =>
    intro i hi
    obtain rfl : l.length = i := hi
    refine Ev.succ (Ev.of (fun m => ?_))
    rw [graftageref42_Auto.l0, if_neg (by omega)]
  | succ d ih =>
    intro i hi
    have ih' := ih (i + 1) (by omega)
    have hge := goal_ev l (by omega) hs i (by omega)
    refine Ev.succ (Ev.congr (fun m => ?_) (Ev.bind (g := fun t m => if t.1 ≥ 0 then graftageref42_Auto.l0 m l (outQ l i) (wrap64 ((i : Int) + 1)) else (if 0 ≤ (i : Int) then (if (outQ l i).length < 3518437208883 then graftageref42_Auto.l1 m l (outQ l i ++ [(⟨(rd_T34 l i).f0, (rd_T34 l i).f1, (rd_T34 l i).f2⟩ : Todo)]) i (wrap64 ((i : Int) + 1)) else none) else none)) hge ?_))
    · rw [graftageref42_Auto.l0, if_pos (by omega)]
    · have hlen := outQ_length l i
      have hsm : i * (l.length + 1) ≤ 256 * 257 := Nat.mul_le_mul (by omega) (by omega)
      rw [hw i (by omega)]
      unfold goalR
      by_cases c : (goalQ l i).1 < 0
      · rw [if_pos c]
        have h1 := auto_l1 l hl hs i (by omega) c _ ih' (l.length - (i + 1)) (i + 1) (by omega)
        rw [beh_nil l i (i + 1) (Nat.le_refl _), List.append_nil] at h1
        refine Ev.congr (fun m => ?_) h1
        rw [if_neg (by decide), if_pos (by omega), if_pos (by omega)]
      · rw [if_neg c]
        have e : outQ l (i + 1) = outQ l i := by rw [outQ, if_pos (by omega), List.append_nil]
        rw [e] at ih'
        refine Ev.congr (fun m => ?_) ih'
        rw [if_pos (by omega)]
theorem auto_ev (l : List Todo) (hs : Sized l) : Ev (fun m => graftageref42_Auto.f m l) (autoQ l) := by
  refine Ev.congr (fun m => by rw [graftageref42_Auto.f]) (Ev.bind (g := fun t m => if t = 0 then graftageref42_Auto.l0 m l [] 0 else some l) (check_ev l hs) ?_)
  unfold autoQ
  by_cases c : checkQ l = 0
  · rw [if_pos c]
    refine Ev.congr (fun m => if_pos c) ?_
    exact auto_l0 l (check_le c) hs l.length 0 (by omega)
  · rw [if_neg c]
    exact Ev.congr (fun m => if_neg c) (Ev.pure l)
end Go.Proofs.YtefnmfcgjlppaaaDoor.Pure
