/- The plain law of todo.Parse: what the program's Parse tells is what the reference's tells. -/
import Derived.Test.YtefnmfcgjlppaaaDoorZRow
namespace Go.Proofs.YtefnmfcgjlppaaaDoor.Pure
open Go.RowKit Go.Proofs.YtefnmfcgjlppaaaDoor.PTd Go.Proofs.YtefnmfcgjlppaaaDoor.Hand Go.Proofs.YtefnmfcgjlppaaaDoorW.PrintWords Go.Proofs.YtefnmfcgjlppaaaDoorW.PrintLast
set_option linter.unusedVariables false
set_option linter.unusedSimpArgs false
/-! the lines -/
def splQ : Nat → ByteArray → List ByteArray
  | 0, _ => []
  | n + 1, x => if x.size = 0 then [] else if firstOf x 10 < x.size then x.extract 0 (firstOf x 10 + 1) :: splQ n (x.extract (firstOf x 10 + 1) x.size) else [x]
theorem splQ_length : ∀ (n : Nat) (x : ByteArray), (splQ n x).length ≤ n := by
  intro n
  induction n with
  | zero => intro x; simp [splQ]
  | succ n ih =>
    intro x
    rw [splQ]
    split
    · simp
    · split
      · have := ih (x.extract (firstOf x 10 + 1) x.size); simp; omega
      · simp
theorem splQ_mem : ∀ (n : Nat) (x : ByteArray), ∀ t ∈ splQ n x, 0 < t.size ∧ t.size ≤ x.size := by
  intro n
  induction n with
  | zero => intro x t h; simp [splQ] at h
  | succ n ih =>
    intro x t h
    rw [splQ] at h
    split at h
    · cases h
    · rename_i h0
      split at h
      · rename_i h1
        rcases List.mem_cons.1 h with rfl | h
        · rw [ByteArray.size_extract]; omega
        · have := ih _ t h
          rw [ByteArray.size_extract] at this
          omega
      · simp only [List.mem_singleton] at h
        subst h; omega
theorem toList_size (s : ByteArray) : s.toList = [] ↔ s.size = 0 := by
  rw [toList_bytes]
  have e : s.size = s.data.toList.length := by rw [Array.length_toList]; rfl
  rw [e, List.length_eq_zero_iff]
theorem index_nl (x : ByteArray) : ∃ r : Int, strings_Index.f x ⟨#[10]⟩ = some r ∧ ((r = -1 ∧ ¬ firstOf x 10 < x.size) ∨ (r = (firstOf x 10 : Nat) ∧ firstOf x 10 < x.size)) := by
  refine ⟨Lib.indexByte x.data.toList 10, by unfold strings_Index.f; rw [if_pos (show (⟨#[10]⟩ : ByteArray).size = 1 from rfl)]; rfl, ?_⟩
  obtain ⟨_, _, _, h4⟩ := firstOf_spec x 10
  have hge := Lib.indexByte_ge x.data.toList 10
  by_cases c : 0 ≤ Lib.indexByte x.data.toList 10
  · right
    refine ⟨?_, h4.1 c⟩
    unfold firstOf
    rw [if_pos c]; omega
  · left
    exact ⟨by omega, fun h => c (h4.2 h)⟩
theorem lsplit_l0 : ∀ (n : Nat) (x : ByteArray) (out : List ByteArray), x.size ≤ n → out.length + n ≤ 1000000000 → Ev (fun k => lines_Split.l0 k x out) (out ++ splQ n x) := by
  intro n
  induction n with
  | zero =>
    intro x out hx ho
    refine Ev.succ (Ev.of (fun k => ?_))
    rw [lines_Split.l0, if_pos ((toList_size x).2 (by omega)), splQ, List.append_nil]
  | succ n ih =>
    intro x out hx ho
    rw [splQ]
    by_cases h0 : x.size = 0
    · rw [if_pos h0, List.append_nil]
      refine Ev.succ (Ev.of (fun k => ?_))
      rw [lines_Split.l0, if_pos ((toList_size x).2 h0)]
    · rw [if_neg h0]
      have hne : ¬ x.toList = [] := fun h => h0 ((toList_size x).1 h)
      obtain ⟨r, hr, h | h⟩ := index_nl x
      · obtain ⟨rfl, h1⟩ := h
        rw [if_neg h1]
        have e0 : wrap64 (-1 + 1) = 0 := wrap64_id (by decide) (by decide)
        have ee : x.extract ((x.size : Int)).toNat x.size = ⟨#[]⟩ := bytesOf_inj (by rw [bytesOf_extract, bytesOf_empty]; simp)
        have e2 : x.extract 0 ((x.size : Int)).toNat = x := by rw [Int.toNat_natCast]; exact ByteArray.extract_zero_size
        have hlast : Ev (fun k => lines_Split.l0 k ⟨#[]⟩ (out ++ [x])) (out ++ [x]) := Ev.succ (Ev.of (fun k => by rw [lines_Split.l0, if_pos ((toList_size _).2 rfl)]))
        refine Ev.succ (Ev.congr (fun k => ?_) hlast)
        rw [lines_Split.l0, if_neg hne, hr, Option.bind_some, e0, if_pos rfl, if_pos (by omega), if_pos (by omega), if_pos (by omega), ee, e2]
      · obtain ⟨rfl, h1⟩ := h
        rw [if_pos h1]
        have e1 : wrap64 ((firstOf x 10 : Int) + 1) = ((firstOf x 10 + 1 : Nat) : Int) := by rw [wrap64_id (by omega) (by omega)]; rfl
        have ih' := ih (x.extract (firstOf x 10 + 1) x.size) (out ++ [x.extract 0 (firstOf x 10 + 1)]) (by rw [ByteArray.size_extract]; omega) (by simp; omega)
        rw [List.append_assoc, List.singleton_append] at ih'
        refine Ev.succ (Ev.congr (fun k => ?_) ih')
        rw [lines_Split.l0, if_neg hne, hr, Option.bind_some, e1, if_neg (by omega), if_pos (by omega), if_pos (by omega), if_pos (by omega), Int.toNat_natCast]
theorem lsplit_ev (s : ByteArray) (hs : s.size ≤ 1000000000) : Ev (fun k => lines_Split.f k s) (splQ s.size s) := by
  have := lsplit_l0 s.size s [] (Nat.le_refl _) (by simp; omega)
  rw [List.nil_append] at this
  exact this
theorem first_at' (s : ByteArray) (c : UInt8) (n : Nat) (hn : n < s.size) (h : bt s n = c.toNat) (h2 : ∀ j : Nat, j < n → bt s j ≠ c.toNat) : firstOf s c = n := by
  obtain ⟨h3, h4, h5, _⟩ := firstOf_spec s c
  rcases Nat.lt_trichotomy (firstOf s c) n with g | g | g
  · exact absurd (h5 (by omega)) (h2 _ g)
  · exact g
  · exact absurd h (h4 n g)
theorem bt_extract (s : ByteArray) (p q j : Nat) (h : j < q - p) : bt (s.extract p q) j = bt s (p + j : Nat) := by
  rw [bt_get, bt_get, bytesOf_extract, List.getD_eq_getElem?_getD, List.getD_eq_getElem?_getD, List.getElem?_take_of_lt h, List.getElem?_drop]
theorem extract_both (s : ByteArray) (p a b : Nat) (hb : p + b ≤ s.size) : (s.extract p s.size).extract a b = s.extract (p + a) (p + b) := bytesOf_inj (by
  rw [bytesOf_extract, bytesOf_extract, bytesOf_extract, List.drop_take, List.drop_drop, List.take_take, show min (b - a) (s.size - p - a) = p + b - (p + a) by omega])
theorem rsplit_l0 (s : ByteArray) (hs : s.size ≤ 1000000000) (d : Nat) : ∀ (i fr : Nat) (out : List ByteArray) (m : Nat), s.size = i + d → fr ≤ i → (∀ j : Nat, fr ≤ j → j < i → bt s j ≠ 10) → s.size - fr ≤ m → out.length ≤ fr →
    Ev (fun k => graftageref05_Split.l0 k s out fr s.size i) (out ++ splQ m (s.extract fr s.size)) := by
  induction d with
  | zero =>
    intro i fr out m hi hf hn hm ho
    obtain rfl : s.size = i := hi
    have hz : (s.extract fr s.size).size = s.size - fr := by rw [ByteArray.size_extract]; omega
    by_cases c : fr < s.size
    · obtain ⟨m, rfl⟩ : ∃ m', m = m' + 1 := ⟨m - 1, by omega⟩
      have hno : ¬ firstOf (s.extract fr s.size) 10 < (s.extract fr s.size).size := by
        intro h
        have h5 := (firstOf_spec (s.extract fr s.size) 10).2.2.1 h
        rw [hz] at h
        rw [bt_extract _ _ _ _ (by omega)] at h5
        exact hn _ (by omega) (by omega) h5
      rw [splQ, if_neg (by omega), if_neg hno]
      refine Ev.succ (Ev.of (fun k => ?_))
      rw [graftageref05_Split.l0, if_neg (by omega), if_pos (by omega), if_pos (by omega), if_pos (by omega), if_pos (by omega), Int.toNat_natCast]
    · have : splQ m (s.extract fr s.size) = [] := by
        cases m with
        | zero => rfl
        | succ m => rw [splQ, if_pos (by omega)]
      rw [this, List.append_nil]
      refine Ev.succ (Ev.of (fun k => ?_))
      rw [graftageref05_Split.l0, if_neg (by omega), if_neg (by omega)]
  | succ d ih =>
    intro i fr out m hi hf hn hm ho
    have hz : (s.extract fr s.size).size = s.size - fr := by rw [ByteArray.size_extract]; omega
    have hw : wrap64 ((i : Int) + 1) = ((i + 1 : Nat) : Int) := by rw [wrap64_id (by omega) (by omega)]; rfl
    by_cases c : bt s i = 10
    · obtain ⟨m, rfl⟩ : ∃ m', m = m' + 1 := ⟨m - 1, by omega⟩
      have hfi : firstOf (s.extract fr s.size) 10 = i - fr := by
        refine first_at' _ 10 (i - fr) (by omega) ?_ (fun j hj => ?_)
        · rw [bt_extract _ _ _ _ (by omega), show fr + (i - fr) = i by omega]; exact c
        · rw [bt_extract _ _ _ _ (by omega)]; exact hn _ (by omega) (by omega)
      rw [splQ, if_neg (by omega), hfi, if_pos (by omega), hz, extract_both s fr 0 (i - fr + 1) (by omega), extract_both s fr (i - fr + 1) (s.size - fr) (by omega)]
      rw [show fr + 0 = fr by omega, show fr + (i - fr + 1) = i + 1 by omega, show fr + (s.size - fr) = s.size by omega]
      have ih' := ih (i + 1) (i + 1) (out ++ [s.extract fr (i + 1)]) m (by omega) (Nat.le_refl _) (fun j h1 h2 => by omega) (by omega) (by simp; omega)
      rw [List.append_assoc, List.singleton_append] at ih'
      refine Ev.succ (Ev.congr (fun k => ?_) ih')
      rw [graftageref05_Split.l0, if_pos (by omega), if_pos (by omega), if_pos (by omega), if_pos c, hw, if_pos (by omega), if_pos (by omega), if_pos (by omega), if_pos (by omega), Int.toNat_natCast, Int.toNat_natCast]
    · have ih' := ih (i + 1) fr out m (by omega) (by omega) (fun j h1 h2 => by
        by_cases e : j = i
        · rw [e]; exact c
        · exact hn j h1 (by omega)) hm ho
      refine Ev.succ (Ev.congr (fun k => ?_) ih')
      rw [graftageref05_Split.l0, if_pos (by omega), if_pos (by omega), if_pos (by omega), if_neg c, hw]
theorem rsplit_ev (s : ByteArray) (hs : s.size ≤ 1000000000) : Ev (fun k => graftageref05_Split.f k s) (splQ s.size s) := by
  have := rsplit_l0 s hs s.size 0 0 [] s.size (by omega) (Nat.le_refl _) (fun j h1 h2 => by omega) (by omega) (by simp)
  rw [List.nil_append, ByteArray.extract_zero_size] at this
  exact this
/-! a line without its end -/
def trimQ (t : ByteArray) : ByteArray := if bt t (t.size - 1 : Nat) = 10 then t.extract 0 (t.size - 1) else t
theorem trim_f (t : ByteArray) (h0 : 0 < t.size) (hs : t.size ≤ 1000000000) : strings_TrimSuffix.f t ⟨#[10]⟩ = some (trimQ t) := by
  have hw : wrap64 ((t.size : Int) - 1) = ((t.size - 1 : Nat) : Int) := by rw [wrap64_id (by omega) (by omega)]; omega
  have e1 : (⟨#[10]⟩ : ByteArray).size = 1 := rfl
  have hb : ((t.extract (t.size - 1) t.size).toList == (⟨#[10]⟩ : ByteArray).toList) = decide (bt t (t.size - 1 : Nat) = 10) := by
    rw [bt_get]
    have hl : (bytesOf t).length = t.size := bytesOf_length t
    have hlt : t.size - 1 < (bytesOf t).length := by omega
    have e2 : bytesOf (t.extract (t.size - 1) t.size) = [(bytesOf t).getD (t.size - 1) 0] := by
      rw [bytesOf_extract, List.drop_eq_getElem_cons hlt, show t.size - (t.size - 1) = 0 + 1 by omega, List.take_succ_cons, List.take_zero, List.getD_eq_getElem?_getD, List.getElem?_eq_getElem hlt]
      rfl
    have e3 : bytesOf (⟨#[10]⟩ : ByteArray) = [10] := rfl
    by_cases c : (bytesOf t).getD (t.size - 1) 0 = 10
    · rw [decide_eq_true c, beq_iff_eq, toList_iff]
      exact bytesOf_inj (by rw [e2, e3, c])
    · rw [decide_eq_false c, beq_eq_false_iff_ne]
      intro h
      have h2 := congrArg bytesOf (toList_iff.1 h)
      rw [e2, e3] at h2
      injection h2 with h2
      exact c h2
  unfold strings_TrimSuffix.f stringslite_TrimSuffix.f stringslite_HasSuffix.f trimQ
  have hw1 : wrap64 ((t.size : Int) - ((1 : Nat) : Int)) = ((t.size - 1 : Nat) : Int) := hw
  rw [e1, if_pos (by omega), hw1, if_pos (by omega), if_pos (by omega), Option.bind_some, Int.toNat_natCast, hb]
  by_cases c : bt t (t.size - 1 : Nat) = 10
  · rw [decide_eq_true c, if_pos rfl, if_pos (by omega), if_pos (by omega), if_pos c, Option.bind_some]
  · rw [decide_eq_false c, if_neg (by simp), if_neg c, Option.bind_some]
theorem trimQ_size (t : ByteArray) : (trimQ t).size ≤ t.size := by
  unfold trimQ
  split
  · rw [ByteArray.size_extract]; omega
  · exact Nat.le_refl _
/-! Parse -/
def parseL : List ByteArray → Int → List Todo → List Todo × Int × Int
  | [], _, out => if checkQ out = 0 then (out, 0, 0) else ([], -1, checkQ out)
  | t :: ts, i, out => if (trimQ t).size = 0 ∨ bt (trimQ t) 0 = 35 then parseL ts (i + 1) out
    else if (thingQ (trimQ t)).2 = true then parseL ts (i + 1) (out ++ [(⟨(thingQ (trimQ t)).1.1, (thingQ (trimQ t)).1.2.1, (thingQ (trimQ t)).1.2.2⟩ : Todo)])
    else ([], i, 2)
def parseQ (s : ByteArray) : List Todo × Int × Int := parseL (splQ s.size s) 0 []
theorem cutA_size (s : ByteArray) : (cutA s).size ≤ s.size := by
  unfold cutA
  split
  · rw [ByteArray.size_extract]; omega
  · exact Nat.le_refl _
theorem thingQ_size (s : ByteArray) : (thingQ s).1.2.1.size ≤ s.size ∧ (thingQ s).1.2.2.size ≤ s.size := by
  unfold thingQ
  split
  · exact ⟨Nat.zero_le _, Nat.zero_le _⟩
  · have h1 := cutB_size s
    have h2 := cutA_size (cutB s)
    have h3 := cutB_size (cutB s)
    constructor
    · show (cutA (cutB s)).size ≤ s.size; omega
    · show (cutB (cutB s)).size ≤ s.size; omega
theorem rdO_cons (ls : List ByteArray) (i : Nat) (h : i < ls.length) : ls.drop i = rdOf ByteArray.empty ls i :: ls.drop (i + 1) := by
  rw [List.drop_eq_getElem_cons h]
  congr 1
  unfold rdOf
  rw [Int.toNat_natCast, List.getD_eq_getElem?_getD, List.getElem?_eq_getElem h]; rfl
theorem rdO_mem (ls : List ByteArray) (i : Nat) (h : i < ls.length) : rdOf ByteArray.empty ls i ∈ ls := by
  have : rdOf ByteArray.empty ls i = ls[i] := by
    unfold rdOf
    rw [Int.toNat_natCast, List.getD_eq_getElem?_getD, List.getElem?_eq_getElem h]; rfl
  rw [this]; exact List.getElem_mem h
theorem tparse_l0 (ls : List ByteArray) (hl : ls.length ≤ 1000000000) (hp : ∀ t ∈ ls, 0 < t.size ∧ t.size ≤ 1000000000) (d : Nat) : ∀ (i : Nat) (out : List Todo), ls.length = i + d → out.length ≤ i →
    Ev (fun k => todo_Parse.l0 k out ls ls.length i) (parseL (ls.drop i) i out) := by
  induction d with
  | zero =>
    intro i out hi ho
    rw [List.drop_of_length_le (by omega), parseL]
    refine Ev.succ (Ev.of (fun k => ?_))
    rw [todo_Parse.l0, if_neg (by omega), check_f, Option.bind_some]
    split <;> rfl
  | succ d ih =>
    intro i out hi ho
    have hlt : i < ls.length := by omega
    have hw : wrap64 ((i : Int) + 1) = ((i + 1 : Nat) : Int) := by rw [wrap64_id (by omega) (by omega)]; rfl
    obtain ⟨p0, p1⟩ := hp _ (rdO_mem ls i hlt)
    rw [rdO_cons ls i hlt, parseL]
    generalize ht : rdOf ByteArray.empty ls i = t at *
    have hts := trimQ_size t
    have hskip : Ev (fun k => todo_Parse.j1 k out i (trimQ t) ls ls.length i true) (parseL (ls.drop (i + 1)) ((i : Int) + 1) out) := by
      refine Ev.succ (Ev.congr (fun k => ?_) (ih (i + 1) out (by omega) (by omega)))
      rw [todo_Parse.j1, if_pos rfl, hw]
    by_cases c1 : (trimQ t).size = 0
    · rw [if_pos (Or.inl c1)]
      refine Ev.succ (Ev.congr (fun k => ?_) hskip)
      rw [todo_Parse.l0, if_pos (by omega), if_pos (by omega), if_pos (by omega), ht, trim_f t p0 p1, Option.bind_some, if_pos ((toList_size _).2 c1)]
    · by_cases c2 : bt (trimQ t) 0 = 35
      · rw [if_pos (Or.inr c2)]
        refine Ev.succ (Ev.congr (fun k => ?_) hskip)
        rw [todo_Parse.l0, if_pos (by omega), if_pos (by omega), if_pos (by omega), ht, trim_f t p0 p1, Option.bind_some, if_neg (fun h => c1 ((toList_size _).1 h)), if_pos (by omega), beq_iff_eq.2 c2]
      · rw [if_neg (fun h => h.elim c1 c2)]
        refine Ev.succ (Ev.congr (g := fun k => todo_Parse.j1 k out i (trimQ t) ls ls.length i false) (fun k => ?_) (Ev.succ ?_))
        · rw [todo_Parse.l0, if_pos (by omega), if_pos (by omega), if_pos (by omega), ht, trim_f t p0 p1, Option.bind_some, if_neg (fun h => c1 ((toList_size _).1 h)), if_pos (by omega), beq_eq_false_iff_ne.2 c2]
        · have hf : todo_thing.f (trimQ t) = some ((thingQ (trimQ t)).1.1, (thingQ (trimQ t)).1.2.1, (thingQ (trimQ t)).1.2.2, (thingQ (trimQ t)).2) := by unfold todo_thing.f; rw [if_pos (by omega)]
          by_cases c3 : (thingQ (trimQ t)).2 = true
          · rw [if_pos c3]
            refine Ev.congr (fun k => ?_) (ih (i + 1) _ (by omega) (by simp; omega))
            rw [todo_Parse.j1, if_neg (by simp), hf, Option.bind_some, if_pos c3, if_pos (by omega), hw]
          · rw [if_neg c3]
            refine Ev.of (fun k => ?_)
            rw [todo_Parse.j1, if_neg (by simp), hf, Option.bind_some, if_neg c3]
theorem tparse_ev (s : ByteArray) (hs : s.size ≤ 1000000000) : Ev (fun k => todo_Parse.f k s) (parseQ s) := by
  have hm := splQ_mem s.size s
  have hl := splQ_length s.size s
  refine Ev.congr (fun k => by rw [todo_Parse.f]) (Ev.bind (g := fun t k => todo_Parse.l0 k [] t t.length 0) (lsplit_ev s hs) ?_)
  exact tparse_l0 _ (by omega) (fun t ht => by have := hm t ht; omega) (splQ s.size s).length 0 [] (by omega) (by simp)
theorem rparse_l0 (ls : List ByteArray) (hl : ls.length ≤ 1000000000) (hp : ∀ t ∈ ls, 0 < t.size ∧ t.size ≤ 1000000000) (d : Nat) : ∀ (i : Nat) (out : List Todo), ls.length = i + d → out.length ≤ i → Sized out →
    Ev (fun k => graftageref42_Parse.l0 k ls out i) (parseL (ls.drop i) i out) := by
  induction d with
  | zero =>
    intro i out hi ho hS
    rw [List.drop_of_length_le (by omega), parseL]
    refine Ev.succ (Ev.congr (fun k => by rw [graftageref42_Parse.l0, if_neg (by omega)]) (Ev.bind (g := fun t _ => if t = 0 then some (out, 0, 0) else some ([], -1, t)) (check_ev out hS) ?_))
    exact Ev.of (fun k => by split <;> rfl)
  | succ d ih =>
    intro i out hi ho hS
    have hlt : i < ls.length := by omega
    have hw : wrap64 ((i : Int) + 1) = ((i + 1 : Nat) : Int) := by rw [wrap64_id (by omega) (by omega)]; rfl
    obtain ⟨p0, p1⟩ := hp _ (rdO_mem ls i hlt)
    rw [rdO_cons ls i hlt, parseL]
    generalize ht : rdOf ByteArray.empty ls i = t at *
    have hts := trimQ_size t
    have hwt : wrap64 ((t.size : Int) - 1) = ((t.size - 1 : Nat) : Int) := by rw [wrap64_id (by omega) (by omega)]; omega
    have hj1 : ∀ R, Ev (fun k => graftageref42_Parse.j1 k ls out i (trimQ t)) R → Ev (fun k => graftageref42_Parse.l0 k ls out i) R := by
      intro R h
      refine Ev.succ (Ev.congr (fun k => ?_) h)
      rw [graftageref42_Parse.l0, if_pos (by omega), if_pos (by omega), ht, hwt, if_pos (by omega), if_pos (by omega)]
      unfold trimQ
      by_cases c : bt t (t.size - 1 : Nat) = 10
      · rw [if_pos c, if_pos (by omega), if_pos c, Int.toNat_natCast]
      · rw [if_neg c, if_neg c]
    have hskip : Ev (fun k => graftageref42_Parse.j2 k ls out i (trimQ t) true) (parseL (ls.drop (i + 1)) ((i : Int) + 1) out) := by
      refine Ev.succ (Ev.congr (fun k => ?_) (ih (i + 1) out (by omega) (by omega) hS))
      rw [graftageref42_Parse.j2, if_pos rfl, hw]
    refine hj1 _ (Ev.succ ?_)
    by_cases c1 : (trimQ t).size = 0
    · rw [if_pos (Or.inl c1)]
      refine Ev.congr (fun k => ?_) hskip
      rw [graftageref42_Parse.j1, if_pos ((toList_size _).2 c1)]
    · by_cases c2 : bt (trimQ t) 0 = 35
      · rw [if_pos (Or.inr c2)]
        refine Ev.congr (fun k => ?_) hskip
        rw [graftageref42_Parse.j1, if_neg (fun h => c1 ((toList_size _).1 h)), if_pos (by omega), beq_iff_eq.2 c2]
      · rw [if_neg (fun h => h.elim c1 c2)]
        refine Ev.congr (g := fun k => graftageref42_Parse.j2 k ls out i (trimQ t) false) (fun k => ?_) (Ev.succ ?_)
        · rw [graftageref42_Parse.j1, if_neg (fun h => c1 ((toList_size _).1 h)), if_pos (by omega), beq_eq_false_iff_ne.2 c2]
        · have hf : graftageref42_line.f (trimQ t) = some ((thingQ (trimQ t)).1.1, (thingQ (trimQ t)).1.2.1, (thingQ (trimQ t)).1.2.2, (thingQ (trimQ t)).2) := by unfold graftageref42_line.f; rw [if_pos (by omega)]
          by_cases c3 : (thingQ (trimQ t)).2 = true
          · rw [if_pos c3]
            have hz := thingQ_size (trimQ t)
            refine Ev.congr (fun k => ?_) (ih (i + 1) _ (by omega) (by simp; omega) (fun x hx => by
              rcases List.mem_append.1 hx with hx | hx
              · exact hS x hx
              · simp only [List.mem_singleton] at hx
                subst hx
                dsimp only; omega))
            rw [graftageref42_Parse.j2, if_neg (by simp), hf, Option.bind_some, if_pos c3, if_pos (by omega), hw]
          · rw [if_neg c3]
            refine Ev.of (fun k => ?_)
            rw [graftageref42_Parse.j2, if_neg (by simp), hf, Option.bind_some, if_neg c3]
theorem rparse_ev (s : ByteArray) (hs : s.size ≤ 1000000000) : Ev (fun k => graftageref42_Parse.f k s) (parseQ s) := by
  have hm := splQ_mem s.size s
  have hl := splQ_length s.size s
  refine Ev.congr (fun k => by rw [graftageref42_Parse.f]) (Ev.bind (g := fun t k => graftageref42_Parse.l0 k t [] 0) (rsplit_ev s hs) ?_)
  exact rparse_l0 _ (by omega) (fun t ht => by have := hm t ht; omega) (splQ s.size s).length 0 [] (by omega) (by simp) (fun x hx => by cases hx)
theorem parseL_length : ∀ (ls : List ByteArray) (i : Int) (out : List Todo), (parseL ls i out).1.length ≤ out.length + ls.length := by
  intro ls
  induction ls with
  | nil => intro i out; rw [parseL]; split <;> simp
  | cons t ls ih =>
    intro i out
    rw [parseL]
    split
    · have := ih (i + 1) out; simp; omega
    · split
      · have := ih (i + 1) (out ++ [(⟨(thingQ (trimQ t)).1.1, (thingQ (trimQ t)).1.2.1, (thingQ (trimQ t)).1.2.2⟩ : Todo)])
        simp at this ⊢; omega
      · simp
theorem TodoParses (s : ByteArray) : Ev (fun k => graftagelaw42_TodoParses.f k s) true := by
  have hlv : Ev (fun k => (graftagelaw42_lives.f k).bind fun t => some t) true := Ev.bind (g := fun t _ => some t) lives_ev (Ev.pure true)
  by_cases h : (s.size : Int) > 3000
  · exact Ev.congr (fun k => by rw [graftagelaw42_TodoParses.f, if_pos h]) hlv
  · refine Ev.congr (fun k => by rw [graftagelaw42_TodoParses.f, if_neg h]) ?_
    have hlen : (parseQ s).1.length ≤ 3000 := by
      have h1 := parseL_length (splQ s.size s) 0 []
      have h2 := splQ_length s.size s
      unfold parseQ
      simp at h1; omega
    refine Ev.bind (g := fun b k => (graftageref42_Parse.f k s).bind fun bt212 => ((graftageref42_Same.f k b.1 bt212.1).bind fun t217 => (if t217 = true then (if b.2.1 = bt212.2.1 then (if b.2.2 = bt212.2.2 then ((graftagelaw42_lives.f k).bind fun t218 => (some t218)) else (some false)) else (some false)) else (some false)))) (tparse_ev s (by omega)) ?_
    refine Ev.bind (g := fun b k => (graftageref42_Same.f k (parseQ s).1 b.1).bind fun t217 => (if t217 = true then (if (parseQ s).2.1 = b.2.1 then (if (parseQ s).2.2 = b.2.2 then ((graftagelaw42_lives.f k).bind fun t218 => (some t218)) else (some false)) else (some false)) else (some false))) (rparse_ev s (by omega)) ?_
    refine Ev.bind (g := fun t k => if t = true then (if (parseQ s).2.1 = (parseQ s).2.1 then (if (parseQ s).2.2 = (parseQ s).2.2 then ((graftagelaw42_lives.f k).bind fun t218 => (some t218)) else (some false)) else (some false)) else (some false)) (same_ev (parseQ s).1 (by omega)) ?_
    exact Ev.congr (fun k => by rw [if_pos rfl, if_pos rfl, if_pos rfl]) hlv
end Go.Proofs.YtefnmfcgjlppaaaDoor.Pure
