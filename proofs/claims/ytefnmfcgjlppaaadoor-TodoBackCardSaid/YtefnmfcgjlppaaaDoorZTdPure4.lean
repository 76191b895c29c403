/- The plain law of TodoTells: Text, Check and Left agree with the reference. -/
import Derived.Test.YtefnmfcgjlppaaaDoorZRow
import Derived.Test.YtefnmfcgjlppaaaDoorZPTdx20
namespace Go.Proofs.YtefnmfcgjlppaaaDoor.Pure
open Go.RowKit Go.Proofs.YtefnmfcgjlppaaaDoor.PTd Go.Proofs.YtefnmfcgjlppaaaDoor.Hand Go.Proofs.YtefnmfcgjlppaaaDoorW.PrintWords Go.Proofs.YtefnmfcgjlppaaaDoorW.PrintLast
set_option linter.unusedVariables false
set_option linter.unusedSimpArgs false
/-! Left -/
def leftL : List Todo → Int
  | [] => 0
  | x :: l => (if makesQ x = true then 1 else 0) + leftL l
theorem leftL_bound (l : List Todo) : 0 ≤ leftL l ∧ leftL l ≤ l.length := by
  induction l with
  | nil => simp [leftL]
  | cons x l ih => rw [leftL]; split <;> simp <;> omega
theorem left_l0 (l : List Todo) (hl : l.length ≤ 1000000000) (d : Nat) : ∀ (i : Nat) (n : Int), l.length = i + d → 0 ≤ n → n ≤ i → Ev (fun k => todo_Left.l0 k n l l.length i) (n + leftL (l.drop i)) := by
  induction d with
  | zero =>
    intro i n hi h0 h1
    rw [List.drop_of_length_le (by omega), leftL, Int.add_zero]
    refine Ev.succ (Ev.of (fun k => ?_))
    rw [todo_Left.l0, if_neg (by omega)]
  | succ d ih =>
    intro i n hi h0 h1
    have hw : wrap64 ((i : Int) + 1) = ((i + 1 : Nat) : Int) := by rw [wrap64_id (by omega) (by omega)]; rfl
    rw [drop_cons l i (by omega), leftL]
    refine Ev.succ ?_
    cases hm : makesQ (rd_T34 l i) with
    | true =>
      rw [if_pos rfl]
      refine Ev.val (Ev.congr (fun k => ?_) (ih (i + 1) (n + 1) (by omega) (by omega) (by omega))) (by omega)
      rw [todo_Left.l0, if_pos (by omega), if_pos (by omega), if_pos (by omega), makesQ_f, Option.bind_some, hm, if_pos rfl, hw, wrap64_id (n := n + 1) (by omega) (by omega)]
    | false =>
      rw [if_neg (by simp), Int.zero_add]
      refine Ev.congr (fun k => ?_) (ih (i + 1) n (by omega) (by omega) (by omega))
      rw [todo_Left.l0, if_pos (by omega), if_pos (by omega), if_pos (by omega), makesQ_f, Option.bind_some, hm, if_neg (by simp), hw]
theorem left_ev (l : List Todo) (hl : l.length ≤ 1000000000) : Ev (fun k => todo_Left.f k l) (leftL l) := by
  have h := left_l0 l hl l.length 0 0 (by omega) (by omega) (by omega)
  rw [List.drop_zero, Int.zero_add] at h
  exact h
theorem rleft_l0 (l : List Todo) (hl : l.length ≤ 1000000000) (d : Nat) : ∀ (i : Nat) (n : Int), l.length = i + d → 0 ≤ n → n ≤ i → Ev (fun k => graftageref42_Left.l0 k l n i) (n + leftL (l.drop i)) := by
  induction d with
  | zero =>
    intro i n hi h0 h1
    rw [List.drop_of_length_le (by omega), leftL, Int.add_zero]
    refine Ev.succ (Ev.of (fun k => ?_))
    rw [graftageref42_Left.l0, if_neg (by omega)]
  | succ d ih =>
    intro i n hi h0 h1
    have hw : wrap64 ((i : Int) + 1) = ((i + 1 : Nat) : Int) := by rw [wrap64_id (by omega) (by omega)]; rfl
    rw [drop_cons l i (by omega), leftL]
    refine Ev.succ ?_
    cases hm : makesQ (rd_T34 l i) with
    | true =>
      rw [if_pos rfl]
      refine Ev.val (Ev.congr (fun k => ?_) (ih (i + 1) (n + 1) (by omega) (by omega) (by omega))) (by omega)
      rw [graftageref42_Left.l0, if_pos (by omega), if_pos (by omega), rmakes_f, Option.bind_some, hm, if_pos rfl, hw, wrap64_id (n := n + 1) (by omega) (by omega)]
    | false =>
      rw [if_neg (by simp), Int.zero_add]
      refine Ev.congr (fun k => ?_) (ih (i + 1) n (by omega) (by omega) (by omega))
      rw [graftageref42_Left.l0, if_pos (by omega), if_pos (by omega), rmakes_f, Option.bind_some, hm, if_neg (by simp), hw]
theorem rleft_ev (l : List Todo) (hl : l.length ≤ 1000000000) : Ev (fun k => graftageref42_Left.f k l) (leftL l) := by
  have h := rleft_l0 l hl l.length 0 0 (by omega) (by omega) (by omega)
  rw [List.drop_zero, Int.zero_add] at h
  exact h
theorem size_nil {s : ByteArray} (h : s.toList = []) : s.size = 0 := by
  rw [toList_bytes] at h
  have e : s.size = s.data.toList.length := by rw [Array.length_toList]; rfl
  rw [e, h]; rfl
theorem isQ_size {s : ByteArray} (h : isQ s = true) : s.size = 40 := by
  have h2 := isQ_f s
  rw [h] at h2
  unfold ident_Is.f at h2
  by_cases c : (s.size : Int) = 40
  · omega
  · rw [if_neg c] at h2
    injection h2 with h2
    cases h2
theorem good_bounds {x : Todo} (h : goodQ x = true) : 1 ≤ x.f0 ∧ x.f0 ≤ 7 ∧ x.f1.size ≤ 40 ∧ x.f2.size ≤ 4096 := by
  rw [goodQ_eq] at h
  by_cases h1 : x.f0 < 1 ∨ x.f0 > 7
  · rw [if_pos h1] at h; cases h
  · rw [if_neg h1] at h
    refine ⟨by omega, by omega, ?_⟩
    by_cases h2 : x.f0 = 7
    · rw [if_pos h2] at h
      simp only [Bool.and_eq_true, beq_iff_eq] at h
      have := size_nil h.1
      have := size_nil h.2
      omega
    · rw [if_neg h2] at h
      simp only [Bool.and_eq_true, decide_eq_true_eq] at h
      have := isQ_size h.1.1
      omega
theorem checkL_good : ∀ (l pre : List Todo) (ah : Bool), checkL l pre ah = 0 → ∀ x ∈ l, goodQ x = true := by
  intro l
  induction l with
  | nil => intro pre ah h x hx; cases hx
  | cons y l ih =>
    intro pre ah h x hx
    rw [checkL] at h
    by_cases h1 : goodQ y = false
    · rw [if_pos h1] at h; exact absurd h (by decide)
    · rw [if_neg h1] at h
      split at h
      · exact absurd h (by decide)
      · split at h
        · exact absurd h (by decide)
        · rcases List.mem_cons.1 hx with rfl | hx
          · simpa using h1
          · exact ih _ _ h x hx
theorem check_good {l : List Todo} (h : checkQ l = 0) : ∀ x ∈ l, goodQ x = true := by
  have hl := check_le h
  unfold checkQ at h
  rw [if_neg (by omega)] at h
  exact checkL_good l [] false h
def textT (l : List Todo) (b : ByteArray) : ByteArray := l.foldl nextQ b
theorem nextQ_size {x : Todo} (h : goodQ x = true) (b : ByteArray) : (nextQ b x).size ≤ b.size + 4150 := by
  have := good_bounds h
  have h1 := partQ_size (b ++ wordQ x.f0) x.f1
  have h2 := partQ_size (partQ (b ++ wordQ x.f0) x.f1) x.f2
  have h3 := wordQ_size x.f0
  rw [size_append] at h1
  unfold nextQ
  rw [size_append]
  have : (⟨#[10]⟩ : ByteArray).size = 1 := rfl
  omega
theorem textL_T : ∀ (l : List Todo) (b : ByteArray), (∀ x ∈ l, goodQ x = true) → b.size + 4150 * l.length ≤ 1000000000 → textL l b = some (textT l b) := by
  intro l
  induction l with
  | nil => intro b _ _; rfl
  | cons x l ih =>
    intro b hg hb
    have hx := hg x (List.mem_cons_self ..)
    have hbd := good_bounds hx
    have hn := nextQ_size hx b
    rw [List.length_cons] at hb
    rw [textL, if_pos ⟨hbd.1, hbd.2.1, by omega, by omega, by omega⟩, ih _ (fun y hy => hg y (List.mem_cons_of_mem _ hy)) (by omega)]
    rfl
theorem text_l0 (l : List Todo) (hl : l.length ≤ 256) (hg : ∀ x ∈ l, goodQ x = true) (d : Nat) : ∀ (i : Nat) (b : ByteArray), l.length = i + d → b.size ≤ 4150 * i → Ev (fun k => graftageref42_Text.l0 k l b i) (textT (l.drop i) b) := by
  induction d with
  | zero =>
    intro i b hi hb
    rw [List.drop_of_length_le (by omega)]
    refine Ev.succ (Ev.of (fun k => ?_))
    rw [graftageref42_Text.l0, if_neg (by omega)]; rfl
  | succ d ih =>
    intro i b hi hb
    have hlt : i < l.length := by omega
    have hw : wrap64 ((i : Int) + 1) = ((i + 1 : Nat) : Int) := by rw [wrap64_id (by omega) (by omega)]; rfl
    rw [drop_cons l i hlt]
    generalize hx : rd_T34 l i = x
    have hmem : x ∈ l := by
      rw [← hx]
      have : rd_T34 l i = l[i] := by
        unfold rd_T34
        rw [Int.toNat_natCast, List.getD_eq_getElem?_getD, List.getElem?_eq_getElem hlt]; rfl
      rw [this]; exact List.getElem_mem hlt
    have hgx := hg x hmem
    have hbd := good_bounds hgx
    have hn := nextQ_size hgx b
    have ih' := ih (i + 1) (nextQ b x) (by omega) (by omega)
    have hwr : wordR x.f0 = wordQ x.f0 := by unfold wordR; rw [if_pos ⟨hbd.1, hbd.2.1⟩]
    have hws := wordQ_size x.f0
    have e32 : (⟨#[32]⟩ : ByteArray).size = 1 := rfl
    refine Ev.succ (Ev.congr (fun k => ?_) ih')
    rw [graftageref42_Text.l0, if_pos (by omega), if_pos (by omega), hx, word_f, hwr, Option.bind_some, if_pos (by omega)]
    unfold nextQ partQ
    by_cases c1 : x.f1.toList = []
    · rw [if_pos c1, if_pos (beq_iff_eq.2 c1)]
      by_cases c2 : x.f2.toList = []
      · rw [if_pos c2, if_pos (beq_iff_eq.2 c2), if_pos (by rw [size_append]; omega), hw]
      · rw [if_neg c2, if_neg (fun h => c2 (beq_iff_eq.1 h)), if_pos (by rw [size_append]; omega), if_pos (by rw [size_append, size_append, e32]; omega), if_pos (by rw [size_append, size_append, size_append, e32]; omega), hw, append_assoc (b ++ wordQ x.f0) ⟨#[32]⟩ x.f2]
    · rw [if_neg c1, if_neg (fun h => c1 (beq_iff_eq.1 h)), if_pos (by rw [size_append]; omega), if_pos (by rw [size_append, size_append, e32]; omega)]
      by_cases c2 : x.f2.toList = []
      · rw [if_pos c2, if_pos (beq_iff_eq.2 c2), if_pos (by rw [size_append, size_append, size_append, e32]; omega), hw, append_assoc (b ++ wordQ x.f0) ⟨#[32]⟩ x.f1]
      · rw [if_neg c2, if_neg (fun h => c2 (beq_iff_eq.1 h)), if_pos (by rw [size_append, size_append, size_append, e32]; omega), if_pos (by rw [size_append, size_append, size_append, size_append, e32]; omega), if_pos (by rw [size_append, size_append, size_append, size_append, size_append, e32]; omega), hw]
        rw [append_assoc (b ++ wordQ x.f0) ⟨#[32]⟩ x.f1, append_assoc ((b ++ wordQ x.f0) ++ (⟨#[32]⟩ ++ x.f1)) ⟨#[32]⟩ x.f2]
theorem rtext_ev (l : List Todo) (hs : Sized l) : Ev (fun k => graftageref42_Text.f k l) (if checkQ l = 0 then textT l ⟨#[]⟩ else ⟨#[]⟩) := by
  refine Ev.congr (fun k => by rw [graftageref42_Text.f]) (Ev.bind (g := fun t k => if t = 0 then graftageref42_Text.l0 k l ⟨#[]⟩ 0 else some ⟨#[]⟩) (check_ev l hs) ?_)
  by_cases c : checkQ l = 0
  · rw [if_pos c]
    refine Ev.congr (fun k => if_pos c) ?_
    have := text_l0 l (check_le c) (check_good c) l.length 0 ⟨#[]⟩ (by omega) (Nat.zero_le _)
    rw [List.drop_zero] at this
    exact this
  · rw [if_neg c]
    exact Ev.congr (fun k => if_neg c) (Ev.pure _)
theorem text_f (l : List Todo) : todo_Text.f l = some (if checkQ l = 0 then textT l ⟨#[]⟩ else ⟨#[]⟩) := by
  unfold todo_Text.f
  by_cases c : checkQ l = 0
  · rw [if_pos c, if_pos c]
    have := check_le c
    exact textL_T l ⟨#[]⟩ (check_good c) (by have e : (⟨#[]⟩ : ByteArray).size = 0 := rfl
                                             omega)
  · rw [if_neg c, if_neg c]
theorem TodoTells (l : List Todo) (hs : Sized l) : Ev (fun k => graftagelaw42_TodoTells.f k l) true := by
  have hlv : Ev (fun k => (graftagelaw42_lives.f k).bind fun t => some t) true := Ev.bind (g := fun t _ => some t) lives_ev (Ev.pure true)
  by_cases h : (l.length : Int) > 300
  · exact Ev.congr (fun k => by rw [graftagelaw42_TodoTells.f, if_pos h]) hlv
  · refine Ev.congr (fun k => by rw [graftagelaw42_TodoTells.f, if_neg h, text_f, Option.bind_some]) ?_
    refine Ev.bind (g := fun t k => if (if checkQ l = 0 then textT l ⟨#[]⟩ else ⟨#[]⟩).toList = t.toList then ((todo_Check.f l).bind fun t278 => ((graftageref42_Check.f k l).bind fun t279 => (if t278 = t279 then ((todo_Left.f k l).bind fun t280 => ((graftageref42_Left.f k l).bind fun t281 => (if t280 = t281 then ((graftagelaw42_lives.f k).bind fun t282 => (some t282)) else (some false)))) else (some false)))) else (some false)) (rtext_ev l hs) ?_
    refine Ev.congr (fun k => by rw [if_pos rfl, check_f, Option.bind_some]) ?_
    refine Ev.bind (g := fun t k => if checkQ l = t then ((todo_Left.f k l).bind fun t280 => ((graftageref42_Left.f k l).bind fun t281 => (if t280 = t281 then ((graftagelaw42_lives.f k).bind fun t282 => (some t282)) else (some false)))) else (some false)) (check_ev l hs) ?_
    refine Ev.congr (fun k => if_pos rfl) ?_
    refine Ev.bind (g := fun t k => (graftageref42_Left.f k l).bind fun t281 => (if t = t281 then ((graftagelaw42_lives.f k).bind fun t282 => (some t282)) else (some false))) (left_ev l (by omega)) ?_
    refine Ev.bind (g := fun t k => if leftL l = t then ((graftagelaw42_lives.f k).bind fun t282 => (some t282)) else (some false)) (rleft_ev l (by omega)) ?_
    exact Ev.congr (fun k => if_pos rfl) hlv
end Go.Proofs.YtefnmfcgjlppaaaDoor.Pure
