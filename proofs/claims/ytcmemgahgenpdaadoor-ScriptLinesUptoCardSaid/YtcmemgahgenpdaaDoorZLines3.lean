/- The law ScriptLines: what its proof takes, part 4 of 5 (packed by wip/gen/pack.py: each section was a text of its own). -/
import Derived.Test.YtcmemgahgenpdaaDoorZLines2
import Derived.Test.YtcmemgahgenpdaaDoorZLines1
import Derived.Test.YtcmemgahgenpdaaDoorZLines0
section
namespace Go.Proofs.YtcmemgahgenpdaaDoor.Pure
open Go.RowKit Go.Proofs.YtcmemgahgenpdaaDoor.PSc Go.Proofs.YtcmemgahgenpdaaDoor.Hand Go.Proofs.YtcmemgahgenpdaaDoorW.PrintWords Go.Proofs.YtcmemgahgenpdaaDoorW.PrintLast
set_option linter.unusedVariables false
set_option linter.unusedSimpArgs false
def flagQ (f : Bool) : ByteArray := if f = true then ⟨#[49]⟩ else ⟨#[48]⟩
theorem flag_f (f : Bool) : script_flag.f f = some (flagQ f) := by cases f <;> rfl
def tailB : List ByteArray → ByteArray
  | [] => ⟨#[]⟩
  | w :: r => ((⟨#[32]⟩ : ByteArray) ++ w) ++ tailB r
theorem joinQ_cons (x : ByteArray) (r : List ByteArray) : joinQ (x :: r) = x ++ tailB r := by
  apply Bs_inj
  rw [Bs_join, List.map_cons, Lib.join_cons, Bs_append]
  congr 1
  induction r with
  | nil => rfl
  | cons y r ih =>
    rw [tailB, Bs_append, Bs_append, ← ih]
    simp [Lib.joinTail, Bs]
theorem tailB_size (m : Nat) : ∀ (l : List ByteArray), (∀ w ∈ l, w.size ≤ m) → (tailB l).size ≤ l.length * (m + 1)
  | [], _ => by show 0 ≤ _; omega
  | w :: r, h => by
    have h1 := h w (by simp)
    have h2 := tailB_size m r (fun x hx => h x (by simp [hx]))
    rw [tailB, size_append, size_append, List.length_cons, Nat.add_mul]
    have : (⟨#[32]⟩ : ByteArray).size = 1 := rfl
    omega
theorem wordS_size (t : ByteArray) : (wordS t).size ≤ 3 * t.size + 1 := by
  unfold wordS
  split
  · show 1 ≤ _; omega
  · have := wordL_size t t.size; omega
theorem piece_len (c : UInt8) : 1 ≤ (pieceB c).length := by
  rcases piece_cases c with ⟨hp, _⟩ | ⟨h, l, hp, _⟩
  · rw [hp]; simp
  · rw [hp]; simp
theorem wordB_len (l : List UInt8) : l.length ≤ (wordB l).length := by
  induction l with
  | nil => simp
  | cons c l ih =>
    show _ ≤ (pieceB c ++ wordB l).length
    have := piece_len c
    rw [List.length_append, List.length_cons]; omega
theorem wordS_ge (t : ByteArray) : t.size ≤ (wordS t).size := by
  by_cases c : t.size = 0
  · omega
  · rw [← Bs_size (wordS t), wordS_bytes t c]
    have := wordB_len (Bs t)
    rw [Bs_size] at this; exact this
theorem wordS_pos (t : ByteArray) : 1 ≤ (wordS t).size := by
  by_cases c : t.size = 0
  · unfold wordS; rw [if_pos c]; exact Nat.le_refl _
  · have := wordS_ge t; omega
def noSp32 (c : UInt8) : Bool := !(pieceB c).contains 32
theorem sp_all : ((List.range 256).all fun n => noSp32 (UInt8.ofNat n)) = true := by kernel_rfl
theorem sp_ok (c : UInt8) : (32 : UInt8) ∉ pieceB c := by
  have h := List.all_eq_true.1 sp_all c.toNat (List.mem_range.2 (by have := c.toNat_lt; omega))
  rw [show UInt8.ofNat c.toNat = c from by simp] at h
  unfold noSp32 at h
  simpa using h
theorem nosp_word (t : ByteArray) : NoSp (wordS t) := by
  unfold NoSp
  by_cases c : t.size = 0
  · unfold wordS; rw [if_pos c]; decide
  · rw [wordS_bytes t c]
    unfold wordB
    rw [List.mem_flatMap]
    rintro ⟨b, _, hb⟩
    exact sp_ok b hb
theorem nosp_flag (f : Bool) : NoSp (flagQ f) := by cases f <;> (unfold NoSp; decide)
theorem nosp_itoa (n : Int) : NoSp (itoaS n) := by
  unfold NoSp
  show (32 : UInt8) ∉ Lib.itoa n
  unfold Lib.itoa
  have h : ∀ m, (32 : UInt8) ∉ Lib.decDigits m := fun m hm => by
    have := dec_mem m 32 hm
    have e : (32 : UInt8).toNat = 32 := rfl
    omega
  split
  · intro hm
    rcases List.mem_cons.1 hm with h1 | h1
    · cases h1
    · exact h _ h1
  · exact h _
theorem itoa_pos (n : Int) : 1 ≤ (itoaS n).size := by
  rw [← Bs_size]
  show 1 ≤ (Lib.itoa n).length
  unfold Lib.itoa
  split
  · simp
  · exact dec_size _
theorem itoaS_size (n : Int) (h0 : -9223372036854775808 ≤ n) (h1 : n ≤ 9223372036854775807) : (itoaS n).size ≤ 21 := by
  rw [← Bs_size]; exact Lib.itoa_length_le n h0 h1
def kindOk (i : Nat) : Bool := !(Bs (kindW i)).contains 32 && (decide ((kindW i).size ≤ 10)) && (i == 0 || decide (1 ≤ (kindW i).size))
theorem kind_all : ((List.range 28).all kindOk) = true := by kernel_rfl
theorem kind_ok (i : Nat) (h : i < 28) : NoSp (kindW i) ∧ (kindW i).size ≤ 10 ∧ (i ≠ 0 → 1 ≤ (kindW i).size) := by
  have h := List.all_eq_true.1 kind_all i (List.mem_range.2 h)
  unfold kindOk at h
  rw [Bool.and_eq_true, Bool.and_eq_true, decide_eq_true_eq, Bool.or_eq_true, decide_eq_true_eq, beq_iff_eq] at h
  refine ⟨?_, h.1.2, fun h0 => h.2.resolve_left h0⟩
  have := h.1.1
  unfold NoSp
  simpa using this
def wordsQ (k : Nat) (ar : List ByteArray) (n : Int) (f : Bool) (t : ByteArray) : List ByteArray := [kindW k, itoaS n, flagQ f, wordS t] ++ ar.map wordS
def lineQ (k : Int) (ar : List ByteArray) (n : Int) (f : Bool) (t : ByteArray) : ByteArray × Int :=
  if k < 1 ∨ 28 ≤ k then (⟨#[]⟩, 560) else if n < -1099511627776 ∨ 1099511627776 < n then (⟨#[]⟩, 1) else if 1048576 < (joinQ (wordsQ k.toNat ar n f t)).size then (⟨#[]⟩, 4) else (joinQ (wordsQ k.toNat ar n f t), 0)
structure Small (ar : List ByteArray) (t : ByteArray) : Prop where
  len : ar.length ≤ 2000000
  each : ∀ a ∈ ar, a.size ≤ 2000000
  text : t.size ≤ 2000000
theorem word_f' (s : ByteArray) (h : s.size ≤ 2000000) : script_word.f s = some (wordS s) := by
  unfold script_word.f; rw [if_pos (by omega)]
theorem itoa_f (n : Int) (h0 : -9223372036854775808 ≤ n) (h1 : n ≤ 9223372036854775807) : strconv_Itoa_20.f n = some (itoaS n) := by
  unfold strconv_Itoa_20.f; rw [if_pos ⟨h0, h1⟩]; rfl
theorem line_size {k : Nat} {ar : List ByteArray} {n : Int} {f : Bool} {t : ByteArray} (h : Small ar t) (hk : k < 28) (h0 : -1099511627776 ≤ n) (h1 : n ≤ 1099511627776) : (joinQ (wordsQ k ar n f t)).size ≤ 100000000000000 := by
  have hk := (kind_ok k hk).2.1
  have hn := itoaS_size n (by omega) (by omega)
  have ht := wordS_size t
  have htt := h.text
  have hl := h.len
  have hf : (flagQ f).size = 1 := by cases f <;> rfl
  have := tailB_size 6000001 (itoaS n :: flagQ f :: wordS t :: ar.map wordS) (fun w hw => by
    rcases List.mem_cons.1 hw with rfl | hw
    · omega
    rcases List.mem_cons.1 hw with rfl | hw
    · omega
    rcases List.mem_cons.1 hw with rfl | hw
    · omega
    obtain ⟨a, ha, rfl⟩ := List.mem_map.1 hw
    have := h.each a ha
    have := wordS_size a
    omega)
  show (joinQ (kindW k :: itoaS n :: flagQ f :: wordS t :: ar.map wordS)).size ≤ _
  rw [joinQ_cons, size_append]
  simp only [List.length_cons, List.length_map] at this
  omega
theorem s_l0 (ar : List ByteArray) (hl : ar.length ≤ 2000000) (he : ∀ a ∈ ar, a.size ≤ 2000000) (ws : List ByteArray) (hz : (joinQ (ws ++ ar.map wordS)).size ≤ 100000000000000) (hw : ws.length ≤ 10) : ∀ (d i : Nat), i + d = ar.length →
    Ev (fun k => script_Line.l0 k (ws ++ (ar.take i).map wordS) ar (ar.length : Int) (i : Int)) (if 1048576 < (joinQ (ws ++ ar.map wordS)).size then (⟨#[]⟩, 4) else (joinQ (ws ++ ar.map wordS), 0)) := by
  intro d
  induction d with
  | zero =>
    intro i hd
    obtain rfl : i = ar.length := by omega
    rw [List.take_length]
    refine Ev.succ ?_
    simp only [script_Line.l0]
    refine Ev.neg (by omega) ?_
    have hj : script_joined.f (ws ++ ar.map wordS) = some (joinQ (ws ++ ar.map wordS)) := by
      unfold script_joined.f
      rw [if_pos ⟨by simp; omega, by omega⟩]
    rw [hj]
    simp only [Option.bind_some]
    by_cases c : 1048576 < (joinQ (ws ++ ar.map wordS)).size
    · exact Ev.val (Ev.pos (by omega) (Ev.pure _)) (if_pos c).symm
    · exact Ev.val (Ev.neg (by omega) (Ev.pure _)) (if_neg c).symm
  | succ d ih =>
    intro i hd
    have hlt : i < ar.length := by omega
    have h := ih (i + 1) (by omega)
    rw [List.take_add_one, List.getElem?_eq_getElem hlt, List.map_append, ← List.append_assoc] at h
    have hr : rdOf ByteArray.empty ar (i : Int) = ar[i] := by rw [rd_wd]; simp [wd, hlt]
    refine Ev.succ ?_
    simp only [script_Line.l0, hr, word_f' _ (he _ (List.getElem_mem hlt)), Option.bind_some, up i (by omega)]
    refine Ev.pos (by omega) (Ev.pos (by omega) (Ev.pos (by omega) (Ev.pos (by simp; omega) ?_)))
    exact h
theorem line_s (k : Int) (ar : List ByteArray) (n : Int) (f : Bool) (t : ByteArray) (h : Small ar t) : Ev (fun r => script_Line.f r k ar n f t) (lineQ k ar n f t) := by
  simp only [script_Line.f, kinds_f, Option.bind_some]
  have bad : Ev (fun r => script_Line.j0 r kindsL true k ar n f t) ((⟨#[]⟩ : ByteArray), 560) := Ev.succ (Ev.of fun r => by rw [script_Line.j0, if_pos rfl])
  unfold lineQ
  by_cases c1 : k < 1
  · exact Ev.pos c1 (Ev.val bad (if_pos (Or.inl c1)).symm)
  · refine Ev.neg c1 ?_
    by_cases c2 : 28 ≤ k
    · rw [if_pos (Or.inr c2), decide_eq_true (show k ≥ (kindsL.length : Int) by rw [kinds_len]; omega)]
      exact bad
    · rw [if_neg (fun h => h.elim c1 c2), decide_eq_false (show ¬ k ≥ (kindsL.length : Int) by rw [kinds_len]; omega)]
      refine Ev.succ ?_
      simp only [script_Line.j0]
      refine Ev.neg (by simp) ?_
      by_cases c3 : n < -1099511627776
      · exact Ev.pos c3 (Ev.val (Ev.pure _) (if_pos (Or.inl c3)).symm)
      · refine Ev.neg c3 ?_
        by_cases c4 : 1099511627776 < n
        · exact Ev.pos c4 (Ev.val (Ev.pure _) (if_pos (Or.inr c4)).symm)
        · rw [if_neg (fun h => h.elim c3 c4)]
          obtain ⟨m, rfl⟩ : ∃ m : Nat, k = m := ⟨k.toNat, by omega⟩
          refine Ev.neg c4 (Ev.pos (by omega) (Ev.pos (by rw [kinds_len]; omega) ?_))
          simp only [itoa_f n (by omega) (by omega), flag_f, word_f' t h.text, Option.bind_some, kindW_rd]
          have hz := line_size (k := m) (f := f) h (by omega) (show -1099511627776 ≤ n by omega) (by omega)
          have := s_l0 ar h.len h.each [kindW m, itoaS n, flagQ f, wordS t] hz (by simp) ar.length 0 (by omega)
          rw [List.take_zero, List.map_nil, List.append_nil] at this
          exact this
theorem p_l0 (ar : List ByteArray) (hl : ar.length ≤ 2000000) (he : ∀ a ∈ ar, a.size ≤ 2000000) (y0 y2 : Int) (y3 : Bool) (y4 : ByteArray) : ∀ (d i : Nat) (x : ByteArray), i + d = ar.length → x.size ≤ 100000000 →
    Ev (fun k => graftageref56_Line.l0 k x (i : Int) y0 ar y2 y3 y4) (if 1048576 < (x ++ tailB ((ar.drop i).map wordS)).size then (⟨#[]⟩, 4) else (x ++ tailB ((ar.drop i).map wordS), 0)) := by
  intro d
  induction d with
  | zero =>
    intro i x hd hx
    have e : x ++ tailB ((ar.drop i).map wordS) = x := by
      rw [List.drop_of_length_le (by omega), List.map_nil]
      exact Bs_inj (by rw [Bs_append]; simp [tailB, Bs])
    rw [e]
    refine Ev.succ ?_
    simp only [graftageref56_Line.l0]
    refine Ev.neg (by omega) ?_
    by_cases c : 1048576 < x.size
    · exact Ev.val (Ev.pos (by omega) (Ev.pure _)) (if_pos c).symm
    · exact Ev.val (Ev.neg (by omega) (Ev.pure _)) (if_neg c).symm
  | succ d ih =>
    intro i x hd hx
    have hlt : i < ar.length := by omega
    have hr : rdOf ByteArray.empty ar (i : Int) = ar[i] := by rw [rd_wd]; simp [wd, hlt]
    have ha := he _ (List.getElem_mem hlt)
    have hw := wordS_size ar[i]
    have o1 : (⟨#[32]⟩ : ByteArray).size = 1 := rfl
    refine Ev.succ ?_
    simp only [graftageref56_Line.l0, hr, up i (by omega)]
    refine Ev.pos (by omega) ?_
    by_cases c : 1048576 < x.size
    · refine Ev.neg (by omega) (Ev.pos (by omega) (Ev.val (Ev.pure _) ?_))
      rw [if_pos (by rw [size_append]; omega)]
    · refine Ev.pos (by omega) (Ev.pos (by omega) (Ev.pos (by omega) (Ev.bind (word_ev ar[i] (by omega)) (Ev.pos (by rw [size_append]; omega) ?_))))
      refine Ev.val (ih (i + 1) ((x ++ ⟨#[32]⟩) ++ wordS ar[i]) (by omega) (by rw [size_append, size_append]; omega)) ?_
      rw [List.drop_eq_getElem_cons hlt, List.map_cons, tailB]
      rw [show (x ++ ⟨#[32]⟩ ++ wordS ar[i]) ++ tailB ((ar.drop (i + 1)).map wordS) = x ++ (((⟨#[32]⟩ : ByteArray) ++ wordS ar[i]) ++ tailB ((ar.drop (i + 1)).map wordS)) by simp only [append_assoc]]
theorem line_r (k : Int) (ar : List ByteArray) (n : Int) (f : Bool) (t : ByteArray) (h : Small ar t) : Ev (fun r => graftageref56_Line.f r k ar n f t) (lineQ k ar n f t) := by
  simp only [graftageref56_Line.f, words_f, Option.bind_some]
  have bad : Ev (fun r => graftageref56_Line.j0 r true k ar n f t) ((⟨#[]⟩ : ByteArray), 560) := Ev.succ (Ev.of fun r => by rw [graftageref56_Line.j0, if_pos rfl])
  have bad1 : Ev (fun r => graftageref56_Line.j1 r true k ar n f t) ((⟨#[]⟩ : ByteArray), 1) := Ev.succ (Ev.of fun r => by rw [graftageref56_Line.j1, if_pos rfl])
  unfold lineQ
  by_cases c1 : k < 1
  · exact Ev.pos c1 (Ev.val bad (if_pos (Or.inl c1)).symm)
  · refine Ev.neg c1 ?_
    by_cases c2 : 28 ≤ k
    · rw [if_pos (Or.inr c2), decide_eq_true (show k ≥ (kindsL.length : Int) by rw [kinds_len]; omega)]
      exact bad
    · rw [if_neg (fun h => h.elim c1 c2), decide_eq_false (show ¬ k ≥ (kindsL.length : Int) by rw [kinds_len]; omega)]
      refine Ev.succ ?_
      simp only [graftageref56_Line.j0]
      refine Ev.neg (by simp) ?_
      by_cases c3 : n < -1099511627776
      · exact Ev.pos c3 (Ev.val bad1 (if_pos (Or.inl c3)).symm)
      · refine Ev.neg c3 ?_
        by_cases c4 : 1099511627776 < n
        · rw [decide_eq_true (show n > 1099511627776 from c4)]
          exact Ev.val bad1 (if_pos (Or.inr c4)).symm
        · rw [if_neg (fun h => h.elim c3 c4), decide_eq_false (show ¬ n > 1099511627776 from c4)]
          obtain ⟨m, rfl⟩ : ∃ m : Nat, k = m := ⟨k.toNat, by omega⟩
          have hk := (kind_ok m (by omega)).2.1
          have hn := itoaS_size n (by omega) (by omega)
          have ht := wordS_size t
          have htt := h.text
          have o1 : (⟨#[32]⟩ : ByteArray).size = 1 := rfl
          have o3 : (⟨#[32, 49, 32]⟩ : ByteArray).size = 3 := rfl
          have o4 : (⟨#[32, 48, 32]⟩ : ByteArray).size = 3 := rfl
          refine Ev.succ ?_
          simp only [graftageref56_Line.j1, words_f, Option.bind_some, kindW_rd]
          refine Ev.neg (by simp) (Ev.pos (by omega) (Ev.pos (by rw [kinds_len]; omega) (Ev.pos (by omega) (Ev.bind (digits_ev n (by omega) (by omega)) (Ev.pos (by rw [size_append]; omega) ?_)))))
          have fin : ∀ x : ByteArray, x.size ≤ 1000 → (x ++ wordS t) ++ tailB (ar.map wordS) = joinQ (wordsQ m ar n f t) → Ev (fun r => graftageref56_Line.j2 r x (m : Int) ar n f t) (if 1048576 < (joinQ (wordsQ ((m : Int).toNat) ar n f t)).size then (⟨#[]⟩, 4) else (joinQ (wordsQ ((m : Int).toNat) ar n f t), 0)) := by
            intro x hx e
            refine Ev.succ ?_
            simp only [graftageref56_Line.j2]
            refine Ev.bind (word_ev t (by omega)) (Ev.pos (by omega) ?_)
            have := p_l0 ar h.len h.each (m : Int) n f t ar.length 0 (x ++ wordS t) (by omega) (by rw [size_append]; omega)
            rw [List.drop_zero, e] at this
            rw [Int.toNat_natCast]
            exact this
          have e3 : joinQ (wordsQ m ar n f t) = kindW m ++ (((⟨#[32]⟩ : ByteArray) ++ itoaS n) ++ (((⟨#[32]⟩ : ByteArray) ++ flagQ f) ++ (((⟨#[32]⟩ : ByteArray) ++ wordS t) ++ tailB (ar.map wordS)))) := joinQ_cons _ _
          cases f with
          | true =>
            refine Ev.pos rfl (Ev.pos (by rw [size_append, size_append]; omega) (fin _ (by rw [size_append, size_append, size_append]; omega) ?_))
            rw [e3, show (⟨#[32, 49, 32]⟩ : ByteArray) = (⟨#[32]⟩ : ByteArray) ++ (flagQ true ++ ⟨#[32]⟩) from rfl]
            simp only [append_assoc]
          | false =>
            refine Ev.neg (by simp) (Ev.pos (by rw [size_append, size_append]; omega) (fin _ (by rw [size_append, size_append, size_append]; omega) ?_))
            rw [e3, show (⟨#[32, 48, 32]⟩ : ByteArray) = (⟨#[32]⟩ : ByteArray) ++ (flagQ false ++ ⟨#[32]⟩) from rfl]
            simp only [append_assoc]
theorem read_line (k : Int) (ar : List ByteArray) (n : Int) (f : Bool) (t : ByteArray) (h : Small ar t) (e : (lineQ k ar n f t).2 = 0) : readQ (lineQ k ar n f t).1 = (k, ar, n, f, t, 0) := by
  unfold lineQ at *
  by_cases c1 : k < 1 ∨ 28 ≤ k
  · rw [if_pos c1] at e; cases e
  · rw [if_neg c1] at e ⊢
    by_cases c2 : n < -1099511627776 ∨ 1099511627776 < n
    · rw [if_pos c2] at e; cases e
    · rw [if_neg c2] at e ⊢
      by_cases c3 : 1048576 < (joinQ (wordsQ k.toNat ar n f t)).size
      · rw [if_pos c3] at e; cases e
      · rw [if_neg c3]
        obtain ⟨m, rfl⟩ : ∃ m : Nat, k = m := ⟨k.toNat, by omega⟩
        rw [Int.toNat_natCast] at *
        have hk := kind_ok m (by omega)
        have hsp : splitQ (joinQ (wordsQ m ar n f t)) = wordsQ m ar n f t := by
          refine splitQ_join _ (by simp [wordsQ]) (fun w hw => ?_) (by omega)
          unfold wordsQ at hw
          rcases List.mem_append.1 hw with hw | hw
          · simp only [List.mem_cons, List.mem_nil_iff, or_false] at hw
            rcases hw with rfl | rfl | rfl | rfl
            · exact hk.1
            · exact nosp_itoa n
            · exact nosp_flag f
            · exact nosp_word t
          · obtain ⟨a, _, rfl⟩ := List.mem_map.1 hw
            exact nosp_word a
        unfold readQ
        simp only
        rw [if_neg c3, hsp]
        have hlen : (wordsQ m ar n f t).length = ar.length + 4 := by simp [wordsQ]
        have hne : ¬ Lib.containsS (wordsQ m ar n f t) ⟨#[]⟩ = true := by
          rw [Lib.containsS_iff]
          intro hm
          have z : (⟨#[]⟩ : ByteArray).size = 0 := rfl
          unfold wordsQ at hm
          rcases List.mem_append.1 hm with hw | hw
          · simp only [List.mem_cons, List.mem_nil_iff, or_false] at hw
            rcases hw with h1 | h1 | h1 | h1
            · have := hk.2.2 (by omega); rw [← h1, z] at this; omega
            · have := itoa_pos n; rw [← h1, z] at this; omega
            · have : (flagQ f).size = 1 := by cases f <;> rfl
              rw [← h1, z] at this; omega
            · have := wordS_pos t; rw [← h1, z] at this; omega
          · obtain ⟨a, _, h1⟩ := List.mem_map.1 hw
            have := wordS_pos a; rw [h1, z] at this; omega
        have hsz : ∀ a, a.size ≤ 2000000 → textQ (wordS a) = (a, true) := fun a ha => textQ_word a (by have := wordS_size a; omega)
        have k0 : kindQ (kindW m) = m := by
          obtain ⟨j, rfl⟩ : ∃ j, m = j + 1 := ⟨m - 1, by omega⟩
          exact kindQ_of (by omega) rfl
        have n0 : numP (itoaS n) = (n, true) := numP_of ⟨rfl, by omega, by omega⟩
        have f0 : flagQ f = ⟨#[48]⟩ ∨ flagQ f = ⟨#[49]⟩ := by cases f; exact Or.inl rfl; exact Or.inr rfl
        have f1 : decide (flagQ f = ⟨#[49]⟩) = f := by
          cases f with
          | true => exact decide_eq_true rfl
          | false => exact decide_eq_false (fun h => by have := congrArg Bs h; simp [flagQ, Bs] at this)
        unfold readL
        rw [if_neg (fun h => h.elim (fun h => by omega) hne)]
        unfold readK
        rw [show wd (wordsQ m ar n f t) 0 = kindW m from rfl, k0, if_neg (by omega)]
        unfold readN
        rw [show wd (wordsQ m ar n f t) 1 = itoaS n from rfl, n0, show wd (wordsQ m ar n f t) 2 = flagQ f from rfl, if_neg (fun h => h.elim (fun h => by cases h) (fun h => h f0)), f1]
        unfold readW
        have d3 : (wordsQ m ar n f t).drop 3 = wordS t :: ar.map wordS := rfl
        have tt := hsz t h.text
        rw [d3, if_pos (by
          rw [List.all_eq_true]
          intro x hx
          rcases List.mem_cons.1 hx with rfl | hx
          · unfold okQ; rw [tt]
          · obtain ⟨a, ha, rfl⟩ := List.mem_map.1 hx
            unfold okQ; rw [hsz a (h.each a ha)])]
        have d1 : ((wordS t :: ar.map wordS).drop 1).map tQ = ar := by
          show (ar.map wordS).map tQ = ar
          rw [List.map_map]
          refine (List.map_congr_left fun a ha => ?_).trans (List.map_id ar)
          show tQ (wordS a) = id a
          unfold tQ; rw [hsz a (h.each a ha)]; rfl
        rw [d1, show wd (wordS t :: ar.map wordS) 0 = wordS t from rfl]
        unfold tQ; rw [tt]
theorem same_texts (l : List ByteArray) (hl : l.length ≤ 2000000) : Ev (fun k => graftageref17_SameTexts.f k l l) true := by
  have key : ∀ (d i : Nat), i + d = l.length → Ev (fun k => graftageref17_SameTexts.l0 k l l (i : Int)) true := by
    intro d
    induction d with
    | zero => intro i hd; exact Ev.succ (Ev.of fun k => by rw [graftageref17_SameTexts.l0, if_neg (by omega)])
    | succ d ih =>
      intro i hd
      refine Ev.succ (Ev.congr (fun k => ?_) (ih (i + 1) (by omega)))
      rw [graftageref17_SameTexts.l0, if_pos (by omega), if_pos (by omega), if_pos (by omega), if_pos rfl, up i (by omega)]
  simp only [graftageref17_SameTexts.f]
  exact Ev.pos (by first | trivial | rfl) (key l.length 0 (by omega))
theorem large_ev (y0 : Int) (l : List ByteArray) (y2 : Int) (y3 : Bool) (y4 : ByteArray) (hl : l.length ≤ 2000000) : ∃ b, Ev (fun k => graftagelaw56_large.f k y0 l y2 y3 y4) b := by
  have key : ∀ (d i : Nat) (x : Int), i + d = l.length → ∃ b, Ev (fun k => graftagelaw56_large.l0 k x (i : Int) y0 l y2 y3 y4) b := by
    intro d
    induction d with
    | zero => intro i x hd; exact ⟨_, Ev.succ (Ev.of fun k => by rw [graftagelaw56_large.l0, if_neg (by omega)])⟩
    | succ d ih =>
      intro i x hd
      by_cases c : (i : Int) < 1000
      · obtain ⟨b, hb⟩ := ih (i + 1) (wrap64 (x + ((rdOf ByteArray.empty l (i : Int)).size : Int))) (by omega)
        refine ⟨b, Ev.succ (Ev.congr (fun k => ?_) hb)⟩
        rw [graftagelaw56_large.l0, if_pos (by omega), if_pos c, if_pos (by omega), up i (by omega)]
      · exact ⟨_, Ev.succ (Ev.of fun k => by rw [graftagelaw56_large.l0, if_pos (by omega), if_neg c])⟩
  simp only [graftagelaw56_large.f]
  exact key l.length 0 _ (by omega)
end Go.Proofs.YtcmemgahgenpdaaDoor.Pure
end
section
namespace Go.Proofs.YtcmemgahgenpdaaDoor.PSc
open Go.Proofs.YtcmemgahgenpdaaDoor.Hand Go.RowKit Go.Proofs.YtcmemgahgenpdaaDoorW.PrintWords Go.Proofs.YtcmemgahgenpdaaDoorW.PrintLast Go.Proofs.YtcmemgahgenpdaaDoorW.PrintMore
attribute [local go_sem] max2_int min2_int max_two min_two max_three min_three max_four min_four
set_option linter.unusedVariables false
set_option linter.unusedSimpArgs false
end Go.Proofs.YtcmemgahgenpdaaDoor.PSc
end
section
namespace Go.Proofs.YtcmemgahgenpdaaDoor.Pure
open Go.RowKit Go.Proofs.YtcmemgahgenpdaaDoor.PSc Go.Proofs.YtcmemgahgenpdaaDoor.Hand Go.Proofs.YtcmemgahgenpdaaDoorW.PrintWords Go.Proofs.YtcmemgahgenpdaaDoorW.PrintLast
set_option linter.unusedVariables false
set_option linter.unusedSimpArgs false
theorem lives_f : graftagelaw56_lives.f = some true := rfl
theorem same_ev (k : Int) (ar : List ByteArray) (n : Int) (f : Bool) (t : ByteArray) (h : Small ar t) : Ev (fun r => graftagelaw56_same.f r k ar n f t k ar n f t) true := by
  simp only [graftagelaw56_same.f]
  exact Ev.pos (by first | trivial | rfl) (Ev.pos (by first | trivial | rfl) (Ev.pos (by first | trivial | simp) (Ev.pos (by first | trivial | rfl) (Ev.bind (same_texts ar h.len) (Ev.pure _)))))
theorem lines_ev (k : Int) (ar : List ByteArray) (n : Int) (f : Bool) (t : ByteArray) (h : Small ar t) : Ev (fun r => graftagelaw56_ScriptLines.f r k ar n f t) true := by
  simp only [graftagelaw56_ScriptLines.f, lives_f, Option.bind_some]
  obtain ⟨b, hb⟩ := large_ev k ar n f t h.len
  refine Ev.bind hb ?_
  cases b with
  | true => exact Ev.pos (by first | trivial | rfl) (Ev.pure _)
  | false =>
    refine Ev.neg (by simp) (Ev.bind (line_s k ar n f t h) (Ev.bind (line_r k ar n f t h) (Ev.pos (by first | trivial | rfl) (Ev.pos (by first | trivial | rfl) ?_))))
    rw [show ((lineQ k ar n f t).2 != (lineQ k ar n f t).2) = false by simp]
    refine Ev.succ ?_
    simp only [graftagelaw56_ScriptLines.j0, script_Read.f, Option.bind_some]
    refine Ev.neg (by simp) ?_
    by_cases c : (lineQ k ar n f t).2 = 0
    · have hr := read_line k ar n f t h c
      rw [hr]
      exact Ev.pos c (Ev.pos (by first | trivial | rfl) (Ev.bind (same_ev k ar n f t h) (Ev.pure _)))
    · exact Ev.neg c (Ev.pure _)
end Go.Proofs.YtcmemgahgenpdaaDoor.Pure
end
section
namespace Go.Proofs.YtcmemgahgenpdaaDoor.Hand
open Go.RowKit Go.Proofs.YtcmemgahgenpdaaDoorW.PrintWords Go.Proofs.YtcmemgahgenpdaaDoorW.PrintLast Go.Proofs.YtcmemgahgenpdaaDoorW.PrintMore
open Go.Proofs.YtcmemgahgenpdaaDoor.PSc
set_option linter.unusedVariables false
set_option linter.unusedSimpArgs false
def Rp (w : World) (g : Nat) (e : Int) (a b : Value) (n : Int) (t : ByteArray) : Prop := w.heap[g]? = some (.cells #[.int .i64 e, a, b, .int .i64 n, .string t] 36 (0, 0))
section
variable {w w' : World} {g : Nat} {e n : Int} {a b : Value} {t : ByteArray}
theorem Rp.c0 (h : Rp w g e a b n t) : w.cell? ⟨g, 0, none⟩ = some (.int .i64 e) := by rw [Lib.cell_of_heap h]; rfl
theorem Rp.c1 (h : Rp w g e a b n t) : w.cell? ⟨g, 1, none⟩ = some a := by rw [Lib.cell_of_heap h]; rfl
theorem Rp.c2 (h : Rp w g e a b n t) : w.cell? ⟨g, 2, none⟩ = some b := by rw [Lib.cell_of_heap h]; rfl
theorem Rp.c3 (h : Rp w g e a b n t) : w.cell? ⟨g, 3, none⟩ = some (.int .i64 n) := by rw [Lib.cell_of_heap h]; rfl
theorem Rp.c4 (h : Rp w g e a b n t) : w.cell? ⟨g, 4, none⟩ = some (.string t) := by rw [Lib.cell_of_heap h]; rfl
end
end Go.Proofs.YtcmemgahgenpdaaDoor.Hand
end
section
namespace Go.Proofs.YtcmemgahgenpdaaDoor.PSc
open Go.Proofs.YtcmemgahgenpdaaDoor.Hand Go.RowKit Go.Proofs.YtcmemgahgenpdaaDoorW.PrintWords Go.Proofs.YtcmemgahgenpdaaDoorW.PrintLast Go.Proofs.YtcmemgahgenpdaaDoorW.PrintMore
attribute [local go_sem] max2_int min2_int max_two min_two max_three min_three max_four min_four
set_option linter.unusedVariables false
set_option linter.unusedSimpArgs false
end Go.Proofs.YtcmemgahgenpdaaDoor.PSc
end
section
namespace Go.Proofs.YtcmemgahgenpdaaDoor.PSc
open Go.Proofs.YtcmemgahgenpdaaDoor.Hand Go.RowKit Go.Proofs.YtcmemgahgenpdaaDoorW.PrintWords Go.Proofs.YtcmemgahgenpdaaDoorW.PrintLast Go.Proofs.YtcmemgahgenpdaaDoorW.PrintMore
attribute [local go_sem] max2_int min2_int max_two min_two max_three min_three max_four min_four
set_option linter.unusedVariables false
set_option linter.unusedSimpArgs false
end Go.Proofs.YtcmemgahgenpdaaDoor.PSc
end
section
namespace Go.Proofs.YtcmemgahgenpdaaDoor.Hand
open Go.ChangeShapes Go.WideShapes Go.ChangeAt Go.RowKit Go.Deep
open Go.Proofs.YtcmemgahgenpdaaDoor.PSc Go.Proofs.YtcmemgahgenpdaaDoor.Pure
open Go.Proofs.YtcmemgahgenpdaaDoorW.PrintWords Go.Proofs.YtcmemgahgenpdaaDoorW.PrintLast Go.Proofs.YtcmemgahgenpdaaDoorW.PrintMore
set_option linter.unusedVariables false
theorem opens_texts : OpensU Tryd.prog 22 (Kd.slice 9 Kd.string) (fun l => l.length ≤ UB ∧ ∀ a ∈ l, a.size ≤ UB) := opensU_slice (opensU_string Tryd.underlying9) (by kernel_rfl) Tryd.underlying22
theorem opens_command : OpensU Tryd.prog 24 k24 (fun x => Small x.f1 x.f4) :=
  opensU_struct Tryd.underlying24
    (opensL_cons rfl (by kernel_rfl) (by decide) (opensU_int Tryd.underlying3)
      (opensL_cons rfl (by kernel_rfl) (by decide) opens_texts
        (opensL_cons rfl (by kernel_rfl) (by decide) (opensU_int Tryd.underlying3)
          (opensL_cons rfl (by kernel_rfl) (by decide) (opensU_bool Tryd.underlying4)
            (opensL_one rfl (by kernel_rfl) (opensU_string Tryd.underlying9))))))
    (by kernel_rfl) k24 (fun x => ⟨x.1, x.2.1, x.2.2.1, x.2.2.2.1, x.2.2.2.2⟩) _ (fun w a cs h => h)
    (fun a h => ⟨Nat.le_trans h.2.1.1 (by decide), fun b hb => Nat.le_trans (h.2.1.2 b hb) (by decide), Nat.le_trans h.2.2.2.2 (by decide)⟩)
end Go.Proofs.YtcmemgahgenpdaaDoor.Hand
end
