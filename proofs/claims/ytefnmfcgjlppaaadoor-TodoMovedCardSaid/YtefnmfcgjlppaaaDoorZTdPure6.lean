/- The plain law of TodoMoved: Auto keeps all instructions, what it gives passes Check, and a second time it changes nothing. -/
import Derived.Test.YtefnmfcgjlppaaaDoorZTdPure3
import Derived.Test.YtefnmfcgjlppaaaDoorZRow
import Derived.Test.YtefnmfcgjlppaaaDoorZPTdx19
namespace Go.Proofs.YtefnmfcgjlppaaaDoor.Pure
open Go.RowKit Go.Proofs.YtefnmfcgjlppaaaDoor.PTd Go.Proofs.YtefnmfcgjlppaaaDoor.Hand Go.Proofs.YtefnmfcgjlppaaaDoorW.PrintWords Go.Proofs.YtefnmfcgjlppaaaDoorW.PrintLast
set_option linter.unusedVariables false
set_option linter.unusedSimpArgs false
abbrev rdM (l : List Todo) (k : Nat) : Todo := rd_T34 l k
def gQ (l : List Todo) (k : Nat) : Int := (goalQ l k).1
def modQ (l : List Todo) (k : Nat) : Todo := if 0 ≤ gQ l k then ⟨(goalQ l k).2, (rdM l k).f1, (rdM l k).f2⟩ else rdM l k
theorem modQ_f1 (l : List Todo) (k : Nat) : (modQ l k).f1 = (rdM l k).f1 := by unfold modQ; split <;> rfl
theorem modQ_f2 (l : List Todo) (k : Nat) : (modQ l k).f2 = (rdM l k).f2 := by unfold modQ; split <;> rfl
def behI (l : List Todo) (i : Nat) : Nat → List Nat
  | 0 => []
  | k + 1 => behI l i k ++ (if gQ l k = i then [k] else [])
def outI (l : List Todo) : Nat → List Nat
  | 0 => []
  | i + 1 => outI l i ++ (if 0 ≤ gQ l i then [] else [i] ++ behI l i l.length)
theorem behI_map (l : List Todo) (i k : Nat) : behQ l i k = (behI l i k).map (modQ l) := by
  induction k with
  | zero => rfl
  | succ k ih =>
    rw [behQ, behI, ih, List.map_append]
    by_cases c : gQ l k = i
    · rw [if_pos c, if_pos (by exact c)]
      congr 1
      show _ = [modQ l k]
      unfold modQ
      rw [if_pos (by omega)]
    · rw [if_neg c, if_neg (by exact c)]; rfl
theorem outI_map (l : List Todo) (i : Nat) : outQ l i = (outI l i).map (modQ l) := by
  induction i with
  | zero => rfl
  | succ i ih =>
    rw [outQ, outI, ih, List.map_append]
    by_cases c : 0 ≤ gQ l i
    · rw [if_pos (by exact c), if_pos c]; rfl
    · rw [if_neg (by exact c), if_neg c, List.map_append, behI_map]
      congr 2
      show _ = [modQ l i]
      unfold modQ
      rw [if_neg c]
theorem behI_mem (l : List Todo) (i m k : Nat) : k ∈ behI l i m ↔ k < m ∧ gQ l k = i := by
  induction m with
  | zero => simp [behI]
  | succ m ih =>
    rw [behI, List.mem_append, ih]
    by_cases c : gQ l m = i
    · rw [if_pos c, List.mem_singleton]
      constructor
      · rintro (h | rfl)
        · exact ⟨by omega, h.2⟩
        · exact ⟨by omega, c⟩
      · rintro ⟨h1, h2⟩
        by_cases e : k = m
        · exact Or.inr e
        · exact Or.inl ⟨by omega, h2⟩
    · rw [if_neg c]
      constructor
      · rintro (h | h)
        · exact ⟨by omega, h.2⟩
        · cases h
      · rintro ⟨h1, h2⟩
        have e : k ≠ m := fun e => c (e ▸ h2)
        exact Or.inl ⟨by omega, h2⟩
theorem behI_nodup (l : List Todo) (i m : Nat) : (behI l i m).Nodup := by
  induction m with
  | zero => exact List.nodup_nil
  | succ m ih =>
    rw [behI]
    split
    · rw [List.nodup_append]
      refine ⟨ih, by simp, fun a ha b hb => ?_⟩
      have := (behI_mem l i m a).1 ha
      simp only [List.mem_singleton] at hb
      omega
    · rw [List.append_nil]; exact ih
/-! a goal is none that goes itself -/
theorem firstL_done (n : Nat) : ∀ (s : ByteArray) (k : Int), s.size ≤ n → preQ (firstL n s k).1 fxP = false ∧ preQ (firstL n s k).1 sqP = false := by
  have e7 : fxP.size = 7 := rfl
  have e8 : sqP.size = 8 := rfl
  induction n with
  | zero =>
    intro s k hs
    exact ⟨Bool.eq_false_iff.2 (fun h => by have : fxP.size ≤ s.size := preQ_size h; omega), Bool.eq_false_iff.2 (fun h => by have : sqP.size ≤ s.size := preQ_size h; omega)⟩
  | succ n ih =>
    intro s k hs
    rw [firstL]
    cases h1 : preQ s fxP with
    | true =>
      rw [if_pos rfl]
      have := preQ_size h1
      exact ih _ _ (by rw [ByteArray.size_extract]; omega)
    | false =>
      rw [if_neg (by simp)]
      cases h2 : preQ s sqP with
      | true =>
        rw [if_pos rfl]
        have := preQ_size h2
        exact ih _ _ (by rw [ByteArray.size_extract]; omega)
      | false => rw [if_neg (by simp)]; exact ⟨h1, h2⟩
theorem firstQ_done (s : ByteArray) : (firstQ (firstQ s).1).2 = 0 := by
  obtain ⟨h1, h2⟩ := firstL_done s.size s 0 (Nat.le_refl _)
  change preQ (firstQ s).1 fxP = false at h1
  change preQ (firstQ s).1 sqP = false at h2
  generalize (firstQ s).1 = t at *
  unfold firstQ
  cases t.size with
  | zero => rfl
  | succ n => rw [firstL, h1, h2]; rfl
theorem firstL_kind (n : Nat) : ∀ (s : ByteArray) (k : Int), k = 0 ∨ k = 4 ∨ k = 5 → (firstL n s k).2 = 0 ∨ (firstL n s k).2 = 4 ∨ (firstL n s k).2 = 5 := by
  induction n with
  | zero => intro s k h; exact h
  | succ n ih =>
    intro s k h
    rw [firstL]
    split
    · exact ih _ _ (by split <;> omega)
    · split
      · exact ih _ _ (by split <;> omega)
      · exact h
theorem idxQ_spec (p : Todo → Bool) : ∀ (l : List Todo) (i : Int), 0 ≤ i → 0 ≤ idxQ p l i → ∃ j : Nat, idxQ p l i = i + j ∧ j < l.length ∧ p (rdM l j) = true := by
  intro l
  induction l with
  | nil => intro i h0 h; exact absurd h (by show ¬ (0 ≤ (-1 : Int)); decide)
  | cons x l ih =>
    intro i h0 h
    rw [idxQ] at h ⊢
    by_cases c : p x = true
    · rw [if_pos c]
      exact ⟨0, by omega, by simp, c⟩
    · rw [if_neg c] at h ⊢
      obtain ⟨j, h1, h2, h3⟩ := ih (i + 1) (by omega) h
      refine ⟨j + 1, by rw [h1]; omega, by simp; omega, ?_⟩
      have e : rdM (x :: l) (j + 1) = rdM l j := by
        show (x :: l).getD (((j + 1 : Nat) : Int)).toNat _ = l.getD ((j : Int)).toNat _
        rw [Int.toNat_natCast, Int.toNat_natCast]; rfl
      rw [e]; exact h3
theorem rd_take (l : List Todo) (j k : Nat) (h : j < k) : rdM (l.take k) j = rdM l j := by
  show (l.take k).getD ((j : Int)).toNat _ = l.getD ((j : Int)).toNat _
  simp only [Int.toNat_natCast, List.getD_eq_getElem?_getD, List.getElem?_take_of_lt h]
/-- What went: a pick whose text begins so; its goal lies ahead, makes a commit, and its text is the rest. -/
theorem went_spec {l : List Todo} {k : Nat} (h : 0 ≤ gQ l k) : (rdM l k).f0 = 1 ∧ ((goalQ l k).2 = 4 ∨ (goalQ l k).2 = 5) ∧ ∃ j : Nat, gQ l k = j ∧ j < k ∧ makesQ (rdM l j) = true ∧ gQ l j < 0 := by
  have hlt := goalQ_lt l k
  unfold gQ goalQ at h
  by_cases c : (rd_T34 l k).f0 ≠ 1 ∨ (firstQ (rd_T34 l k).f2).2 = 0
  · rw [if_pos c] at h; exact absurd h (by show ¬ (0 ≤ (-1 : Int)); decide)
  · rw [if_neg c] at h
    have c1 : (rdM l k).f0 = 1 := Classical.byContradiction (fun e => c (Or.inl e))
    have c2 : ¬ (firstQ (rdM l k).f2).2 = 0 := fun e => c (Or.inr e)
    refine ⟨c1, ?_, ?_⟩
    · unfold goalQ
      rw [if_neg c]
      rcases firstL_kind (rdM l k).f2.size (rdM l k).f2 0 (Or.inl rfl) with h1 | h1
      · exact absurd h1 c2
      · exact h1
    · obtain ⟨j, h1, h2, h3⟩ := idxQ_spec _ _ 0 (Int.le_refl 0) h
      have hg : gQ l k = j := by
        unfold gQ goalQ
        rw [if_neg c]
        show idxQ _ _ 0 = _
        rw [h1]; omega
      have hjk : j < k := by
        have : gQ l k < k := hlt.1
        omega
      rw [rd_take l j k hjk] at h3
      unfold mendsQ at h3
      simp only [Bool.and_eq_true, beq_iff_eq] at h3
      refine ⟨j, hg, hjk, h3.1, ?_⟩
      have e2 : (rdM l j).f2 = (firstQ (rdM l k).f2).1 := toList_iff.1 h3.2
      have e3 : (firstQ (rdM l j).f2).2 = 0 := by rw [e2]; exact firstQ_done _
      unfold gQ goalQ
      rw [if_pos (Or.inr e3)]; decide
theorem outI_mem (l : List Todo) : ∀ i, i ≤ l.length → ∀ k, k ∈ outI l i ↔ k < l.length ∧ ((0 ≤ gQ l k ∧ gQ l k < i) ∨ (gQ l k < 0 ∧ k < i)) := by
  intro i
  induction i with
  | zero => intro _ k; simp [outI] <;> omega
  | succ i ih =>
    intro hi k
    rw [outI, List.mem_append, ih (by omega)]
    by_cases c : 0 ≤ gQ l i
    · rw [if_pos c]
      constructor
      · rintro (⟨h1, h2⟩ | h)
        · exact ⟨h1, by omega⟩
        · cases h
      · rintro ⟨h1, h2⟩
        refine Or.inl ⟨h1, ?_⟩
        rcases h2 with h2 | h2
        · by_cases e : gQ l k = i
          · obtain ⟨_, _, j, hj, _, _, hjn⟩ := went_spec h2.1
            rw [hj] at e
            have : j = i := by omega
            subst this
            omega
          · left; omega
        · by_cases e : k = i
          · subst e; omega
          · right; omega
    · rw [if_neg c, List.mem_append, List.mem_singleton, behI_mem]
      constructor
      · rintro (⟨h1, h2⟩ | h | ⟨h1, h2⟩)
        · exact ⟨h1, by omega⟩
        · subst h; exact ⟨by omega, by omega⟩
        · exact ⟨h1, by omega⟩
      · rintro ⟨h1, h2⟩
        rcases h2 with h2 | h2
        · by_cases e : gQ l k = i
          · exact Or.inr (Or.inr ⟨h1, e⟩)
          · exact Or.inl ⟨h1, by omega⟩
        · by_cases e : k = i
          · exact Or.inr (Or.inl e)
          · exact Or.inl ⟨h1, by omega⟩
theorem outI_nodup (l : List Todo) : ∀ i, i ≤ l.length → (outI l i).Nodup := by
  intro i
  induction i with
  | zero => intro _; exact List.nodup_nil
  | succ i ih =>
    intro hi
    rw [outI]
    by_cases c : 0 ≤ gQ l i
    · rw [if_pos c, List.append_nil]; exact ih (by omega)
    · rw [if_neg c, List.nodup_append]
      refine ⟨ih (by omega), ?_, ?_⟩
      · rw [List.nodup_append]
        refine ⟨by simp, behI_nodup l i _, fun a ha b hb => ?_⟩
        simp only [List.mem_singleton] at ha
        have := (behI_mem l i _ b).1 hb
        intro e
        subst e
        subst ha
        omega
      · intro a ha b hb e
        subst e
        have h1 := (outI_mem l i (by omega) a).1 ha
        rw [List.mem_append, List.mem_singleton, behI_mem] at hb
        rcases hb with rfl | hb
        · omega
        · omega
theorem outI_perm (l : List Todo) : (outI l l.length).Perm (List.range l.length) := by
  rw [List.perm_ext_iff_of_nodup (outI_nodup l _ (Nat.le_refl _)) List.nodup_range]
  intro k
  rw [outI_mem l _ (Nat.le_refl _), List.mem_range]
  have := goalQ_lt l k
  constructor
  · intro h; exact h.1
  · intro h
    refine ⟨h, ?_⟩
    by_cases c : 0 ≤ gQ l k
    · left; exact ⟨c, by show (goalQ l k).1 < _; omega⟩
    · right; omega
theorem outQ_len (l : List Todo) : (outQ l l.length).length = l.length := by
  rw [outI_map, List.length_map, (outI_perm l).length_eq, List.length_range]
theorem outQ_has (l : List Todo) (k : Nat) (h : k < l.length) : ∃ x ∈ outQ l l.length, x.f1 = (rdM l k).f1 := by
  rw [outI_map]
  exact ⟨modQ l k, List.mem_map.2 ⟨k, (outI_perm l).mem_iff.2 (List.mem_range.2 h), rfl⟩, modQ_f1 l k⟩
theorem list_range (l : List Todo) : l = (List.range l.length).map (rdM l) := by
  apply List.ext_getElem
  · simp
  · intro i h1 h2
    rw [List.getElem_map, List.getElem_range]
    show _ = l.getD ((i : Int)).toNat _
    rw [Int.toNat_natCast, List.getD_eq_getElem?_getD, List.getElem?_eq_getElem h1]; rfl
/-! Check in three parts -/
def idR (a b : Todo) : Prop := a.f1.toList = b.f1.toList → b.f1.toList = []
def ahP : List Todo → Bool → Prop
  | [], _ => True
  | x :: l, ah => ¬ ((x.f0 = 4 ∨ x.f0 = 5) ∧ ah = false) ∧ ahP l (ah || makesQ x)
theorem check_parts : ∀ (l pre : List Todo) (ah : Bool), List.Pairwise idR pre → (checkL l pre ah = 0 ↔ (∀ x ∈ l, goodQ x = true) ∧ List.Pairwise idR (pre ++ l) ∧ ahP l ah) := by
  intro l
  induction l with
  | nil =>
    intro pre ah hp
    simp [checkL, ahP, hp]
  | cons x l ih =>
    intro pre ah hp
    rw [checkL, ahP, idxQ_any _ _ _ (Int.le_refl 0)]
    by_cases h1 : goodQ x = false
    · rw [if_pos h1]
      constructor
      · intro h; exact absurd h (by decide)
      · rintro ⟨h, _⟩
        have := h x (List.mem_cons_self ..)
        rw [h1] at this; cases this
    · rw [if_neg h1]
      have h1' : goodQ x = true := by simpa using h1
      have hpre : pre ++ x :: l = (pre ++ [x]) ++ l := by simp
      by_cases h2 : (x.f1.toList != []) = true ∧ pre.any (sameId x.f1) = true
      · rw [if_pos h2]
        constructor
        · intro h; exact absurd h (by decide)
        · rintro ⟨_, h, _⟩
          rw [List.pairwise_append] at h
          obtain ⟨y, hy, hys⟩ := List.any_eq_true.1 h2.2
          have := h.2.2 y hy x (List.mem_cons_self ..) (beq_iff_eq.1 hys)
          have h3 := h2.1
          rw [bne_iff_ne] at h3
          exact absurd this h3
      · rw [if_neg h2]
        have hp2 : List.Pairwise idR (pre ++ [x]) := by
          rw [List.pairwise_append]
          refine ⟨hp, by simp, fun a ha b hb hab => ?_⟩
          simp only [List.mem_singleton] at hb
          subst hb
          exact Classical.byContradiction (fun hne => h2 ⟨bne_iff_ne.2 hne, List.any_eq_true.2 ⟨a, ha, beq_iff_eq.2 hab⟩⟩)
        by_cases h3 : (x.f0 = 4 ∨ x.f0 = 5) ∧ ah = false
        · rw [if_pos h3]
          constructor
          · intro h; exact absurd h (by decide)
          · rintro ⟨_, _, h, _⟩; exact absurd h3 h
        · rw [if_neg h3, ih _ _ hp2, hpre]
          constructor
          · rintro ⟨a, b, c⟩
            exact ⟨fun y hy => by rcases List.mem_cons.1 hy with rfl | hy; exact h1'; exact a y hy, b, h3, c⟩
          · rintro ⟨a, b, _, c⟩
            exact ⟨fun y hy => a y (List.mem_cons_of_mem _ hy), b, c⟩
theorem check_iff (l : List Todo) : checkQ l = 0 ↔ l.length ≤ 256 ∧ (∀ x ∈ l, goodQ x = true) ∧ List.Pairwise idR l ∧ ahP l false := by
  unfold checkQ
  by_cases c : l.length > 256
  · rw [if_pos c]
    constructor
    · intro h; exact absurd h (by decide)
    · rintro ⟨h, _⟩; omega
  · rw [if_neg c, check_parts l [] false List.Pairwise.nil, List.nil_append]
    exact ⟨fun h => ⟨by omega, h⟩, fun h => h.2⟩
theorem ahP_append : ∀ (a b : List Todo) (ah : Bool), ahP (a ++ b) ah ↔ ahP a ah ∧ ahP b (ah || a.any makesQ) := by
  intro a
  induction a with
  | nil => intro b ah; simp [ahP]
  | cons x a ih =>
    intro b ah
    rw [List.cons_append, ahP, ahP, ih, List.any_cons, Bool.or_assoc, and_assoc]
theorem ahP_true : ∀ l : List Todo, ahP l true := by
  intro l
  induction l with
  | nil => trivial
  | cons x l ih => exact ⟨fun h => by simpa using h.2, by rw [Bool.true_or]; exact ih⟩
theorem take_any (l : List Todo) (i : Nat) (hi : i < l.length) : (l.take (i + 1)).any makesQ = ((l.take i).any makesQ || makesQ (rdM l i)) := by
  rw [← take_snoc l i hi, List.any_append]; simp
theorem makes_in_out (l : List Todo) : ∀ i, i ≤ l.length → (l.take i).any makesQ = true → (outQ l i).any makesQ = true := by
  intro i
  induction i with
  | zero => intro _ h; simp at h
  | succ i ih =>
    intro hi h
    rw [take_any l i (by omega)] at h
    rw [outQ, List.any_append]
    by_cases c : (l.take i).any makesQ = true
    · rw [ih (by omega) c, Bool.true_or]
    · have hm : makesQ (rdM l i) = true := by
        cases h2 : (l.take i).any makesQ with
        | true => exact absurd h2 c
        | false => rw [h2, Bool.false_or] at h; exact h
      have hg : ¬ 0 ≤ gQ l i := by
        intro hg
        obtain ⟨_, _, j, _, hj, hmj, _⟩ := went_spec hg
        refine c (List.any_eq_true.2 ⟨rdM l j, ?_, hmj⟩)
        have hjl : j < (l.take i).length := by rw [List.length_take]; omega
        rw [← rd_take l j i hj]
        exact rd_mem (l.take i) j hjl
      rw [if_neg (by exact hg), List.any_append]
      have : [rd_T34 l i].any makesQ = true := by simp; exact hm
      rw [this]; simp
theorem ah_take (l : List Todo) (h : ahP l false) (i : Nat) (hi : i < l.length) (hk : (rdM l i).f0 = 4 ∨ (rdM l i).f0 = 5) : (l.take i).any makesQ = true := by
  have e : l = l.take i ++ rdM l i :: l.drop (i + 1) := by
    rw [show rdM l i :: l.drop (i + 1) = l.drop i from (drop_cons l i hi).symm, List.take_append_drop]
  rw [e, ahP_append] at h
  have h2 := h.2
  rw [ahP, Bool.false_or] at h2
  cases h3 : (l.take i).any makesQ with
  | true => rfl
  | false => exact absurd ⟨hk, h3⟩ h2.1
theorem ah_out (l : List Todo) (h : ahP l false) : ∀ i, i ≤ l.length → ahP (outQ l i) false := by
  intro i
  induction i with
  | zero => intro _; trivial
  | succ i ih =>
    intro hi
    rw [outQ]
    by_cases c : 0 ≤ gQ l i
    · rw [if_pos (by exact c), List.append_nil]; exact ih (by omega)
    · rw [if_neg (by exact c), ahP_append]
      refine ⟨ih (by omega), ?_⟩
      rw [List.singleton_append, ahP, Bool.false_or]
      refine ⟨fun hk => ?_, ?_⟩
      · have := makes_in_out l i (by omega) (ah_take l h i (by omega) hk.1)
        rw [this] at hk
        simpa using hk.2
      · by_cases hm : makesQ (rdM l i) = true
        · rw [show makesQ (rd_T34 l i) = true from hm, Bool.or_true]; exact ahP_true _
        · have hb : behQ l i l.length = [] := by
            rw [behI_map]
            cases hx : behI l i l.length with
            | nil => rfl
            | cons k t =>
              exfalso
              have hk : k ∈ behI l i l.length := by rw [hx]; exact List.mem_cons_self ..
              have hk2 := (behI_mem l i _ k).1 hk
              obtain ⟨_, _, j, hj, _, hmj, _⟩ := went_spec (show 0 ≤ gQ l k by omega)
              have : j = i := by omega
              subst this
              exact hm hmj
          rw [hb]; trivial
theorem mod_good (l : List Todo) (hg : ∀ x ∈ l, goodQ x = true) (k : Nat) (hk : k < l.length) : goodQ (modQ l k) = true := by
  have h := hg _ (rd_mem l k hk)
  unfold modQ
  by_cases c : 0 ≤ gQ l k
  · rw [if_pos c]
    obtain ⟨h1, h2, _⟩ := went_spec c
    rw [goodQ_eq] at h ⊢
    rw [if_neg (by rw [show (rd_T34 l k).f0 = 1 from h1]; omega), if_neg (by rw [show (rd_T34 l k).f0 = 1 from h1]; decide)] at h
    rw [if_neg (by dsimp only; omega), if_neg (by dsimp only; omega)]
    exact h
  · rw [if_neg c]; exact h
theorem check_out (l : List Todo) (h : checkQ l = 0) : checkQ (outQ l l.length) = 0 := by
  obtain ⟨h1, h2, h3, h4⟩ := (check_iff l).1 h
  refine (check_iff _).2 ⟨by rw [outQ_len]; exact h1, ?_, ?_, ah_out l h4 _ (Nat.le_refl _)⟩
  · intro x hx
    rw [outI_map] at hx
    obtain ⟨k, hk, rfl⟩ := List.mem_map.1 hx
    exact mod_good l h2 k (List.mem_range.1 ((outI_perm l).mem_iff.1 hk))
  · rw [outI_map, List.pairwise_map]
    refine List.Perm.pairwise (outI_perm l).symm ?_ (fun {x y} hxy => ?_)
    · rw [list_range l, List.pairwise_map] at h3
      refine h3.imp (fun {a b} hab => ?_)
      unfold idR at hab ⊢
      rw [modQ_f1, modQ_f1]; exact hab
    · unfold idR at hxy ⊢
      intro e
      rw [← e]; exact hxy e.symm
/-! a second time -/
def stP : List Todo → List Todo → Prop
  | [], _ => True
  | x :: r, pre => (x.f0 ≠ 1 ∨ (firstQ x.f2).2 = 0 ∨ pre.any (mendsQ (firstQ x.f2).1) = false) ∧ stP r (pre ++ [x])
theorem stP_append : ∀ (a b pre : List Todo), stP (a ++ b) pre ↔ stP a pre ∧ stP b (pre ++ a) := by
  intro a
  induction a with
  | nil => intro b pre; simp [stP]
  | cons x a ih =>
    intro b pre
    rw [List.cons_append, stP, stP, ih, and_assoc]
    simp
theorem stP_kinds : ∀ (l pre : List Todo), (∀ x ∈ l, x.f0 ≠ 1) → stP l pre := by
  intro l
  induction l with
  | nil => intro pre _; trivial
  | cons x l ih => intro pre h; exact ⟨Or.inl (h x (List.mem_cons_self ..)), ih _ (fun y hy => h y (List.mem_cons_of_mem _ hy))⟩
theorem beh_kinds (l : List Todo) (i m : Nat) : ∀ x ∈ behQ l i m, x.f0 = 4 ∨ x.f0 = 5 := by
  intro x hx
  rw [behI_map] at hx
  obtain ⟨k, hk, rfl⟩ := List.mem_map.1 hx
  have hk2 := (behI_mem l i m k).1 hk
  obtain ⟨_, h2, _⟩ := went_spec (show 0 ≤ gQ l k by omega)
  unfold modQ
  rw [if_pos (by omega)]
  exact h2
theorem out_members (l : List Todo) : ∀ i, i ≤ l.length → ∀ x ∈ outQ l i, (x.f0 = 4 ∨ x.f0 = 5) ∨ x ∈ l.take i := by
  intro i
  induction i with
  | zero => intro _ x hx; cases hx
  | succ i ih =>
    intro hi x hx
    have up : x ∈ l.take i → x ∈ l.take (i + 1) := fun h => by rw [← take_snoc l i (by omega)]; exact List.mem_append_left _ h
    rw [outQ, List.mem_append] at hx
    rcases hx with hx | hx
    · rcases ih (by omega) x hx with h | h
      · exact Or.inl h
      · exact Or.inr (up h)
    · split at hx
      · cases hx
      · rw [List.mem_append, List.mem_singleton] at hx
        rcases hx with rfl | hx
        · right; rw [← take_snoc l i (by omega)]; exact List.mem_append_right _ (List.mem_singleton.2 rfl)
        · exact Or.inl (beh_kinds l i _ x hx)
theorem st_out (l : List Todo) : ∀ i, i ≤ l.length → stP (outQ l i) [] := by
  intro i
  induction i with
  | zero => intro _; trivial
  | succ i ih =>
    intro hi
    rw [outQ]
    by_cases c : 0 ≤ gQ l i
    · rw [if_pos (by exact c), List.append_nil]; exact ih (by omega)
    · rw [if_neg (by exact c), stP_append]
      refine ⟨ih (by omega), ?_⟩
      rw [List.singleton_append, stP, List.nil_append]
      refine ⟨?_, stP_kinds _ _ (fun x hx => by have := beh_kinds l i _ x hx; omega)⟩
      have hg := c
      unfold gQ goalQ at hg
      by_cases c2 : (rd_T34 l i).f0 ≠ 1 ∨ (firstQ (rd_T34 l i).f2).2 = 0
      · rcases c2 with c2 | c2
        · exact Or.inl c2
        · exact Or.inr (Or.inl c2)
      · rw [if_neg c2] at hg
        right; right
        have hany : (l.take i).any (mendsQ (firstQ (rd_T34 l i).f2).1) = false := by
          rw [← idxQ_any _ _ 0 (Int.le_refl 0)]
          exact decide_eq_false hg
        rw [Bool.eq_false_iff]
        intro h
        obtain ⟨x, hx, hxm⟩ := List.any_eq_true.1 h
        rcases out_members l i (by omega) x hx with hk | hk
        · unfold mendsQ makesQ at hxm
          have e1 : decide (x.f0 = 1) = false := decide_eq_false (by omega)
          have e2 : decide (x.f0 = 2) = false := decide_eq_false (by omega)
          have e3 : decide (x.f0 = 3) = false := decide_eq_false (by omega)
          rw [e1, e2, e3] at hxm
          simp at hxm
        · rw [Bool.eq_false_iff] at hany
          exact hany (List.any_eq_true.2 ⟨x, hk, hxm⟩)
theorem st_goal (l : List Todo) (h : stP l []) (k : Nat) (hk : k < l.length) : gQ l k < 0 := by
  have e : l = l.take k ++ rdM l k :: l.drop (k + 1) := by
    rw [show rdM l k :: l.drop (k + 1) = l.drop k from (drop_cons l k hk).symm, List.take_append_drop]
  rw [e, stP_append, List.nil_append] at h
  have h2 := h.2.1
  unfold gQ goalQ
  by_cases c : (rd_T34 l k).f0 ≠ 1 ∨ (firstQ (rd_T34 l k).f2).2 = 0
  · rw [if_pos c]; show (-1 : Int) < 0; decide
  · rw [if_neg c]
    have h3 : (l.take k).any (mendsQ (firstQ (rdM l k).f2).1) = false := by
      rcases h2 with h2 | h2 | h2
      · exact absurd (Or.inl h2) c
      · exact absurd (Or.inr h2) c
      · exact h2
    rw [← idxQ_any _ _ 0 (Int.le_refl 0)] at h3
    have := of_decide_eq_false h3
    show idxQ _ _ 0 < 0
    exact Int.not_le.1 this
theorem out_still (l : List Todo) (h : ∀ k, k < l.length → gQ l k < 0) : ∀ i, i ≤ l.length → outQ l i = l.take i := by
  intro i
  induction i with
  | zero => intro _; rfl
  | succ i ih =>
    intro hi
    have hb : behQ l i l.length = [] := by
      rw [behI_map]
      cases hx : behI l i l.length with
      | nil => rfl
      | cons k t =>
        exfalso
        have hk : k ∈ behI l i l.length := by rw [hx]; exact List.mem_cons_self ..
        have hk2 := (behI_mem l i _ k).1 hk
        have := h k hk2.1
        omega
    have := h i (by omega)
    rw [outQ, if_neg (by show ¬ 0 ≤ gQ l i; omega), hb, List.append_nil, ih (by omega), take_snoc l i (by omega)]
theorem auto_twice (l : List Todo) (h : checkQ l = 0) : autoQ (outQ l l.length) = outQ l l.length := by
  have hc := check_out l h
  have hst := st_goal _ (st_out l _ (Nat.le_refl _))
  generalize outQ l l.length = k at *
  unfold autoQ
  rw [if_pos hc, out_still k hst _ (Nat.le_refl _), List.take_length]
theorem has_l0 (l : List Todo) (hl : l.length ≤ 1000000000) (s : ByteArray) (d : Nat) : ∀ i : Nat, l.length = i + d → (∃ x ∈ l.drop i, x.f1 = s) → Ev (fun k => graftagelaw42_has.l0 k l s i) true := by
  induction d with
  | zero => intro i hi h; rw [List.drop_of_length_le (by omega)] at h; obtain ⟨x, hx, _⟩ := h; cases hx
  | succ d ih =>
    intro i hi h
    have hw : wrap64 ((i : Int) + 1) = ((i + 1 : Nat) : Int) := by rw [wrap64_id (by omega) (by omega)]; rfl
    refine Ev.succ ?_
    by_cases c : (rd_T34 l i).f1.toList = s.toList
    · refine Ev.of (fun k => ?_)
      rw [graftagelaw42_has.l0, if_pos (by omega), if_pos (by omega), if_pos c]
    · refine Ev.congr (fun k => ?_) (ih (i + 1) (by omega) ?_)
      · rw [graftagelaw42_has.l0, if_pos (by omega), if_pos (by omega), if_neg c, hw]
      · rw [drop_cons l i (by omega)] at h
        obtain ⟨x, hx, hxs⟩ := h
        rcases List.mem_cons.1 hx with rfl | hx
        · exact absurd (by rw [hxs]) c
        · exact ⟨x, hx, hxs⟩
theorem has_ev (l : List Todo) (hl : l.length ≤ 1000000000) (s : ByteArray) (h : ∃ x ∈ l, x.f1 = s) : Ev (fun k => graftagelaw42_has.f k l s) true := has_l0 l hl s l.length 0 (by omega) (by rw [List.drop_zero]; exact h)
theorem moved_l0 (l r : List Todo) (hl : l.length ≤ 60) (hr : r.length ≤ 1000000000) (h : ∀ k, k < l.length → ∃ x ∈ r, x.f1 = (rdM l k).f1) (d : Nat) : ∀ i : Nat, l.length = i + d → Ev (fun k => graftagelaw42_TodoMoved.l0 k l r i) true := by
  induction d with
  | zero =>
    intro i hi
    refine Ev.succ (Ev.congr (fun k => ?_) (Ev.bind (g := fun t _ => some t) lives_ev (Ev.pure true)))
    rw [graftagelaw42_TodoMoved.l0, if_neg (by omega)]
  | succ d ih =>
    intro i hi
    have hw : wrap64 ((i : Int) + 1) = ((i + 1 : Nat) : Int) := by rw [wrap64_id (by omega) (by omega)]; rfl
    refine Ev.succ (Ev.congr (fun k => ?_) (Ev.bind (g := fun t k => if t = true then graftagelaw42_TodoMoved.l0 k l r (wrap64 ((i : Int) + 1)) else some false) (has_ev r hr (rdM l i).f1 (h i (by omega))) (Ev.congr (fun k => by rw [if_pos rfl, hw]) (ih (i + 1) (by omega)))))
    rw [graftagelaw42_TodoMoved.l0, if_pos (by omega), if_pos (by omega)]
theorem auto_f (l : List Todo) (h : l.length ≤ 1000000000) : todo_Auto.f l = some (autoQ l) := by unfold todo_Auto.f; rw [if_pos h]
theorem TodoMoved (l : List Todo) : Ev (fun k => graftagelaw42_TodoMoved.f k l) true := by
  have hlv : Ev (fun k => graftagelaw42_TodoMoved.j0 k l true) true := Ev.succ (Ev.congr (fun k => by rw [graftagelaw42_TodoMoved.j0, if_pos rfl]) (Ev.bind (g := fun t _ => some t) lives_ev (Ev.pure true)))
  by_cases h : (l.length : Int) > 60
  · exact Ev.congr (fun k => by rw [graftagelaw42_TodoMoved.f, if_pos h]) hlv
  · by_cases hc : checkQ l = 0
    · have hA : autoQ l = outQ l l.length := by unfold autoQ; rw [if_pos hc]
      have hlen := outQ_len l
      have hch := check_out l hc
      have htw := auto_twice l hc
      have hhas := fun k hk => outQ_has l k hk
      generalize outQ l l.length = r at *
      refine Ev.congr (g := fun k => graftagelaw42_TodoMoved.j0 k l false) (fun k => ?_) (Ev.succ (Ev.congr (fun k => ?_) (Ev.bind (f := fun k => graftageref42_Same.f k r r) (g := fun t k => graftagelaw42_TodoMoved.j1 k l r (!t)) (same_ev r (by omega)) (Ev.succ (Ev.congr (fun k => ?_) (moved_l0 l r (by omega) (by omega) hhas l.length 0 (by omega)))))))
      · rw [graftagelaw42_TodoMoved.f, if_neg h, check_f, Option.bind_some, hc]; rfl
      · rw [graftagelaw42_TodoMoved.j0, if_neg (by simp), auto_f l (by omega), Option.bind_some, hA, if_pos (by omega), check_f, Option.bind_some, if_pos hch, auto_f r (by omega), Option.bind_some, htw]
      · rw [graftagelaw42_TodoMoved.j1, if_neg (by simp)]; rfl
    · refine Ev.congr (fun k => ?_) hlv
      rw [graftagelaw42_TodoMoved.f, if_neg h, check_f, Option.bind_some]
      congr 1
      exact bne_iff_ne.2 hc
end Go.Proofs.YtefnmfcgjlppaaaDoor.Pure
