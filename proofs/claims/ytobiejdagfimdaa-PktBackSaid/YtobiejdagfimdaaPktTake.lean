/- pkt.Take, pkt.All and the reference's: both are the plain 'takeP', 'allP'. -/
import Derived.Test.YtobiejdagfimdaaStr
import Derived.Test.YtobiejdagfimdaaPPktx3
import Derived.Test.YtobiejdagfimdaaPPktx7
import Derived.Test.YtobiejdagfimdaaPPktx6
namespace Go.Proofs.Ytobiejdagfimdaa.PPkt
open Go.Proofs.Ytobiejdagfimdaa.Hand
open Go.RowKit Go.Proofs.YtobiejdagfimdaaW.PrintWords Go.Proofs.YtobiejdagfimdaaW.PrintLast Go.Proofs.YtobiejdagfimdaaW.PrintMore
set_option linter.unusedVariables false
set_option linter.unusedSimpArgs false

/-- A hexadecimal digit's value, or -1. -/
def hexv (c : Int) : Int := if 48 ≤ c ∧ c ≤ 57 then c - 48 else if 97 ≤ c ∧ c ≤ 102 then c - 87 else -1
theorem indexByte_hex (c : Int) (h0 : 0 ≤ c) (h1 : c ≤ 255) : strings_IndexByte.f (⟨#[48, 49, 50, 51, 52, 53, 54, 55, 56, 57, 97, 98, 99, 100, 101, 102]⟩ : ByteArray) c = some (hexv c) := by
  have h : ∀ n : Fin 256, strings_IndexByte.f (⟨#[48, 49, 50, 51, 52, 53, 54, 55, 56, 57, 97, 98, 99, 100, 101, 102]⟩ : ByteArray) ((n.val : Nat) : Int) = some (hexv ((n.val : Nat) : Int)) := by decide +kernel
  obtain ⟨n, rfl⟩ := Int.eq_ofNat_of_zero_le h0
  exact h ⟨n, by omega⟩
theorem digit_hex (k : Nat) (hk : 1 ≤ k) (c : Int) (h0 : 0 ≤ c) (h1 : c ≤ 255) : graftageref46_digit.f k c = some (hexv c) := by
  have h : ∀ n : Fin 256, graftageref46_digit.f 1 ((n.val : Nat) : Int) = some (hexv ((n.val : Nat) : Int)) := by decide +kernel
  obtain ⟨n, rfl⟩ := Int.eq_ofNat_of_zero_le h0
  exact at_rounds (g := fun k => graftageref46_digit.f k (n : Int)) (graftageref46_digit.mono _) hk (h ⟨n, by omega⟩)
theorem hexv_range (c : Int) : -1 ≤ hexv c ∧ hexv c ≤ 15 := by unfold hexv; split <;> (try split) <;> omega

/-- The number that r digits from p on make, behind the number acc; -1: one is no digit. -/
def hexN (s : ByteArray) : Nat → Int → Int → Int
  | 0, _, acc => acc
  | r + 1, p, acc => if hexv (bt s p) < 0 then -1 else hexN s r (p + 1) (16 * acc + hexv (bt s p))
theorem hexN_range (s : ByteArray) (r : Nat) : ∀ p acc, 0 ≤ acc → -1 ≤ hexN s r p acc ∧ hexN s r p acc < 16 ^ r * (acc + 1) := by
  induction r with
  | zero => intro p acc h; simp [hexN]; omega
  | succ r ih =>
    intro p acc h
    have hv := hexv_range (bt s p)
    have hp : (0 : Int) < 16 ^ r := Int.pow_pos (by decide)
    unfold hexN
    split
    · exact ⟨by omega, by have : 0 < (16 : Int) ^ (r + 1) * (acc + 1) := Int.mul_pos (Int.pow_pos (by decide)) (by omega)
                          omega⟩
    · have := ih (p + 1) (16 * acc + hexv (bt s p)) (by omega)
      refine ⟨this.1, Int.lt_of_lt_of_le this.2 ?_⟩
      rw [Int.pow_succ, Int.mul_assoc]
      exact Int.mul_le_mul_of_nonneg_left (by omega) (by omega)

def takeP (s : ByteArray) (a : Int) : Int × ByteArray × Int × Int :=
  if a < 0 ∨ a > (s.size : Int) then (0, ⟨#[]⟩, 0, 1) else
  if (s.size : Int) - a < 4 then (0, ⟨#[]⟩, 0, 3) else
  if hexN s 4 a 0 < 0 ∨ (1 < hexN s 4 a 0 ∧ hexN s 4 a 0 ≤ 4) ∨ hexN s 4 a 0 > 65520 then (0, ⟨#[]⟩, 0, 2) else
  if hexN s 4 a 0 = 0 then (2, ⟨#[]⟩, a + 4, 0) else
  if hexN s 4 a 0 = 1 then (3, ⟨#[]⟩, a + 4, 0) else
  if (s.size : Int) - a < hexN s 4 a 0 then (0, ⟨#[]⟩, 0, 3) else
  (1, s.extract (a + 4).toNat (a + hexN s 4 a 0).toNat, a + hexN s 4 a 0, 0)

theorem or_i64 (x y : Int) (hx0 : 0 ≤ x) (hx : x % 16 = 0) (hx1 : x < 4294967296) (hy0 : 0 ≤ y) (hy : y < 16) : Go.bits .or .i64 x y = x + y :=
  bits_join .i64 62 (by decide) (fun n h0 h1 => by rw [IntKind.wrap_i64]; simp at h1; omega) 4 x y hx0 (by simpa using hx) (by simp; omega) hy0 (by simpa using hy) (by simp; omega)

theorem number_l0 (t : ByteArray) (ht : t.size = 4) (s : ByteArray) (a : Int) (ha : ∀ j : Int, 0 ≤ j → j < 4 → bt t j = bt s (a + j)) (r : Nat) : ∀ (k : Nat) (acc i : Int), r ≤ 4 → i = 4 - r → r + 1 ≤ k → 0 ≤ acc → acc < 16 ^ (4 - r) →
    pkt_number.l0 k t acc 4 i = some (if hexN s r (a + i) acc < 0 then (0, false) else (hexN s r (a + i) acc, true)) := by
  induction r with
  | zero =>
    intro k acc i _ hi hk h0 h1
    obtain ⟨k, rfl⟩ : ∃ m, k = m + 1 := ⟨k - 1, by omega⟩
    rw [pkt_number.l0, if_neg (by omega), hexN, if_neg (by omega)]
  | succ r ih =>
    intro k acc i hr hi hk h0 h1
    obtain ⟨k, rfl⟩ : ∃ m, k = m + 1 := ⟨k - 1, by omega⟩
    have hb := bt_range t i
    have hv := hexv_range (bt t i)
    have hp : (16 : Int) ^ (4 - (r + 1)) ≤ 16 ^ 3 := by exact_mod_cast Nat.pow_le_pow_right (by decide) (by omega)
    have e3 : (16 : Int) ^ 3 = 4096 := by decide
    rw [pkt_number.l0, if_pos (by omega), if_pos (by omega), if_pos (by omega), indexByte_hex _ hb.1 hb.2]
    simp only [Option.bind_some]
    rw [hexN, ← ha i (by omega) (by omega)]
    by_cases c : hexv (bt t i) < 0
    · rw [if_pos c, if_pos c, if_pos (by omega)]
    · rw [if_neg c, if_neg c, wrap64_id (n := acc * 16) (by omega) (by omega), or_i64 _ _ (by omega) (by omega) (by omega) (by omega) (by omega), wrap64_id (n := i + 1) (by omega) (by omega)]
      rw [show acc * 16 + hexv (bt t i) = 16 * acc + hexv (bt t i) by omega, show a + i + 1 = a + (i + 1) by omega]
      exact ih k _ (i + 1) (by omega) (by omega) (by omega) (by omega) (by rw [show 4 - r = (4 - (r + 1)) + 1 by omega, Int.pow_succ]; omega)

theorem bt_extract (s : ByteArray) (a : Int) (h0 : 0 ≤ a) (h4 : a + 4 ≤ s.size) (j : Int) (hj0 : 0 ≤ j) (hj : j < 4) : bt (s.extract a.toNat (a + 4).toNat) j = bt s (a + j) := by
  rw [getD_bt _ _ hj0, getD_bt _ _ (by omega), bytesOf_extract, List.getD_eq_getElem?_getD, List.getD_eq_getElem?_getD, List.getElem?_take_of_lt (by omega), List.getElem?_drop]
  congr 2
  omega

theorem pkt_Take_eq (s : ByteArray) (hs : s.size ≤ 9223372036854770000) (a : Int) (k : Nat) (hk : 8 ≤ k) : pkt_Take.f k s a = some (takeP s a) := by
  obtain ⟨k, rfl⟩ : ∃ m, k = m + 1 + 1 := ⟨k - 2, by omega⟩
  unfold pkt_Take.f takeP
  by_cases h : a < 0
  · rw [if_pos h, if_pos (Or.inl h)]; rfl
  rw [if_neg h]
  by_cases h' : a > (s.size : Int)
  · rw [if_pos (Or.inr h'), decide_eq_true h']; rfl
  rw [if_neg (by omega), decide_eq_false h', pkt_Take.j0, if_neg (by decide), wrap64_id (n := (s.size : Int) - a) (by omega) (by omega)]
  by_cases c : (s.size : Int) - a < 4
  · rw [if_pos c, if_pos c]
  rw [if_neg c, if_neg c, wrap64_id (n := a + 4) (by omega) (by omega), if_pos (by omega), if_pos (by omega), if_pos (by omega)]
  have hsz : (s.extract a.toNat (a + 4).toNat).size = 4 := by rw [size_bytesOf, bytesOf_extract, List.length_take, List.length_drop, bytesOf_length]; omega
  have hn : pkt_number.f (k + 1) (s.extract a.toNat (a + 4).toNat) = some (if hexN s 4 a 0 < 0 then (0, false) else (hexN s 4 a 0, true)) := by
    unfold pkt_number.f
    rw [hsz]
    have := number_l0 (s.extract a.toNat (a + 4).toNat) hsz s a (bt_extract s a (by omega) (by omega)) 4 (k + 1) 0 0 (by omega) (by omega) (by omega) (by omega) (by decide)
    simpa using this
  rw [hn]
  have hr := hexN_range s 4 a 0 (by omega)
  have e4 : (16 : Int) ^ 4 * (0 + 1) = 65536 := by decide
  rw [e4] at hr
  simp only [Option.bind_some]
  generalize hexN s 4 a 0 = n at *
  by_cases n0 : n < 0
  · rw [if_pos n0, if_pos (Or.inl n0)]
    rfl
  rw [if_neg n0]
  simp only [if_true]
  have hj : (if n > 1 then (if n ≤ 4 then pkt_Take.j1 (k + 1) s a (a + 4) n true else pkt_Take.j1 (k + 1) s a (a + 4) n (decide (n > 65520))) else pkt_Take.j1 (k + 1) s a (a + 4) n (decide (n > 65520)))
      = pkt_Take.j1 (k + 1) s a (a + 4) n (decide (n < 0 ∨ (1 < n ∧ n ≤ 4) ∨ n > 65520)) := by
    by_cases c1 : n > 1
    · rw [if_pos c1]
      by_cases c2 : n ≤ 4
      · rw [if_pos c2, decide_eq_true (Or.inr (Or.inl ⟨c1, c2⟩))]
      · rw [if_neg c2]; congr 1; rw [Bool.eq_iff_iff, decide_eq_true_iff, decide_eq_true_iff]; omega
    · rw [if_neg c1]; congr 1; rw [Bool.eq_iff_iff, decide_eq_true_iff, decide_eq_true_iff]; omega
  rw [hj, pkt_Take.j1]
  by_cases c3 : n < 0 ∨ (1 < n ∧ n ≤ 4) ∨ n > 65520
  · rw [if_pos (decide_eq_true c3), if_pos c3]
  rw [if_neg (by simpa using c3), if_neg c3]
  by_cases c4 : n = 0
  · rw [if_pos c4, if_pos c4]
  rw [if_neg c4, if_neg c4]
  by_cases c5 : n = 1
  · rw [if_pos c5, if_pos c5]
  rw [if_neg c5, if_neg c5, wrap64_id (n := (s.size : Int) - a) (by omega) (by omega)]
  by_cases c6 : (s.size : Int) - a < n
  · rw [if_pos c6, if_pos c6]
  rw [if_neg c6, if_neg c6, wrap64_id (n := a + n) (by omega) (by omega), if_pos (by omega), if_pos (by omega), if_pos (by omega)]

theorem ref_take_l0 (s : ByteArray) (hs : s.size ≤ 9223372036854770000) (a : Int) (ha : 0 ≤ a) (h4 : 4 ≤ (s.size : Int) - a) (r : Nat) : ∀ (k : Nat) (acc i : Int), r ≤ 4 → i = a + 4 - r → r + 2 ≤ k → 0 ≤ acc → acc < 16 ^ (4 - r) → hexN s r i acc = hexN s 4 a 0 →
    graftageref46_Take.l0 k s a acc i = some (takeP s a) := by
  induction r with
  | zero =>
    intro k acc i _ hi hk h0 h1 hx
    obtain ⟨k, rfl⟩ : ∃ m, k = m + 1 + 1 := ⟨k - 2, by omega⟩
    rw [hexN] at hx
    have e4 : (16 : Int) ^ (4 - 0) = 65536 := by decide
    rw [e4] at h1
    have hT : takeP s a = (if acc < 0 ∨ (1 < acc ∧ acc ≤ 4) ∨ acc > 65520 then (0, ⟨#[]⟩, 0, 2) else if acc = 0 then (2, ⟨#[]⟩, a + 4, 0) else if acc = 1 then (3, ⟨#[]⟩, a + 4, 0) else if (s.size : Int) - a < acc then (0, ⟨#[]⟩, 0, 3) else (1, s.extract (a + 4).toNat (a + acc).toNat, a + acc, 0)) := by
      unfold takeP
      rw [if_neg (by omega), if_neg (by omega), ← hx]
    rw [hT, graftageref46_Take.l0, wrap64_id (n := a + 4) (by omega) (by omega), if_neg (by omega)]
    by_cases c4 : acc = 0
    · rw [if_pos c4, if_neg (by omega), if_pos c4]
    rw [if_neg c4]
    by_cases c5 : acc = 1
    · rw [if_pos c5, if_neg (by omega), if_neg c4, if_pos c5]
    rw [if_neg c5]
    have hj : (if acc < 5 then graftageref46_Take.j2 (k + 1) s a acc true else graftageref46_Take.j2 (k + 1) s a acc (decide (acc > 65520))) = graftageref46_Take.j2 (k + 1) s a acc (decide (acc < 0 ∨ (1 < acc ∧ acc ≤ 4) ∨ acc > 65520)) := by
      by_cases c1 : acc < 5
      · rw [if_pos c1, decide_eq_true (Or.inr (Or.inl ⟨by omega, by omega⟩))]
      · rw [if_neg c1]; congr 1; rw [Bool.eq_iff_iff, decide_eq_true_iff, decide_eq_true_iff]; omega
    rw [hj, graftageref46_Take.j2]
    by_cases c3 : acc < 0 ∨ (1 < acc ∧ acc ≤ 4) ∨ acc > 65520
    · rw [if_pos (decide_eq_true c3), if_pos c3]
    rw [if_neg (by simpa using c3), if_neg c3, if_neg c4, if_neg c5, wrap64_id (n := (s.size : Int) - a) (by omega) (by omega)]
    by_cases c6 : (s.size : Int) - a < acc
    · rw [if_pos c6, if_pos c6]
    rw [if_neg c6, if_neg c6, wrap64_id (n := a + 4) (by omega) (by omega), wrap64_id (n := a + acc) (by omega) (by omega), if_pos (by omega), if_pos (by omega), if_pos (by omega)]
  | succ r ih =>
    intro k acc i hr hi hk h0 h1 hx
    obtain ⟨k, rfl⟩ : ∃ m, k = m + 1 := ⟨k - 1, by omega⟩
    have hb := bt_range s i
    have hv := hexv_range (bt s i)
    have hp : (16 : Int) ^ (4 - (r + 1)) ≤ 16 ^ 3 := by exact_mod_cast Nat.pow_le_pow_right (by decide) (by omega)
    have e3 : (16 : Int) ^ 3 = 4096 := by decide
    rw [graftageref46_Take.l0, wrap64_id (n := a + 4) (by omega) (by omega), if_pos (by omega), if_pos (by omega), if_pos (by omega), digit_hex k (by omega) _ hb.1 hb.2]
    simp only [Option.bind_some]
    rw [hexN] at hx
    by_cases c : hexv (bt s i) < 0
    · rw [if_pos c] at hx ⊢
      unfold takeP
      rw [if_neg (by omega), if_neg (by omega), ← hx, if_pos (by omega)]
    · rw [if_neg c] at hx ⊢
      rw [wrap64_id (n := 16 * acc) (by omega) (by omega), wrap64_id (n := 16 * acc + hexv (bt s i)) (by omega) (by omega), wrap64_id (n := i + 1) (by omega) (by omega)]
      exact ih k _ (i + 1) (by omega) (by omega) (by omega) (by omega) (by rw [show 4 - r = (4 - (r + 1)) + 1 by omega, Int.pow_succ]; omega) hx

theorem ref_Take_eq (s : ByteArray) (hs : s.size ≤ 9223372036854770000) (a : Int) (k : Nat) (hk : 8 ≤ k) : graftageref46_Take.f k s a = some (takeP s a) := by
  obtain ⟨k, rfl⟩ : ∃ m, k = m + 1 := ⟨k - 1, by omega⟩
  unfold graftageref46_Take.f
  by_cases h : a < 0
  · rw [if_pos h]; unfold takeP; rw [if_pos (Or.inl h)]; rfl
  rw [if_neg h]
  by_cases h' : a > (s.size : Int)
  · unfold takeP; rw [if_pos (Or.inr h'), decide_eq_true h']; rfl
  rw [decide_eq_false h', graftageref46_Take.j0, if_neg (by decide), wrap64_id (n := (s.size : Int) - a) (by omega) (by omega)]
  by_cases c : (s.size : Int) - a < 4
  · rw [if_pos c]; unfold takeP; rw [if_neg (by omega), if_pos c]
  rw [if_neg c]
  exact ref_take_l0 s hs a (by omega) (by omega) 4 k 0 a (by omega) (by omega) (by omega) (by omega) (by decide) rfl

/-- What is taken lies ahead. -/
theorem takeP_ok {s : ByteArray} {a : Int} (h : (takeP s a).2.2.2 = 0) : 0 ≤ a ∧ a + 4 ≤ (takeP s a).2.2.1 ∧ (takeP s a).2.2.1 ≤ s.size := by
  unfold takeP at h ⊢
  by_cases c1 : a < 0 ∨ a > (s.size : Int)
  · rw [if_pos c1] at h; simp at h
  rw [if_neg c1] at h ⊢
  by_cases c2 : (s.size : Int) - a < 4
  · rw [if_pos c2] at h; simp at h
  rw [if_neg c2] at h ⊢
  by_cases c3 : hexN s 4 a 0 < 0 ∨ (1 < hexN s 4 a 0 ∧ hexN s 4 a 0 ≤ 4) ∨ hexN s 4 a 0 > 65520
  · rw [if_pos c3] at h; simp at h
  rw [if_neg c3] at h ⊢
  by_cases c4 : hexN s 4 a 0 = 0
  · rw [if_pos c4]; simp; omega
  rw [if_neg c4] at h ⊢
  by_cases c5 : hexN s 4 a 0 = 1
  · rw [if_pos c5]; simp; omega
  rw [if_neg c5] at h ⊢
  by_cases c6 : (s.size : Int) - a < hexN s 4 a 0
  · rw [if_pos c6] at h; simp at h
  rw [if_neg c6]
  simp; omega

/-- All pieces from a place on; d: a bound on how much is left. -/
def allP (s : ByteArray) : Nat → Int → List S24 × Int
  | 0, _ => ([], 0)
  | d + 1, p => if p < (s.size : Int) then (if (takeP s p).2.2.2 = 0 then (if (allP s d (takeP s p).2.2.1).2 = 0 then (⟨(takeP s p).1, (takeP s p).2.1⟩ :: (allP s d (takeP s p).2.2.1).1, 0) else ([], (allP s d (takeP s p).2.2.1).2)) else ([], (takeP s p).2.2.2)) else ([], 0)
def allS (s : ByteArray) : List S24 × Int := allP s (s.size + 1) 0

theorem All_l0 (s : ByteArray) (hs : s.size ≤ 2000000000) (d : Nat) : ∀ (k : Nat) (acc : List S24) (p : Int), d + 9 ≤ k → 0 ≤ p → p ≤ s.size → (s.size : Int) - p < d → acc.length ≤ p →
    pkt_All.l0 k s acc p = some (if (allP s d p).2 = 0 then (acc ++ (allP s d p).1, 0) else ([], (allP s d p).2)) := by
  induction d with
  | zero => intro k acc p _ _ _ h; omega
  | succ d ih =>
    intro k acc p hk hp0 hp1 hd ha
    obtain ⟨k, rfl⟩ : ∃ m, k = m + 1 := ⟨k - 1, by omega⟩
    rw [pkt_All.l0]
    by_cases c : p < (s.size : Int)
    · rw [if_pos c, pkt_Take_eq s (by omega) p k (by omega)]
      simp only [Option.bind_some]
      by_cases e : (takeP s p).2.2.2 = 0
      · have ht := takeP_ok e
        rw [if_pos e, if_pos (by omega), ih k _ (takeP s p).2.2.1 (by omega) (by omega) (by omega) (by omega) (by simp; omega)]
        rw [allP, if_pos c, if_pos e]
        by_cases q : (allP s d (takeP s p).2.2.1).2 = 0
        · rw [if_pos q, if_pos q]; simp
        · rw [if_neg q, if_neg q]; simp [q]
      · rw [if_neg e, allP, if_pos c, if_neg e]
        simp [e]
    · rw [if_neg c, allP, if_neg c]
      simp
theorem ref_All_l0 (s : ByteArray) (hs : s.size ≤ 2000000000) (d : Nat) : ∀ (k : Nat) (acc : List S24) (p : Int), d + 9 ≤ k → 0 ≤ p → p ≤ s.size → (s.size : Int) - p < d → acc.length ≤ p →
    graftageref46_All.l0 k s acc p = some (if (allP s d p).2 = 0 then (acc ++ (allP s d p).1, 0) else ([], (allP s d p).2)) := by
  induction d with
  | zero => intro k acc p _ _ _ h; omega
  | succ d ih =>
    intro k acc p hk hp0 hp1 hd ha
    obtain ⟨k, rfl⟩ : ∃ m, k = m + 1 := ⟨k - 1, by omega⟩
    rw [graftageref46_All.l0]
    by_cases c : p < (s.size : Int)
    · rw [if_pos c, ref_Take_eq s (by omega) p k (by omega)]
      simp only [Option.bind_some]
      by_cases e : (takeP s p).2.2.2 = 0
      · have ht := takeP_ok e
        rw [if_pos e, if_pos (by omega), ih k _ (takeP s p).2.2.1 (by omega) (by omega) (by omega) (by omega) (by simp; omega)]
        rw [allP, if_pos c, if_pos e]
        by_cases q : (allP s d (takeP s p).2.2.1).2 = 0
        · rw [if_pos q, if_pos q]; simp
        · rw [if_neg q, if_neg q]; simp [q]
      · rw [if_neg e, allP, if_pos c, if_neg e]
        simp [e]
    · rw [if_neg c, allP, if_neg c]
      simp
theorem allP_nil {s : ByteArray} {d : Nat} {p : Int} (h : (allP s d p).2 ≠ 0) : (allP s d p).1 = [] := by
  cases d with
  | zero => rfl
  | succ d =>
    unfold allP at h ⊢
    split at h
    · rename_i c; rw [if_pos c]
      split at h
      · rename_i c2; rw [if_pos c2]
        split at h
        · exact absurd rfl h
        · rename_i c3; rw [if_neg c3]
      · rename_i c2; rw [if_neg c2]
    · exact absurd rfl h
theorem All_eq (s : ByteArray) (hs : s.size ≤ 2000000000) (k : Nat) (hk : s.size + 10 ≤ k) : pkt_All.f k s = some (allS s) := by
  unfold pkt_All.f allS
  rw [All_l0 s hs (s.size + 1) k [] 0 (by omega) (by omega) (by omega) (by omega) (by simp)]
  by_cases c : (allP s (s.size + 1) 0).2 = 0
  · rw [if_pos c, List.nil_append]
    exact congrArg some (Prod.ext rfl c.symm)
  · rw [if_neg c, ← allP_nil c]
theorem ref_All_eq (s : ByteArray) (hs : s.size ≤ 2000000000) (k : Nat) (hk : s.size + 10 ≤ k) : graftageref46_All.f k s = some (allS s) := by
  unfold graftageref46_All.f allS
  rw [ref_All_l0 s hs (s.size + 1) k [] 0 (by omega) (by omega) (by omega) (by omega) (by simp)]
  by_cases c : (allP s (s.size + 1) 0).2 = 0
  · rw [if_pos c, List.nil_append]
    exact congrArg some (Prod.ext rfl c.symm)
  · rw [if_neg c, ← allP_nil c]

/-- Same: two lists that are equal. -/
theorem same_l0 (x : List S24) (hx : x.length ≤ 9223372036854770000) (d : Nat) : ∀ (k : Nat) (i : Int), d + 1 ≤ k → 0 ≤ i → (x.length : Int) - i = d → graftageref46_Same.l0 k x x x.length i = some true := by
  induction d with
  | zero =>
    intro k i hk h0 h1
    obtain ⟨k, rfl⟩ : ∃ m, k = m + 1 := ⟨k - 1, by omega⟩
    rw [graftageref46_Same.l0, if_neg (by omega)]
  | succ d ih =>
    intro k i hk h0 h1
    obtain ⟨k, rfl⟩ : ∃ m, k = m + 1 := ⟨k - 1, by omega⟩
    rw [graftageref46_Same.l0, if_pos (by omega), if_pos h0, if_pos (by omega), if_pos (by omega)]
    simp only [beq_self_eq_true, Bool.not_true, Bool.or_self, Bool.false_eq_true, if_false]
    rw [wrap64_id (by omega) (by omega)]
    exact ih k (i + 1) (by omega) (by omega) (by omega)
theorem same_self (x : List S24) (hx : x.length ≤ 9223372036854770000) (k : Nat) (hk : x.length + 1 ≤ k) : graftageref46_Same.f k x x = some true := by
  unfold graftageref46_Same.f
  rw [if_pos rfl]
  exact same_l0 x hx x.length k 0 (by omega) (by omega) (by omega)
theorem allP_length (s : ByteArray) (d : Nat) : ∀ p, (allP s d p).1.length ≤ d := by
  induction d with
  | zero => intro p; simp [allP]
  | succ d ih =>
    intro p
    unfold allP
    split
    · split
      · split
        · have := ih (takeP s p).2.2.1; simp; omega
        · simp
      · simp
    · simp

end Go.Proofs.Ytobiejdagfimdaa.PPkt
