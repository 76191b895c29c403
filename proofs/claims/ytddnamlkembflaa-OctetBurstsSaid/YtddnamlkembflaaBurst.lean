/- Plain laws: a burst of at most 32 turned bits turns the checksum. No program in sight. -/
import Derived.Test.YtddnamlkembflaaCrc
import Derived.Test.YtddnamlkembflaaFlip
namespace Go.Proofs.Ytddnamlkembflaa.Hand
open Go.RowKit Go.Proofs.YtddnamlkembflaaW.PrintWords Go.Proofs.YtddnamlkembflaaW.PrintLast Go.Proofs.YtddnamlkembflaaW.PrintMore
set_option linter.unusedVariables false
set_option linter.unusedSimpArgs false

theorem toNat_xor_mod2 (x y : BitVec 32) : (x ^^^ y).toNat % 2 = (x.toNat % 2 + y.toNat % 2) % 2 := by
  rw [BitVec.toNat_xor]
  have h := Nat.testBit_xor x.toNat y.toNat 0
  simp only [Nat.testBit_zero] at h
  have hx : x.toNat % 2 = 0 ∨ x.toNat % 2 = 1 := by omega
  have hy : y.toNat % 2 = 0 ∨ y.toNat % 2 = 1 := by omega
  have hz : (x.toNat ^^^ y.toNat) % 2 = 0 ∨ (x.toNat ^^^ y.toNat) % 2 = 1 := by omega
  rcases hx with hx | hx <;> rcases hy with hy | hy <;> rcases hz with hz | hz <;> simp [hx, hy, hz] at h ⊢
theorem bitStep_xor (x y : BitVec 32) : bitStep (x ^^^ y) = bitStep x ^^^ bitStep y := by
  unfold bitStep
  rw [toNat_xor_mod2, BitVec.ushiftRight_xor_distrib]
  have hx : x.toNat % 2 = 0 ∨ x.toNat % 2 = 1 := by omega
  have hy : y.toNat % 2 = 0 ∨ y.toNat % 2 = 1 := by omega
  rcases hx with hx | hx <;> rcases hy with hy | hy <;> simp only [hx, hy]
  · simp
  · simp [BitVec.xor_assoc]
  · simp only [Nat.one_ne_zero, Nat.add_zero, Nat.zero_ne_one, if_true, if_false, Nat.one_mod]
    rw [BitVec.xor_assoc, BitVec.xor_assoc, BitVec.xor_comm (y >>> 1) poly]
  · simp only [Nat.reduceAdd, Nat.mod_self, Nat.zero_ne_one, if_false, if_true]
    rw [BitVec.xor_assoc, BitVec.xor_comm poly, BitVec.xor_assoc, BitVec.xor_self, BitVec.xor_zero]
theorem bitSteps_xor (n : Nat) : ∀ x y, bitSteps n (x ^^^ y) = bitSteps n x ^^^ bitSteps n y := by
  induction n with
  | zero => intro x y; rfl
  | succ n ih => intro x y; simp only [bitSteps]; rw [bitStep_xor, ih]
theorem bitStep_ne (v : BitVec 32) (h : v ≠ 0#32) : bitStep v ≠ 0#32 := by
  intro h0
  unfold bitStep at h0
  by_cases c : v.toNat % 2 = 1
  · rw [if_pos c] at h0
    have h1 : (v >>> 1) = poly := by
      have := congrArg (· ^^^ poly) h0
      simpa [BitVec.xor_assoc] using this
    have h2 := congrArg BitVec.toNat h1
    rw [BitVec.toNat_ushiftRight, Nat.shiftRight_eq_div_pow] at h2
    have h3 := v.isLt
    have h4 : poly.toNat = 3988292384 := by decide
    omega
  · rw [if_neg c] at h0
    have h2 := congrArg BitVec.toNat h0
    rw [BitVec.toNat_ushiftRight, Nat.shiftRight_eq_div_pow] at h2
    apply h
    apply BitVec.eq_of_toNat_eq
    simp at h2 ⊢
    omega
theorem bitSteps_ne (n : Nat) : ∀ v, v ≠ 0#32 → bitSteps n v ≠ 0#32 := by
  induction n with
  | zero => intro v h; exact h
  | succ n ih => intro v h; exact ih _ (bitStep_ne v h)
theorem bitStep_zero : bitStep 0#32 = 0#32 := by decide
theorem bitSteps_zero (n : Nat) : bitSteps n 0#32 = 0#32 := by
  induction n with
  | zero => rfl
  | succ n ih => simp only [bitSteps]; rw [bitStep_zero, ih]
theorem bitSteps_add (n : Nat) : ∀ m v, bitSteps (n + m) v = bitSteps m (bitSteps n v) := by
  induction n with
  | zero => intro m v; rw [Nat.zero_add]; rfl
  | succ n ih => intro m v; rw [show n + 1 + m = (n + m) + 1 by omega]; simp only [bitSteps]; exact ih m _

/-- One bit's number. -/
def bit1 (b : Bool) : BitVec 32 := if b then 1#32 else 0#32
theorem bit1_xor (a b : Bool) : bit1 (a ^^ b) = bit1 a ^^^ bit1 b := by cases a <;> cases b <;> decide
/-- n bits of f from p on, bit by bit. -/
def crcF : Nat → Nat → (Nat → Bool) → BitVec 32 → BitVec 32
  | 0, _, _, v => v
  | n + 1, p, f, v => crcF n (p + 1) f (bitStep (v ^^^ bit1 (f p)))
theorem crcF_add (n : Nat) : ∀ m p f v, crcF (n + m) p f v = crcF m (p + n) f (crcF n p f v) := by
  induction n with
  | zero => intro m p f v; rw [Nat.zero_add]; rfl
  | succ n ih =>
    intro m p f v
    rw [show n + 1 + m = (n + m) + 1 by omega]
    simp only [crcF]
    rw [ih, show p + 1 + n = p + (n + 1) by omega]
theorem crcF_xor (n : Nat) : ∀ p f g v u, crcF n p f v ^^^ crcF n p g u = crcF n p (fun i => f i ^^ g i) (v ^^^ u) := by
  induction n with
  | zero => intro p f g v u; rfl
  | succ n ih =>
    intro p f g v u
    simp only [crcF]
    rw [ih, ← bitStep_xor, bit1_xor]
    congr 2
    rw [BitVec.xor_assoc, BitVec.xor_assoc, ← BitVec.xor_assoc (bit1 (f p)) u, BitVec.xor_comm (bit1 (f p)) u, BitVec.xor_assoc]
theorem crcF_congr (n : Nat) : ∀ p f g v, (∀ i, p ≤ i → i < p + n → f i = g i) → crcF n p f v = crcF n p g v := by
  induction n with
  | zero => intro p f g v _; rfl
  | succ n ih =>
    intro p f g v h
    simp only [crcF]
    rw [h p (by omega) (by omega)]
    exact ih _ _ _ _ (fun i h1 h2 => h i (by omega) (by omega))
theorem crcF_none (n : Nat) : ∀ p f v, (∀ i, p ≤ i → i < p + n → f i = false) → crcF n p f v = bitSteps n v := by
  induction n with
  | zero => intro p f v _; rfl
  | succ n ih =>
    intro p f v h
    simp only [crcF, bitSteps]
    rw [h p (by omega) (by omega), ih _ _ _ (fun i h1 h2 => h i (by omega) (by omega))]
    simp [bit1]
/-- The bits as one number. -/
def pk : Nat → Nat → (Nat → Bool) → Nat
  | 0, _, _ => 0
  | n + 1, p, f => (if f p then 1 else 0) + 2 * pk n (p + 1) f
theorem pk_lt (n : Nat) : ∀ p f, pk n p f < 2 ^ n := by
  induction n with
  | zero => intro p f; simp [pk]
  | succ n ih => intro p f; have := ih (p + 1) f; simp only [pk]; split <;> omega
theorem pk_ne (n : Nat) : ∀ p f i, p ≤ i → i < p + n → f i = true → pk n p f ≠ 0 := by
  induction n with
  | zero => intro p f i h1 h2; omega
  | succ n ih =>
    intro p f i h1 h2 h
    simp only [pk]
    by_cases e : i = p
    · subst e; rw [h]; simp
    · have := ih (p + 1) f i (by omega) (by omega) h
      omega
theorem one_add_xor (y : Nat) : 1 + 2 * y = 1 ^^^ (2 * y) := by
  apply Nat.eq_of_testBit_eq
  intro i
  rw [Nat.testBit_xor]
  cases i with
  | zero => simp [Nat.testBit_zero]
  | succ i =>
    simp only [Nat.testBit_succ]
    rw [show (1 + 2 * y) / 2 = y by omega, show 2 * y / 2 = y by omega, show 1 / 2 = 0 by decide]
    simp
theorem ofNat_pk (b : Bool) (y : Nat) : BitVec.ofNat 32 ((if b then 1 else 0) + 2 * y) = bit1 b ^^^ BitVec.ofNat 32 (2 * y) := by
  cases b with
  | false => simp [bit1]
  | true =>
    simp only [if_true, bit1]
    apply BitVec.eq_of_toNat_eq
    rw [one_add_xor, BitVec.toNat_xor, BitVec.toNat_ofNat, BitVec.toNat_ofNat, BitVec.toNat_ofNat, ← Nat.xor_mod_two_pow]
theorem bitStep_double (y : Nat) (h : y < 2 ^ 31) : bitStep (BitVec.ofNat 32 (2 * y)) = BitVec.ofNat 32 y := by
  have e : (BitVec.ofNat 32 (2 * y)).toNat = 2 * y := by rw [BitVec.toNat_ofNat]; omega
  unfold bitStep
  rw [if_neg (by rw [e]; omega)]
  apply BitVec.eq_of_toNat_eq
  rw [BitVec.toNat_ushiftRight, e, Nat.shiftRight_eq_div_pow, BitVec.toNat_ofNat]
  omega
theorem crcF_pk (n : Nat) : ∀ p f v, n ≤ 32 → crcF n p f v = bitSteps n (v ^^^ BitVec.ofNat 32 (pk n p f)) := by
  induction n with
  | zero => intro p f v _; simp [crcF, bitSteps, pk]
  | succ n ih =>
    intro p f v hn
    simp only [crcF, bitSteps, pk]
    have hy : pk n (p + 1) f < 2 ^ 31 := Nat.lt_of_lt_of_le (pk_lt n (p + 1) f) (Nat.pow_le_pow_right (by decide) (by omega))
    rw [ih _ _ _ (by omega), ofNat_pk, ← BitVec.xor_assoc, bitStep_xor (v ^^^ bit1 (f p)), bitStep_double _ hy]
/-- Bits that lie in 32 places, one of them set: from 0 on the sum is not 0. -/
theorem crcF_burst (N a : Nat) (f : Nat → Bool) (hf : ∀ i, f i = true → a ≤ i ∧ i < a + 32) (i : Nat) (hi : i < N) (h : f i = true) : crcF N 0 f 0#32 ≠ 0#32 := by
  obtain ⟨h1, h2⟩ := hf i h
  have hN : N = a + (min 32 (N - a) + (N - a - min 32 (N - a))) := by omega
  rw [hN, crcF_add, crcF_add, Nat.zero_add]
  have z1 : crcF a 0 f 0#32 = 0#32 := by
    rw [crcF_none a 0 f _ (fun j _ hj => by
      cases e : f j with
      | false => rfl
      | true => have := hf j e; omega), bitSteps_zero]
  rw [z1, crcF_none (N - a - min 32 (N - a)) _ f _ (fun j hj hj2 => by
      cases e : f j with
      | false => rfl
      | true => have := hf j e; omega)]
  apply bitSteps_ne
  rw [crcF_pk _ _ _ _ (by omega), BitVec.zero_xor]
  apply bitSteps_ne
  intro h0
  have h3 := congrArg BitVec.toNat h0
  have h4 := pk_ne (min 32 (N - a)) a f i h1 (by omega) h
  have h5 : pk (min 32 (N - a)) a f < 2 ^ 32 := Nat.lt_of_lt_of_le (pk_lt _ _ _) (Nat.pow_le_pow_right (by decide) (by omega))
  rw [BitVec.toNat_ofNat] at h3
  simp at h3
  omega

/-! the bits of bytes -/
def tb (l : List Int) (i : Nat) : Bool := (l.getD (i / 8) 0).toNat.testBit (i % 8)
theorem byteStep_bits (v : BitVec 32) (b : Int) (h0 : 0 ≤ b) (h1 : b ≤ 255) (p : Nat) (f : Nat → Bool) (hf : ∀ i, i < 8 → f (p + i) = b.toNat.testBit i) : byteStep v b = crcF 8 p f v := by
  rw [crcF_pk 8 p f v (by omega)]
  unfold byteStep
  congr 2
  have e : BitVec.ofInt 32 b = BitVec.ofNat 32 b.toNat := by
    obtain ⟨n, rfl⟩ := Int.eq_ofNat_of_zero_le h0
    rw [BitVec.ofInt_natCast]; rfl
  rw [e]
  congr 1
  have hk : ∀ (n q c : Nat), c < 2 ^ n → (∀ i, i < n → f (q + i) = c.testBit i) → c = pk n q f := by
    intro n
    induction n with
    | zero => intro q c hc _; simp at hc; simp [pk, hc]
    | succ n ih =>
      intro q c hc hfi
      have e0 := hfi 0 (by omega)
      rw [Nat.testBit_zero, Nat.add_zero] at e0
      have e1 := ih (q + 1) (c / 2) (by omega) (fun i hi => by
        have := hfi (i + 1) (by omega)
        rw [Nat.testBit_succ] at this
        rw [← this]; congr 1; omega)
      simp only [pk]
      rw [← e1, e0]
      by_cases c0 : c % 2 = 1
      · simp [c0]; omega
      · simp [c0]; omega
  exact hk 8 p b.toNat (by omega) hf
theorem crcL_bits (l : List Int) (hl : ∀ c ∈ l, 0 ≤ c ∧ c ≤ 255) (d : Nat) : ∀ (j : Nat) (v : BitVec 32), l.length - j = d → j ≤ l.length → crcL v (l.drop j) = crcF (8 * d) (8 * j) (tb l) v := by
  induction d with
  | zero =>
    intro j v h1 h2
    rw [List.drop_eq_nil_of_le (by omega)]
    rfl
  | succ d ih =>
    intro j v h1 h2
    have hlt : j < l.length := by omega
    rw [List.drop_eq_getElem_cons hlt, show 8 * (d + 1) = 8 + 8 * d by omega, crcF_add]
    have hb := hl _ (List.getElem_mem hlt)
    have hs := byteStep_bits v l[j] hb.1 hb.2 (8 * j) (tb l) (fun i hi => by
      unfold tb
      rw [show (8 * j + i) / 8 = j by omega, show (8 * j + i) % 8 = i by omega, List.getD_eq_getElem?_getD, List.getElem?_eq_getElem hlt]
      rfl)
    rw [← hs, show 8 * j + 8 = 8 * (j + 1) by omega, ← ih (j + 1) _ (by omega) (by omega)]
    rfl
theorem xor_u8 (x y : Int) (hx0 : 0 ≤ x) (hx1 : x ≤ 255) (hy0 : 0 ≤ y) (hy1 : y ≤ 255) : Go.bits .xor .u8 x y = ((x.toNat ^^^ y.toNat : Nat) : Int) := by
  obtain ⟨a, rfl⟩ := Int.eq_ofNat_of_zero_le hx0
  obtain ⟨b, rfl⟩ := Int.eq_ofNat_of_zero_le hy0
  have hlt : a ^^^ b < 2 ^ 8 := Nat.xor_lt_two_pow (by omega) (by omega)
  simp only [Go.bits]
  rw [IntKind.wrap_u8]
  show (((BitVec.ofInt 8 (a : Int) ^^^ BitVec.ofInt 8 (b : Int) : BitVec 8).toNat : Nat) : Int) % 256 = _
  rw [BitVec.ofInt_natCast, BitVec.ofInt_natCast, BitVec.toNat_xor, BitVec.toNat_ofNat, BitVec.toNat_ofNat, Nat.mod_eq_of_lt (by omega), Nat.mod_eq_of_lt (by omega)]
  simp only [Int.toNat_natCast]
  omega
theorem flipOne_range (l : List Int) (i : Int) (c : Bool) (h : ∀ x ∈ l, 0 ≤ x ∧ x ≤ 255) : ∀ x ∈ flipOne l i c, 0 ≤ x ∧ x ≤ 255 := by
  unfold flipOne
  split
  · intro x hx
    rcases List.mem_or_eq_of_mem_set hx with hx | hx
    · exact h x hx
    · subst hx
      simp only [Go.bits]
      rw [IntKind.wrap_u8]
      omega
  · exact h
theorem flipN_range (a m : Int) (l : List Int) (h : ∀ x ∈ l, 0 ≤ x ∧ x ≤ 255) (k : Nat) : ∀ x ∈ flipN a m l k, 0 ≤ x ∧ x ≤ 255 := by
  induction k with
  | zero => exact h
  | succ k ih => exact flipOne_range _ _ _ ih
theorem pow_lt_8 (i : Nat) (h : i < 8) : 2 ^ i ≤ 128 := by
  have := Nat.pow_le_pow_right (n := 2) (by decide) (show i ≤ 7 by omega)
  simpa using this
theorem tb_flipOne (l : List Int) (h : ∀ x ∈ l, 0 ≤ x ∧ x ≤ 255) (i : Nat) (c : Bool) (j : Nat) (hj : j < 8 * l.length) : tb (flipOne l i c) j = (tb l j ^^ (c && decide (j = i))) := by
  unfold flipOne
  by_cases hc : c = true ∧ (i : Int) / 8 < (l.length : Int)
  · rw [if_pos hc]
    have e8 : ((i : Int) / 8).toNat = i / 8 := by omega
    have e8' : ((i : Int) % 8).toNat = i % 8 := by omega
    have hil : i / 8 < l.length := by omega
    rw [e8, e8', hc.1]
    unfold tb
    by_cases hq : j / 8 = i / 8
    · have hx := h _ (List.getElem_mem hil)
      have hp := pow_lt_8 (i % 8) (by omega)
      have e9 : (2 : Int) ^ (i % 8) % 256 = ((2 ^ (i % 8) : Nat) : Int) := by
        have : ((2 : Int) ^ (i % 8)) = ((2 ^ (i % 8) : Nat) : Int) := by simp
        rw [this]
        have hp2 : 2 ^ (i % 8) < 256 := by omega
        exact Int.emod_eq_of_lt (Int.natCast_nonneg _) (Int.ofNat_lt.2 hp2)
      rw [hq, List.getD_eq_getElem?_getD, List.getElem?_set_self hil, Option.getD_some, List.getD_eq_getElem?_getD, List.getElem?_eq_getElem hil, Option.getD_some, e9]
      rw [xor_u8 _ _ hx.1 hx.2 (by omega) (by omega), Int.toNat_natCast, Int.toNat_natCast, Nat.testBit_xor, Nat.testBit_two_pow]
      congr 1
      simp only [Bool.true_and]
      rw [Bool.eq_iff_iff, decide_eq_true_iff, decide_eq_true_iff]
      omega
    · rw [List.getD_eq_getElem?_getD, List.getElem?_set_ne (by omega), ← List.getD_eq_getElem?_getD]
      have : ¬ j = i := by omega
      simp [this]
  · rw [if_neg hc]
    have : (c && decide (j = i)) = false := by
      rw [Bool.and_eq_false_iff]
      by_cases h1 : c = true
      · right
        rw [decide_eq_false_iff_not]
        intro e; subst e
        exact hc ⟨h1, by omega⟩
      · left; simpa using h1
    rw [this, Bool.xor_false]
theorem tb_flipN (a : Nat) (m : Int) (l : List Int) (h : ∀ x ∈ l, 0 ≤ x ∧ x ≤ 255) (k : Nat) : ∀ j, j < 8 * l.length → tb (flipN a m l k) j = (tb l j ^^ (decide (a ≤ j ∧ j < a + k) && ((m / 2 ^ (j - a)).tmod 2 == 1))) := by
  induction k with
  | zero =>
    intro j hj
    have h0 : decide (a ≤ j ∧ j < a + 0) = false := decide_eq_false (by omega)
    rw [h0]
    simp [flipN]
  | succ k ih =>
    intro j hj
    rw [flipN]
    have := tb_flipOne (flipN a m l k) (flipN_range a m l h k) (a + k) ((m / 2 ^ k).tmod 2 == 1) j (by rw [flipN_length]; exact hj)
    rw [show ((a : Int) + (k : Int)) = (((a + k : Nat)) : Int) by omega, this, ih j hj, Bool.xor_assoc]
    congr 1
    by_cases e : j = a + k
    · subst e
      rw [show a + k - a = k by omega]
      simp
    · by_cases e2 : a ≤ j ∧ j < a + k
      · have e3 : a ≤ j ∧ j < a + (k + 1) := by omega
        rw [decide_eq_true e2, decide_eq_true e3, decide_eq_false e]
        simp
      · have e3 : ¬ (a ≤ j ∧ j < a + (k + 1)) := by omega
        rw [decide_eq_false e2, decide_eq_false e3, decide_eq_false e]
        simp
/-- Two lists of bytes of one length that part differ in a bit. -/
theorem tb_ne (l t : List Int) (hl : ∀ x ∈ l, 0 ≤ x ∧ x ≤ 255) (ht : ∀ x ∈ t, 0 ≤ x ∧ x ≤ 255) (hlen : t.length = l.length) (hne : t ≠ l) : ∃ j, j < 8 * l.length ∧ tb t j ≠ tb l j := by
  apply Classical.byContradiction
  intro hno
  apply hne
  apply List.ext_getElem hlen
  intro i h1 h2
  have hx := hl _ (List.getElem_mem h2)
  have hy := ht _ (List.getElem_mem h1)
  have : t[i].toNat = l[i].toNat := by
    apply Nat.eq_of_testBit_eq
    intro q
    by_cases hq : q < 8
    · apply Classical.byContradiction
      intro hb
      apply hno
      refine ⟨8 * i + q, by omega, ?_⟩
      unfold tb
      rw [show (8 * i + q) / 8 = i by omega, show (8 * i + q) % 8 = q by omega, List.getD_eq_getElem?_getD, List.getD_eq_getElem?_getD, List.getElem?_eq_getElem h1, List.getElem?_eq_getElem h2]
      exact hb
    · have hp : 2 ^ 8 ≤ 2 ^ q := Nat.pow_le_pow_right (by decide) (by omega)
      rw [Nat.testBit_lt_two_pow (by omega), Nat.testBit_lt_two_pow (by omega)]
  omega
/-- The law of bursts, of bytes. -/
theorem burst_sum (l : List Int) (hl : ∀ x ∈ l, 0 ≤ x ∧ x ≤ 255) (a : Nat) (m : Int) (v : BitVec 32) (hne : flipN a m l 32 ≠ l) : crcL v (flipN a m l 32) ≠ crcL v l := by
  have ht := flipN_range a m l hl 32
  have hlen := flipN_length a m l 32
  obtain ⟨j, hj, hd⟩ := tb_ne l _ hl ht hlen hne
  intro heq
  have h1 := crcL_bits l hl l.length 0 v (by omega) (by omega)
  have h2 := crcL_bits (flipN a m l 32) ht l.length 0 v (by omega) (by omega)
  rw [List.drop_zero] at h1 h2
  rw [Nat.mul_zero] at h1 h2
  have h3 := crcF_xor (8 * l.length) 0 (tb l) (tb (flipN a m l 32)) v v
  rw [← h1, ← h2, heq, BitVec.xor_self, BitVec.xor_self] at h3
  have h4 : crcF (8 * l.length) 0 (fun i => tb l i ^^ tb (flipN a m l 32) i) 0#32 = crcF (8 * l.length) 0 (fun i => decide (a ≤ i ∧ i < a + 32) && ((m / 2 ^ (i - a)).tmod 2 == 1)) 0#32 := by
    apply crcF_congr
    intro i _ hi
    rw [tb_flipN a m l hl 32 i (by omega), ← Bool.xor_assoc, Bool.xor_self, Bool.false_xor]
  rw [h4] at h3
  refine crcF_burst (8 * l.length) a _ (fun i hi => ?_) j hj ?_ h3.symm
  · rw [Bool.and_eq_true] at hi
    exact of_decide_eq_true hi.1
  · have := tb_flipN a m l hl 32 j hj
    rw [this] at hd
    cases e : (decide (a ≤ j ∧ j < a + 32) && ((m / 2 ^ (j - a)).tmod 2 == 1)) with
    | true => rfl
    | false => rw [e, Bool.xor_false] at hd; exact absurd rfl hd

end Go.Proofs.Ytddnamlkembflaa.Hand
