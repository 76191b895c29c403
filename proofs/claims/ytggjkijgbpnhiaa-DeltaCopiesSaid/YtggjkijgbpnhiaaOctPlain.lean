/- Plain laws for octet: the number that stands at a place, and the number's bytes. No program in sight. -/
import Derived.Test.YtggjkijgbpnhiaaPut
namespace Go.Proofs.Ytggjkijgbpnhiaa.Hand
open Go.RowKit Go.Proofs.YtggjkijgbpnhiaaW.PrintWords Go.Proofs.YtggjkijgbpnhiaaW.PrintLast Go.Proofs.YtggjkijgbpnhiaaW.PrintMore
set_option linter.unusedVariables false
set_option linter.unusedSimpArgs false

theorem wrap64_id {n : Int} (h0 : -9223372036854775808 ≤ n) (h1 : n ≤ 9223372036854775807) : wrap64 n = n := by unfold wrap64; omega
theorem wrap_u64_id {n : Int} (h0 : 0 ≤ n) (h1 : n < 18446744073709551616) : IntKind.u64.wrap n = n := by
  simp [IntKind.wrap, IntKind.bits, IntKind.signed]; omega
theorem bits_or_comm (k : IntKind) (x y : Int) : Go.bits .or k x y = Go.bits .or k y x := by simp only [Go.bits]; rw [BitVec.or_comm]
theorem wraps_u64 (n : Int) (h₀ : 0 ≤ n) (h₁ : n < 2 ^ 64) : IntKind.u64.wrap n = n := wrap_u64_id h₀ (by simpa using h₁)
theorem andNot_128 (c : Int) (h0 : 0 ≤ c) (h1 : c ≤ 255) : Go.bits .andNot .u8 c 128 = c % 128 := by
  have h : ∀ n : Fin 256, Go.bits .andNot .u8 ((n.val : Nat) : Int) 128 = ((n.val : Nat) : Int) % 128 := by decide +kernel
  obtain ⟨n, rfl⟩ := Int.eq_ofNat_of_zero_le h0
  exact h ⟨n, by omega⟩
theorem or_128 (c : Int) (h0 : 0 ≤ c) (h1 : c ≤ 255) : Go.bits .or .u8 c 128 = c % 128 + 128 := by
  have h : ∀ n : Fin 256, Go.bits .or .u8 ((n.val : Nat) : Int) 128 = ((n.val : Nat) : Int) % 128 + 128 := by decide +kernel
  obtain ⟨n, rfl⟩ := Int.eq_ofNat_of_zero_le h0
  exact h ⟨n, by omega⟩

theorem pow128_pos (i : Nat) : (0 : Int) < 128 ^ i := Int.pow_pos (by decide)
theorem pow128 (i : Nat) : (2 : Int) ^ (7 * i) = 128 ^ i := by rw [Int.pow_mul]; rfl
theorem pow128_le (i : Nat) (hi : i ≤ 8) : (128 : Int) ^ i * 128 ≤ 9223372036854775808 := by
  have : i = 0 ∨ i = 1 ∨ i = 2 ∨ i = 3 ∨ i = 4 ∨ i = 5 ∨ i = 6 ∨ i = 7 ∨ i = 8 := by omega
  rcases this with h | h | h | h | h | h | h | h | h <;> subst h <;> decide

theorem step_small (i : Nat) (hi : i ≤ 9) (c acc : Int) (hc0 : 0 ≤ c) (hc1 : c ≤ 127) (hc9 : i = 9 → c ≤ 1) (ha0 : 0 ≤ acc) (ha1 : acc < 128 ^ i) :
    0 ≤ c * 128 ^ i ∧ acc + c * 128 ^ i < 18446744073709551616 ∧ acc + c * 128 ^ i < 128 ^ (i + 1) := by
  have hp := pow128_pos i
  have h1 : c * 128 ^ i ≤ 127 * 128 ^ i := Int.mul_le_mul_of_nonneg_right hc1 (by omega)
  have h0 : 0 ≤ c * 128 ^ i := Int.mul_nonneg hc0 (by omega)
  refine ⟨h0, ?_, by rw [Int.pow_succ]; omega⟩
  by_cases h9 : i = 9
  · have := hc9 h9
    subst h9
    have e : (128 : Int) ^ 9 = 9223372036854775808 := by decide
    rw [e] at ha1 ⊢
    omega
  · have := pow128_le i (by omega)
    omega

theorem shl_step (i : Nat) (hi : i ≤ 9) (c acc : Int) (hc0 : 0 ≤ c) (hc1 : c ≤ 127) (hc9 : i = 9 → c ≤ 1) (ha0 : 0 ≤ acc) (ha1 : acc < 128 ^ i) :
    shl .u64 (IntKind.u64.wrap c) (wrap64 (7 * (i : Int))) = c * 128 ^ i := by
  obtain ⟨h0, h1, _⟩ := step_small i hi c acc hc0 hc1 hc9 ha0 ha1
  rw [wrap64_id (by omega) (by omega), wrap_u64_id hc0 (by omega)]
  unfold shl
  have e : min (7 * (i : Int)).toNat IntKind.u64.bits = 7 * i := by simp [IntKind.bits]; omega
  rw [e, pow128]
  exact wrap_u64_id h0 (by omega)

theorem or_step (i : Nat) (hi : i ≤ 9) (c acc : Int) (hc0 : 0 ≤ c) (hc1 : c ≤ 127) (hc9 : i = 9 → c ≤ 1) (ha0 : 0 ≤ acc) (ha1 : acc < 128 ^ i) :
    Go.bits .or .u64 acc (shl .u64 (IntKind.u64.wrap c) (wrap64 (7 * (i : Int)))) = acc + c * 128 ^ i := by
  obtain ⟨h0, h1, _⟩ := step_small i hi c acc hc0 hc1 hc9 ha0 ha1
  rw [shl_step i hi c acc hc0 hc1 hc9 ha0 ha1, bits_or_comm, bits_join .u64 64 (by decide) wraps_u64 (7 * i) (c * 128 ^ i) acc h0 (by rw [pow128]; simp) (by simp; omega) ha0 (by rw [pow128]; exact ha1) (by simp; omega)]
  omega

theorem add_step (i : Nat) (hi : i ≤ 9) (c acc : Int) (hc0 : 0 ≤ c) (hc1 : c ≤ 127) (hc9 : i = 9 → c ≤ 1) (ha0 : 0 ≤ acc) (ha1 : acc < 128 ^ i) :
    IntKind.u64.wrap (acc + shl .u64 (IntKind.u64.wrap c) (wrap64 (7 * (i : Int)))) = acc + c * 128 ^ i := by
  obtain ⟨h0, h1, _⟩ := step_small i hi c acc hc0 hc1 hc9 ha0 ha1
  rw [shl_step i hi c acc hc0 hc1 hc9 ha0 ha1]
  exact wrap_u64_id (by omega) h1

/-- The number at a place: r bytes more at most; the next stands at p; acc: what came. -/
def tkG (s : ByteArray) : Nat → Int → Int → Int × Int × Int
  | 0, _, _ => (0, 0, 2)
  | r + 1, p, acc =>
    if p = (s.size : Int) then (0, 0, 3) else
    if (r = 0 ∧ bt s p > 1) ∨ (r < 9 ∧ bt s p = 0) then (0, 0, 2) else
    if bt s p < 128 then (acc + bt s p * 128 ^ (9 - r), p + 1, 0) else tkG s r (p + 1) (acc + (bt s p % 128) * 128 ^ (9 - r))

def takeS (s : ByteArray) (a : Int) : Int × Int × Int := if a < 0 ∨ a > (s.size : Int) then (0, 0, 1) else tkG s 10 a 0

/-- The bytes of a number. -/
def vb : Nat → Int → List Int
  | 0, n => [n]
  | k + 1, n => if n < 128 then [n] else (n % 128 + 128) :: vb k (n / 128)

theorem vnums_vb (k : Nat) : ∀ n, 0 ≤ n → n < 2 * 128 ^ k → vnums k n = vb k n := by
  induction k with
  | zero => intro n h0 h1; simp at h1; simp [vnums, vb]; omega
  | succ k ih =>
    intro n h0 h1
    rw [Int.pow_succ] at h1
    unfold vnums vb
    split
    · congr 1; omega
    · rw [ih (n / 128) (by omega) (by omega), or_128 _ (by omega) (by omega)]
      congr 1; omega

theorem vb_length_pos (k : Nat) (n : Int) : 1 ≤ (vb k n).length := by cases k <;> unfold vb <;> (try split) <;> simp
theorem vb_length_le (k : Nat) : ∀ n, (vb k n).length ≤ k + 1 := by
  induction k with
  | zero => intro n; simp [vb]
  | succ k ih => intro n; unfold vb; split <;> simp <;> have := ih (n / 128) <;> omega
theorem vb_range (k : Nat) : ∀ n, 0 ≤ n → n < 2 * 128 ^ k → ∀ c ∈ vb k n, 0 ≤ c ∧ c ≤ 255 := by
  induction k with
  | zero => intro n h0 h1 c hc; simp at h1; simp [vb] at hc; omega
  | succ k ih =>
    intro n h0 h1 c hc
    rw [Int.pow_succ] at h1
    unfold vb at hc
    split at hc
    · simp at hc; omega
    · rcases List.mem_cons.1 hc with h | h
      · omega
      · exact ih (n / 128) (by omega) (by omega) c h

theorem vb_small (r : Nat) (m : Int) (h : m < 128) : vb r m = [m] := by
  cases r with
  | zero => rfl
  | succ r => rw [vb, if_pos h]
theorem vb_big (r : Nat) (m : Int) (h : 128 ≤ m) : vb (r + 1) m = (m % 128 + 128) :: vb r (m / 128) := by rw [vb, if_neg (by omega)]

/-- What is read is what the number's bytes are: from a place on. -/
theorem tkG_vb (s : ByteArray) (r : Nat) : ∀ (p acc n e : Int), r ≤ 9 → 0 ≤ p → p ≤ s.size → tkG s (r + 1) p acc = (n, e, 0) →
    e ≤ s.size ∧ ∃ m, n = acc + m * 128 ^ (9 - r) ∧ 0 ≤ m ∧ m < 2 * 128 ^ r ∧ ((vb r m).length : Int) = e - p ∧ (∀ j : Nat, j < (vb r m).length → (vb r m).getD j 0 = bt s (p + j)) ∧ (r < 9 → m ≠ 0) := by
  induction r with
  | zero =>
    intro p acc n e _ hp0 hp1 h
    have hb := bt_range s p
    unfold tkG at h
    by_cases h1 : p = (s.size : Int)
    · rw [if_pos h1] at h; simp at h
    rw [if_neg h1] at h
    by_cases h2 : (0 = 0 ∧ bt s p > 1) ∨ (0 < 9 ∧ bt s p = 0)
    · rw [if_pos h2] at h; simp at h
    rw [if_neg h2] at h
    have h3 : bt s p < 128 := by omega
    rw [if_pos h3] at h
    simp only [Prod.mk.injEq, and_true] at h
    obtain ⟨rfl, rfl⟩ := h
    refine ⟨by omega, bt s p, rfl, hb.1, by simp; omega, by simp [vb]; omega, ?_, fun _ h => h2 (Or.inr ⟨by omega, h⟩)⟩
    intro j hj
    simp [vb] at hj
    subst hj
    simp [vb]
  | succ r ih =>
    intro p acc n e hr hp0 hp1 h
    have hb := bt_range s p
    have hP := pow128_pos r
    unfold tkG at h
    by_cases h1 : p = (s.size : Int)
    · rw [if_pos h1] at h; simp at h
    rw [if_neg h1] at h
    by_cases h2 : (r + 1 = 0 ∧ bt s p > 1) ∨ (r + 1 < 9 ∧ bt s p = 0)
    · rw [if_pos h2] at h; simp at h
    rw [if_neg h2] at h
    by_cases h3 : bt s p < 128
    · rw [if_pos h3] at h
      simp only [Prod.mk.injEq, and_true] at h
      obtain ⟨rfl, rfl⟩ := h
      refine ⟨by omega, bt s p, rfl, hb.1, by rw [Int.pow_succ]; omega, by rw [vb_small _ _ h3]; simp; omega, ?_, fun h4 h5 => h2 (Or.inr ⟨by omega, h5⟩)⟩
      intro j hj
      rw [vb_small _ _ h3] at hj ⊢
      simp at hj
      subst hj
      simp
    · rw [if_neg h3] at h
      obtain ⟨he, m, hn, hm0, hm1, hl, hj, hne⟩ := ih (p + 1) _ n e (by omega) (by omega) (by omega) h
      have hm := hne (by omega)
      have hbig : 128 ≤ bt s p % 128 + 128 * m := by omega
      refine ⟨he, bt s p % 128 + 128 * m, ?_, by omega, by rw [Int.pow_succ]; omega, ?_, ?_, fun _ => by omega⟩
      · rw [hn, show 9 - r = (9 - (r + 1)) + 1 by omega, Int.pow_succ, Int.add_mul, Int.add_assoc]
        congr 2
        rw [Int.mul_comm 128 m, Int.mul_assoc, Int.mul_comm 128]
      · rw [vb_big _ _ hbig, show (bt s p % 128 + 128 * m) / 128 = m by omega]
        simp; omega
      · intro j hjl
        rw [vb_big _ _ hbig, show (bt s p % 128 + 128 * m) / 128 = m by omega] at hjl ⊢
        cases j with
        | zero => simp; omega
        | succ j =>
          simp at hjl
          have := hj j hjl
          simp only [List.getD_cons_succ]
          rw [this]
          congr 1
          omega

/-- And back: where the number's bytes stand the number is read. -/
theorem vb_tkG (s : ByteArray) (r : Nat) : ∀ (p acc m : Int), r ≤ 9 → 0 ≤ p → 0 ≤ m → m < 2 * 128 ^ r → (r < 9 → m ≠ 0) → p + (vb r m).length ≤ s.size →
    (∀ j : Nat, j < (vb r m).length → bt s (p + j) = (vb r m).getD j 0) → tkG s (r + 1) p acc = (acc + m * 128 ^ (9 - r), p + (vb r m).length, 0) := by
  induction r with
  | zero =>
    intro p acc m _ hp0 hm0 hm1 hne hl hj
    simp at hm1
    have h0 := hj 0 (by simp [vb])
    simp [vb] at h0 hl
    have hm := hne (by omega)
    unfold tkG
    rw [if_neg (by omega), if_neg (by omega), if_pos (by omega), h0]
    simp [vb]
  | succ r ih =>
    intro p acc m hr hp0 hm0 hm1 hne hl hj
    rw [Int.pow_succ] at hm1
    unfold tkG
    by_cases h3 : m < 128
    · rw [vb_small _ _ h3] at hl hj ⊢
      have h0 := hj 0 (by simp)
      simp at h0 hl
      rw [if_neg (by omega), if_neg (by intro h; rcases h with h | h; · omega
                                        · exact hne (by omega) (by omega)), if_pos (by omega), h0]
      simp
    · rw [vb_big _ _ (by omega)] at hl hj ⊢
      have h0 := hj 0 (by simp)
      simp at h0
      have hlp := vb_length_pos r (m / 128)
      simp only [List.length_cons] at hl
      rw [if_neg (by omega), if_neg (by omega), if_neg (by omega)]
      rw [ih (p + 1) _ (m / 128) (by omega) (by omega) (by omega) (by omega) (fun _ => by omega) (by omega) (fun j hjl => by
        have := hj (j + 1) (by simp; omega)
        simp only [List.getD_cons_succ] at this
        rw [← this]; congr 1; omega)]
      simp only [Prod.mk.injEq, and_true, List.length_cons]
      refine ⟨?_, by omega⟩
      rw [h0, show 9 - r = (9 - (r + 1)) + 1 by omega, Int.pow_succ, Int.add_assoc]
      congr 1
      rw [Int.mul_comm (128 ^ (9 - (r + 1))) 128, ← Int.mul_assoc, ← Int.add_mul]
      congr 1
      omega

end Go.Proofs.Ytggjkijgbpnhiaa.Hand
