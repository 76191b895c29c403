/- The reference's Make, as the printed function has it: the plain delta_Make.g. -/
import Derived.Test.YtggjkijgbpnhiaaDlLong
import Derived.Test.YtggjkijgbpnhiaaDlMake
import Derived.Test.YtggjkijgbpnhiaaPutR
import Derived.Test.YtggjkijgbpnhiaaPDlx5
namespace Go.Proofs.Ytggjkijgbpnhiaa.PDl
open Go.Proofs.Ytggjkijgbpnhiaa.Hand
open Go.RowKit Go.Proofs.YtggjkijgbpnhiaaW.PrintWords Go.Proofs.YtggjkijgbpnhiaaW.PrintLast Go.Proofs.YtggjkijgbpnhiaaW.PrintMore
set_option linter.unusedVariables false
set_option linter.unusedSimpArgs false

def plainS (s b : ByteArray) (f t : Nat) : ByteArray := if f < t then octet_Put.g b (2 * ((t : Int) - f)) ++ s.extract f t else b
theorem put_app (b : ByteArray) (n : Int) (h0 : 0 ≤ n) (h1 : n < 18446744073709551616) : octet_Put.g b n = b ++ octet_Put.g ⟨#[]⟩ n :=
  bytesOf_inj (by rw [put_bytes b n h0 h1, bytesOf_append, put_bytes _ n h0 h1]; rfl)
theorem plain_eq (s b : ByteArray) (f t : Nat) (hf : f ≤ t) (ht : t ≤ s.size) (hs : s.size ≤ 1048576) (hb : b.size ≤ 1000000000) (k : Nat) (hk : 10 ≤ k) : graftageref04_plain.f k b (s.extract f t) = some (plainS s b f t) := by
  have hz : (s.extract f t).size = t - f := by rw [ByteArray.size_extract]; omega
  unfold graftageref04_plain.f plainS
  by_cases c : f < t
  · rw [if_neg, if_pos c, hz]
    rotate_left
    · intro h
      rw [toList_bytes] at h
      have := congrArg List.length h
      simp at this
      omega
    rw [wrap64_id (by omega) (by omega), wrap_u64_id (by omega) (by omega), ref_Put_eq k hk b _ (by omega) (by omega) (by omega), Option.bind_some]
    have := putG_size b (2 * ((t - f : Nat) : Int))
    rw [if_pos (by omega), show ((t - f : Nat) : Int) = (t : Int) - f by omega]
  · rw [if_pos, if_neg c]
    rw [toList_bytes]
    have h0 : (s.extract f t).data.size = 0 := by show (s.extract f t).size = 0; omega
    have := Array.eq_empty_of_size_eq_zero h0
    rw [this]
/-- Some whole pieces, from a place on. -/
def layC (s : ByteArray) : Nat → Nat → ByteArray → ByteArray
  | 0, _, o => o
  | q + 1, f, o => layC s q (f + 1024) (plainS s o f (f + 1024))
set_option maxRecDepth 20000 in
theorem layC_snoc (s : ByteArray) (q : Nat) : ∀ f o, layC s (q + 1) f o = plainS s (layC s q f o) (f + 1024 * q) (f + 1024 * q + 1024) := by
  induction q with
  | zero => intro f o; rfl
  | succ q ih =>
    intro f o
    rw [layC, ih (f + 1024), layC]
    rw [show f + 1024 + 1024 * q = f + 1024 * (q + 1) by omega]
set_option maxRecDepth 20000 in
theorem plain_lay (s o : ByteArray) (f t : Nat) (h : f < t) (hs : t ≤ 1048576) : plainS s o f t = o ++ octet_Put.g ⟨#[]⟩ (2 * ((t - f : Nat) : Int)) ++ s.extract f t := by
  unfold plainS
  rw [if_pos h, show (t : Int) - f = ((t - f : Nat) : Int) by omega, put_app o _ (by omega) (by omega)]
set_option maxRecDepth 20000 in
theorem lay_plain (s : ByteArray) (q : Nat) : ∀ (d f t : Nat) (o : ByteArray), t ≤ 1048576 → t - f ≤ d → f + 1024 * q ≤ t → t < f + 1024 * q + 1024 → layQ s d f t o = plainS s (layC s q f o) (f + 1024 * q) t := by
  induction q with
  | zero =>
    intro d f t o ht hd h1 h2
    show layQ s d f t o = plainS s o (f + 0) t
    rw [Nat.add_zero]
    by_cases c : f < t
    · obtain ⟨d, rfl⟩ : ∃ m, d = m + 1 := ⟨d - 1, by omega⟩
      have e1 : min 1024 (t - f) = t - f := Nat.min_eq_right (by omega)
      have e2 : f + (t - f) = t := by omega
      rw [layQ, if_pos c, plain_lay s o f t c ht, e1, e2]
      cases d with
      | zero => rw [layQ]
      | succ d => rw [layQ, if_neg (Nat.lt_irrefl _)]
    · unfold plainS
      rw [if_neg c]
      cases d with
      | zero => rfl
      | succ d => rw [layQ, if_neg c]
  | succ q ih =>
    intro d f t o ht hd h1 h2
    obtain ⟨d, rfl⟩ : ∃ m, d = m + 1 := ⟨d - 1, by omega⟩
    have e1 : min 1024 (t - f) = 1024 := Nat.min_eq_left (by omega)
    have e2 : f + 1024 - f = 1024 := by omega
    have e3 : f + 1024 * (q + 1) = f + 1024 + 1024 * q := by omega
    rw [layQ, if_pos (by omega), e1, ih d (f + 1024) t _ ht (by omega) (by omega) (by omega), e3, layC, plain_lay s o f (f + 1024) (by omega) (by omega), e2]
theorem plainS_size (s b : ByteArray) (f t : Nat) (ht : t ≤ s.size) : (plainS s b f t).size ≤ b.size + 10 + (t - f) := by
  unfold plainS
  split
  · have := putG_size b (2 * ((t : Int) - f))
    rw [size_append, ByteArray.size_extract]; omega
  · omega
set_option maxRecDepth 20000 in
theorem layC_size (s : ByteArray) (q : Nat) : ∀ f o, f + 1024 * q ≤ s.size → (layC s q f o).size ≤ o.size + 1034 * q := by
  induction q with
  | zero => intro f o _; exact Nat.le_refl _
  | succ q ih =>
    intro f o h
    rw [layC]
    have h1 := ih (f + 1024) (plainS s o f (f + 1024)) (by omega)
    have h2 := plainS_size s o f (f + 1024) (by omega)
    omega
set_option maxRecDepth 20000 in
theorem make_l0 (base s : ByteArray) (hb : base.size ≤ 1048576) (hs : s.size ≤ 1048576) (d : Nat) : ∀ (k i f q : Nat) (o : ByteArray), f + 1024 * q ≤ i → i < f + 1024 * q + 1024 → i ≤ s.size → s.size ≤ i + d → o.size ≤ 30 + 41 * f → (s.size + 3) * base.size + 30 + d ≤ k →
    graftageref04_Make.l0 k base s (layC s q f o) ((f + 1024 * q : Nat) : Int) i = some (makeQ s base d i f o) := by
  induction d with
  | zero =>
    intro k i f q o h1 h2 hi hd ho hk
    obtain ⟨k, rfl⟩ : ∃ m, k = m + 1 := ⟨k - 1, by omega⟩
    obtain rfl : i = s.size := by omega
    have hcz := layC_size s q f o (by omega)
    rw [graftageref04_Make.l0, if_neg (by omega), if_pos (by omega), if_pos (by omega), Int.toNat_natCast, plain_eq s _ _ s.size h1 (Nat.le_refl _) hs (by omega) k (by omega), Option.bind_some]
    show some _ = some (layQ s (s.size - f) f s.size o)
    rw [lay_plain s q _ f s.size o hs (Nat.le_refl _) h1 h2]
  | succ d ih =>
    intro k i f q o h1 h2 hi hd ho hk
    obtain ⟨k, rfl⟩ : ∃ m, k = m + 1 := ⟨k - 1, by omega⟩
    have hcz := layC_size s q f o (by omega)
    rw [graftageref04_Make.l0, makeQ]
    by_cases c : i < s.size
    rotate_left
    · obtain rfl : i = s.size := by omega
      rw [if_neg (by omega), if_neg c, if_pos (by omega), if_pos (by omega), Int.toNat_natCast, plain_eq s _ _ s.size h1 (Nat.le_refl _) hs (by omega) k (by omega), Option.bind_some, lay_plain s q _ f s.size o hs (Nat.le_refl _) h1 h2]
    rw [if_pos (by omega), if_pos c, longest_eq base s (by omega) (by omega) i (by omega) k (by omega), Option.bind_some]
    rcases find_lon base s i (by omega) with ⟨h8, he⟩ | ⟨h8, he⟩
    · have hfr := findS_range base base.size (s.extract i s.size) (Nat.le_refl _)
      rw [ByteArray.size_extract, he] at hfr
      rw [he]
      generalize lonQ base s i base.size = X at *
      obtain ⟨a, n⟩ := X
      simp only at h8 hfr ⊢
      obtain ⟨a0, a1, n0, n1⟩ := hfr
      rw [if_pos (show n ≥ 8 by omega), if_neg (show ¬ n = 0 by omega), if_pos (show (0 : Int) ≤ ((f + 1024 * q : Nat) : Int) by omega), if_pos (show ((f + 1024 * q : Nat) : Int) ≤ (i : Int) by omega), if_pos (show (i : Int) ≤ (s.size : Int) by omega), Int.toNat_natCast, Int.toNat_natCast, plain_eq s _ _ i h1 (by omega) hs (by omega) k (by omega), Option.bind_some]
      have hpz := plainS_size s (layC s q f o) (f + 1024 * q) i (by omega)
      have hlz := layQ_size s (i - f) f i o (by omega)
      rw [← lay_plain s q (i - f) f i o (by omega) (Nat.le_refl _) h1 h2] at hpz ⊢
      generalize layQ s (i - f) f i o = o1 at *
      have hp1 := putG_size o1 (2 * n + 1)
      have hp2 := putG_size (octet_Put.g o1 (2 * n + 1)) a
      rw [wrap64_id (n := 2 * n) (by omega) (by omega), wrap64_id (n := 2 * n + 1) (by omega) (by omega), wrap_u64_id (n := 2 * n + 1) (by omega) (by omega), ref_Put_eq k (by omega) _ _ (by omega) (by omega) (by omega), Option.bind_some, wrap_u64_id (n := a) (by omega) (by omega), ref_Put_eq k (by omega) _ _ (by omega) (by omega) (by omega), Option.bind_some, wrap64_id (n := (i : Int) + n) (by omega) (by omega)]
      have e1 : octet_Put.g (octet_Put.g o1 (2 * n + 1)) a = o1 ++ octet_Put.g (octet_Put.g ⟨#[]⟩ (2 * n + 1)) a := by
        rw [put_app (octet_Put.g o1 (2 * n + 1)) a (by omega) (by omega), put_app o1 (2 * n + 1) (by omega) (by omega), put_app (octet_Put.g ⟨#[]⟩ (2 * n + 1)) a (by omega) (by omega), append_assoc]
      rw [← e1]
      have hin : (i : Int) + n = ((i + n.toNat + 1024 * 0 : Nat) : Int) := by omega
      have h := ih k (i + n.toNat) (i + n.toNat) 0 (octet_Put.g (octet_Put.g o1 (2 * n + 1)) a) (by omega) (by omega) (by omega) (by omega) (by omega) (by omega)
      rw [hin]
      exact h
    · rw [he]
      simp only
      rw [if_neg (by omega), if_pos trivial, wrap64_id (n := (i : Int) + 1) (by omega) (by omega), wrap64_id (n := (i : Int) + 1 - ((f + 1024 * q : Nat) : Int)) (by omega) (by omega)]
      have ei : (i : Int) + 1 = ((i + 1 : Nat) : Int) := by simp
      by_cases c2 : (i : Int) + 1 - ((f + 1024 * q : Nat) : Int) = 1024
      · rw [if_pos c2, if_pos (by omega), if_pos (by omega), if_pos (by omega), ei, Int.toNat_natCast, Int.toNat_natCast, plain_eq s _ _ (i + 1) (by omega) (by omega) hs (by omega) k (by omega), Option.bind_some]
        have e2 : plainS s (layC s q f o) (f + 1024 * q) (i + 1) = layC s (q + 1) f o := by
          rw [layC_snoc, show f + 1024 * q + 1024 = i + 1 by omega]
        rw [e2]
        have h := ih k (i + 1) f (q + 1) o (by omega) (by omega) (by omega) (by omega) ho (by omega)
        rw [show f + 1024 * (q + 1) = i + 1 by omega] at h
        exact h
      · rw [if_neg c2, ei]
        exact ih k (i + 1) f q o (by omega) (by omega) (by omega) (by omega) ho (by omega)
set_option maxRecDepth 20000 in
theorem Make_eq (base s : ByteArray) (hb : base.size ≤ 1048576) (hs : s.size ≤ 1048576) (k : Nat) (hk : (s.size + 3) * base.size + 31 + s.size ≤ k) : graftageref04_Make.f k base s = some (delta_Make.g base s) := by
  obtain ⟨k, rfl⟩ : ∃ m, k = m + 1 := ⟨k - 1, by omega⟩
  unfold graftageref04_Make.f delta_Make.g
  rw [if_neg (by omega), decide_eq_false (by omega), graftageref04_Make.j0, if_neg (by decide), if_neg (by omega)]
  have h1 := putE_size (base.size : Int)
  have h2 := putG_size (octet_Put.g ⟨#[]⟩ (base.size : Int)) (s.size : Int)
  have e0 : (⟨#[]⟩ : ByteArray).size = 0 := rfl
  rw [wrap_u64_id (by omega) (by omega), ref_Put_eq k (by omega) _ _ (by omega) (by omega) (by omega), Option.bind_some, wrap_u64_id (by omega) (by omega), ref_Put_eq k (by omega) _ _ (by omega) (by omega) (by omega), Option.bind_some]
  exact make_l0 base s hb hs s.size k 0 0 0 (octet_Put.g (octet_Put.g ⟨#[]⟩ (base.size : Int)) (s.size : Int)) (by omega) (by omega) (by omega) (by omega) (by omega) (by omega)
end Go.Proofs.Ytggjkijgbpnhiaa.PDl
