/- For every string and byte the plain form of the law DeltaSelf gives true; no condition beyond the statement's own bounds. -/
import Derived.Test.YtggjkijgbpnhiaaDlLives
import Derived.Test.YtggjkijgbpnhiaaDlTok
import Derived.Test.YtggjkijgbpnhiaaDlLong
import Derived.Test.YtggjkijgbpnhiaaPDlx10
namespace Go.Proofs.Ytggjkijgbpnhiaa.PDl
open Go.Proofs.Ytggjkijgbpnhiaa.Hand
open Go.RowKit Go.Proofs.YtggjkijgbpnhiaaW.PrintWords Go.Proofs.YtggjkijgbpnhiaaW.PrintLast Go.Proofs.YtggjkijgbpnhiaaW.PrintMore
set_option linter.unusedVariables false
theorem zG_self (s : ByteArray) (r : Nat) : ∀ n : Int, 0 ≤ n → n + r = s.size → zG s s 0 0 r n = s.size := by
  induction r with
  | zero => intro n _ h; simp only [zG]; omega
  | succ r ih =>
    intro n h0 h
    rw [zG, if_pos ⟨by omega, by omega, rfl⟩]
    exact ih (n + 1) (by omega) (by omega)
theorem lon_self (s : ByteArray) (h1 : 1 ≤ s.size) (j : Nat) : lonQ s s 0 (j + 1) = (0, (s.size : Int)) := by
  induction j with
  | zero =>
    have e : zN s s 0 ((0 : Nat) : Int) = s.size := zG_self s _ 0 (by omega) (by omega)
    rw [lonQ, e, if_pos (by simp only [lonQ]; omega)]
    rfl
  | succ j ih =>
    have := (zG_range s s ((0 : Nat) : Int) ((j + 1 : Nat) : Int) (s.size - 0) 0).2 (by omega)
    have hz : zN s s 0 ((j + 1 : Nat) : Int) ≤ s.size := by unfold zN; omega
    rw [lonQ, ih, if_neg (by simp only; omega)]
theorem find_self (s : ByteArray) (h8 : 8 ≤ s.size) : findS s s.size (s.extract 0 s.size) = (0, (s.size : Int)) := by
  have e : lonQ s s 0 s.size = (0, (s.size : Int)) := by
    obtain ⟨j, hj⟩ : ∃ j, s.size = j + 1 := ⟨s.size - 1, by omega⟩
    conv => lhs; rw [hj]
    rw [lon_self s (by omega)]
  rcases find_lon s s 0 (by omega) with ⟨g1, g2⟩ | ⟨g1, g2⟩
  · rw [g2, e]
  · rw [e] at g1; simp only at g1; omega
theorem litT_nil (s : ByteArray) (d f : Nat) : litT s d f f = [] := by
  cases d with
  | zero => rfl
  | succ d => rw [litT, if_neg (Nat.lt_irrefl _)]
theorem mkT_end (s base : ByteArray) (d : Nat) : mkT s base d s.size s.size = [] := by
  cases d with
  | zero => exact litT_nil _ _ _
  | succ d => rw [mkT, if_neg (Nat.lt_irrefl _), litT_nil]
theorem mkT_self (s : ByteArray) (h8 : 8 ≤ s.size) : mkT s s s.size 0 0 = [.mat s.size 0] := by
  obtain ⟨d, hd⟩ : ∃ d, s.size = d + 1 := ⟨s.size - 1, by omega⟩
  have e : mkT s s s.size 0 0 = mkT s s (d + 1) 0 0 := by rw [← hd]
  rw [e, mkT, if_pos (by omega), find_self s h8]
  simp only
  rw [if_neg (by omega), Int.toNat_natCast, Nat.zero_add, mkT_end, litT_nil]
  rfl
theorem find_nil (t : ByteArray) : findS ⟨#[]⟩ (⟨#[]⟩ : ByteArray).size t = (0, 0) := by
  unfold findS
  split
  · rfl
  · rfl
theorem mkT_nil (s : ByteArray) (d : Nat) : ∀ i f : Nat, mkT s ⟨#[]⟩ d i f = litT s (s.size - f) f s.size := by
  induction d with
  | zero => intro i f; rfl
  | succ d ih =>
    intro i f
    rw [mkT, find_nil]
    split
    · rw [if_pos rfl, ih]
    · rfl
theorem cpT_nil (s : ByteArray) (hs : s.size ≤ 1048576) : cpT (mkT s ⟨#[]⟩ s.size 0 0) 0 = [] := by
  rw [mkT_nil]
  exact (lit_all s ⟨#[]⟩ hs (s.size - 0) 0 s.size ⟨#[]⟩ (Nat.zero_le _) (Nat.le_refl _) (Nat.le_refl _)).2.2.2.2 0
theorem apply_other (base s : ByteArray) (b : ByteArray) (hs : s.size ≤ 1048576) (hb : base.size ≤ 1048576) (hne : b.size ≠ base.size) : applyS b (delta_Make.g base s) = (⟨#[]⟩, 40) := by
  obtain ⟨e1, e2⟩ := make_head base s hs hb
  have hE : headE b (delta_Make.g base s) = 40 := by
    unfold headE
    rw [e2, e1]
    simp only
    rw [show ((base.size : Int) != (b.size : Int)) = true by simp; omega, fail_true, if_pos rfl, fail_err 40 _ _ (by omega)]
  unfold applyS
  rw [hE, if_neg (by omega)]
end Go.Proofs.Ytggjkijgbpnhiaa.PDl
namespace Go.Proofs.Ytggjkijgbpnhiaa.Pure
open Go.Proofs.Ytggjkijgbpnhiaa.Hand Go.Proofs.Ytggjkijgbpnhiaa.PDl
open Go.RowKit Go.Proofs.YtggjkijgbpnhiaaW.PrintWords Go.Proofs.YtggjkijgbpnhiaaW.PrintLast Go.Proofs.YtggjkijgbpnhiaaW.PrintMore
set_option linter.unusedVariables false
theorem DeltaSelf : graftagelaw04_DeltaSelf.Pure := by
  intro s b _ _
  unfold graftagelaw04_DeltaSelf.f
  by_cases c : (s.size : Int) > 1500
  · rw [if_pos c, lives_f]; rfl
  rw [if_neg c]
  have e0 : (⟨#[]⟩ : ByteArray).size = 0 := rfl
  have hz := make_size s s (by omega) (by omega)
  have hz0 := make_size ⟨#[]⟩ s (by omega) (by omega)
  have hy : (strOfNums [b]).size = 1 := by rw [strOfNums_size]; rfl
  have hsz : (s ++ strOfNums [b]).size = s.size + 1 := by rw [size_append, hy]
  have hm : delta_Make.f s s = some (delta_Make.g s s) := rfl
  have hm0 : delta_Make.f ⟨#[]⟩ s = some (delta_Make.g ⟨#[]⟩ s) := rfl
  have hc : delta_Copies.f (delta_Make.g s s) = some (cpT (mkT s s s.size 0 0) 0, 0) := by
    unfold delta_Copies.f; rw [if_pos (by omega), copies_make s s (by omega) (by omega)]
  have hc0 : delta_Copies.f (delta_Make.g ⟨#[]⟩ s) = some ([], 0) := by
    unfold delta_Copies.f; rw [if_pos (by omega), copies_make ⟨#[]⟩ s (by omega) (by omega), cpT_nil s (by omega)]
  have ha : delta_Apply.f (s ++ strOfNums [b]) (delta_Make.g s s) = some (⟨#[]⟩, 40) := by
    unfold delta_Apply.f; rw [if_pos (by omega), if_pos (by omega), apply_other s s _ (by omega) (by omega) (by omega)]
  rw [hm, Option.bind_some, hc, Option.bind_some, hm0, Option.bind_some, hc0, Option.bind_some, Option.bind_some, if_pos (by omega), Option.bind_some, ha, Option.bind_some, lives_f]
  simp only [List.length_nil, if_true, Option.bind_some]
  by_cases c8 : (s.size : Int) < 8
  · rw [if_pos c8]; rfl
  · rw [if_neg c8, mkT_self s (by omega)]
    simp [cpT, rd_T34]
end Go.Proofs.Ytggjkijgbpnhiaa.Pure
