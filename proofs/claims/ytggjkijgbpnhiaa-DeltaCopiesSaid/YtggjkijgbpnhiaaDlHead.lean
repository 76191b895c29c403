/- delta's head and Sizes, by hand. -/
import Derived.Test.YtggjkijgbpnhiaaDlPieces
namespace Go.Proofs.Ytggjkijgbpnhiaa.Hand
open Go.RowKit Go.Proofs.YtggjkijgbpnhiaaW.PrintWords Go.Proofs.YtggjkijgbpnhiaaW.PrintLast Go.Proofs.YtggjkijgbpnhiaaW.PrintMore
open Go.Proofs.Ytggjkijgbpnhiaa.PDl
set_option linter.unusedVariables false
set_option linter.unusedSimpArgs false
theorem fail_fs (g : Nat) (s : ByteArray) (p e x : Int) (so : Bool) (w : World) (hs : Rd w g s p e) :
    Calls Try.prog 29 #[.pointer (some ⟨g, 0, none⟩), .int .i64 x, .bool so] w fun y w' => y = .returned (.tuple #[]) ∧ Rd w' g s p (failS e x so) ∧ Lone w w' g := fail_any g s p e x so w hs
def hdE (s : ByteArray) : Int :=
  failS (numS s (numS s 0 0).2.1 (numS s 0 0).2.2).2.2 4 (decide ((numS s 0 0).1 > 1048576 ∨ (numS s (numS s 0 0).2.1 (numS s 0 0).2.2).1 > 1048576))
def hdN (s : ByteArray) : Int := (numS s 0 0).1
def hdM (s : ByteArray) : Int := (numS s (numS s 0 0).2.1 (numS s 0 0).2.2).1
def hdP (s : ByteArray) : Int := (numS s (numS s 0 0).2.1 (numS s 0 0).2.2).2.1
theorem hd_small (s : ByteArray) (h : hdE s = 0) : 0 ≤ hdN s ∧ hdN s ≤ 1048576 ∧ 0 ≤ hdM s ∧ hdM s ≤ 1048576 ∧ 0 ≤ hdP s ∧ hdP s ≤ s.size := by
  obtain ⟨k1, k2, k3, k4, _, _⟩ := numS_ok s 0 0 (by omega) (by omega)
  obtain ⟨m1, m2, m3, m4, _, _⟩ := numS_ok s (numS s 0 0).2.1 (numS s 0 0).2.2 k3 k4
  have hn : ¬ ((numS s 0 0).1 > 1048576 ∨ (numS s (numS s 0 0).2.1 (numS s 0 0).2.2).1 > 1048576) := by
    intro c
    unfold hdE at h
    rw [decide_eq_true c, fail_true] at h
    split at h <;> omega
  unfold hdN hdM hdP
  omega
set_option maxHeartbeats 4000000 in
set_option maxRecDepth 100000 in
theorem head_any (g : Nat) (s : ByteArray) (w : World) (hs : Rd w g s 0 0) (hz : s.size ≤ 1000000000) :
    Calls Try.prog 34 #[.pointer (some ⟨g, 0, none⟩)] w fun y w' => y = .returned (.tuple #[.int .i64 (if hdE s = 0 then hdN s else 0), .int .i64 (if hdE s = 0 then hdM s else 0)]) ∧ Rd w' g s (hdP s) (hdE s) ∧ Lone w w' g := by
  obtain ⟨k1, k2, k3, k4, _, _⟩ := numS_ok s 0 0 (by omega) (by omega)
  obtain ⟨n1, p1, e1, hx⟩ : ∃ x p1 e1, numS s 0 0 = (x, p1, e1) := ⟨_, _, _, rfl⟩
  rw [hx] at k1 k2 k3 k4
  simp only at k1 k2 k3 k4
  obtain ⟨m1, m2, m3, m4, _, _⟩ := numS_ok s p1 e1 k3 k4
  obtain ⟨m, p2, e2, hy⟩ : ∃ x q z, numS s p1 e1 = (x, q, z) := ⟨_, _, _, rfl⟩
  rw [hy] at m1 m2 m3 m4
  simp only at m1 m2 m3 m4
  have hsm := hd_small s
  have hE : hdE s = failS e2 4 (decide (n1 > 1048576 ∨ m > 1048576)) := by unfold hdE; rw [hx]; simp only; rw [hy]
  have hN : hdN s = n1 := by unfold hdN; rw [hx]
  have hM : hdM s = m := by unfold hdM; rw [hx]; simp only; rw [hy]
  have hP : hdP s = p2 := by unfold hdP; rw [hx]; simp only; rw [hy]
  rw [hN, hM, hP, hE] at hsm
  rw [hN, hM, hP, hE]
  have hn1 := fun W => num_any g s 0 0 W
  have hn2 := fun W => num_any g s p1 e1 W
  rw [hx] at hn1
  rw [hy] at hn2
  have HN1 := Lib.hid hn1
  have HN2 := Lib.hid hn2
  clear hn1 hn2 hx hy hE hN hM hP
  have hcase : ∃ b1 b2 : Bool, (decide (1048576 < n1) = b1) ∧ (b1 = false → decide (1048576 < m) = b2) ∧ decide (n1 > 1048576 ∨ m > 1048576) = (b1 || b2) := ⟨decide (1048576 < n1), decide (1048576 < m), rfl, fun _ => rfl, by rw [Bool.decide_or]⟩
  obtain ⟨b1, b2, hb1, hb2, hbo⟩ := hcase
  rw [hbo] at hsm ⊢
  obtain ⟨e4, he4⟩ : ∃ x, failS e2 4 (b1 || b2) = x := ⟨_, rfl⟩
  rw [he4] at hsm ⊢
  have HE4 := Lib.hid he4
  have HSM := Lib.hid hsm
  clear hbo he4 hsm
  cases b1 with
  | true =>
    clear hb2
    go_enter Try.func34, Try.ntmps34
    go_wp2_with fail
    refine (HN1.out _ hs hz).mono ?_
    rintro y w1 ⟨rfl, hs1, hL1⟩
    go_wp2_with fail
    refine (HN2.out _ hs1 hz).mono ?_
    rintro y w2 ⟨rfl, hs2, hL2⟩
    go_wp2_with fail
    refine (fail_fs g s p2 e2 4 _ _ hs2).mono ?_
    rintro y w3 ⟨rfl, hs3, hL3⟩
    have h4 := HE4.out
    simp only [Bool.true_or] at h4
    rw [h4] at hs3
    have hne : e4 ≠ 0 := by rw [← h4, fail_true]; split <;> omega
    have hneb : (e4 != 0) = true := by simpa using hne
    have r2 := hs3.c2
    have HNE := Lib.hid hne
    clear h4 hne
    go_wp2
    go_ret2
    refine ⟨by simp [HNE.out], hs3, (hL1.trans hL2).trans hL3⟩
  | false =>
    have hb2' := hb2 rfl
    clear hb2
    go_enter Try.func34, Try.ntmps34
    go_wp2_with fail
    refine (HN1.out _ hs hz).mono ?_
    rintro y w1 ⟨rfl, hs1, hL1⟩
    go_wp2_with fail
    refine (HN2.out _ hs1 hz).mono ?_
    rintro y w2 ⟨rfl, hs2, hL2⟩
    go_wp2_with fail
    try rw [hb2']
    refine (fail_fs g s p2 e2 4 _ _ hs2).mono ?_
    rintro y w3 ⟨rfl, hs3, hL3⟩
    have h4 := HE4.out
    simp only [Bool.false_or] at h4
    rw [h4] at hs3
    have r2 := hs3.c2
    clear h4
    by_cases hne : e4 = 0
    · subst hne
      obtain ⟨v1, v2, v3, v4, _, _⟩ := HSM.out rfl
      go_wp2
      go_ret2
      refine ⟨by simp, hs3, (hL1.trans hL2).trans hL3⟩
    · have hneb : (e4 != 0) = true := by simpa using hne
      have HNE := Lib.hid hne
      clear hne
      go_wp2
      go_ret2
      refine ⟨by simp [HNE.out], hs3, (hL1.trans hL2).trans hL3⟩
end Go.Proofs.Ytggjkijgbpnhiaa.Hand
