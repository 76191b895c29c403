/- delta.Apply, by hand: the walk. -/
import Derived.Test.YtggjkijgbpnhiaaDlApply
import Derived.Test.YtggjkijgbpnhiaaDlHead
namespace Go.Proofs.Ytggjkijgbpnhiaa.Hand
open Go.RowKit Go.Proofs.YtggjkijgbpnhiaaW.PrintWords Go.Proofs.YtggjkijgbpnhiaaW.PrintLast Go.Proofs.YtggjkijgbpnhiaaW.PrintMore
open Go.Proofs.Ytggjkijgbpnhiaa.PDl
set_option linter.unusedVariables false
set_option linter.unusedSimpArgs false
def headE (base s : ByteArray) : Int :=
  failS (failS (numS s (numS s 0 0).2.1 (numS s 0 0).2.2).2.2 40 ((numS s 0 0).1 != (base.size : Int))) 4 (decide (1048576 < (numS s (numS s 0 0).2.1 (numS s 0 0).2.2).1))
def headM (s : ByteArray) : Int := (numS s (numS s 0 0).2.1 (numS s 0 0).2.2).1
def headP (s : ByteArray) : Int := (numS s (numS s 0 0).2.1 (numS s 0 0).2.2).2.1
def applyR (base s : ByteArray) : Int × List Pc := pcsQ s base.size (headM s) ((headM s).toNat + 1) (headP s) 0 []
def applyS (base s : ByteArray) : ByteArray × Int :=
  if headE base s = 0 then (if (applyR base s).1 = 0 then (outL base s (applyR base s).2 ⟨#[]⟩, 0) else (⟨#[]⟩, (applyR base s).1)) else (⟨#[]⟩, headE base s)

set_option maxHeartbeats 4000000 in
set_option maxRecDepth 100000 in
theorem apply_any (base s : ByteArray) (w : World) (hbz : base.size ≤ 1000000000) (hz : s.size ≤ 1000000000) :
    Calls Try.prog 13 #[.string base, .string s] w fun e w' => e = .returned (.tuple #[.string (applyS base s).1, .int .i64 (applyS base s).2]) ∧ Below w.heap.size w w' := by
  obtain ⟨k1, k2, k3, k4, _, _⟩ := numS_ok s 0 0 (by omega) (by omega)
  obtain ⟨n1, p1, e1, hx⟩ : ∃ x p1 e1, numS s 0 0 = (x, p1, e1) := ⟨_, _, _, rfl⟩
  rw [hx] at k1 k2 k3 k4
  simp only at k1 k2 k3 k4
  obtain ⟨m1, m2, m3, m4, _, _⟩ := numS_ok s p1 e1 k3 k4
  obtain ⟨m, p2, e2, hy⟩ : ∃ x q z, numS s p1 e1 = (x, q, z) := ⟨_, _, _, rfl⟩
  rw [hy] at m1 m2 m3 m4
  simp only at m1 m2 m3 m4
  have hE : headE base s = failS (failS e2 40 (n1 != (base.size : Int))) 4 (decide (1048576 < m)) := by unfold headE; rw [hx]; simp only; rw [hy]
  have hR : applyR base s = pcsQ s base.size m (m.toNat + 1) p2 0 [] := by unfold applyR headM headP; rw [hx]; simp only; rw [hy]
  unfold applyS
  rw [hE, hR]
  obtain ⟨e3, he3⟩ : ∃ x, failS e2 40 (n1 != (base.size : Int)) = x := ⟨_, rfl⟩
  rw [he3]
  obtain ⟨e4, he4⟩ : ∃ x, failS e3 4 (decide (1048576 < m)) = x := ⟨_, rfl⟩
  rw [he4]
  obtain ⟨RR, hRR⟩ : ∃ R, pcsQ s base.size m (m.toNat + 1) p2 0 [] = R := ⟨_, rfl⟩
  rw [hRR]
  have HRR := Lib.hid hRR
  have hn1 := fun W => num_any (w.heap.size + 1 + 1) s 0 0 W
  have hn2 := fun W => num_any (w.heap.size + 1 + 1) s p1 e1 W
  rw [hx] at hn1
  rw [hy] at hn2
  have hm64 : e4 = 0 → m ≤ 1048576 := by
    intro h
    by_cases c : 1048576 < m
    · exfalso
      rw [decide_eq_true c, fail_true] at he4
      split at he4 <;> omega
    · omega
  have HN1 := Lib.hid hn1
  have HN2 := Lib.hid hn2
  have HE3 := Lib.hid he3
  have HE4 := Lib.hid he4
  have HM := Lib.hid hm64
  clear hn1 hn2 hx hy hE hR he3 he4 hm64 hRR
  obtain ⟨gg, hgg⟩ : ∃ x, x = w.heap.size + 1 + 1 := ⟨_, rfl⟩
  go_enter Try.func13, Try.ntmps13
  go_wp2_with fail
  have hr0 : Rd (((w.alloc (.cells #[.string base] 9)).alloc (.cells #[.string s] 9)).alloc (.cells #[.string s, .int .i64 0, .int .i64 0] 56)) (w.heap.size + 1 + 1) s 0 0 := by
    have := heap_alloc_new ((w.alloc (.cells #[.string base] 9)).alloc (.cells #[.string s] 9)) (.cells #[.string s, .int .i64 0, .int .i64 0] 56)
    simpa [Rd] using this
  refine (HN1.out _ hr0 hz).mono ?_
  rintro y w1 ⟨rfl, hs1, hL1⟩
  have hgb : w.heap.size + 1 + 1 < w1.heap.size := hs1.lt
  have kb : w1.heap[w.heap.size]? = some (.cells #[.string base] 9 (0, 0)) := hL1.block (by have := heap_alloc_new w (.cells #[.string base] 9); exact (Below.heap_alloc _ _ _ (by simp; omega)).trans ((Below.heap_alloc _ _ _ (by simp)).trans this)) (by omega)
  have hz1 : (w.alloc (.cells #[.string base] 9)).heap.size = w.heap.size + 1 := by simp
  have ks : w1.heap[w.heap.size + 1]? = some (.cells #[.string s] 9 (0, 0)) := hL1.block (by have := heap_alloc_new (w.alloc (.cells #[.string base] 9)) (.cells #[.string s] 9); rw [hz1] at this; exact (Below.heap_alloc _ _ _ (by simp)).trans this) (by omega)
  have hB1 : Below w.heap.size w w1 := (((Below.refl _ w).alloc (Nat.le_refl _) _).alloc (by simp) _ |>.alloc (by simp; omega) _).trans (hL1.2.mono (by omega))
  clear hL1 hr0 hz1
  generalize hbb0 : w.heap.size = bb at *
  have HBB := Lib.hid hbb0
  clear hbb0
  go_wp2_with fail
  refine (HN2.out _ hs1 hz).mono ?_
  rintro y w2 ⟨rfl, hs2, hL2⟩
  have kb2 := hL2.block kb (by omega)
  have ks2 := hL2.block ks (by omega)
  have hB2 := hB1.trans (hL2.2.mono (show bb ≤ bb + 1 + 1 by omega))
  have cb2 := cell_of_one kb2
  clear hs1 hL2 kb ks hB1
  go_wp2_with fail
  refine (fail_fs _ s p2 e2 40 _ _ hs2).mono ?_
  rintro y w3 ⟨rfl, hs3, hL3⟩
  rw [HE3.out] at hs3
  have kb3 := hL3.block kb2 (by omega)
  have ks3 := hL3.block ks2 (by omega)
  have hB3 := hB2.trans (hL3.2.mono (show bb ≤ bb + 1 + 1 by omega))
  clear hs2 hL3 kb2 ks2 hB2 cb2
  go_wp2_with fail
  refine (fail_fs _ s p2 e3 4 _ _ hs3).mono ?_
  rintro y w4 ⟨rfl, hs4, hL4⟩
  rw [HE4.out] at hs4
  have kb4 := hL4.block kb3 (by omega)
  have ks4 := hL4.block ks3 (by omega)
  have hB4 := hB3.trans (hL4.2.mono (show bb ≤ bb + 1 + 1 by omega))
  have hgb4 := hs4.lt
  clear hs3 hL4 kb3 ks3 hB3 hgb
  have r2 := hs4.c2
  by_cases h4 : e4 = 0
  · subst h4
    have hm := HM.out rfl
    have cb4 := cell_of_one kb4
    have hlt4 : bb < w4.heap.size := lt_of_block kb4
    have hIB := IsB.fresh w4 w4.heap.size (Nat.le_refl _)
    have hAp : ApI w4.heap.size bb (bb + 1) base s (w4.alloc (.cells #[.pointer none, .slice none 0 0] 45)) [] := ⟨hIB, (Below.heap_alloc _ _ _ (lt_of_block kb4)).trans kb4, (Below.heap_alloc _ _ _ (lt_of_block ks4)).trans ks4, rfl⟩
    have hdo := apply_does w4.heap.size bb (bb + 1) (bb + 1 + 1) base s m (by omega) (by omega) (by omega) (by omega) (by omega) (by omega) hbz hz
    have hs5 := hs4.alloc (.cells #[.pointer none, .slice none 0 0] 45)
    have hpc := pieces_any (bb + 1 + 1) (bb + 1 + 1) s base.size m p2 _ _ _ _ hz hdo hs5 hAp (by omega) m3 m4 (by omega) (by omega) m1 (by omega)
    rw [HRR.out] at hpc
    have HP := Lib.hid hpc
    clear hpc hdo hAp hIB HRR HM HN1 HN2 HE3 HE4
    go_wp2_with fail
    refine HP.out.mono ?_
    rintro y w6 ⟨rfl, ⟨p9, hs6⟩, hI6, hB6⟩
    have r6 := hs6.c2
    have hB6' := (hB4.alloc (by omega) (.cells #[.pointer none, .slice none 0 0] 45)).trans (hB6.mono (show bb ≤ bb + 1 + 1 by omega))
    have hIs := hI6.1
    by_cases h5 : RR.1 = 0
    · have hb5 : (RR.1 != 0) = false := by simpa using h5
      have h51 := Lib.hid h5
      clear h5
      go_wp2_with fail
      refine (string_any _ _ _ _ hIs (by have := hIs.lt; omega)).mono ?_
      rintro y w7 ⟨rfl, hB7⟩
      go_wp2
      go_ret2
      rw [HBB.out]
      refine ⟨?_, hB6'.trans (hB7.mono (by omega))⟩
      simp [h51.out]
    · have hb5 : (RR.1 != 0) = true := by simpa using h5
      have h51 := Lib.hid h5
      clear h5
      go_wp2
      go_quiet (fail)
      go_wp2
      go_ret2
      rw [HBB.out]
      refine ⟨?_, pw_below_drewN hB6' _⟩
      simp [h51.out]
  · have hb5 : (e4 != 0) = true := by simpa using h4
    have h51 := Lib.hid h4
    clear h4
    go_wp2
    go_quiet (fail)
    go_wp2
    go_ret2
    rw [HBB.out]
    refine ⟨?_, pw_below_drewN hB4 _⟩
    simp [h51.out]
end Go.Proofs.Ytggjkijgbpnhiaa.Hand
