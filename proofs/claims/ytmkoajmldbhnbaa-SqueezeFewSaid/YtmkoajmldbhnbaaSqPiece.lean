/- (*spread).piece. -/
import Derived.Test.YtmkoajmldbhnbaaSqPieceA
import Derived.Test.YtmkoajmldbhnbaaSqPieceB
namespace Go.Proofs.Ytmkoajmldbhnbaa.Hand
open Go.RowKit Go.Proofs.YtmkoajmldbhnbaaW.PrintWords Go.Proofs.YtmkoajmldbhnbaaW.PrintLast Go.Proofs.YtmkoajmldbhnbaaW.PrintMore
open Go.Proofs.Ytmkoajmldbhnbaa.PSqA
set_option linter.unusedVariables false
set_option linter.unusedSimpArgs false
set_option maxHeartbeats 4000000 in
set_option maxRecDepth 100000 in
theorem piece_any (T : Int → Int × Int × Int) (g : Nat) (s : ByteArray) (p left : Int) (out : List Int) (w : World) (hs : Spr w g s p out) (hz : s.size ≤ 1000000000) (hp0 : 0 ≤ p) (hp1 : p ≤ s.size) (hl0 : 0 ≤ left) (hl1 : left ≤ 1000000000) (hlen : out.length ≤ 1000000000)
    (hT : ∀ q : Int, 0 ≤ q → q ≤ s.size → octet_Take.f 60 s q = some (T q)) (hR : ∀ q : Int, 0 ≤ q → (T q).2.2 = 0 → q < (T q).2.1 ∧ (T q).2.1 ≤ s.size ∧ 0 ≤ (T q).1 ∧ (T q).1 < 18446744073709551616) :
    Calls Try.prog 22 #[.pointer (some ⟨g, 0, none⟩), .int .i64 left] w fun e w' => e = .returned (.int .i64 (pieceT T s p out left).1) ∧ Spr w' g s (pieceT T s p out left).2.1 (pieceT T s p out left).2.2 ∧ Below g w w' := by
  have hT1 := hT p hp0 hp1
  have hR1 := hR p hp0
  generalize hr1 : (T p).1 = r1 at *
  generalize hr2 : (T p).2.1 = r2 at *
  generalize hr3 : (T p).2.2 = r3 at *
  have hTp : T p = (r1, r2, r3) := by rw [← hr1, ← hr2, ← hr3]
  rw [hTp] at hT1
  have hu : IntKind.u64.wrap left = left := by simp [IntKind.wrap, IntKind.bits, IntKind.signed]; omega
  have arm := fun p' hp' => number_any 60 g s p out r1 r2 r3 p' w hs hT1 hp'
  by_cases e1 : r3 = 0
  · obtain ⟨h12, h2s, h10, h11⟩ := hR1 e1
    have arm1 := arm r2 (by rw [if_pos e1])
    have hb1 : (r3 != 0) = false := by simpa using e1
    have HE := Lib.hid e1
    have HT := Lib.hid hT
    have HR := Lib.hid hR
    clear arm hT1 hT hR hR1
    by_cases a1 : r1 / 2 < 1
    · have hpc : pieceT T s p out left = (2, r2, out) := by unfold pieceT; rw [hr3, hr1, hr2, if_pos e1, if_pos (Or.inl a1)]
      have HPC := Lib.hid hpc
      have HTp := Lib.hid hTp
      clear hpc hTp hr1 hr2 hr3 e1
      rw [HPC.out]
      go_enter Try.func22, Try.ntmps22
      go_wp2_with (go_at_call 21; refine arm1.mono ?_; rintro e w1 ⟨rfl, hs1, hB1⟩)
      go_ret
      exact ⟨rfl, hs1, hB1⟩
    by_cases ag : (r1 % 2 == 1) = true
    · have ag' : r1 % 2 = 1 := by simpa using ag
      by_cases a2 : r1 / 2 < 4
      · have hpc : pieceT T s p out left = (2, r2, out) := by unfold pieceT; rw [hr3, hr1, hr2, if_pos e1, if_pos (Or.inr (Or.inl ⟨ag', a2⟩))]
        have HPC := Lib.hid hpc
        have HTp := Lib.hid hTp
        have a1d : decide (r1 / 2 < 1) = false := decide_eq_false a1
        clear hpc hTp hr1 hr2 hr3 e1 ag'
        rw [HPC.out]
        go_enter Try.func22, Try.ntmps22
        go_wp2_with (go_at_call 21; refine arm1.mono ?_; rintro e w1 ⟨rfl, hs1, hB1⟩)
        go_ret
        exact ⟨rfl, hs1, hB1⟩
      by_cases a3 : r1 / 2 > left
      · have hpc : pieceT T s p out left = (2, r2, out) := by unfold pieceT; rw [hr3, hr1, hr2, if_pos e1, if_pos (Or.inr (Or.inr a3))]
        have HPC := Lib.hid hpc
        have HTp := Lib.hid hTp
        have a1d : decide (r1 / 2 < 1) = false := decide_eq_false a1
        have a2d : decide (r1 / 2 < 4) = false := decide_eq_false a2
        clear hpc hTp hr1 hr2 hr3 e1 ag'
        rw [HPC.out]
        go_enter Try.func22, Try.ntmps22
        go_wp2_with (go_at_call 21; refine arm1.mono ?_; rintro e w1 ⟨rfl, hs1, hB1⟩)
        go_ret
        exact ⟨rfl, hs1, hB1⟩
      have hbad : ¬ (r1 / 2 < 1 ∨ (r1 % 2 = 1 ∧ r1 / 2 < 4) ∨ r1 / 2 > left) := by omega
      have a1d : decide (r1 / 2 < 1) = false := decide_eq_false a1
      have a2d : decide (r1 / 2 < 4) = false := decide_eq_false a2
      have a3d : decide (r1 / 2 > left) = false := decide_eq_false a3
      have hr20 : 0 ≤ r2 := by omega
      have hT2 := HT.out r2 hr20 h2s
      have hR2 := HR.out r2 hr20
      have hpc0 : pieceT T s p out left = (if (T r2).2.2 = 0 then (if (T r2).1 < 1 ∨ (T r2).1 > out.length then (2, (T r2).2.1, out) else (0, (T r2).2.1, copyN out (T r2).1.toNat (r1 / 2).toNat)) else ((T r2).2.2, r2, out)) := by
        unfold pieceT; rw [hr3, hr1, hr2, if_pos e1, if_neg hbad, if_pos ag']
      generalize hq1 : (T r2).1 = q1 at *
      generalize hq2 : (T r2).2.1 = q2 at *
      generalize hq3 : (T r2).2.2 = q3 at *
      have hTq : T r2 = (q1, q2, q3) := by rw [← hq1, ← hq2, ← hq3]
      rw [hTq] at hT2
      have tok1 : True := trivial
      by_cases e2 : q3 = 0
      · obtain ⟨h22, h2z, h20, h21⟩ := hR2 e2
        have arm2 := fun w1 hs1 => number_any 60 g s r2 out q1 q2 q3 q2 w1 hs1 hT2 (by rw [if_pos e2])
        have hb2 : (q3 != 0) = false := by simpa using e2
        by_cases b1 : q1 < 1
        · have hpc : pieceT T s p out left = (2, q2, out) := by rw [hpc0, if_pos e2, if_pos (Or.inl b1)]
          have HPC := Lib.hid hpc
          clear hpc hpc0 hTp hTq hT2 hR2 hr1 hr2 hr3 hq1 hq2 hq3 e1 e2 ag' hbad
          rw [HPC.out]
          go_enter Try.func22, Try.ntmps22
          go_wp2_with (first
            | (go_at_call 21; have _t := tok1; refine arm1.mono ?_; rintro e w1 ⟨rfl, hs1, hB1⟩; clear tok1)
            | (go_at_call 21; refine (arm2 _ hs1).mono ?_; rintro e w2 ⟨rfl, hs2, hB2⟩; have hs2' := hs2; obtain ⟨v2, hblk2, hown2⟩ := hs2'; obtain ⟨A2, k2, rfl⟩ := own_shape2 hown2; have c2 := sp2 hblk2))
          go_ret
          exact ⟨rfl, hs2, hB1.trans hB2⟩
        by_cases b2 : q1 > out.length
        · have hpc : pieceT T s p out left = (2, q2, out) := by rw [hpc0, if_pos e2, if_pos (Or.inr b2)]
          have HPC := Lib.hid hpc
          have b1d : decide (q1 < 1) = false := decide_eq_false b1
          clear hpc hpc0 hTp hTq hT2 hR2 hr1 hr2 hr3 hq1 hq2 hq3 e1 e2 ag' hbad
          rw [HPC.out]
          go_enter Try.func22, Try.ntmps22
          go_wp2_with (first
            | (go_at_call 21; have _t := tok1; refine arm1.mono ?_; rintro e w1 ⟨rfl, hs1, hB1⟩; clear tok1)
            | (go_at_call 21; refine (arm2 _ hs1).mono ?_; rintro e w2 ⟨rfl, hs2, hB2⟩; have hs2' := hs2; obtain ⟨v2, hblk2, hown2⟩ := hs2'; obtain ⟨A2, k2, rfl⟩ := own_shape2 hown2; have c2 := sp2 hblk2))
          go_ret
          exact ⟨rfl, hs2, hB1.trans hB2⟩
        have hbb : ¬ (q1 < 1 ∨ q1 > (out.length : Int)) := by omega
        have hpc : pieceT T s p out left = (0, q2, copyN out q1.toNat (r1 / 2).toNat) := by rw [hpc0, if_pos e2, if_neg hbb]
        rw [hpc]
        exact piece_copy g s left out r1 r2 r3 q1 q2 q3 w hz hl0 hl1 hlen hu h10 h11 h20 h21 arm1 arm2 hb1 hb2 a1d a2d a3d a1 a2 a3 ag (decide_eq_false b1) (decide_eq_false b2) b1 b2
      · have hpc : pieceT T s p out left = (q3, r2, out) := by rw [hpc0, if_neg e2]
        have HPC := Lib.hid hpc
        have arm2 := fun w1 hs1 => number_any 60 g s r2 out q1 q2 q3 r2 w1 hs1 hT2 (by rw [if_neg e2])
        have hb2 : (q3 != 0) = true := by simpa using e2
        clear hpc hpc0 hTp hTq hT2 hR2 hr1 hr2 hr3 hq1 hq2 hq3 e1 e2 ag' hbad
        rw [HPC.out]
        go_enter Try.func22, Try.ntmps22
        go_wp2_with (first
          | (go_at_call 21; have _t := tok1; refine arm1.mono ?_; rintro e w1 ⟨rfl, hs1, hB1⟩; clear tok1)
          | (go_at_call 21; refine (arm2 _ hs1).mono ?_; rintro e w2 ⟨rfl, hs2, hB2⟩))
        go_ret
        exact ⟨rfl, hs2, hB1.trans hB2⟩
    · replace ag := Bool.eq_false_iff.mpr ag
      have ag' : ¬ r1 % 2 = 1 := by simpa using ag
      by_cases a3 : r1 / 2 > left
      · have hpc : pieceT T s p out left = (2, r2, out) := by unfold pieceT; rw [hr3, hr1, hr2, if_pos e1, if_pos (Or.inr (Or.inr a3))]
        have HPC := Lib.hid hpc
        have HTp := Lib.hid hTp
        have a1d : decide (r1 / 2 < 1) = false := decide_eq_false a1
        clear hpc hTp hr1 hr2 hr3 e1 ag'
        rw [HPC.out]
        go_enter Try.func22, Try.ntmps22
        go_wp2_with (go_at_call 21; refine arm1.mono ?_; rintro e w1 ⟨rfl, hs1, hB1⟩)
        go_ret
        exact ⟨rfl, hs1, hB1⟩
      have hbad : ¬ (r1 / 2 < 1 ∨ (r1 % 2 = 1 ∧ r1 / 2 < 4) ∨ r1 / 2 > left) := by omega
      by_cases a4 : (s.size : Int) - r2 < r1 / 2
      · have hpc : pieceT T s p out left = (3, r2, out) := by unfold pieceT; rw [hr3, hr1, hr2, if_pos e1, if_neg hbad, if_neg ag', if_pos a4]
        have HPC := Lib.hid hpc
        have HTp := Lib.hid hTp
        have a1d : decide (r1 / 2 < 1) = false := decide_eq_false a1
        have a3d : decide (r1 / 2 > left) = false := decide_eq_false a3
        clear hpc hTp hr1 hr2 hr3 e1 ag' hbad
        rw [HPC.out]
        go_enter Try.func22, Try.ntmps22
        go_wp2_with (go_at_call 21; refine arm1.mono ?_; rintro e w1 ⟨rfl, hs1, hB1⟩; have hs1' := hs1; obtain ⟨v1, hblk1, hown1⟩ := hs1'; have c0 := sp0 hblk1; have c1 := sp1 hblk1; have c2 := sp2 hblk1)
        go_quiet (fail)
        go_wp2
        go_ret
        exact ⟨rfl, ⟨v1, hblk1, hown1⟩, hB1.trans (pw_below_drewN (Below.refl _ _) _)⟩
      have hpc : pieceT T s p out left = (0, r2 + r1 / 2, out ++ bytesOf (s.extract r2.toNat (r2 + r1 / 2).toNat)) := by unfold pieceT; rw [hr3, hr1, hr2, if_pos e1, if_neg hbad, if_neg ag', if_neg a4]
      have HPC := Lib.hid hpc
      have HTp := Lib.hid hTp
      have a1d : decide (r1 / 2 < 1) = false := decide_eq_false a1
      have a3d : decide (r1 / 2 > left) = false := decide_eq_false a3
      have a4d : decide ((s.size : Int) - r2 < r1 / 2) = false := decide_eq_false a4
      have hn1 : r1 / 2 ≤ 1000000000 := by omega
      have hn2 : r2 + r1 / 2 ≤ s.size := by omega
      have hn3 : 0 ≤ r1 / 2 := by omega
      have hr20 : 0 ≤ r2 := by omega
      clear hpc hTp hr1 hr2 hr3 e1 ag' hbad
      rw [HPC.out]
      exact piece_lit g s left out r1 r2 r3 w hz hl0 hl1 hlen hu h2s h10 h11 hr20 hn1 hn2 hn3 arm1 hb1 a1d a3d a4d a1 a3 a4 ag
  · have hpc : pieceT T s p out left = (r3, p, out) := by unfold pieceT; rw [hr3, if_neg e1]
    have HPC := Lib.hid hpc
    have arm1 := arm p (by rw [if_neg e1])
    have hb1 : (r3 != 0) = true := by simpa using e1
    clear hpc arm hT1 hTp hr1 hr2 hr3 hT hR hR1
    rw [HPC.out]
    go_enter Try.func22, Try.ntmps22
    go_wp2_with (go_at_call 21; refine arm1.mono ?_; rintro e w1 ⟨rfl, hs1, hB1⟩)
    go_ret
    exact ⟨rfl, hs1, hB1⟩
end Go.Proofs.Ytmkoajmldbhnbaa.Hand
