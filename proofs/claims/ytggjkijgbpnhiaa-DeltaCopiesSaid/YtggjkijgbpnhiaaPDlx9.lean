-- Written by wip/gen/gen.py of this session out of the seat's translation.
import Derived.Test.YtggjkijgbpnhiaaPDlx0
import Derived.Test.YtggjkijgbpnhiaaPDlx2
import Derived.Test.YtggjkijgbpnhiaaPDlx5
import Derived.Test.YtggjkijgbpnhiaaDlApplyF
import Derived.Test.YtggjkijgbpnhiaaDlCopies
namespace Go.Proofs.Ytggjkijgbpnhiaa.PDl
open Go.Proofs.Ytggjkijgbpnhiaa.Hand Go.RowKit Go.Proofs.YtggjkijgbpnhiaaW.PrintWords Go.Proofs.YtggjkijgbpnhiaaW.PrintLast Go.Proofs.YtggjkijgbpnhiaaW.PrintMore
attribute [local go_sem] max2_int min2_int max_two min_two max_three min_three max_four min_four   -- for this text's walks alone
set_option linter.unusedVariables false
set_option linter.unusedSimpArgs false

-- given by hand: function 16 (delta_Copies)

/-! ### graftagelaw04_DeltaCopies: function 6 -/
mutual
def graftagelaw04_DeltaCopies.j0 : Nat → ByteArray → ByteArray → List (S34) → Bool → Option (Bool)
 | 0, _, _, _, _ => none
 | k + 1, x0, x5, x7, x37 => if x37 = true then (some false) else (graftagelaw04_DeltaCopies.l0 k x0 x5 x7 0 0)
def graftagelaw04_DeltaCopies.l0 : Nat → ByteArray → ByteArray → List (S34) → Int → Int → Option (Bool)
 | 0, _, _, _, _, _ => none
 | k + 1, x0, x5, x7, x9, x10 => if x10 < (x7.length : Int) then (if 0 ≤ x10 then (if ((rd_T34 x7 x10).f2) < 1 then (some false) else (if ((rd_T34 x7 x10).f1) < x9 then (some false) else (if ((rd_T34 x7 x10).f2) > (wrap64 ((x5.size : Int) - ((rd_T34 x7 x10).f1))) then (some false) else (if ((rd_T34 x7 x10).f0) < 0 then (some false) else (if ((rd_T34 x7 x10).f2) > (x0.size : Int) then (some false) else (if ((rd_T34 x7 x10).f0) > (wrap64 ((x0.size : Int) - ((rd_T34 x7 x10).f2))) then (some false) else (if 0 ≤ ((rd_T34 x7 x10).f0) then (if ((rd_T34 x7 x10).f0) ≤ (wrap64 (((rd_T34 x7 x10).f0) + ((rd_T34 x7 x10).f2))) then (if (wrap64 (((rd_T34 x7 x10).f0) + ((rd_T34 x7 x10).f2))) ≤ (x0.size : Int) then (if 0 ≤ ((rd_T34 x7 x10).f1) then (if ((rd_T34 x7 x10).f1) ≤ (wrap64 (((rd_T34 x7 x10).f1) + ((rd_T34 x7 x10).f2))) then (if (wrap64 (((rd_T34 x7 x10).f1) + ((rd_T34 x7 x10).f2))) ≤ (x5.size : Int) then (if (x0.extract (((rd_T34 x7 x10).f0) : Int).toNat ((wrap64 (((rd_T34 x7 x10).f0) + ((rd_T34 x7 x10).f2))) : Int).toNat).toList = (x5.extract (((rd_T34 x7 x10).f1) : Int).toNat ((wrap64 (((rd_T34 x7 x10).f1) + ((rd_T34 x7 x10).f2))) : Int).toNat).toList then (graftagelaw04_DeltaCopies.l0 k x0 x5 x7 (wrap64 (((rd_T34 x7 x10).f1) + ((rd_T34 x7 x10).f2))) (wrap64 (x10 + 1))) else (some false)) else (none)) else (none)) else (none)) else (none)) else (none)) else (none)))))))) else (none)) else ((graftagelaw04_lives.f).bind fun t192 => (some t192))
end
def graftagelaw04_DeltaCopies.f (k : Nat) (a0 : ByteArray) (a1 : ByteArray) : Option (Bool) := (graftagelaw04_few.f a0 a1).bind fun t181 => (if t181 = true then ((delta_Apply.f a0 a1).bind fun bt183 => ((delta_Copies.f a1).bind fun bt185 => (if bt183.2 = 0 then (if bt185.2 = 0 then (graftagelaw04_DeltaCopies.j0 k a0 bt183.1 bt185.1 false) else (graftagelaw04_DeltaCopies.j0 k a0 bt183.1 bt185.1 (decide ((a0.size : Int) ≤ 1048576)))) else ((graftagelaw04_lives.f).bind fun t189 => (some t189))))) else ((graftagelaw04_lives.f).bind fun t182 => (some t182)))
theorem graftagelaw04_DeltaCopies.mono_l : ∀ k, (∀ y0 y1 y2 y3, LeO (graftagelaw04_DeltaCopies.j0 k y0 y1 y2 y3) (graftagelaw04_DeltaCopies.j0 (k + 1) y0 y1 y2 y3)) ∧ (∀ y0 y1 y2 y3 y4, LeO (graftagelaw04_DeltaCopies.l0 k y0 y1 y2 y3 y4) (graftagelaw04_DeltaCopies.l0 (k + 1) y0 y1 y2 y3 y4))
 | 0 => ⟨fun _ _ _ _ r h => by simp [graftagelaw04_DeltaCopies.j0] at h, fun _ _ _ _ _ r h => by simp [graftagelaw04_DeltaCopies.l0] at h⟩
 | k + 1 => by
  obtain ⟨ih0, ih1⟩ := graftagelaw04_DeltaCopies.mono_l k
  refine ⟨?_, ?_⟩
  ·intro y0 y1 y2 y3
   unfold graftagelaw04_DeltaCopies.j0
   repeat' first
   | (with_reducible exact ih0 _ _ _ _)
   | (with_reducible exact ih1 _ _ _ _ _)
   | (with_reducible exact LeO.refl _)
   | (with_reducible exact LeO.none _)
   | (with_reducible refine LeO.ite ?_ ?_)
   | (with_reducible refine LeO.bind ?_ (fun _ => ?_))
   | exact ih0 _ _ _ _
   | exact ih1 _ _ _ _ _
   | exact LeO.none _
   | refine LeO.ite ?_ ?_
   | refine LeO.bind ?_ (fun _ => ?_)
  ·intro y0 y1 y2 y3 y4
   unfold graftagelaw04_DeltaCopies.l0
   repeat' first
   | (with_reducible exact ih0 _ _ _ _)
   | (with_reducible exact ih1 _ _ _ _ _)
   | (with_reducible exact LeO.refl _)
   | (with_reducible exact LeO.none _)
   | (with_reducible refine LeO.ite ?_ ?_)
   | (with_reducible refine LeO.bind ?_ (fun _ => ?_))
   | exact ih0 _ _ _ _
   | exact ih1 _ _ _ _ _
   | exact LeO.none _
   | refine LeO.ite ?_ ?_
   | refine LeO.bind ?_ (fun _ => ?_)
theorem graftagelaw04_DeltaCopies.mono : ∀ a0 a1 k, LeO (graftagelaw04_DeltaCopies.f k a0 a1) (graftagelaw04_DeltaCopies.f (k + 1) a0 a1) := by
 intro a0 a1 k
 obtain ⟨ih0, ih1⟩ := graftagelaw04_DeltaCopies.mono_l k
 unfold graftagelaw04_DeltaCopies.f
 repeat' first
   | (with_reducible exact ih0 _ _ _ _)
   | (with_reducible exact ih1 _ _ _ _ _)
   | (with_reducible exact LeO.refl _)
   | (with_reducible exact LeO.none _)
   | (with_reducible refine LeO.ite ?_ ?_)
   | (with_reducible refine LeO.bind ?_ (fun _ => ?_))
   | exact ih0 _ _ _ _
   | exact ih1 _ _ _ _ _
   | exact LeO.none _
   | refine LeO.ite ?_ ?_
   | refine LeO.bind ?_ (fun _ => ?_)
set_option maxHeartbeats 8000000 in
set_option maxRecDepth 100000 in
theorem graftagelaw04_DeltaCopies.calls (k : Nat) (a0 : ByteArray) (a1 : ByteArray) (r : Bool) (w : World) (h : graftagelaw04_DeltaCopies.f k a0 a1 = some r) (hr : r = true) :
  Calls Try.prog 6 #[.string a0, .string a1] w fun e w' => e = .returned (.bool r) ∧ Below w.heap.size w w' := by
 have hu34 := Try.underlying34
 have HB := Aside0.mk (Below.refl w.heap.size w)
 have H : ((graftagelaw04_few.f a0 a1).bind fun t181 => (if t181 = true then ((delta_Apply.f a0 a1).bind fun bt183 => ((delta_Copies.f a1).bind fun bt185 => (if bt183.2 = 0 then (if bt185.2 = 0 then (graftagelaw04_DeltaCopies.j0 k a0 bt183.1 bt185.1 false) else (graftagelaw04_DeltaCopies.j0 k a0 bt183.1 bt185.1 (decide ((a0.size : Int) ≤ 1048576)))) else ((graftagelaw04_lives.f).bind fun t189 => (some t189))))) else ((graftagelaw04_lives.f).bind fun t182 => (some t182)))) = some r := h
 clear h
 replace H := Option.bind_eq_some_iff.mp H
 obtain ⟨t181, A30, H⟩ := H
 replace H : (if t181 = true then ((delta_Apply.f a0 a1).bind fun bt183 => ((delta_Copies.f a1).bind fun bt185 => (if bt183.2 = 0 then (if bt185.2 = 0 then (graftagelaw04_DeltaCopies.j0 k a0 bt183.1 bt185.1 false) else (graftagelaw04_DeltaCopies.j0 k a0 bt183.1 bt185.1 (decide ((a0.size : Int) ≤ 1048576)))) else ((graftagelaw04_lives.f).bind fun t189 => (some t189))))) else ((graftagelaw04_lives.f).bind fun t182 => (some t182))) = some r := H
 have A3 := Aside0.mk A30
 clear A30
 by_cases c4 : t181 = true
 ·subst c4
  have H1 : ((delta_Apply.f a0 a1).bind fun bt183 => ((delta_Copies.f a1).bind fun bt185 => (if bt183.2 = 0 then (if bt185.2 = 0 then (graftagelaw04_DeltaCopies.j0 k a0 bt183.1 bt185.1 false) else (graftagelaw04_DeltaCopies.j0 k a0 bt183.1 bt185.1 (decide ((a0.size : Int) ≤ 1048576)))) else ((graftagelaw04_lives.f).bind fun t189 => (some t189))))) = some r := by rw [if_pos rfl] at H; exact H
  clear H
  have H := H1
  clear H1
  replace H := Option.bind_eq_some_iff.mp H
  obtain ⟨⟨t183, t184⟩, A50, H⟩ := H
  replace H : ((delta_Copies.f a1).bind fun bt185 => (if t184 = 0 then (if bt185.2 = 0 then (graftagelaw04_DeltaCopies.j0 k a0 t183 bt185.1 false) else (graftagelaw04_DeltaCopies.j0 k a0 t183 bt185.1 (decide ((a0.size : Int) ≤ 1048576)))) else ((graftagelaw04_lives.f).bind fun t189 => (some t189)))) = some r := H
  have A5 := Aside0.mk A50
  clear A50
  replace H := Option.bind_eq_some_iff.mp H
  obtain ⟨⟨t185, t186⟩, A60, H⟩ := H
  replace H : (if t184 = 0 then (if t186 = 0 then (graftagelaw04_DeltaCopies.j0 k a0 t183 t185 false) else (graftagelaw04_DeltaCopies.j0 k a0 t183 t185 (decide ((a0.size : Int) ≤ 1048576)))) else ((graftagelaw04_lives.f).bind fun t189 => (some t189))) = some r := H
  have A6 := Aside0.mk A60
  clear A60
  by_cases c7 : t184 = 0
  ·rw [if_pos c7] at H
   have c7b0 : (t184 == 0) = true := beq_iff_eq.mpr c7
   have c7b1 : (t184 != 0) = false := bne_eq_false_iff_eq.mpr c7
   clear c7
   have HC8 := Aside0.mk H
   clear H
   go_enter Try.func6, Try.ntmps6
   go_upto_region 7 with (first | (go_at_call 9; (with_reducible refine (graftagelaw04_few.calls a0 a1 true _ A3.out).mono ?_); rintro e w' ⟨rfl, ⟨nd, rfl⟩⟩; (try first | exact ⟨rfl, _, World.drewN_drewN _ _ _⟩ | exact ⟨rfl, _, Eq.trans (World.drewN_drewN _ _ _) (congrArg (World.drewN _) (Nat.add_assoc _ _ _))⟩)) | (go_at_call 13; (with_reducible refine (delta_Apply.calls a0 a1 t183 t184 _ A5.out).mono ?_); rintro e w9 ⟨rfl, hb⟩; have n0_ := Aside0.mk (below_step (by repeat (first | (with_reducible first | exact HB.out | apply below_alloc | apply pw_below_drewN | apply below_drew1) | exact HB.out)) hb); clear HB; have HB := n0_; clear n0_; (try clear hb); (try clear hb2); (try clear hk); (try clear hi)) | (go_at_call 16; (with_reducible refine (delta_Copies.calls a1 t185 t186 _ A6.out).mono ?_); rintro e w10 ⟨v187, rfl, ho0, hb⟩; have n0_ := Aside0.mk (Kd.R_lower ho0 (below_size (by repeat (first | (with_reducible first | exact HB.out | apply below_alloc | apply pw_below_drewN | apply below_drew1) | exact HB.out)))); have n1_ := Aside0.mk (below_step (by repeat (first | (with_reducible first | exact HB.out | apply below_alloc | apply pw_below_drewN | apply below_drew1) | exact HB.out)) hb); clear HB; have HO188 := n0_; have HB := n1_; clear n0_ n1_; (try clear hb); (try clear hb2); (try clear hk); (try clear hi); (try clear ho0)))
   repeat (go_quiet (first | (go_at_call 9; (with_reducible refine (graftagelaw04_few.calls a0 a1 true _ A3.out).mono ?_); rintro e w' ⟨rfl, ⟨nd, rfl⟩⟩; (try first | exact ⟨rfl, _, World.drewN_drewN _ _ _⟩ | exact ⟨rfl, _, Eq.trans (World.drewN_drewN _ _ _) (congrArg (World.drewN _) (Nat.add_assoc _ _ _))⟩)) | (go_at_call 13; (with_reducible refine (delta_Apply.calls a0 a1 t183 t184 _ A5.out).mono ?_); rintro e w9 ⟨rfl, hb⟩; have n0_ := Aside0.mk (below_step (by repeat (first | (with_reducible first | exact HB.out | apply below_alloc | apply pw_below_drewN | apply below_drew1) | exact HB.out)) hb); clear HB; have HB := n0_; clear n0_; (try clear hb); (try clear hb2); (try clear hk); (try clear hi)) | (go_at_call 16; (with_reducible refine (delta_Copies.calls a1 t185 t186 _ A6.out).mono ?_); rintro e w10 ⟨v187, rfl, ho0, hb⟩; have n0_ := Aside0.mk (Kd.R_lower ho0 (below_size (by repeat (first | (with_reducible first | exact HB.out | apply below_alloc | apply pw_below_drewN | apply below_drew1) | exact HB.out)))); have n1_ := Aside0.mk (below_step (by repeat (first | (with_reducible first | exact HB.out | apply below_alloc | apply pw_below_drewN | apply below_drew1) | exact HB.out)) hb); clear HB; have HO188 := n0_; have HB := n1_; clear n0_ n1_; (try clear hb); (try clear hb2); (try clear hk); (try clear hi); (try clear ho0))); go_upto_region 7 with (first | (go_at_call 9; (with_reducible refine (graftagelaw04_few.calls a0 a1 true _ A3.out).mono ?_); rintro e w' ⟨rfl, ⟨nd, rfl⟩⟩; (try first | exact ⟨rfl, _, World.drewN_drewN _ _ _⟩ | exact ⟨rfl, _, Eq.trans (World.drewN_drewN _ _ _) (congrArg (World.drewN _) (Nat.add_assoc _ _ _))⟩)) | (go_at_call 13; (with_reducible refine (delta_Apply.calls a0 a1 t183 t184 _ A5.out).mono ?_); rintro e w9 ⟨rfl, hb⟩; have n0_ := Aside0.mk (below_step (by repeat (first | (with_reducible first | exact HB.out | apply below_alloc | apply pw_below_drewN | apply below_drew1) | exact HB.out)) hb); clear HB; have HB := n0_; clear n0_; (try clear hb); (try clear hb2); (try clear hk); (try clear hi)) | (go_at_call 16; (with_reducible refine (delta_Copies.calls a1 t185 t186 _ A6.out).mono ?_); rintro e w10 ⟨v187, rfl, ho0, hb⟩; have n0_ := Aside0.mk (Kd.R_lower ho0 (below_size (by repeat (first | (with_reducible first | exact HB.out | apply below_alloc | apply pw_below_drewN | apply below_drew1) | exact HB.out)))); have n1_ := Aside0.mk (below_step (by repeat (first | (with_reducible first | exact HB.out | apply below_alloc | apply pw_below_drewN | apply below_drew1) | exact HB.out)) hb); clear HB; have HO188 := n0_; have HB := n1_; clear n0_ n1_; (try clear hb); (try clear hb2); (try clear hk); (try clear hi); (try clear ho0))))
   (try simp only [Act.put, List.setIfInBounds_toArray, List.set_cons_zero, List.set_cons_succ])
   go_cut [37] (fun v37 wc => ∃ (kq : Nat) (x37_7 : Bool), v37 = .bool x37_7 ∧ Aside0 (graftagelaw04_DeltaCopies.j0 kq a0 t183 t185 x37_7 = some r) ∧ Aside0 (kq ≤ k) ∧ Aside0 (Kd.R k34 34 wc w.heap.size (fun _ => True) v187 t185) ∧ Aside0 (Below w.heap.size w wc))
   case first =>
    have H := HC8.out
    clear HC8
    by_cases c11 : t186 = 0
    ·rw [if_pos c11] at H
     have c11b0 : (t186 == 0) = true := beq_iff_eq.mpr c11
     have c11b1 : (t186 != 0) = false := bne_eq_false_iff_eq.mpr c11
     clear c11
     (first | rw [c11b0] | (simp only [i64_w, i32_w]; rw [c11b0]) | skip)
     have H' := Aside0.mk H
     clear H
     go_wp2
     repeat (go_quiet (fail); try go_wp2)
     go_meet
     case rel => exact ⟨_, (false), (by first | rfl | (simp; done) | (simp [*]; done)), H', ⟨by first | omega | exact Nat.le_refl _⟩, ⟨by (with_reducible repeat (first | apply Kd.R_alloc | apply Kd.R_drewN | apply Kd.R_drew)); exact HO188.out⟩, ⟨by repeat (first | (with_reducible first | exact HB.out | apply below_alloc | apply pw_below_drewN | apply below_drew1) | exact HB.out)⟩⟩
    ·rw [if_neg c11] at H
     have c11b0 : (t186 == 0) = false := beq_eq_false_iff_ne.mpr c11
     have c11b1 : (t186 != 0) = true := bne_iff_ne.mpr c11
     (first | rw [c11b0] | (simp only [i64_w, i32_w]; rw [c11b0]) | skip)
     have H' := Aside0.mk H
     clear H
     go_wp2
     repeat (go_quiet (fail); try go_wp2)
     go_meet
     case rel => exact ⟨_, (decide ((a0.size : Int) ≤ 1048576)), (by first | rfl | (simp; done) | (simp [*]; done)), H', ⟨by first | omega | exact Nat.le_refl _⟩, ⟨by (with_reducible repeat (first | apply Kd.R_alloc | apply Kd.R_drewN | apply Kd.R_drew)); exact HO188.out⟩, ⟨by repeat (first | (with_reducible first | exact HB.out | apply below_alloc | apply pw_below_drewN | apply below_drew1) | exact HB.out)⟩⟩
   case rest =>
    clear HC8
    try clear c1
    try clear p2
    try clear c4
    try clear c6
    try clear c7
    try clear c7b0
    try clear c7b1
    try clear c11
    try clear c11b0
    try clear c11b1
    obtain ⟨kq, x37_7, rfl, HA, HJ7, HO_7, HB⟩ := hcut
    cases kq with
    | zero => exact absurd HA.out (by simp [graftagelaw04_DeltaCopies.j0])
    | succ kj7 =>
     have H := HA.out
     clear HA
     simp only [graftagelaw04_DeltaCopies.j0] at H
     by_cases c12 : x37_7 = true
     ·subst c12
      have H1 : (some false) = some r := by rw [if_pos rfl] at H; exact H
      clear H
      have H := H1
      clear H1
      exact absurd (H.trans (congrArg some hr)) (by decide)
     ·replace c12 := Bool.eq_false_iff.mpr c12
      subst c12
      have H1 : (graftagelaw04_DeltaCopies.l0 kj7 a0 t183 t185 0 0) = some r := by rw [if_neg (show ¬ (false = true) by decide)] at H; exact H
      clear H
      have H := H1
      clear H1
      have H' := Aside0.mk H
      clear H
      go_wp2
      repeat (go_quiet (fail); try go_wp2)
      go_loopg [9, 10] kj7 (fun kq v9 v10 w' => ∃ (x9_2 : Int) (x10_2 : Int), v9 = .int .i64 x9_2 ∧ v10 = .int .i64 x10_2 ∧ Aside0 (graftagelaw04_DeltaCopies.l0 kq a0 t183 t185 x9_2 x10_2 = some r) ∧ Aside0 (kq ≤ kj7) ∧ Aside0 (Kd.R k34 34 w' w.heap.size (fun _ => True) v187 t185) ∧ Aside0 (Below w.heap.size w w'))
      case atStart => exact ⟨(0), (0), (by first | rfl | (simp; done) | (simp [*]; done)), (by first | rfl | (simp; done) | (simp [*]; done)), H', ⟨Nat.le_refl _⟩, ⟨by (with_reducible repeat (first | apply Kd.R_alloc | apply Kd.R_drewN | apply Kd.R_drew)); exact HO_7.out⟩, ⟨by repeat (first | (with_reducible first | exact HB.out | apply below_alloc | apply pw_below_drewN | apply below_drew1) | exact HB.out)⟩⟩
      case round =>
       clear H'
       try clear c1
       try clear p2
       try clear c4
       try clear c6
       try clear c7
       try clear c7b0
       try clear c7b1
       try clear c11
       try clear c11b0
       try clear c11b1
       try clear c12
       try clear p2
       obtain ⟨x9_2, x10_2, rfl, rfl, HA, HK2, HO_7, HB⟩ := hrel
       cases gk with
       | zero => exact absurd HA.out (by simp [graftagelaw04_DeltaCopies.l0])
       | succ k2 =>
        have H := HA.out
        clear HA
        simp only [graftagelaw04_DeltaCopies.l0] at H
        by_cases c13 : x10_2 < (t185.length : Int)
        ·rw [if_pos c13] at H
         have c13b0 : decide (x10_2 < (t185.length : Int)) = true := decide_eq_true c13
         clear c13
         by_cases c14 : 0 ≤ x10_2
         ·rw [if_pos c14] at H
          have c14b0 : decide (0 ≤ x10_2) = true := decide_eq_true c14
          clear c14
          by_cases c15 : ((rd_T34 t185 x10_2).f2) < 1
          ·rw [if_pos c15] at H
           have c15b0 : decide (((rd_T34 t185 x10_2).f2) < 1) = true := decide_eq_true c15
           clear c15
           exact absurd (H.trans (congrArg some hr)) (by decide)
          ·rw [if_neg c15] at H
           have c15b0 : decide (((rd_T34 t185 x10_2).f2) < 1) = false := decide_eq_false c15
           clear c15
           by_cases c16 : ((rd_T34 t185 x10_2).f1) < x9_2
           ·rw [if_pos c16] at H
            have c16b0 : decide (((rd_T34 t185 x10_2).f1) < x9_2) = true := decide_eq_true c16
            clear c16
            exact absurd (H.trans (congrArg some hr)) (by decide)
           ·rw [if_neg c16] at H
            have c16b0 : decide (((rd_T34 t185 x10_2).f1) < x9_2) = false := decide_eq_false c16
            clear c16
            by_cases c17 : ((rd_T34 t185 x10_2).f2) > (wrap64 ((t183.size : Int) - ((rd_T34 t185 x10_2).f1)))
            ·rw [if_pos c17] at H
             have c17b0 : decide ((wrap64 ((t183.size : Int) - ((rd_T34 t185 x10_2).f1))) < ((rd_T34 t185 x10_2).f2)) = true := decide_eq_true c17
             clear c17
             exact absurd (H.trans (congrArg some hr)) (by decide)
            ·rw [if_neg c17] at H
             have c17b0 : decide ((wrap64 ((t183.size : Int) - ((rd_T34 t185 x10_2).f1))) < ((rd_T34 t185 x10_2).f2)) = false := decide_eq_false c17
             clear c17
             by_cases c18 : ((rd_T34 t185 x10_2).f0) < 0
             ·rw [if_pos c18] at H
              have c18b0 : decide (((rd_T34 t185 x10_2).f0) < 0) = true := decide_eq_true c18
              clear c18
              exact absurd (H.trans (congrArg some hr)) (by decide)
             ·rw [if_neg c18] at H
              have c18b0 : decide (((rd_T34 t185 x10_2).f0) < 0) = false := decide_eq_false c18
              clear c18
              by_cases c19 : ((rd_T34 t185 x10_2).f2) > (a0.size : Int)
              ·rw [if_pos c19] at H
               have c19b0 : decide ((a0.size : Int) < ((rd_T34 t185 x10_2).f2)) = true := decide_eq_true c19
               clear c19
               exact absurd (H.trans (congrArg some hr)) (by decide)
              ·rw [if_neg c19] at H
               have c19b0 : decide ((a0.size : Int) < ((rd_T34 t185 x10_2).f2)) = false := decide_eq_false c19
               clear c19
               by_cases c20 : ((rd_T34 t185 x10_2).f0) > (wrap64 ((a0.size : Int) - ((rd_T34 t185 x10_2).f2)))
               ·rw [if_pos c20] at H
                have c20b0 : decide ((wrap64 ((a0.size : Int) - ((rd_T34 t185 x10_2).f2))) < ((rd_T34 t185 x10_2).f0)) = true := decide_eq_true c20
                clear c20
                exact absurd (H.trans (congrArg some hr)) (by decide)
               ·rw [if_neg c20] at H
                have c20b0 : decide ((wrap64 ((a0.size : Int) - ((rd_T34 t185 x10_2).f2))) < ((rd_T34 t185 x10_2).f0)) = false := decide_eq_false c20
                clear c20
                by_cases c21 : 0 ≤ ((rd_T34 t185 x10_2).f0)
                ·rw [if_pos c21] at H
                 have c21b0 := eq_true c21
                 have c21b1 : decide (0 ≤ ((rd_T34 t185 x10_2).f0)) = true := decide_eq_true c21
                 clear c21
                 by_cases c22 : ((rd_T34 t185 x10_2).f0) ≤ (wrap64 (((rd_T34 t185 x10_2).f0) + ((rd_T34 t185 x10_2).f2)))
                 ·rw [if_pos c22] at H
                  have c22b0 := eq_true c22
                  have c22b1 : decide (((rd_T34 t185 x10_2).f0) ≤ (wrap64 (((rd_T34 t185 x10_2).f0) + ((rd_T34 t185 x10_2).f2)))) = true := decide_eq_true c22
                  by_cases c23 : (wrap64 (((rd_T34 t185 x10_2).f0) + ((rd_T34 t185 x10_2).f2))) ≤ (a0.size : Int)
                  ·rw [if_pos c23] at H
                   have c23b0 := eq_true c23
                   have c23b1 : decide ((wrap64 (((rd_T34 t185 x10_2).f0) + ((rd_T34 t185 x10_2).f2))) ≤ (a0.size : Int)) = true := decide_eq_true c23
                   by_cases c24 : 0 ≤ ((rd_T34 t185 x10_2).f1)
                   ·rw [if_pos c24] at H
                    have c24b0 := eq_true c24
                    have c24b1 : decide (0 ≤ ((rd_T34 t185 x10_2).f1)) = true := decide_eq_true c24
                    clear c24
                    by_cases c25 : ((rd_T34 t185 x10_2).f1) ≤ (wrap64 (((rd_T34 t185 x10_2).f1) + ((rd_T34 t185 x10_2).f2)))
                    ·rw [if_pos c25] at H
                     have c25b0 := eq_true c25
                     have c25b1 : decide (((rd_T34 t185 x10_2).f1) ≤ (wrap64 (((rd_T34 t185 x10_2).f1) + ((rd_T34 t185 x10_2).f2)))) = true := decide_eq_true c25
                     by_cases c26 : (wrap64 (((rd_T34 t185 x10_2).f1) + ((rd_T34 t185 x10_2).f2))) ≤ (t183.size : Int)
                     ·rw [if_pos c26] at H
                      have c26b0 := eq_true c26
                      have c26b1 : decide ((wrap64 (((rd_T34 t185 x10_2).f1) + ((rd_T34 t185 x10_2).f2))) ≤ (t183.size : Int)) = true := decide_eq_true c26
                      by_cases c27 : (a0.extract (((rd_T34 t185 x10_2).f0) : Int).toNat ((wrap64 (((rd_T34 t185 x10_2).f0) + ((rd_T34 t185 x10_2).f2))) : Int).toNat).toList = (t183.extract (((rd_T34 t185 x10_2).f1) : Int).toNat ((wrap64 (((rd_T34 t185 x10_2).f1) + ((rd_T34 t185 x10_2).f2))) : Int).toNat).toList
                      ·rw [if_pos c27] at H
                       have c27b0 : ((a0.extract (((rd_T34 t185 x10_2).f0) : Int).toNat ((wrap64 (((rd_T34 t185 x10_2).f0) + ((rd_T34 t185 x10_2).f2))) : Int).toNat).toList == (t183.extract (((rd_T34 t185 x10_2).f1) : Int).toNat ((wrap64 (((rd_T34 t185 x10_2).f1) + ((rd_T34 t185 x10_2).f2))) : Int).toNat).toList) = true := beq_iff_eq.mpr c27
                       have c27b1 : ((a0.extract (((rd_T34 t185 x10_2).f0) : Int).toNat ((wrap64 (((rd_T34 t185 x10_2).f0) + ((rd_T34 t185 x10_2).f2))) : Int).toNat).toList != (t183.extract (((rd_T34 t185 x10_2).f1) : Int).toNat ((wrap64 (((rd_T34 t185 x10_2).f1) + ((rd_T34 t185 x10_2).f2))) : Int).toNat).toList) = false := bne_eq_false_iff_eq.mpr c27
                       clear c27
                       have H' := Aside0.mk H
                       clear H
                       obtain ⟨Ao28, co28, eo28⟩ := Kd.R_slice HO_7.out
                       subst eo28
                       have p190 : 0 ≤ (x10_2 : Int) := of_decide_eq_true (by first | (with_reducible assumption) | assumption)
                       have q190 : x10_2 < (t185.length : Int) := of_decide_eq_true (by first | (with_reducible assumption) | assumption)
                       obtain ⟨ad190, e190, hx190_0, hx190_1, hx190_2⟩ := at_T34 (Kd.R_reads' HO_7.out).2.2 x10_2 p190 q190
                       cases e190
                       replace p190 := eq_true p190
                       replace q190 := eq_true q190
                       go_wp2_with (first | ((with_reducible refine gate_dst (N := 11) rfl ?_); (try (refine gate_guard (by rfl) ?_; dsimp only)); refine box_event ?hg (N := 11) ?hd (cs := #[.int .i64 0, .int .i64 0, .int .i64 0]) (t := 34) ?hr ?_; (case hd => rfl); (case hg => rfl); (case hr => first | (go_simp; done) | (go_simp; rfl)); intro gb191 hg w29 hbox hb; have n0_ := Aside0.mk (Kd.R_below (Kd.R_elderB (by (with_reducible repeat (first | apply Kd.R_alloc | apply Kd.R_drewN | apply Kd.R_drew)); exact HO_7.out) gb191 (Nat.le_of_eq hg.symm)) hb); have n1_ := Aside0.mk (below_step (by repeat (first | (with_reducible first | exact HB.out | apply below_alloc | apply pw_below_drewN | apply below_drew1) | exact HB.out)) hb); have n2_ := Aside0.mk (hbox); have n3_ := Aside0.mk ((by rw [hg]; exact (below_size (by repeat (first | (with_reducible first | exact HB.out | apply below_alloc | apply pw_below_drewN | apply below_drew1) | exact HB.out))) : w.heap.size ≤ gb191)); have n4_ := Aside0.mk ((by rw [hg]; exact (below_size (by repeat (first | (with_reducible first | exact HB.out | apply below_alloc | apply pw_below_drewN | apply below_drew1) | exact HB.out))) : w.heap.size ≤ gb191)); clear HO_7; clear HB; have HO_7 := n0_; have HB := n1_; have BK191 := n2_; have GW191 := n3_; have GE191 := n4_; clear n0_ n1_ n2_ n3_ n4_; clear hb hbox hg; have hcz30_0 : w29.cell? ⟨gb191, 0, none⟩ = some (.int .i64 0) := (blk_cell BK191.out 0).trans rfl; have hcz30_1 : w29.cell? ⟨gb191, 1, none⟩ = some (.int .i64 0) := (blk_cell BK191.out 1).trans rfl; have hcz30_2 : w29.cell? ⟨gb191, 2, none⟩ = some (.int .i64 0) := (blk_cell BK191.out 2).trans rfl; have hfz30_0 := blk_frozen BK191.out 0; have hfz30_1 := blk_frozen BK191.out 1; have hfz30_2 := blk_frozen BK191.out 2))
                       repeat (go_quiet (first | ((with_reducible refine gate_dst (N := 11) rfl ?_); (try (refine gate_guard (by rfl) ?_; dsimp only)); refine box_event ?hg (N := 11) ?hd (cs := #[.int .i64 0, .int .i64 0, .int .i64 0]) (t := 34) ?hr ?_; (case hd => rfl); (case hg => rfl); (case hr => first | (go_simp; done) | (go_simp; rfl)); intro gb191 hg w29 hbox hb; have n0_ := Aside0.mk (Kd.R_below (Kd.R_elderB (by (with_reducible repeat (first | apply Kd.R_alloc | apply Kd.R_drewN | apply Kd.R_drew)); exact HO_7.out) gb191 (Nat.le_of_eq hg.symm)) hb); have n1_ := Aside0.mk (below_step (by repeat (first | (with_reducible first | exact HB.out | apply below_alloc | apply pw_below_drewN | apply below_drew1) | exact HB.out)) hb); have n2_ := Aside0.mk (hbox); have n3_ := Aside0.mk ((by rw [hg]; exact (below_size (by repeat (first | (with_reducible first | exact HB.out | apply below_alloc | apply pw_below_drewN | apply below_drew1) | exact HB.out))) : w.heap.size ≤ gb191)); have n4_ := Aside0.mk ((by rw [hg]; exact (below_size (by repeat (first | (with_reducible first | exact HB.out | apply below_alloc | apply pw_below_drewN | apply below_drew1) | exact HB.out))) : w.heap.size ≤ gb191)); clear HO_7; clear HB; have HO_7 := n0_; have HB := n1_; have BK191 := n2_; have GW191 := n3_; have GE191 := n4_; clear n0_ n1_ n2_ n3_ n4_; clear hb hbox hg; have hcz30_0 : w29.cell? ⟨gb191, 0, none⟩ = some (.int .i64 0) := (blk_cell BK191.out 0).trans rfl; have hcz30_1 : w29.cell? ⟨gb191, 1, none⟩ = some (.int .i64 0) := (blk_cell BK191.out 1).trans rfl; have hcz30_2 : w29.cell? ⟨gb191, 2, none⟩ = some (.int .i64 0) := (blk_cell BK191.out 2).trans rfl; have hfz30_0 := blk_frozen BK191.out 0; have hfz30_1 := blk_frozen BK191.out 1; have hfz30_2 := blk_frozen BK191.out 2)); try go_wp2_with (first | ((with_reducible refine gate_dst (N := 11) rfl ?_); (try (refine gate_guard (by rfl) ?_; dsimp only)); refine box_event ?hg (N := 11) ?hd (cs := #[.int .i64 0, .int .i64 0, .int .i64 0]) (t := 34) ?hr ?_; (case hd => rfl); (case hg => rfl); (case hr => first | (go_simp; done) | (go_simp; rfl)); intro gb191 hg w29 hbox hb; have n0_ := Aside0.mk (Kd.R_below (Kd.R_elderB (by (with_reducible repeat (first | apply Kd.R_alloc | apply Kd.R_drewN | apply Kd.R_drew)); exact HO_7.out) gb191 (Nat.le_of_eq hg.symm)) hb); have n1_ := Aside0.mk (below_step (by repeat (first | (with_reducible first | exact HB.out | apply below_alloc | apply pw_below_drewN | apply below_drew1) | exact HB.out)) hb); have n2_ := Aside0.mk (hbox); have n3_ := Aside0.mk ((by rw [hg]; exact (below_size (by repeat (first | (with_reducible first | exact HB.out | apply below_alloc | apply pw_below_drewN | apply below_drew1) | exact HB.out))) : w.heap.size ≤ gb191)); have n4_ := Aside0.mk ((by rw [hg]; exact (below_size (by repeat (first | (with_reducible first | exact HB.out | apply below_alloc | apply pw_below_drewN | apply below_drew1) | exact HB.out))) : w.heap.size ≤ gb191)); clear HO_7; clear HB; have HO_7 := n0_; have HB := n1_; have BK191 := n2_; have GW191 := n3_; have GE191 := n4_; clear n0_ n1_ n2_ n3_ n4_; clear hb hbox hg; have hcz30_0 : w29.cell? ⟨gb191, 0, none⟩ = some (.int .i64 0) := (blk_cell BK191.out 0).trans rfl; have hcz30_1 : w29.cell? ⟨gb191, 1, none⟩ = some (.int .i64 0) := (blk_cell BK191.out 1).trans rfl; have hcz30_2 : w29.cell? ⟨gb191, 2, none⟩ = some (.int .i64 0) := (blk_cell BK191.out 2).trans rfl; have hfz30_0 := blk_frozen BK191.out 0; have hfz30_1 := blk_frozen BK191.out 1; have hfz30_2 := blk_frozen BK191.out 2)))
                       go_roundg k2
                       case measure => have := HJ7.out; have := HK2.out; omega
                       case rel => exact ⟨(wrap64 (((rd_T34 t185 x10_2).f1) + ((rd_T34 t185 x10_2).f2))), (wrap64 (x10_2 + 1)), (by first | rfl | (simp; done) | (simp [*]; done)), (by first | rfl | (simp; done) | (simp [*]; done)), H', ⟨by have := HJ7.out; have := HK2.out; omega⟩, ⟨by (with_reducible repeat (first | apply Kd.R_alloc | apply Kd.R_drewN | apply Kd.R_drew)); exact Kd.R_mono (Kd.R_far (p := ⟨gb191, 2, none⟩) (Kd.R_far (p := ⟨gb191, 1, none⟩) (Kd.R_far (p := ⟨gb191, 0, none⟩) (Kd.R_mono HO_7.out (fun k_ hk => (⟨hk, hk.2⟩ : _ ∧ k_ ≠ gb191))) (fun _ hk => hk.2) (.int .i64 ((rd_T34 t185 x10_2).f0))) (fun _ hk => hk.2) (.int .i64 ((rd_T34 t185 x10_2).f1))) (fun _ hk => hk.2) (.int .i64 ((rd_T34 t185 x10_2).f2))) (fun _ hk => trivial)⟩, ⟨by repeat (first | (with_reducible first | exact HB.out | apply below_alloc | apply pw_below_drewN | apply below_drew1 | refine below_set ?_ GE191.out) | exact HB.out)⟩⟩
                      ·rw [if_neg c27] at H
                       have c27b0 : ((a0.extract (((rd_T34 t185 x10_2).f0) : Int).toNat ((wrap64 (((rd_T34 t185 x10_2).f0) + ((rd_T34 t185 x10_2).f2))) : Int).toNat).toList == (t183.extract (((rd_T34 t185 x10_2).f1) : Int).toNat ((wrap64 (((rd_T34 t185 x10_2).f1) + ((rd_T34 t185 x10_2).f2))) : Int).toNat).toList) = false := beq_eq_false_iff_ne.mpr c27
                       have c27b1 : ((a0.extract (((rd_T34 t185 x10_2).f0) : Int).toNat ((wrap64 (((rd_T34 t185 x10_2).f0) + ((rd_T34 t185 x10_2).f2))) : Int).toNat).toList != (t183.extract (((rd_T34 t185 x10_2).f1) : Int).toNat ((wrap64 (((rd_T34 t185 x10_2).f1) + ((rd_T34 t185 x10_2).f2))) : Int).toNat).toList) = true := bne_iff_ne.mpr c27
                       exact absurd (H.trans (congrArg some hr)) (by decide)
                     ·rw [if_neg c26] at H
                      exact absurd H (by simp)
                    ·rw [if_neg c25] at H
                     exact absurd H (by simp)
                   ·rw [if_neg c24] at H
                    exact absurd H (by simp)
                  ·rw [if_neg c23] at H
                   exact absurd H (by simp)
                 ·rw [if_neg c22] at H
                  exact absurd H (by simp)
                ·rw [if_neg c21] at H
                 exact absurd H (by simp)
         ·rw [if_neg c14] at H
          exact absurd H (by simp)
        ·rw [if_neg c13] at H
         have c13b0 : decide (x10_2 < (t185.length : Int)) = false := decide_eq_false c13
         clear c13
         replace H := Option.bind_eq_some_iff.mp H
         obtain ⟨t192, A310, H⟩ := H
         replace H : (some t192) = some r := H
         have A31 := Aside0.mk A310
         clear A310
         obtain rfl := Option.some.inj H
         obtain ⟨Ao32, co32, eo32⟩ := Kd.R_slice HO_7.out
         subst eo32
         go_wp2_with (first | (go_at_call 10; (with_reducible refine (graftagelaw04_lives.calls  t192 _ A31.out).mono ?_); rintro e w33 ⟨rfl, hb⟩; have n0_ := Aside0.mk (Kd.R_below (by (with_reducible repeat (first | apply Kd.R_alloc | apply Kd.R_drewN | apply Kd.R_drew)); exact HO_7.out) hb); have n1_ := Aside0.mk (below_step (by repeat (first | (with_reducible first | exact HB.out | apply below_alloc | apply pw_below_drewN | apply below_drew1) | exact HB.out)) hb); clear HO_7; clear HB; have HO_7 := n0_; have HB := n1_; clear n0_ n1_; (try clear hb); (try clear hb2); (try clear hk); (try clear hi)))
         repeat (go_quiet (first | (go_at_call 10; (with_reducible refine (graftagelaw04_lives.calls  t192 _ A31.out).mono ?_); rintro e w33 ⟨rfl, hb⟩; have n0_ := Aside0.mk (Kd.R_below (by (with_reducible repeat (first | apply Kd.R_alloc | apply Kd.R_drewN | apply Kd.R_drew)); exact HO_7.out) hb); have n1_ := Aside0.mk (below_step (by repeat (first | (with_reducible first | exact HB.out | apply below_alloc | apply pw_below_drewN | apply below_drew1) | exact HB.out)) hb); clear HO_7; clear HB; have HO_7 := n0_; have HB := n1_; clear n0_ n1_; (try clear hb); (try clear hb2); (try clear hk); (try clear hi))); try go_wp2_with (first | (go_at_call 10; (with_reducible refine (graftagelaw04_lives.calls  t192 _ A31.out).mono ?_); rintro e w33 ⟨rfl, hb⟩; have n0_ := Aside0.mk (Kd.R_below (by (with_reducible repeat (first | apply Kd.R_alloc | apply Kd.R_drewN | apply Kd.R_drew)); exact HO_7.out) hb); have n1_ := Aside0.mk (below_step (by repeat (first | (with_reducible first | exact HB.out | apply below_alloc | apply pw_below_drewN | apply below_drew1) | exact HB.out)) hb); clear HO_7; clear HB; have HO_7 := n0_; have HB := n1_; clear n0_ n1_; (try clear hb); (try clear hb2); (try clear hk); (try clear hi))))
         go_ret
         exact ⟨by first | rfl | (simp [errW_none, errW_some] <;> rfl) | (simp [*, errW_none, errW_some] <;> rfl), by repeat (first | (with_reducible first | exact HB.out | apply below_alloc | apply pw_below_drewN | apply below_drew1) | exact HB.out)⟩
  ·rw [if_neg c7] at H
   have c7b0 : (t184 == 0) = false := beq_eq_false_iff_ne.mpr c7
   have c7b1 : (t184 != 0) = true := bne_iff_ne.mpr c7
   replace H := Option.bind_eq_some_iff.mp H
   obtain ⟨t189, A340, H⟩ := H
   replace H : (some t189) = some r := H
   have A34 := Aside0.mk A340
   clear A340
   obtain rfl := Option.some.inj H
   go_enter Try.func6, Try.ntmps6
   go_wp2_with (first | (go_at_call 9; (with_reducible refine (graftagelaw04_few.calls a0 a1 true _ A3.out).mono ?_); rintro e w' ⟨rfl, ⟨nd, rfl⟩⟩; (try first | exact ⟨rfl, _, World.drewN_drewN _ _ _⟩ | exact ⟨rfl, _, Eq.trans (World.drewN_drewN _ _ _) (congrArg (World.drewN _) (Nat.add_assoc _ _ _))⟩)) | (go_at_call 13; (with_reducible refine (delta_Apply.calls a0 a1 t183 t184 _ A5.out).mono ?_); rintro e w35 ⟨rfl, hb⟩; have n0_ := Aside0.mk (below_step (by repeat (first | (with_reducible first | exact HB.out | apply below_alloc | apply pw_below_drewN | apply below_drew1) | exact HB.out)) hb); clear HB; have HB := n0_; clear n0_; (try clear hb); (try clear hb2); (try clear hk); (try clear hi)) | (go_at_call 16; (with_reducible refine (delta_Copies.calls a1 t185 t186 _ A6.out).mono ?_); rintro e w36 ⟨v187, rfl, ho0, hb⟩; have n0_ := Aside0.mk (Kd.R_lower ho0 (below_size (by repeat (first | (with_reducible first | exact HB.out | apply below_alloc | apply pw_below_drewN | apply below_drew1) | exact HB.out)))); have n1_ := Aside0.mk (below_step (by repeat (first | (with_reducible first | exact HB.out | apply below_alloc | apply pw_below_drewN | apply below_drew1) | exact HB.out)) hb); clear HB; have HO188 := n0_; have HB := n1_; clear n0_ n1_; (try clear hb); (try clear hb2); (try clear hk); (try clear hi); (try clear ho0)) | (go_at_call 10; (with_reducible refine (graftagelaw04_lives.calls  t189 _ A34.out).mono ?_); rintro e w37 ⟨rfl, hb⟩; have n0_ := Aside0.mk (Kd.R_below (by (with_reducible repeat (first | apply Kd.R_alloc | apply Kd.R_drewN | apply Kd.R_drew)); exact HO188.out) hb); have n1_ := Aside0.mk (below_step (by repeat (first | (with_reducible first | exact HB.out | apply below_alloc | apply pw_below_drewN | apply below_drew1) | exact HB.out)) hb); clear HO188; clear HB; have HO188 := n0_; have HB := n1_; clear n0_ n1_; (try clear hb); (try clear hb2); (try clear hk); (try clear hi)))
   repeat (go_quiet (first | (go_at_call 9; (with_reducible refine (graftagelaw04_few.calls a0 a1 true _ A3.out).mono ?_); rintro e w' ⟨rfl, ⟨nd, rfl⟩⟩; (try first | exact ⟨rfl, _, World.drewN_drewN _ _ _⟩ | exact ⟨rfl, _, Eq.trans (World.drewN_drewN _ _ _) (congrArg (World.drewN _) (Nat.add_assoc _ _ _))⟩)) | (go_at_call 13; (with_reducible refine (delta_Apply.calls a0 a1 t183 t184 _ A5.out).mono ?_); rintro e w35 ⟨rfl, hb⟩; have n0_ := Aside0.mk (below_step (by repeat (first | (with_reducible first | exact HB.out | apply below_alloc | apply pw_below_drewN | apply below_drew1) | exact HB.out)) hb); clear HB; have HB := n0_; clear n0_; (try clear hb); (try clear hb2); (try clear hk); (try clear hi)) | (go_at_call 16; (with_reducible refine (delta_Copies.calls a1 t185 t186 _ A6.out).mono ?_); rintro e w36 ⟨v187, rfl, ho0, hb⟩; have n0_ := Aside0.mk (Kd.R_lower ho0 (below_size (by repeat (first | (with_reducible first | exact HB.out | apply below_alloc | apply pw_below_drewN | apply below_drew1) | exact HB.out)))); have n1_ := Aside0.mk (below_step (by repeat (first | (with_reducible first | exact HB.out | apply below_alloc | apply pw_below_drewN | apply below_drew1) | exact HB.out)) hb); clear HB; have HO188 := n0_; have HB := n1_; clear n0_ n1_; (try clear hb); (try clear hb2); (try clear hk); (try clear hi); (try clear ho0)) | (go_at_call 10; (with_reducible refine (graftagelaw04_lives.calls  t189 _ A34.out).mono ?_); rintro e w37 ⟨rfl, hb⟩; have n0_ := Aside0.mk (Kd.R_below (by (with_reducible repeat (first | apply Kd.R_alloc | apply Kd.R_drewN | apply Kd.R_drew)); exact HO188.out) hb); have n1_ := Aside0.mk (below_step (by repeat (first | (with_reducible first | exact HB.out | apply below_alloc | apply pw_below_drewN | apply below_drew1) | exact HB.out)) hb); clear HO188; clear HB; have HO188 := n0_; have HB := n1_; clear n0_ n1_; (try clear hb); (try clear hb2); (try clear hk); (try clear hi))); try go_wp2_with (first | (go_at_call 9; (with_reducible refine (graftagelaw04_few.calls a0 a1 true _ A3.out).mono ?_); rintro e w' ⟨rfl, ⟨nd, rfl⟩⟩; (try first | exact ⟨rfl, _, World.drewN_drewN _ _ _⟩ | exact ⟨rfl, _, Eq.trans (World.drewN_drewN _ _ _) (congrArg (World.drewN _) (Nat.add_assoc _ _ _))⟩)) | (go_at_call 13; (with_reducible refine (delta_Apply.calls a0 a1 t183 t184 _ A5.out).mono ?_); rintro e w35 ⟨rfl, hb⟩; have n0_ := Aside0.mk (below_step (by repeat (first | (with_reducible first | exact HB.out | apply below_alloc | apply pw_below_drewN | apply below_drew1) | exact HB.out)) hb); clear HB; have HB := n0_; clear n0_; (try clear hb); (try clear hb2); (try clear hk); (try clear hi)) | (go_at_call 16; (with_reducible refine (delta_Copies.calls a1 t185 t186 _ A6.out).mono ?_); rintro e w36 ⟨v187, rfl, ho0, hb⟩; have n0_ := Aside0.mk (Kd.R_lower ho0 (below_size (by repeat (first | (with_reducible first | exact HB.out | apply below_alloc | apply pw_below_drewN | apply below_drew1) | exact HB.out)))); have n1_ := Aside0.mk (below_step (by repeat (first | (with_reducible first | exact HB.out | apply below_alloc | apply pw_below_drewN | apply below_drew1) | exact HB.out)) hb); clear HB; have HO188 := n0_; have HB := n1_; clear n0_ n1_; (try clear hb); (try clear hb2); (try clear hk); (try clear hi); (try clear ho0)) | (go_at_call 10; (with_reducible refine (graftagelaw04_lives.calls  t189 _ A34.out).mono ?_); rintro e w37 ⟨rfl, hb⟩; have n0_ := Aside0.mk (Kd.R_below (by (with_reducible repeat (first | apply Kd.R_alloc | apply Kd.R_drewN | apply Kd.R_drew)); exact HO188.out) hb); have n1_ := Aside0.mk (below_step (by repeat (first | (with_reducible first | exact HB.out | apply below_alloc | apply pw_below_drewN | apply below_drew1) | exact HB.out)) hb); clear HO188; clear HB; have HO188 := n0_; have HB := n1_; clear n0_ n1_; (try clear hb); (try clear hb2); (try clear hk); (try clear hi))))
   go_ret
   exact ⟨by first | rfl | (simp [errW_none, errW_some] <;> rfl) | (simp [*, errW_none, errW_some] <;> rfl), by repeat (first | (with_reducible first | exact HB.out | apply below_alloc | apply pw_below_drewN | apply below_drew1) | exact HB.out)⟩
 ·replace c4 := Bool.eq_false_iff.mpr c4
  subst c4
  have H1 : ((graftagelaw04_lives.f).bind fun t182 => (some t182)) = some r := by rw [if_neg (show ¬ (false = true) by decide)] at H; exact H
  clear H
  have H := H1
  clear H1
  replace H := Option.bind_eq_some_iff.mp H
  obtain ⟨t182, A380, H⟩ := H
  replace H : (some t182) = some r := H
  have A38 := Aside0.mk A380
  clear A380
  obtain rfl := Option.some.inj H
  go_enter Try.func6, Try.ntmps6
  go_wp2_with (first | (go_at_call 9; (with_reducible refine (graftagelaw04_few.calls a0 a1 false _ A3.out).mono ?_); rintro e w' ⟨rfl, ⟨nd, rfl⟩⟩; (try first | exact ⟨rfl, _, World.drewN_drewN _ _ _⟩ | exact ⟨rfl, _, Eq.trans (World.drewN_drewN _ _ _) (congrArg (World.drewN _) (Nat.add_assoc _ _ _))⟩)) | (go_at_call 10; (with_reducible refine (graftagelaw04_lives.calls  t182 _ A38.out).mono ?_); rintro e w39 ⟨rfl, hb⟩; have n0_ := Aside0.mk (below_step (by repeat (first | (with_reducible first | exact HB.out | apply below_alloc | apply pw_below_drewN | apply below_drew1) | exact HB.out)) hb); clear HB; have HB := n0_; clear n0_; (try clear hb); (try clear hb2); (try clear hk); (try clear hi)))
  repeat (go_quiet (first | (go_at_call 9; (with_reducible refine (graftagelaw04_few.calls a0 a1 false _ A3.out).mono ?_); rintro e w' ⟨rfl, ⟨nd, rfl⟩⟩; (try first | exact ⟨rfl, _, World.drewN_drewN _ _ _⟩ | exact ⟨rfl, _, Eq.trans (World.drewN_drewN _ _ _) (congrArg (World.drewN _) (Nat.add_assoc _ _ _))⟩)) | (go_at_call 10; (with_reducible refine (graftagelaw04_lives.calls  t182 _ A38.out).mono ?_); rintro e w39 ⟨rfl, hb⟩; have n0_ := Aside0.mk (below_step (by repeat (first | (with_reducible first | exact HB.out | apply below_alloc | apply pw_below_drewN | apply below_drew1) | exact HB.out)) hb); clear HB; have HB := n0_; clear n0_; (try clear hb); (try clear hb2); (try clear hk); (try clear hi))); try go_wp2_with (first | (go_at_call 9; (with_reducible refine (graftagelaw04_few.calls a0 a1 false _ A3.out).mono ?_); rintro e w' ⟨rfl, ⟨nd, rfl⟩⟩; (try first | exact ⟨rfl, _, World.drewN_drewN _ _ _⟩ | exact ⟨rfl, _, Eq.trans (World.drewN_drewN _ _ _) (congrArg (World.drewN _) (Nat.add_assoc _ _ _))⟩)) | (go_at_call 10; (with_reducible refine (graftagelaw04_lives.calls  t182 _ A38.out).mono ?_); rintro e w39 ⟨rfl, hb⟩; have n0_ := Aside0.mk (below_step (by repeat (first | (with_reducible first | exact HB.out | apply below_alloc | apply pw_below_drewN | apply below_drew1) | exact HB.out)) hb); clear HB; have HB := n0_; clear n0_; (try clear hb); (try clear hb2); (try clear hk); (try clear hi))))
  go_ret
  exact ⟨by first | rfl | (simp [errW_none, errW_some] <;> rfl) | (simp [*, errW_none, errW_some] <;> rfl), by repeat (first | (with_reducible first | exact HB.out | apply below_alloc | apply pw_below_drewN | apply below_drew1) | exact HB.out)⟩

/-- THE ONE PURE STATEMENT of graftagelaw04_DeltaCopies: yours. -/
def graftagelaw04_DeltaCopies.Pure : Prop := ∀ (a0 : ByteArray) (a1 : ByteArray), a0.size ≤ 140737488351232 → a1.size ≤ 140737488351232 → ∃ k, graftagelaw04_DeltaCopies.f k a0 a1 = some true
theorem graftagelaw04_DeltaCopies.walk (P : graftagelaw04_DeltaCopies.Pure) (a0 : ByteArray) (a1 : ByteArray) (w : World) (w0 : a0.size ≤ 140737488351232) (w1 : a1.size ≤ 140737488351232) :
  Calls Try.prog 6 #[.string a0, .string a1] w fun e w' => e = .returned (.bool true) ∧ Below w.heap.size w w' := by
 obtain ⟨k, h⟩ := P a0 a1 w0 w1
 refine (graftagelaw04_DeltaCopies.calls k a0 a1 true w h rfl).mono ?_
 rintro e w' ⟨rfl, hd⟩
 exact ⟨rfl, hd⟩

end Go.Proofs.Ytggjkijgbpnhiaa.PDl
