-- Written by wip/gen/gen.py of this session out of the seat's translation.
import Derived.Test.YtggjkijgbpnhiaaPDlx0
import Derived.Test.YtggjkijgbpnhiaaPDlx5
import Derived.Test.YtggjkijgbpnhiaaDlApplyF
import Derived.Test.YtggjkijgbpnhiaaDlMake
import Derived.Test.YtggjkijgbpnhiaaDlSizes
namespace Go.Proofs.Ytggjkijgbpnhiaa.PDl
open Go.Proofs.Ytggjkijgbpnhiaa.Hand Go.RowKit Go.Proofs.YtggjkijgbpnhiaaW.PrintWords Go.Proofs.YtggjkijgbpnhiaaW.PrintLast Go.Proofs.YtggjkijgbpnhiaaW.PrintMore
attribute [local go_sem] max2_int min2_int max_two min_two max_three min_three max_four min_four   -- for this text's walks alone
set_option linter.unusedVariables false
set_option linter.unusedSimpArgs false

-- given by hand: function 15 (delta_Sizes)

/-! ### graftagelaw04_DeltaBack: function 5 -/
def graftagelaw04_DeltaBack.j0 : Nat → ByteArray → ByteArray → Bool → Option (Bool)
 | 0, _, _, _ => none
 | k + 1, x0, x1, x17 => if x17 = true then ((graftagelaw04_lives.f).bind fun t172 => (some t172)) else ((delta_Make.f x0 x1).bind fun t173 => ((delta_Apply.f x0 t173).bind fun bt174 => ((delta_Make.f x0 x1).bind fun t176 => ((delta_Sizes.f t176).bind fun bt177 => (if bt174.2 = 0 then (if bt174.1.toList = x1.toList then (if bt177.2.2 = 0 then (if bt177.1 = (x0.size : Int) then (if bt177.2.1 = (x1.size : Int) then ((graftagelaw04_lives.f).bind fun t180 => (some t180)) else (some false)) else (some false)) else (some false)) else (some false)) else (some false))))))
def graftagelaw04_DeltaBack.f (k : Nat) (a0 : ByteArray) (a1 : ByteArray) : Option (Bool) := if (a0.size : Int) > 1048576 then (graftagelaw04_DeltaBack.j0 k a0 a1 true) else (graftagelaw04_DeltaBack.j0 k a0 a1 (decide ((a1.size : Int) > 1048576)))
theorem graftagelaw04_DeltaBack.mono_l : ∀ k, (∀ y0 y1 y2, LeO (graftagelaw04_DeltaBack.j0 k y0 y1 y2) (graftagelaw04_DeltaBack.j0 (k + 1) y0 y1 y2))
 | 0 => fun _ _ _ r h => by simp [graftagelaw04_DeltaBack.j0] at h
 | k + 1 => by
  have ih0 := graftagelaw04_DeltaBack.mono_l k
  ·intro y0 y1 y2
   unfold graftagelaw04_DeltaBack.j0
   repeat' first
   | (with_reducible exact ih0 _ _ _)
   | (with_reducible exact LeO.refl _)
   | (with_reducible exact LeO.none _)
   | (with_reducible refine LeO.ite ?_ ?_)
   | (with_reducible refine LeO.bind ?_ (fun _ => ?_))
   | exact ih0 _ _ _
   | exact LeO.none _
   | refine LeO.ite ?_ ?_
   | refine LeO.bind ?_ (fun _ => ?_)
theorem graftagelaw04_DeltaBack.mono : ∀ a0 a1 k, LeO (graftagelaw04_DeltaBack.f k a0 a1) (graftagelaw04_DeltaBack.f (k + 1) a0 a1) := by
 intro a0 a1 k
 have ih0 := graftagelaw04_DeltaBack.mono_l k
 unfold graftagelaw04_DeltaBack.f
 repeat' first
   | (with_reducible exact ih0 _ _ _)
   | (with_reducible exact LeO.refl _)
   | (with_reducible exact LeO.none _)
   | (with_reducible refine LeO.ite ?_ ?_)
   | (with_reducible refine LeO.bind ?_ (fun _ => ?_))
   | exact ih0 _ _ _
   | exact LeO.none _
   | refine LeO.ite ?_ ?_
   | refine LeO.bind ?_ (fun _ => ?_)
set_option maxHeartbeats 8000000 in
set_option maxRecDepth 100000 in
theorem graftagelaw04_DeltaBack.calls (k : Nat) (a0 : ByteArray) (a1 : ByteArray) (r : Bool) (w : World) (h : graftagelaw04_DeltaBack.f k a0 a1 = some r) (hr : r = true) :
  Calls Try.prog 5 #[.string a0, .string a1] w fun e w' => e = .returned (.bool r) ∧ Below w.heap.size w w' := by
 have HB := Aside0.mk (Below.refl w.heap.size w)
 have H : (if (a0.size : Int) > 1048576 then (graftagelaw04_DeltaBack.j0 k a0 a1 true) else (graftagelaw04_DeltaBack.j0 k a0 a1 (decide ((a1.size : Int) > 1048576)))) = some r := h
 clear h
 have HC3 := Aside0.mk H
 clear H
 go_enter Try.func5, Try.ntmps5
 go_upto_region 1 with (fail)
 go_cut [17] (fun v17 wc => ∃ (kq : Nat) (x17_2 : Bool), v17 = .bool x17_2 ∧ Aside0 (graftagelaw04_DeltaBack.j0 kq a0 a1 x17_2 = some r) ∧ Aside0 (kq ≤ k) ∧ Aside0 (Below w.heap.size w wc))
 case first =>
  have H := HC3.out
  clear HC3
  by_cases c4 : (a0.size : Int) > 1048576
  ·rw [if_pos c4] at H
   have c4b0 : decide (1048576 < (a0.size : Int)) = true := decide_eq_true c4
   have c4b1 : decide (1048576 < a0.size) = true := decide_eq_true (by omega)
   clear c4
   (first | rw [c4b0] | (simp only [i64_w, i32_w]; rw [c4b0]) | skip)
   have H' := Aside0.mk H
   clear H
   go_wp2
   go_meet
   case rel => exact ⟨_, (true), (by first | rfl | (simp; done) | (simp [*]; done)), H', ⟨by first | omega | exact Nat.le_refl _⟩, ⟨by repeat (first | (with_reducible first | exact HB.out | apply below_alloc | apply pw_below_drewN | apply below_drew1) | exact HB.out)⟩⟩
  ·rw [if_neg c4] at H
   have c4b0 : decide (1048576 < (a0.size : Int)) = false := decide_eq_false c4
   have c4b1 : decide (1048576 < a0.size) = false := decide_eq_false (by omega)
   clear c4
   (first | rw [c4b0] | (simp only [i64_w, i32_w]; rw [c4b0]) | skip)
   have H' := Aside0.mk H
   clear H
   go_wp2
   go_meet
   case rel => exact ⟨_, (decide ((a1.size : Int) > 1048576)), (by first | rfl | (simp; done) | (simp [*]; done)), H', ⟨by first | omega | exact Nat.le_refl _⟩, ⟨by repeat (first | (with_reducible first | exact HB.out | apply below_alloc | apply pw_below_drewN | apply below_drew1) | exact HB.out)⟩⟩
 case rest =>
  clear HC3
  try clear p2
  try clear c4
  try clear c4b0
  try clear c4b1
  obtain ⟨kq, x17_2, rfl, HA, HJ2, HB⟩ := hcut
  cases kq with
  | zero => exact absurd HA.out (by simp [graftagelaw04_DeltaBack.j0])
  | succ kj2 =>
   have H := HA.out
   clear HA
   simp only [graftagelaw04_DeltaBack.j0] at H
   by_cases c5 : x17_2 = true
   ·subst c5
    have H1 : ((graftagelaw04_lives.f).bind fun t172 => (some t172)) = some r := by rw [if_pos rfl] at H; exact H
    clear H
    have H := H1
    clear H1
    replace H := Option.bind_eq_some_iff.mp H
    obtain ⟨t172, A60, H⟩ := H
    replace H : (some t172) = some r := H
    have A6 := Aside0.mk A60
    clear A60
    obtain rfl := Option.some.inj H
    go_wp2_with (first | ((with_reducible refine gate_callee (f := 10) rfl ?_); refine goesL_ (some 18) rfl rfl Try.func10 (by kernel_rfl) rfl #[] rfl (by (try simp only [List.map_toArray, List.map_cons, List.map_nil]); first | done | rfl | (simp only [List.length_drop, List.length_take]; rfl)) ?_; (with_reducible refine (graftagelaw04_lives.calls  t172 _ A6.out).mono ?_); rintro e w7 ⟨rfl, hb⟩; refine ⟨_, rfl, ?_⟩; have n0_ := Aside0.mk (below_step (by repeat (first | (with_reducible first | exact HB.out | apply below_alloc | apply pw_below_drewN | apply below_drew1) | exact HB.out)) hb); clear HB; have HB := n0_; clear n0_; (try clear hb); (try clear hb2); (try clear hk); (try clear hi)))
    go_ret
    exact ⟨by first | rfl | (simp [errW_none, errW_some] <;> rfl) | (simp [*, errW_none, errW_some] <;> rfl), by repeat (first | (with_reducible first | exact HB.out | apply below_alloc | apply pw_below_drewN | apply below_drew1) | exact HB.out)⟩
   ·replace c5 := Bool.eq_false_iff.mpr c5
    subst c5
    have H1 : ((delta_Make.f a0 a1).bind fun t173 => ((delta_Apply.f a0 t173).bind fun bt174 => ((delta_Make.f a0 a1).bind fun t176 => ((delta_Sizes.f t176).bind fun bt177 => (if bt174.2 = 0 then (if bt174.1.toList = a1.toList then (if bt177.2.2 = 0 then (if bt177.1 = (a0.size : Int) then (if bt177.2.1 = (a1.size : Int) then ((graftagelaw04_lives.f).bind fun t180 => (some t180)) else (some false)) else (some false)) else (some false)) else (some false)) else (some false)))))) = some r := by rw [if_neg (show ¬ (false = true) by decide)] at H; exact H
    clear H
    have H := H1
    clear H1
    replace H := Option.bind_eq_some_iff.mp H
    obtain ⟨t173, A80, H⟩ := H
    replace H : ((delta_Apply.f a0 t173).bind fun bt174 => ((delta_Make.f a0 a1).bind fun t176 => ((delta_Sizes.f t176).bind fun bt177 => (if bt174.2 = 0 then (if bt174.1.toList = a1.toList then (if bt177.2.2 = 0 then (if bt177.1 = (a0.size : Int) then (if bt177.2.1 = (a1.size : Int) then ((graftagelaw04_lives.f).bind fun t180 => (some t180)) else (some false)) else (some false)) else (some false)) else (some false)) else (some false))))) = some r := H
    have A8 := Aside0.mk A80
    clear A80
    replace H := Option.bind_eq_some_iff.mp H
    obtain ⟨⟨t174, t175⟩, A90, H⟩ := H
    replace H : ((delta_Make.f a0 a1).bind fun t176 => ((delta_Sizes.f t176).bind fun bt177 => (if t175 = 0 then (if t174.toList = a1.toList then (if bt177.2.2 = 0 then (if bt177.1 = (a0.size : Int) then (if bt177.2.1 = (a1.size : Int) then ((graftagelaw04_lives.f).bind fun t180 => (some t180)) else (some false)) else (some false)) else (some false)) else (some false)) else (some false)))) = some r := H
    have A9 := Aside0.mk A90
    clear A90
    replace H := Option.bind_eq_some_iff.mp H
    obtain ⟨t176, A100, H⟩ := H
    replace H : ((delta_Sizes.f t176).bind fun bt177 => (if t175 = 0 then (if t174.toList = a1.toList then (if bt177.2.2 = 0 then (if bt177.1 = (a0.size : Int) then (if bt177.2.1 = (a1.size : Int) then ((graftagelaw04_lives.f).bind fun t180 => (some t180)) else (some false)) else (some false)) else (some false)) else (some false)) else (some false))) = some r := H
    have A10 := Aside0.mk A100
    clear A100
    replace H := Option.bind_eq_some_iff.mp H
    obtain ⟨⟨t177, t178, t179⟩, A110, H⟩ := H
    replace H : (if t175 = 0 then (if t174.toList = a1.toList then (if t179 = 0 then (if t177 = (a0.size : Int) then (if t178 = (a1.size : Int) then ((graftagelaw04_lives.f).bind fun t180 => (some t180)) else (some false)) else (some false)) else (some false)) else (some false)) else (some false)) = some r := H
    have A11 := Aside0.mk A110
    clear A110
    by_cases c12 : t175 = 0
    ·rw [if_pos c12] at H
     have c12b0 : (t175 == 0) = true := beq_iff_eq.mpr c12
     have c12b1 : (t175 != 0) = false := bne_eq_false_iff_eq.mpr c12
     clear c12
     by_cases c13 : t174.toList = a1.toList
     ·rw [if_pos c13] at H
      have c13b0 : (t174.toList == a1.toList) = true := beq_iff_eq.mpr c13
      have c13b1 : (t174.toList != a1.toList) = false := bne_eq_false_iff_eq.mpr c13
      clear c13
      by_cases c14 : t179 = 0
      ·rw [if_pos c14] at H
       have c14b0 : (t179 == 0) = true := beq_iff_eq.mpr c14
       have c14b1 : (t179 != 0) = false := bne_eq_false_iff_eq.mpr c14
       clear c14
       by_cases c15 : t177 = (a0.size : Int)
       ·rw [if_pos c15] at H
        have c15b0 : (t177 == (a0.size : Int)) = true := beq_iff_eq.mpr c15
        have c15b1 : (t177 != (a0.size : Int)) = false := bne_eq_false_iff_eq.mpr c15
        clear c15
        by_cases c16 : t178 = (a1.size : Int)
        ·rw [if_pos c16] at H
         have c16b0 : (t178 == (a1.size : Int)) = true := beq_iff_eq.mpr c16
         have c16b1 : (t178 != (a1.size : Int)) = false := bne_eq_false_iff_eq.mpr c16
         clear c16
         replace H := Option.bind_eq_some_iff.mp H
         obtain ⟨t180, A170, H⟩ := H
         replace H : (some t180) = some r := H
         have A17 := Aside0.mk A170
         clear A170
         obtain rfl := Option.some.inj H
         go_wp2_with (first | ((with_reducible refine gate_callee (f := 11) rfl ?_); refine goesL_ (some 23) rfl rfl Try.func11 (by kernel_rfl) rfl #[.string a0, .string a1] rfl (by (try simp only [List.map_toArray, List.map_cons, List.map_nil]); first | done | rfl | (simp only [List.length_drop, List.length_take]; rfl)) ?_; (with_reducible refine (delta_Make.calls a0 a1 t173 _ A8.out).mono ?_); rintro e w18 ⟨rfl, hb⟩; refine ⟨_, rfl, ?_⟩; have n0_ := Aside0.mk (below_step (by repeat (first | (with_reducible first | exact HB.out | apply below_alloc | apply pw_below_drewN | apply below_drew1) | exact HB.out)) hb); clear HB; have HB := n0_; clear n0_; (try clear hb); (try clear hb2); (try clear hk); (try clear hi)) | ((with_reducible refine gate_callee (f := 13) rfl ?_); refine goesL_ (some 24) rfl rfl Try.func13 (by kernel_rfl) rfl #[.string a0, .string t173] rfl (by (try simp only [List.map_toArray, List.map_cons, List.map_nil]); first | done | rfl | (simp only [List.length_drop, List.length_take]; rfl)) ?_; (with_reducible refine (delta_Apply.calls a0 t173 t174 t175 _ A9.out).mono ?_); rintro e w19 ⟨rfl, hb⟩; refine ⟨_, rfl, ?_⟩; have n0_ := Aside0.mk (below_step (by repeat (first | (with_reducible first | exact HB.out | apply below_alloc | apply pw_below_drewN | apply below_drew1) | exact HB.out)) hb); clear HB; have HB := n0_; clear n0_; (try clear hb); (try clear hb2); (try clear hk); (try clear hi)) | ((with_reducible refine gate_callee (f := 11) rfl ?_); refine goesL_ (some 30) rfl rfl Try.func11 (by kernel_rfl) rfl #[.string a0, .string a1] rfl (by (try simp only [List.map_toArray, List.map_cons, List.map_nil]); first | done | rfl | (simp only [List.length_drop, List.length_take]; rfl)) ?_; (with_reducible refine (delta_Make.calls a0 a1 t176 _ A10.out).mono ?_); rintro e w20 ⟨rfl, hb⟩; refine ⟨_, rfl, ?_⟩; have n0_ := Aside0.mk (below_step (by repeat (first | (with_reducible first | exact HB.out | apply below_alloc | apply pw_below_drewN | apply below_drew1) | exact HB.out)) hb); clear HB; have HB := n0_; clear n0_; (try clear hb); (try clear hb2); (try clear hk); (try clear hi)) | ((with_reducible refine gate_callee (f := 15) rfl ?_); refine goesL_ (some 31) rfl rfl Try.func15 (by kernel_rfl) rfl #[.string t176] rfl (by (try simp only [List.map_toArray, List.map_cons, List.map_nil]); first | done | rfl | (simp only [List.length_drop, List.length_take]; rfl)) ?_; (with_reducible refine (delta_Sizes.calls t176 t177 t178 t179 _ A11.out).mono ?_); rintro e w21 ⟨rfl, hb⟩; refine ⟨_, rfl, ?_⟩; have n0_ := Aside0.mk (below_step (by repeat (first | (with_reducible first | exact HB.out | apply below_alloc | apply pw_below_drewN | apply below_drew1) | exact HB.out)) hb); clear HB; have HB := n0_; clear n0_; (try clear hb); (try clear hb2); (try clear hk); (try clear hi)) | (go_at_call 10; (with_reducible refine (graftagelaw04_lives.calls  t180 _ A17.out).mono ?_); rintro e w22 ⟨rfl, hb⟩; have n0_ := Aside0.mk (below_step (by repeat (first | (with_reducible first | exact HB.out | apply below_alloc | apply pw_below_drewN | apply below_drew1) | exact HB.out)) hb); clear HB; have HB := n0_; clear n0_; (try clear hb); (try clear hb2); (try clear hk); (try clear hi)))
         go_ret
         exact ⟨by first | rfl | (simp [errW_none, errW_some] <;> rfl) | (simp [*, errW_none, errW_some] <;> rfl), by repeat (first | (with_reducible first | exact HB.out | apply below_alloc | apply pw_below_drewN | apply below_drew1) | exact HB.out)⟩
        ·rw [if_neg c16] at H
         have c16b0 : (t178 == (a1.size : Int)) = false := beq_eq_false_iff_ne.mpr c16
         have c16b1 : (t178 != (a1.size : Int)) = true := bne_iff_ne.mpr c16
         exact absurd (H.trans (congrArg some hr)) (by decide)
       ·rw [if_neg c15] at H
        have c15b0 : (t177 == (a0.size : Int)) = false := beq_eq_false_iff_ne.mpr c15
        have c15b1 : (t177 != (a0.size : Int)) = true := bne_iff_ne.mpr c15
        exact absurd (H.trans (congrArg some hr)) (by decide)
      ·rw [if_neg c14] at H
       have c14b0 : (t179 == 0) = false := beq_eq_false_iff_ne.mpr c14
       have c14b1 : (t179 != 0) = true := bne_iff_ne.mpr c14
       exact absurd (H.trans (congrArg some hr)) (by decide)
     ·rw [if_neg c13] at H
      have c13b0 : (t174.toList == a1.toList) = false := beq_eq_false_iff_ne.mpr c13
      have c13b1 : (t174.toList != a1.toList) = true := bne_iff_ne.mpr c13
      exact absurd (H.trans (congrArg some hr)) (by decide)
    ·rw [if_neg c12] at H
     have c12b0 : (t175 == 0) = false := beq_eq_false_iff_ne.mpr c12
     have c12b1 : (t175 != 0) = true := bne_iff_ne.mpr c12
     exact absurd (H.trans (congrArg some hr)) (by decide)

/-- THE ONE PURE STATEMENT of graftagelaw04_DeltaBack: yours. -/
def graftagelaw04_DeltaBack.Pure : Prop := ∀ (a0 : ByteArray) (a1 : ByteArray), a0.size ≤ 140737488351232 → a1.size ≤ 140737488351232 → ∃ k, graftagelaw04_DeltaBack.f k a0 a1 = some true
theorem graftagelaw04_DeltaBack.walk (P : graftagelaw04_DeltaBack.Pure) (a0 : ByteArray) (a1 : ByteArray) (w : World) (w0 : a0.size ≤ 140737488351232) (w1 : a1.size ≤ 140737488351232) :
  Calls Try.prog 5 #[.string a0, .string a1] w fun e w' => e = .returned (.bool true) ∧ Below w.heap.size w w' := by
 obtain ⟨k, h⟩ := P a0 a1 w0 w1
 refine (graftagelaw04_DeltaBack.calls k a0 a1 true w h rfl).mono ?_
 rintro e w' ⟨rfl, hd⟩
 exact ⟨rfl, hd⟩

end Go.Proofs.Ytggjkijgbpnhiaa.PDl
