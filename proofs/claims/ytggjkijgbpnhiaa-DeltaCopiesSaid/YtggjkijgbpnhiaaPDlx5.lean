-- Written by wip/gen/gen.py of this session out of the seat's translation.
import Derived.Test.YtggjkijgbpnhiaaPDlx0
import Derived.Test.YtggjkijgbpnhiaaPDlx2
import Derived.Test.YtggjkijgbpnhiaaDlApplyF
import Derived.Test.YtggjkijgbpnhiaaDlMake
namespace Go.Proofs.Ytggjkijgbpnhiaa.PDl
open Go.Proofs.Ytggjkijgbpnhiaa.Hand Go.RowKit Go.Proofs.YtggjkijgbpnhiaaW.PrintWords Go.Proofs.YtggjkijgbpnhiaaW.PrintLast Go.Proofs.YtggjkijgbpnhiaaW.PrintMore
attribute [local go_sem] max2_int min2_int max_two min_two max_three min_three max_four min_four   -- for this text's walks alone
set_option linter.unusedVariables false
set_option linter.unusedSimpArgs false

-- given by hand: function 13 (delta_Apply)

/-! ### graftagelaw04_lives: function 10 -/
def graftagelaw04_lives.f  : Option (Bool) := (delta_Apply.f (⟨#[97, 98, 99, 100]⟩ : ByteArray) (⟨#[5, 0]⟩ : ByteArray)).bind fun bt104 => ((delta_Apply.f (⟨#[97, 98, 99, 100, 101, 102, 103, 104]⟩ : ByteArray) (⟨#[8, 10, 17, 0, 4, 120, 121]⟩ : ByteArray)).bind fun bt106 => ((delta_Make.f (⟨#[97, 98, 99, 100, 101, 102, 103, 104]⟩ : ByteArray) (⟨#[97, 98, 99, 100, 101, 102, 103, 104]⟩ : ByteArray)).bind fun t108 => (if t108.toList = ([8, 8, 17, 0] : List UInt8) then ((delta_Make.f (⟨#[]⟩ : ByteArray) (⟨#[97, 98]⟩ : ByteArray)).bind fun t109 => (if t109.toList = ([0, 2, 4, 97, 98] : List UInt8) then (if bt104.2 = 40 then (if bt106.2 = 0 then (some (bt106.1.toList == ([97, 98, 99, 100, 101, 102, 103, 104, 120, 121] : List UInt8))) else (some false)) else (some false)) else (some false))) else (some false))))
set_option maxHeartbeats 8000000 in
set_option maxRecDepth 100000 in
theorem graftagelaw04_lives.calls  (r : Bool) (w : World) (h : graftagelaw04_lives.f  = some r) :
  Calls Try.prog 10 #[] w fun e w' => e = .returned (.bool r) ∧ Below w.heap.size w w' := by
 have HB := Aside0.mk (Below.refl w.heap.size w)
 have H : ((delta_Apply.f (⟨#[97, 98, 99, 100]⟩ : ByteArray) (⟨#[5, 0]⟩ : ByteArray)).bind fun bt104 => ((delta_Apply.f (⟨#[97, 98, 99, 100, 101, 102, 103, 104]⟩ : ByteArray) (⟨#[8, 10, 17, 0, 4, 120, 121]⟩ : ByteArray)).bind fun bt106 => ((delta_Make.f (⟨#[97, 98, 99, 100, 101, 102, 103, 104]⟩ : ByteArray) (⟨#[97, 98, 99, 100, 101, 102, 103, 104]⟩ : ByteArray)).bind fun t108 => (if t108.toList = ([8, 8, 17, 0] : List UInt8) then ((delta_Make.f (⟨#[]⟩ : ByteArray) (⟨#[97, 98]⟩ : ByteArray)).bind fun t109 => (if t109.toList = ([0, 2, 4, 97, 98] : List UInt8) then (if bt104.2 = 40 then (if bt106.2 = 0 then (some (bt106.1.toList == ([97, 98, 99, 100, 101, 102, 103, 104, 120, 121] : List UInt8))) else (some false)) else (some false)) else (some false))) else (some false))))) = some r := h
 clear h
 replace H := Option.bind_eq_some_iff.mp H
 obtain ⟨⟨t104, t105⟩, A10, H⟩ := H
 replace H : ((delta_Apply.f (⟨#[97, 98, 99, 100, 101, 102, 103, 104]⟩ : ByteArray) (⟨#[8, 10, 17, 0, 4, 120, 121]⟩ : ByteArray)).bind fun bt106 => ((delta_Make.f (⟨#[97, 98, 99, 100, 101, 102, 103, 104]⟩ : ByteArray) (⟨#[97, 98, 99, 100, 101, 102, 103, 104]⟩ : ByteArray)).bind fun t108 => (if t108.toList = ([8, 8, 17, 0] : List UInt8) then ((delta_Make.f (⟨#[]⟩ : ByteArray) (⟨#[97, 98]⟩ : ByteArray)).bind fun t109 => (if t109.toList = ([0, 2, 4, 97, 98] : List UInt8) then (if t105 = 40 then (if bt106.2 = 0 then (some (bt106.1.toList == ([97, 98, 99, 100, 101, 102, 103, 104, 120, 121] : List UInt8))) else (some false)) else (some false)) else (some false))) else (some false)))) = some r := H
 have A1 := Aside0.mk A10
 clear A10
 replace H := Option.bind_eq_some_iff.mp H
 obtain ⟨⟨t106, t107⟩, A20, H⟩ := H
 replace H : ((delta_Make.f (⟨#[97, 98, 99, 100, 101, 102, 103, 104]⟩ : ByteArray) (⟨#[97, 98, 99, 100, 101, 102, 103, 104]⟩ : ByteArray)).bind fun t108 => (if t108.toList = ([8, 8, 17, 0] : List UInt8) then ((delta_Make.f (⟨#[]⟩ : ByteArray) (⟨#[97, 98]⟩ : ByteArray)).bind fun t109 => (if t109.toList = ([0, 2, 4, 97, 98] : List UInt8) then (if t105 = 40 then (if t107 = 0 then (some (t106.toList == ([97, 98, 99, 100, 101, 102, 103, 104, 120, 121] : List UInt8))) else (some false)) else (some false)) else (some false))) else (some false))) = some r := H
 have A2 := Aside0.mk A20
 clear A20
 replace H := Option.bind_eq_some_iff.mp H
 obtain ⟨t108, A30, H⟩ := H
 replace H : (if t108.toList = ([8, 8, 17, 0] : List UInt8) then ((delta_Make.f (⟨#[]⟩ : ByteArray) (⟨#[97, 98]⟩ : ByteArray)).bind fun t109 => (if t109.toList = ([0, 2, 4, 97, 98] : List UInt8) then (if t105 = 40 then (if t107 = 0 then (some (t106.toList == ([97, 98, 99, 100, 101, 102, 103, 104, 120, 121] : List UInt8))) else (some false)) else (some false)) else (some false))) else (some false)) = some r := H
 have A3 := Aside0.mk A30
 clear A30
 by_cases c4 : t108.toList = ([8, 8, 17, 0] : List UInt8)
 ·rw [if_pos c4] at H
  have c4b0 : (t108.toList == ([8, 8, 17, 0] : List UInt8)) = true := beq_iff_eq.mpr c4
  have c4b1 : (t108.toList != ([8, 8, 17, 0] : List UInt8)) = false := bne_eq_false_iff_eq.mpr c4
  clear c4
  replace H := Option.bind_eq_some_iff.mp H
  obtain ⟨t109, A50, H⟩ := H
  replace H : (if t109.toList = ([0, 2, 4, 97, 98] : List UInt8) then (if t105 = 40 then (if t107 = 0 then (some (t106.toList == ([97, 98, 99, 100, 101, 102, 103, 104, 120, 121] : List UInt8))) else (some false)) else (some false)) else (some false)) = some r := H
  have A5 := Aside0.mk A50
  clear A50
  by_cases c6 : t109.toList = ([0, 2, 4, 97, 98] : List UInt8)
  ·rw [if_pos c6] at H
   have c6b0 : (t109.toList == ([0, 2, 4, 97, 98] : List UInt8)) = true := beq_iff_eq.mpr c6
   have c6b1 : (t109.toList != ([0, 2, 4, 97, 98] : List UInt8)) = false := bne_eq_false_iff_eq.mpr c6
   clear c6
   by_cases c7 : t105 = 40
   ·rw [if_pos c7] at H
    have c7b0 : (t105 == 40) = true := beq_iff_eq.mpr c7
    have c7b1 : (t105 != 40) = false := bne_eq_false_iff_eq.mpr c7
    clear c7
    by_cases c8 : t107 = 0
    ·rw [if_pos c8] at H
     have c8b0 : (t107 == 0) = true := beq_iff_eq.mpr c8
     have c8b1 : (t107 != 0) = false := bne_eq_false_iff_eq.mpr c8
     clear c8
     obtain rfl := Option.some.inj H
     go_enter Try.func10, Try.ntmps10
     go_wp2_with (first | ((with_reducible refine gate_callee (f := 13) rfl ?_); refine goesL_ (some 6) rfl rfl Try.func13 (by kernel_rfl) rfl #[.string (⟨#[97, 98, 99, 100]⟩ : ByteArray), .string (⟨#[5, 0]⟩ : ByteArray)] rfl (by (try simp only [List.map_toArray, List.map_cons, List.map_nil]); first | done | rfl | (simp only [List.length_drop, List.length_take]; rfl)) ?_; (with_reducible refine (delta_Apply.calls (⟨#[97, 98, 99, 100]⟩ : ByteArray) (⟨#[5, 0]⟩ : ByteArray) t104 t105 _ A1.out).mono ?_); rintro e w9 ⟨rfl, hb⟩; refine ⟨_, rfl, ?_⟩; have n0_ := Aside0.mk (below_step (by repeat (first | (with_reducible first | exact HB.out | apply below_alloc | apply pw_below_drewN | apply below_drew1) | exact HB.out)) hb); clear HB; have HB := n0_; clear n0_; (try clear hb); (try clear hb2); (try clear hk); (try clear hi)) | ((with_reducible refine gate_callee (f := 13) rfl ?_); refine goesL_ (some 10) rfl rfl Try.func13 (by kernel_rfl) rfl #[.string (⟨#[97, 98, 99, 100, 101, 102, 103, 104]⟩ : ByteArray), .string (⟨#[8, 10, 17, 0, 4, 120, 121]⟩ : ByteArray)] rfl (by (try simp only [List.map_toArray, List.map_cons, List.map_nil]); first | done | rfl | (simp only [List.length_drop, List.length_take]; rfl)) ?_; (with_reducible refine (delta_Apply.calls (⟨#[97, 98, 99, 100, 101, 102, 103, 104]⟩ : ByteArray) (⟨#[8, 10, 17, 0, 4, 120, 121]⟩ : ByteArray) t106 t107 _ A2.out).mono ?_); rintro e w10 ⟨rfl, hb⟩; refine ⟨_, rfl, ?_⟩; have n0_ := Aside0.mk (below_step (by repeat (first | (with_reducible first | exact HB.out | apply below_alloc | apply pw_below_drewN | apply below_drew1) | exact HB.out)) hb); clear HB; have HB := n0_; clear n0_; (try clear hb); (try clear hb2); (try clear hk); (try clear hi)) | ((with_reducible refine gate_callee (f := 11) rfl ?_); refine goesL_ (some 13) rfl rfl Try.func11 (by kernel_rfl) rfl #[.string (⟨#[97, 98, 99, 100, 101, 102, 103, 104]⟩ : ByteArray), .string (⟨#[97, 98, 99, 100, 101, 102, 103, 104]⟩ : ByteArray)] rfl (by (try simp only [List.map_toArray, List.map_cons, List.map_nil]); first | done | rfl | (simp only [List.length_drop, List.length_take]; rfl)) ?_; (with_reducible refine (delta_Make.calls (⟨#[97, 98, 99, 100, 101, 102, 103, 104]⟩ : ByteArray) (⟨#[97, 98, 99, 100, 101, 102, 103, 104]⟩ : ByteArray) t108 _ A3.out).mono ?_); rintro e w11 ⟨rfl, hb⟩; refine ⟨_, rfl, ?_⟩; have n0_ := Aside0.mk (below_step (by repeat (first | (with_reducible first | exact HB.out | apply below_alloc | apply pw_below_drewN | apply below_drew1) | exact HB.out)) hb); clear HB; have HB := n0_; clear n0_; (try clear hb); (try clear hb2); (try clear hk); (try clear hi)) | (go_at_call 11; (with_reducible refine (delta_Make.calls (⟨#[]⟩ : ByteArray) (⟨#[97, 98]⟩ : ByteArray) t109 _ A5.out).mono ?_); rintro e w12 ⟨rfl, hb⟩; have n0_ := Aside0.mk (below_step (by repeat (first | (with_reducible first | exact HB.out | apply below_alloc | apply pw_below_drewN | apply below_drew1) | exact HB.out)) hb); clear HB; have HB := n0_; clear n0_; (try clear hb); (try clear hb2); (try clear hk); (try clear hi)))
     go_ret
     exact ⟨by first | rfl | (simp [errW_none, errW_some] <;> rfl) | (simp [*, errW_none, errW_some] <;> rfl), by repeat (first | (with_reducible first | exact HB.out | apply below_alloc | apply pw_below_drewN | apply below_drew1) | exact HB.out)⟩
    ·rw [if_neg c8] at H
     have c8b0 : (t107 == 0) = false := beq_eq_false_iff_ne.mpr c8
     have c8b1 : (t107 != 0) = true := bne_iff_ne.mpr c8
     obtain rfl := Option.some.inj H
     go_enter Try.func10, Try.ntmps10
     go_wp2_with (first | ((with_reducible refine gate_callee (f := 13) rfl ?_); refine goesL_ (some 6) rfl rfl Try.func13 (by kernel_rfl) rfl #[.string (⟨#[97, 98, 99, 100]⟩ : ByteArray), .string (⟨#[5, 0]⟩ : ByteArray)] rfl (by (try simp only [List.map_toArray, List.map_cons, List.map_nil]); first | done | rfl | (simp only [List.length_drop, List.length_take]; rfl)) ?_; (with_reducible refine (delta_Apply.calls (⟨#[97, 98, 99, 100]⟩ : ByteArray) (⟨#[5, 0]⟩ : ByteArray) t104 t105 _ A1.out).mono ?_); rintro e w13 ⟨rfl, hb⟩; refine ⟨_, rfl, ?_⟩; have n0_ := Aside0.mk (below_step (by repeat (first | (with_reducible first | exact HB.out | apply below_alloc | apply pw_below_drewN | apply below_drew1) | exact HB.out)) hb); clear HB; have HB := n0_; clear n0_; (try clear hb); (try clear hb2); (try clear hk); (try clear hi)) | ((with_reducible refine gate_callee (f := 13) rfl ?_); refine goesL_ (some 10) rfl rfl Try.func13 (by kernel_rfl) rfl #[.string (⟨#[97, 98, 99, 100, 101, 102, 103, 104]⟩ : ByteArray), .string (⟨#[8, 10, 17, 0, 4, 120, 121]⟩ : ByteArray)] rfl (by (try simp only [List.map_toArray, List.map_cons, List.map_nil]); first | done | rfl | (simp only [List.length_drop, List.length_take]; rfl)) ?_; (with_reducible refine (delta_Apply.calls (⟨#[97, 98, 99, 100, 101, 102, 103, 104]⟩ : ByteArray) (⟨#[8, 10, 17, 0, 4, 120, 121]⟩ : ByteArray) t106 t107 _ A2.out).mono ?_); rintro e w14 ⟨rfl, hb⟩; refine ⟨_, rfl, ?_⟩; have n0_ := Aside0.mk (below_step (by repeat (first | (with_reducible first | exact HB.out | apply below_alloc | apply pw_below_drewN | apply below_drew1) | exact HB.out)) hb); clear HB; have HB := n0_; clear n0_; (try clear hb); (try clear hb2); (try clear hk); (try clear hi)) | ((with_reducible refine gate_callee (f := 11) rfl ?_); refine goesL_ (some 13) rfl rfl Try.func11 (by kernel_rfl) rfl #[.string (⟨#[97, 98, 99, 100, 101, 102, 103, 104]⟩ : ByteArray), .string (⟨#[97, 98, 99, 100, 101, 102, 103, 104]⟩ : ByteArray)] rfl (by (try simp only [List.map_toArray, List.map_cons, List.map_nil]); first | done | rfl | (simp only [List.length_drop, List.length_take]; rfl)) ?_; (with_reducible refine (delta_Make.calls (⟨#[97, 98, 99, 100, 101, 102, 103, 104]⟩ : ByteArray) (⟨#[97, 98, 99, 100, 101, 102, 103, 104]⟩ : ByteArray) t108 _ A3.out).mono ?_); rintro e w15 ⟨rfl, hb⟩; refine ⟨_, rfl, ?_⟩; have n0_ := Aside0.mk (below_step (by repeat (first | (with_reducible first | exact HB.out | apply below_alloc | apply pw_below_drewN | apply below_drew1) | exact HB.out)) hb); clear HB; have HB := n0_; clear n0_; (try clear hb); (try clear hb2); (try clear hk); (try clear hi)) | (go_at_call 11; (with_reducible refine (delta_Make.calls (⟨#[]⟩ : ByteArray) (⟨#[97, 98]⟩ : ByteArray) t109 _ A5.out).mono ?_); rintro e w16 ⟨rfl, hb⟩; have n0_ := Aside0.mk (below_step (by repeat (first | (with_reducible first | exact HB.out | apply below_alloc | apply pw_below_drewN | apply below_drew1) | exact HB.out)) hb); clear HB; have HB := n0_; clear n0_; (try clear hb); (try clear hb2); (try clear hk); (try clear hi)))
     go_ret
     exact ⟨by first | rfl | (simp [errW_none, errW_some] <;> rfl) | (simp [*, errW_none, errW_some] <;> rfl), by repeat (first | (with_reducible first | exact HB.out | apply below_alloc | apply pw_below_drewN | apply below_drew1) | exact HB.out)⟩
   ·rw [if_neg c7] at H
    have c7b0 : (t105 == 40) = false := beq_eq_false_iff_ne.mpr c7
    have c7b1 : (t105 != 40) = true := bne_iff_ne.mpr c7
    obtain rfl := Option.some.inj H
    go_enter Try.func10, Try.ntmps10
    go_wp2_with (first | ((with_reducible refine gate_callee (f := 13) rfl ?_); refine goesL_ (some 6) rfl rfl Try.func13 (by kernel_rfl) rfl #[.string (⟨#[97, 98, 99, 100]⟩ : ByteArray), .string (⟨#[5, 0]⟩ : ByteArray)] rfl (by (try simp only [List.map_toArray, List.map_cons, List.map_nil]); first | done | rfl | (simp only [List.length_drop, List.length_take]; rfl)) ?_; (with_reducible refine (delta_Apply.calls (⟨#[97, 98, 99, 100]⟩ : ByteArray) (⟨#[5, 0]⟩ : ByteArray) t104 t105 _ A1.out).mono ?_); rintro e w17 ⟨rfl, hb⟩; refine ⟨_, rfl, ?_⟩; have n0_ := Aside0.mk (below_step (by repeat (first | (with_reducible first | exact HB.out | apply below_alloc | apply pw_below_drewN | apply below_drew1) | exact HB.out)) hb); clear HB; have HB := n0_; clear n0_; (try clear hb); (try clear hb2); (try clear hk); (try clear hi)) | ((with_reducible refine gate_callee (f := 13) rfl ?_); refine goesL_ (some 10) rfl rfl Try.func13 (by kernel_rfl) rfl #[.string (⟨#[97, 98, 99, 100, 101, 102, 103, 104]⟩ : ByteArray), .string (⟨#[8, 10, 17, 0, 4, 120, 121]⟩ : ByteArray)] rfl (by (try simp only [List.map_toArray, List.map_cons, List.map_nil]); first | done | rfl | (simp only [List.length_drop, List.length_take]; rfl)) ?_; (with_reducible refine (delta_Apply.calls (⟨#[97, 98, 99, 100, 101, 102, 103, 104]⟩ : ByteArray) (⟨#[8, 10, 17, 0, 4, 120, 121]⟩ : ByteArray) t106 t107 _ A2.out).mono ?_); rintro e w18 ⟨rfl, hb⟩; refine ⟨_, rfl, ?_⟩; have n0_ := Aside0.mk (below_step (by repeat (first | (with_reducible first | exact HB.out | apply below_alloc | apply pw_below_drewN | apply below_drew1) | exact HB.out)) hb); clear HB; have HB := n0_; clear n0_; (try clear hb); (try clear hb2); (try clear hk); (try clear hi)) | ((with_reducible refine gate_callee (f := 11) rfl ?_); refine goesL_ (some 13) rfl rfl Try.func11 (by kernel_rfl) rfl #[.string (⟨#[97, 98, 99, 100, 101, 102, 103, 104]⟩ : ByteArray), .string (⟨#[97, 98, 99, 100, 101, 102, 103, 104]⟩ : ByteArray)] rfl (by (try simp only [List.map_toArray, List.map_cons, List.map_nil]); first | done | rfl | (simp only [List.length_drop, List.length_take]; rfl)) ?_; (with_reducible refine (delta_Make.calls (⟨#[97, 98, 99, 100, 101, 102, 103, 104]⟩ : ByteArray) (⟨#[97, 98, 99, 100, 101, 102, 103, 104]⟩ : ByteArray) t108 _ A3.out).mono ?_); rintro e w19 ⟨rfl, hb⟩; refine ⟨_, rfl, ?_⟩; have n0_ := Aside0.mk (below_step (by repeat (first | (with_reducible first | exact HB.out | apply below_alloc | apply pw_below_drewN | apply below_drew1) | exact HB.out)) hb); clear HB; have HB := n0_; clear n0_; (try clear hb); (try clear hb2); (try clear hk); (try clear hi)) | (go_at_call 11; (with_reducible refine (delta_Make.calls (⟨#[]⟩ : ByteArray) (⟨#[97, 98]⟩ : ByteArray) t109 _ A5.out).mono ?_); rintro e w20 ⟨rfl, hb⟩; have n0_ := Aside0.mk (below_step (by repeat (first | (with_reducible first | exact HB.out | apply below_alloc | apply pw_below_drewN | apply below_drew1) | exact HB.out)) hb); clear HB; have HB := n0_; clear n0_; (try clear hb); (try clear hb2); (try clear hk); (try clear hi)))
    go_ret
    exact ⟨by first | rfl | (simp [errW_none, errW_some] <;> rfl) | (simp [*, errW_none, errW_some] <;> rfl), by repeat (first | (with_reducible first | exact HB.out | apply below_alloc | apply pw_below_drewN | apply below_drew1) | exact HB.out)⟩
  ·rw [if_neg c6] at H
   have c6b0 : (t109.toList == ([0, 2, 4, 97, 98] : List UInt8)) = false := beq_eq_false_iff_ne.mpr c6
   have c6b1 : (t109.toList != ([0, 2, 4, 97, 98] : List UInt8)) = true := bne_iff_ne.mpr c6
   obtain rfl := Option.some.inj H
   go_enter Try.func10, Try.ntmps10
   go_wp2_with (first | ((with_reducible refine gate_callee (f := 13) rfl ?_); refine goesL_ (some 6) rfl rfl Try.func13 (by kernel_rfl) rfl #[.string (⟨#[97, 98, 99, 100]⟩ : ByteArray), .string (⟨#[5, 0]⟩ : ByteArray)] rfl (by (try simp only [List.map_toArray, List.map_cons, List.map_nil]); first | done | rfl | (simp only [List.length_drop, List.length_take]; rfl)) ?_; (with_reducible refine (delta_Apply.calls (⟨#[97, 98, 99, 100]⟩ : ByteArray) (⟨#[5, 0]⟩ : ByteArray) t104 t105 _ A1.out).mono ?_); rintro e w21 ⟨rfl, hb⟩; refine ⟨_, rfl, ?_⟩; have n0_ := Aside0.mk (below_step (by repeat (first | (with_reducible first | exact HB.out | apply below_alloc | apply pw_below_drewN | apply below_drew1) | exact HB.out)) hb); clear HB; have HB := n0_; clear n0_; (try clear hb); (try clear hb2); (try clear hk); (try clear hi)) | ((with_reducible refine gate_callee (f := 13) rfl ?_); refine goesL_ (some 10) rfl rfl Try.func13 (by kernel_rfl) rfl #[.string (⟨#[97, 98, 99, 100, 101, 102, 103, 104]⟩ : ByteArray), .string (⟨#[8, 10, 17, 0, 4, 120, 121]⟩ : ByteArray)] rfl (by (try simp only [List.map_toArray, List.map_cons, List.map_nil]); first | done | rfl | (simp only [List.length_drop, List.length_take]; rfl)) ?_; (with_reducible refine (delta_Apply.calls (⟨#[97, 98, 99, 100, 101, 102, 103, 104]⟩ : ByteArray) (⟨#[8, 10, 17, 0, 4, 120, 121]⟩ : ByteArray) t106 t107 _ A2.out).mono ?_); rintro e w22 ⟨rfl, hb⟩; refine ⟨_, rfl, ?_⟩; have n0_ := Aside0.mk (below_step (by repeat (first | (with_reducible first | exact HB.out | apply below_alloc | apply pw_below_drewN | apply below_drew1) | exact HB.out)) hb); clear HB; have HB := n0_; clear n0_; (try clear hb); (try clear hb2); (try clear hk); (try clear hi)) | ((with_reducible refine gate_callee (f := 11) rfl ?_); refine goesL_ (some 13) rfl rfl Try.func11 (by kernel_rfl) rfl #[.string (⟨#[97, 98, 99, 100, 101, 102, 103, 104]⟩ : ByteArray), .string (⟨#[97, 98, 99, 100, 101, 102, 103, 104]⟩ : ByteArray)] rfl (by (try simp only [List.map_toArray, List.map_cons, List.map_nil]); first | done | rfl | (simp only [List.length_drop, List.length_take]; rfl)) ?_; (with_reducible refine (delta_Make.calls (⟨#[97, 98, 99, 100, 101, 102, 103, 104]⟩ : ByteArray) (⟨#[97, 98, 99, 100, 101, 102, 103, 104]⟩ : ByteArray) t108 _ A3.out).mono ?_); rintro e w23 ⟨rfl, hb⟩; refine ⟨_, rfl, ?_⟩; have n0_ := Aside0.mk (below_step (by repeat (first | (with_reducible first | exact HB.out | apply below_alloc | apply pw_below_drewN | apply below_drew1) | exact HB.out)) hb); clear HB; have HB := n0_; clear n0_; (try clear hb); (try clear hb2); (try clear hk); (try clear hi)) | (go_at_call 11; (with_reducible refine (delta_Make.calls (⟨#[]⟩ : ByteArray) (⟨#[97, 98]⟩ : ByteArray) t109 _ A5.out).mono ?_); rintro e w24 ⟨rfl, hb⟩; have n0_ := Aside0.mk (below_step (by repeat (first | (with_reducible first | exact HB.out | apply below_alloc | apply pw_below_drewN | apply below_drew1) | exact HB.out)) hb); clear HB; have HB := n0_; clear n0_; (try clear hb); (try clear hb2); (try clear hk); (try clear hi)))
   go_ret
   exact ⟨by first | rfl | (simp [errW_none, errW_some] <;> rfl) | (simp [*, errW_none, errW_some] <;> rfl), by repeat (first | (with_reducible first | exact HB.out | apply below_alloc | apply pw_below_drewN | apply below_drew1) | exact HB.out)⟩
 ·rw [if_neg c4] at H
  have c4b0 : (t108.toList == ([8, 8, 17, 0] : List UInt8)) = false := beq_eq_false_iff_ne.mpr c4
  have c4b1 : (t108.toList != ([8, 8, 17, 0] : List UInt8)) = true := bne_iff_ne.mpr c4
  obtain rfl := Option.some.inj H
  go_enter Try.func10, Try.ntmps10
  go_wp2_with (first | ((with_reducible refine gate_callee (f := 13) rfl ?_); refine goesL_ (some 6) rfl rfl Try.func13 (by kernel_rfl) rfl #[.string (⟨#[97, 98, 99, 100]⟩ : ByteArray), .string (⟨#[5, 0]⟩ : ByteArray)] rfl (by (try simp only [List.map_toArray, List.map_cons, List.map_nil]); first | done | rfl | (simp only [List.length_drop, List.length_take]; rfl)) ?_; (with_reducible refine (delta_Apply.calls (⟨#[97, 98, 99, 100]⟩ : ByteArray) (⟨#[5, 0]⟩ : ByteArray) t104 t105 _ A1.out).mono ?_); rintro e w25 ⟨rfl, hb⟩; refine ⟨_, rfl, ?_⟩; have n0_ := Aside0.mk (below_step (by repeat (first | (with_reducible first | exact HB.out | apply below_alloc | apply pw_below_drewN | apply below_drew1) | exact HB.out)) hb); clear HB; have HB := n0_; clear n0_; (try clear hb); (try clear hb2); (try clear hk); (try clear hi)) | ((with_reducible refine gate_callee (f := 13) rfl ?_); refine goesL_ (some 10) rfl rfl Try.func13 (by kernel_rfl) rfl #[.string (⟨#[97, 98, 99, 100, 101, 102, 103, 104]⟩ : ByteArray), .string (⟨#[8, 10, 17, 0, 4, 120, 121]⟩ : ByteArray)] rfl (by (try simp only [List.map_toArray, List.map_cons, List.map_nil]); first | done | rfl | (simp only [List.length_drop, List.length_take]; rfl)) ?_; (with_reducible refine (delta_Apply.calls (⟨#[97, 98, 99, 100, 101, 102, 103, 104]⟩ : ByteArray) (⟨#[8, 10, 17, 0, 4, 120, 121]⟩ : ByteArray) t106 t107 _ A2.out).mono ?_); rintro e w26 ⟨rfl, hb⟩; refine ⟨_, rfl, ?_⟩; have n0_ := Aside0.mk (below_step (by repeat (first | (with_reducible first | exact HB.out | apply below_alloc | apply pw_below_drewN | apply below_drew1) | exact HB.out)) hb); clear HB; have HB := n0_; clear n0_; (try clear hb); (try clear hb2); (try clear hk); (try clear hi)) | ((with_reducible refine gate_callee (f := 11) rfl ?_); refine goesL_ (some 13) rfl rfl Try.func11 (by kernel_rfl) rfl #[.string (⟨#[97, 98, 99, 100, 101, 102, 103, 104]⟩ : ByteArray), .string (⟨#[97, 98, 99, 100, 101, 102, 103, 104]⟩ : ByteArray)] rfl (by (try simp only [List.map_toArray, List.map_cons, List.map_nil]); first | done | rfl | (simp only [List.length_drop, List.length_take]; rfl)) ?_; (with_reducible refine (delta_Make.calls (⟨#[97, 98, 99, 100, 101, 102, 103, 104]⟩ : ByteArray) (⟨#[97, 98, 99, 100, 101, 102, 103, 104]⟩ : ByteArray) t108 _ A3.out).mono ?_); rintro e w27 ⟨rfl, hb⟩; refine ⟨_, rfl, ?_⟩; have n0_ := Aside0.mk (below_step (by repeat (first | (with_reducible first | exact HB.out | apply below_alloc | apply pw_below_drewN | apply below_drew1) | exact HB.out)) hb); clear HB; have HB := n0_; clear n0_; (try clear hb); (try clear hb2); (try clear hk); (try clear hi)))
  go_ret
  exact ⟨by first | rfl | (simp [errW_none, errW_some] <;> rfl) | (simp [*, errW_none, errW_some] <;> rfl), by repeat (first | (with_reducible first | exact HB.out | apply below_alloc | apply pw_below_drewN | apply below_drew1) | exact HB.out)⟩

/-! ### graftageref01_Put: function 25 -/
def graftageref01_Put.l0 : Nat → ByteArray → Int → Option (ByteArray)
 | 0, _, _ => none
 | k + 1, x0, x1 => if x1 ≥ 128 then ((some (([(((Int.tmod x1 128) % 256) + 128) % 256] : List Int) : List Int)).bind fun y110 => (if x0.size + (strOfNums y110).size ≤ 9223372036854775807 then (graftageref01_Put.l0 k (x0 ++ (strOfNums y110)) (IntKind.u64.wrap (Int.tdiv x1 128))) else (none))) else ((some (([(x1) % 256] : List Int) : List Int)).bind fun y113 => (if x0.size + (strOfNums y113).size ≤ 9223372036854775807 then (some (x0 ++ (strOfNums y113))) else (none)))
def graftageref01_Put.f (k : Nat) (a0 : ByteArray) (a1 : Int) : Option (ByteArray) := graftageref01_Put.l0 k a0 a1
theorem graftageref01_Put.mono_l : ∀ k, (∀ y0 y1, LeO (graftageref01_Put.l0 k y0 y1) (graftageref01_Put.l0 (k + 1) y0 y1))
 | 0 => fun _ _ r h => by simp [graftageref01_Put.l0] at h
 | k + 1 => by
  have ih0 := graftageref01_Put.mono_l k
  ·intro y0 y1
   unfold graftageref01_Put.l0
   repeat' first
   | (with_reducible exact ih0 _ _)
   | (with_reducible exact LeO.refl _)
   | (with_reducible exact LeO.none _)
   | (with_reducible refine LeO.ite ?_ ?_)
   | (with_reducible refine LeO.bind ?_ (fun _ => ?_))
   | exact ih0 _ _
   | exact LeO.none _
   | refine LeO.ite ?_ ?_
   | refine LeO.bind ?_ (fun _ => ?_)
theorem graftageref01_Put.mono : ∀ a0 a1 k, LeO (graftageref01_Put.f k a0 a1) (graftageref01_Put.f (k + 1) a0 a1) := by
 intro a0 a1 k
 have ih0 := graftageref01_Put.mono_l k
 unfold graftageref01_Put.f
 repeat' first
   | (with_reducible exact ih0 _ _)
   | (with_reducible exact LeO.refl _)
   | (with_reducible exact LeO.none _)
   | (with_reducible refine LeO.ite ?_ ?_)
   | (with_reducible refine LeO.bind ?_ (fun _ => ?_))
   | exact ih0 _ _
   | exact LeO.none _
   | refine LeO.ite ?_ ?_
   | refine LeO.bind ?_ (fun _ => ?_)
set_option maxHeartbeats 8000000 in
set_option maxRecDepth 100000 in
theorem graftageref01_Put.calls (k : Nat) (a0 : ByteArray) (a1 : Int) (r : ByteArray) (w : World) (h : graftageref01_Put.f k a0 a1 = some r) :
  Calls Try.prog 25 #[.string a0, .int .u64 a1] w fun e w' => e = .returned (.string r) ∧ Below w.heap.size w w' := by
 have HB := Aside0.mk (Below.refl w.heap.size w)
 have H : (graftageref01_Put.l0 k a0 a1) = some r := h
 clear h
 have H' := Aside0.mk H
 clear H
 go_enter Try.func25, Try.ntmps25
 go_wp2
 go_loopg [0, 1] k (fun kq v0 v1 w' => ∃ (x0_1 : ByteArray) (x1_1 : Int), v0 = .string x0_1 ∧ v1 = .int .u64 x1_1 ∧ Aside0 (graftageref01_Put.l0 kq x0_1 x1_1 = some r) ∧ Aside0 (kq ≤ k) ∧ Aside0 (Below w.heap.size w w'))
 case atStart => exact ⟨(a0), (a1), (by first | rfl | (simp; done) | (simp [*]; done)), (by first | rfl | (simp; done) | (simp [*]; done)), H', ⟨Nat.le_refl _⟩, ⟨by repeat (first | (with_reducible first | exact HB.out | apply below_alloc | apply pw_below_drewN | apply below_drew1) | exact HB.out)⟩⟩
 case round =>
  clear H'
  try clear c2
  try clear p2
  obtain ⟨x0_1, x1_1, rfl, rfl, HA, HK1, HB⟩ := hrel
  cases gk with
  | zero => exact absurd HA.out (by simp [graftageref01_Put.l0])
  | succ k1 =>
   have H := HA.out
   clear HA
   simp only [graftageref01_Put.l0] at H
   by_cases c3 : x1_1 ≥ 128
   ·rw [if_pos c3] at H
    have c3b0 : decide (128 ≤ x1_1) = true := decide_eq_true c3
    clear c3
    obtain ⟨y110, hy110⟩ : ∃ y_ : List Int, y_ = (([(((Int.tmod x1_1 128) % 256) + 128) % 256] : List Int)) := ⟨_, rfl⟩
    replace H : (if x0_1.size + (strOfNums y110).size ≤ 9223372036854775807 then (graftageref01_Put.l0 k1 (x0_1 ++ (strOfNums y110)) (IntKind.u64.wrap (Int.tdiv x1_1 128))) else (none)) = some r := by first | (rw [hy110]; with_reducible exact H) | (have H2_ := (Option.bind_some _ _).symm.trans H; rw [hy110]; with_reducible exact H2_) | (have H2_ := (Option.bind_some _ _).symm.trans H; with_reducible exact H2_) | with_reducible exact H | (rw [hy110]; exact H) | exact H
    have Ny110 := Aside0.mk hy110
    clear hy110
    by_cases c4 : x0_1.size + (strOfNums y110).size ≤ 9223372036854775807
    ·rw [if_pos c4] at H
     have c4b0 := eq_true c4
     have c4b1 : decide (x0_1.size + (strOfNums y110).size ≤ 9223372036854775807) = true := decide_eq_true c4
     try have c4b2 : (9223372036854775807 < x0_1.size + (strOfNums y110).size) = False := eq_false (Nat.not_lt.2 c4)
     have H' := Aside0.mk H
     clear H
     go_wp2_with (first | ((with_reducible refine gate_dst (N := 12) rfl ?_); refine Kd.R_lit (Kd.int .u8) _ 5 ?hg (N := 12) ?hd (xs := ([(((Int.tmod x1_1 128) % 256) + 128) % 256] : List Int)) (inner := [.int .u8 ((((Int.tmod x1_1 128) % 256) + 128) % 256)]) (ok := fun _ => True) (okp := fun _ => True) ?hr ?hp (fun _ hk => hk) trivial (Below.refl _ _) (Nat.le_refl _) (by simp) ?_; (case hd => rfl); (case hg => rfl); (case hr => first | (go_simp; done) | (go_simp; rfl)); (case hp => exact (Reps.one (show Kd.M (Kd.int .u8) _ _ _ ((((Int.tmod x1_1 128) % 256) + 128) % 256) [.int .u8 ((((Int.tmod x1_1 128) % 256) + 128) % 256)] from rfl) (Reps.none _ _))); intro v111 w5 ho6 hb hg_ hnew_; clear hg_ hnew_; (first | rw [← Ny110.out] at ho6 | (simp only [Int.reduceToNat] at ho6; rw [← Ny110.out] at ho6)); have n0_ := Aside0.mk (Kd.R_lower ho6 (below_size (by repeat (first | (with_reducible first | exact HB.out | apply below_alloc | apply pw_below_drewN | apply below_drew1) | exact HB.out)))); have n1_ := Aside0.mk (below_step (by repeat (first | (with_reducible first | exact HB.out | apply below_alloc | apply pw_below_drewN | apply below_drew1) | exact HB.out)) hb); clear HB; have HO112 := n0_; have HB := n1_; clear n0_ n1_; clear hb ho6; have hcv7 := own_string (P := Try.prog) Try.underlying35 Try.underlying5 Try.underlying9 (Kd.own_of_R HO112.out)))
     go_roundg k1
     case measure => have := HK1.out; omega
     case rel => exact ⟨(x0_1 ++ (strOfNums y110)), (IntKind.u64.wrap (Int.tdiv x1_1 128)), (by first | rfl | (simp; done) | (simp [*]; done)), (by first | rfl | (simp; done) | (simp [*]; done)), H', ⟨by have := HK1.out; omega⟩, ⟨by repeat (first | (with_reducible first | exact HB.out | apply below_alloc | apply pw_below_drewN | apply below_drew1) | exact HB.out)⟩⟩
    ·rw [if_neg c4] at H
     exact absurd H (by simp)
   ·rw [if_neg c3] at H
    have c3b0 : decide (128 ≤ x1_1) = false := decide_eq_false c3
    clear c3
    obtain ⟨y113, hy113⟩ : ∃ y_ : List Int, y_ = (([(x1_1) % 256] : List Int)) := ⟨_, rfl⟩
    replace H : (if x0_1.size + (strOfNums y113).size ≤ 9223372036854775807 then (some (x0_1 ++ (strOfNums y113))) else (none)) = some r := by first | (rw [hy113]; with_reducible exact H) | (have H2_ := (Option.bind_some _ _).symm.trans H; rw [hy113]; with_reducible exact H2_) | (have H2_ := (Option.bind_some _ _).symm.trans H; with_reducible exact H2_) | with_reducible exact H | (rw [hy113]; exact H) | exact H
    have Ny113 := Aside0.mk hy113
    clear hy113
    by_cases c8 : x0_1.size + (strOfNums y113).size ≤ 9223372036854775807
    ·rw [if_pos c8] at H
     have c8b0 := eq_true c8
     have c8b1 : decide (x0_1.size + (strOfNums y113).size ≤ 9223372036854775807) = true := decide_eq_true c8
     try have c8b2 : (9223372036854775807 < x0_1.size + (strOfNums y113).size) = False := eq_false (Nat.not_lt.2 c8)
     obtain rfl := Option.some.inj H
     go_wp2_with (first | ((with_reducible refine gate_dst (N := 20) rfl ?_); refine Kd.R_lit (Kd.int .u8) _ 5 ?hg (N := 20) ?hd (xs := ([(x1_1) % 256] : List Int)) (inner := [.int .u8 ((x1_1) % 256)]) (ok := fun _ => True) (okp := fun _ => True) ?hr ?hp (fun _ hk => hk) trivial (Below.refl _ _) (Nat.le_refl _) (by simp) ?_; (case hd => rfl); (case hg => rfl); (case hr => first | (go_simp; done) | (go_simp; rfl)); (case hp => exact (Reps.one (show Kd.M (Kd.int .u8) _ _ _ ((x1_1) % 256) [.int .u8 ((x1_1) % 256)] from rfl) (Reps.none _ _))); intro v114 w9 ho10 hb hg_ hnew_; clear hg_ hnew_; (first | rw [← Ny113.out] at ho10 | (simp only [Int.reduceToNat] at ho10; rw [← Ny113.out] at ho10)); have n0_ := Aside0.mk (Kd.R_lower ho10 (below_size (by repeat (first | (with_reducible first | exact HB.out | apply below_alloc | apply pw_below_drewN | apply below_drew1) | exact HB.out)))); have n1_ := Aside0.mk (below_step (by repeat (first | (with_reducible first | exact HB.out | apply below_alloc | apply pw_below_drewN | apply below_drew1) | exact HB.out)) hb); clear HB; have HO115 := n0_; have HB := n1_; clear n0_ n1_; clear hb ho10; have hcv11 := own_string (P := Try.prog) Try.underlying35 Try.underlying5 Try.underlying9 (Kd.own_of_R HO115.out)))
     go_ret
     exact ⟨by first | rfl | (simp [errW_none, errW_some] <;> rfl) | (simp [*, errW_none, errW_some] <;> rfl), by repeat (first | (with_reducible first | exact HB.out | apply below_alloc | apply pw_below_drewN | apply below_drew1) | exact HB.out)⟩
    ·rw [if_neg c8] at H
     exact absurd H (by simp)

/-! ### graftageref04_longest: function 26 -/
mutual
def graftageref04_longest.l0 : Nat → ByteArray → ByteArray → Int → Int → Int → Int → Option (Int × Int)
 | 0, _, _, _, _, _, _ => none
 | k + 1, x0, x1, x2, x8, x9, x10 => if x10 < (x0.size : Int) then (graftageref04_longest.l1 k x0 x1 x2 x8 x9 x10 0) else (some (x8, x9))
def graftageref04_longest.l1 : Nat → ByteArray → ByteArray → Int → Int → Int → Int → Int → Option (Int × Int)
 | 0, _, _, _, _, _, _, _ => none
 | k + 1, x0, x1, x2, x8, x9, x10, x11 => if (wrap64 (x10 + x11)) < (x0.size : Int) then (if (wrap64 (x2 + x11)) < (x1.size : Int) then (if 0 ≤ (wrap64 (x10 + x11)) then (if 0 ≤ (wrap64 (x2 + x11)) then (if (bt x0 (wrap64 (x10 + x11))) = (bt x1 (wrap64 (x2 + x11))) then (graftageref04_longest.l1 k x0 x1 x2 x8 x9 x10 (wrap64 (x11 + 1))) else (if x11 > x9 then (graftageref04_longest.l0 k x0 x1 x2 x10 x11 (wrap64 (x10 + 1))) else (graftageref04_longest.l0 k x0 x1 x2 x8 x9 (wrap64 (x10 + 1))))) else (none)) else (none)) else (if x11 > x9 then (graftageref04_longest.l0 k x0 x1 x2 x10 x11 (wrap64 (x10 + 1))) else (graftageref04_longest.l0 k x0 x1 x2 x8 x9 (wrap64 (x10 + 1))))) else (if x11 > x9 then (graftageref04_longest.l0 k x0 x1 x2 x10 x11 (wrap64 (x10 + 1))) else (graftageref04_longest.l0 k x0 x1 x2 x8 x9 (wrap64 (x10 + 1))))
end
def graftageref04_longest.f (k : Nat) (a0 : ByteArray) (a1 : ByteArray) (a2 : Int) : Option (Int × Int) := graftageref04_longest.l0 k a0 a1 a2 0 0 0
theorem graftageref04_longest.mono_l : ∀ k, (∀ y0 y1 y2 y3 y4 y5, LeO (graftageref04_longest.l0 k y0 y1 y2 y3 y4 y5) (graftageref04_longest.l0 (k + 1) y0 y1 y2 y3 y4 y5)) ∧ (∀ y0 y1 y2 y3 y4 y5 y6, LeO (graftageref04_longest.l1 k y0 y1 y2 y3 y4 y5 y6) (graftageref04_longest.l1 (k + 1) y0 y1 y2 y3 y4 y5 y6))
 | 0 => ⟨fun _ _ _ _ _ _ r h => by simp [graftageref04_longest.l0] at h, fun _ _ _ _ _ _ _ r h => by simp [graftageref04_longest.l1] at h⟩
 | k + 1 => by
  obtain ⟨ih0, ih1⟩ := graftageref04_longest.mono_l k
  refine ⟨?_, ?_⟩
  ·intro y0 y1 y2 y3 y4 y5
   unfold graftageref04_longest.l0
   repeat' first
   | (with_reducible exact ih0 _ _ _ _ _ _)
   | (with_reducible exact ih1 _ _ _ _ _ _ _)
   | (with_reducible exact LeO.refl _)
   | (with_reducible exact LeO.none _)
   | (with_reducible refine LeO.ite ?_ ?_)
   | (with_reducible refine LeO.bind ?_ (fun _ => ?_))
   | exact ih0 _ _ _ _ _ _
   | exact ih1 _ _ _ _ _ _ _
   | exact LeO.none _
   | refine LeO.ite ?_ ?_
   | refine LeO.bind ?_ (fun _ => ?_)
  ·intro y0 y1 y2 y3 y4 y5 y6
   unfold graftageref04_longest.l1
   repeat' first
   | (with_reducible exact ih0 _ _ _ _ _ _)
   | (with_reducible exact ih1 _ _ _ _ _ _ _)
   | (with_reducible exact LeO.refl _)
   | (with_reducible exact LeO.none _)
   | (with_reducible refine LeO.ite ?_ ?_)
   | (with_reducible refine LeO.bind ?_ (fun _ => ?_))
   | exact ih0 _ _ _ _ _ _
   | exact ih1 _ _ _ _ _ _ _
   | exact LeO.none _
   | refine LeO.ite ?_ ?_
   | refine LeO.bind ?_ (fun _ => ?_)
theorem graftageref04_longest.mono : ∀ a0 a1 a2 k, LeO (graftageref04_longest.f k a0 a1 a2) (graftageref04_longest.f (k + 1) a0 a1 a2) := by
 intro a0 a1 a2 k
 obtain ⟨ih0, ih1⟩ := graftageref04_longest.mono_l k
 unfold graftageref04_longest.f
 repeat' first
   | (with_reducible exact ih0 _ _ _ _ _ _)
   | (with_reducible exact ih1 _ _ _ _ _ _ _)
   | (with_reducible exact LeO.refl _)
   | (with_reducible exact LeO.none _)
   | (with_reducible refine LeO.ite ?_ ?_)
   | (with_reducible refine LeO.bind ?_ (fun _ => ?_))
   | exact ih0 _ _ _ _ _ _
   | exact ih1 _ _ _ _ _ _ _
   | exact LeO.none _
   | refine LeO.ite ?_ ?_
   | refine LeO.bind ?_ (fun _ => ?_)
set_option maxHeartbeats 8000000 in
set_option maxRecDepth 100000 in
theorem graftageref04_longest.calls (k : Nat) (a0 : ByteArray) (a1 : ByteArray) (a2 : Int) (r1 : Int) (r2 : Int) (w : World) (h : graftageref04_longest.f k a0 a1 a2 = some (r1, r2)) :
  Calls Try.prog 26 #[.string a0, .string a1, .int .i64 a2] w fun e w' => e = .returned (.tuple #[.int .i64 r1, .int .i64 r2]) ∧ Drawn0 w w' := by
 have H : (graftageref04_longest.l0 k a0 a1 a2 0 0 0) = some (r1, r2) := h
 clear h
 have H' := Aside0.mk H
 clear H
 go_enter Try.func26, Try.ntmps26
 go_wp2
 repeat (go_quiet (fail); try go_wp2)
 go_loopg [8, 9, 10] k (fun kq v8 v9 v10 w' => ∃ (x8_1 : Int) (x9_1 : Int) (x10_1 : Int), v8 = .int .i64 x8_1 ∧ v9 = .int .i64 x9_1 ∧ v10 = .int .i64 x10_1 ∧ Aside0 (graftageref04_longest.l0 kq a0 a1 a2 x8_1 x9_1 x10_1 = some (r1, r2)) ∧ Aside0 (kq ≤ k) ∧ Drawn0 w w')
 case atStart => exact ⟨(0), (0), (0), (by first | rfl | (simp; done) | (simp [*]; done)), (by first | rfl | (simp; done) | (simp [*]; done)), (by first | rfl | (simp; done) | (simp [*]; done)), H', ⟨Nat.le_refl _⟩, by repeat (first | exact Drawn0.refl _ | apply Drawn0.step)⟩
 case round =>
  clear H'
  try clear c2
  try clear p2
  obtain ⟨x8_1, x9_1, x10_1, rfl, rfl, rfl, HA, HK1, ⟨m1, rfl⟩⟩ := hrel
  cases gk with
  | zero => exact absurd HA.out (by simp [graftageref04_longest.l0])
  | succ k1 =>
   have H := HA.out
   clear HA
   simp only [graftageref04_longest.l0] at H
   by_cases c4 : x10_1 < (a0.size : Int)
   ·rw [if_pos c4] at H
    have c4b0 : decide (x10_1 < (a0.size : Int)) = true := decide_eq_true c4
    clear c4
    have H' := Aside0.mk H
    clear H
    go_wp2
    repeat (go_quiet (fail); try go_wp2)
    go_loopg [11] k1 (fun kq v11 w' => ∃ (x11_2 : Int), v11 = .int .i64 x11_2 ∧ Aside0 (graftageref04_longest.l1 kq a0 a1 a2 x8_1 x9_1 x10_1 x11_2 = some (r1, r2)) ∧ Aside0 (kq ≤ k1) ∧ Drawn0 w w')
    case atStart => exact ⟨(0), (by first | rfl | (simp; done) | (simp [*]; done)), H', ⟨Nat.le_refl _⟩, by repeat (first | exact Drawn0.refl _ | apply Drawn0.step)⟩
    case round =>
     clear H'
     try clear c2
     try clear p2
     try clear c4
     try clear c4b0
     try clear p2
     obtain ⟨x11_2, rfl, HA, HK2, ⟨m2, rfl⟩⟩ := hrel
     cases gk with
     | zero => exact absurd HA.out (by simp [graftageref04_longest.l1])
     | succ k2 =>
      have H := HA.out
      clear HA
      simp only [graftageref04_longest.l1] at H
      by_cases c5 : (wrap64 (x10_1 + x11_2)) < (a0.size : Int)
      ·rw [if_pos c5] at H
       have c5b0 : decide ((wrap64 (x10_1 + x11_2)) < (a0.size : Int)) = true := decide_eq_true c5
       clear c5
       by_cases c6 : (wrap64 (a2 + x11_2)) < (a1.size : Int)
       ·rw [if_pos c6] at H
        have c6b0 : decide ((wrap64 (a2 + x11_2)) < (a1.size : Int)) = true := decide_eq_true c6
        clear c6
        obtain ⟨ji7, hji7⟩ : ∃ j_ : Int, (wrap64 (x10_1 + x11_2)) = j_ := ⟨_, rfl⟩
        replace H : (if 0 ≤ (ji7) then (if 0 ≤ (wrap64 (a2 + x11_2)) then (if (bt a0 (ji7)) = (bt a1 (wrap64 (a2 + x11_2))) then (graftageref04_longest.l1 k2 a0 a1 a2 x8_1 x9_1 x10_1 (wrap64 (x11_2 + 1))) else (if x11_2 > x9_1 then (graftageref04_longest.l0 k2 a0 a1 a2 x10_1 x11_2 (wrap64 (x10_1 + 1))) else (graftageref04_longest.l0 k2 a0 a1 a2 x8_1 x9_1 (wrap64 (x10_1 + 1))))) else (none)) else (none)) = some (r1, r2) := by first | (rw [hji7] at H; exact H) | (simp only [hji7] at H ⊢; exact H)
        (try rw [hji7] at c5b0)
        have hji7w : (IntKind.i64.wrap (x10_1 + x11_2)) = ji7 := (i64_w _).trans hji7
        by_cases c8 : 0 ≤ (ji7)
        ·rw [if_pos c8] at H
         have c8b0 : decide (0 ≤ (ji7)) = true := decide_eq_true c8
         clear c8
         obtain ⟨ji10, hji10⟩ : ∃ j_ : Int, (wrap64 (a2 + x11_2)) = j_ := ⟨_, rfl⟩
         replace H : (if 0 ≤ (ji10) then (if (bt a0 (ji7)) = (bt a1 (ji10)) then (graftageref04_longest.l1 k2 a0 a1 a2 x8_1 x9_1 x10_1 (wrap64 (x11_2 + 1))) else (if x11_2 > x9_1 then (graftageref04_longest.l0 k2 a0 a1 a2 x10_1 x11_2 (wrap64 (x10_1 + 1))) else (graftageref04_longest.l0 k2 a0 a1 a2 x8_1 x9_1 (wrap64 (x10_1 + 1))))) else (none)) = some (r1, r2) := by first | (rw [hji10] at H; exact H) | (simp only [hji10] at H ⊢; exact H)
         (try rw [hji10] at c6b0)
         have hji10w : (IntKind.i64.wrap (a2 + x11_2)) = ji10 := (i64_w _).trans hji10
         by_cases c11 : 0 ≤ (ji10)
         ·rw [if_pos c11] at H
          have c11b0 : decide (0 ≤ (ji10)) = true := decide_eq_true c11
          clear c11
          by_cases c13 : (bt a0 (ji7)) = (bt a1 (ji10))
          ·rw [if_pos c13] at H
           have c13b0 : ((bt a0 (ji7)) == (bt a1 (ji10))) = true := beq_iff_eq.mpr c13
           have c13b1 : ((bt a0 (ji7)) != (bt a1 (ji10))) = false := bne_eq_false_iff_eq.mpr c13
           clear c13
           have H' := Aside0.mk H
           clear H
           have p9 : 0 ≤ ((ji7) : Int) := of_decide_eq_true (by first | (with_reducible assumption) | assumption)
           have q9 : (ji7) < (a0.size : Int) := of_decide_eq_true (by first | (with_reducible assumption) | assumption)
           have hx9 := bt_at a0 (ji7)
           replace p9 := eq_true p9
           replace q9 := eq_true q9
           have p12 : 0 ≤ ((ji10) : Int) := of_decide_eq_true (by first | (with_reducible assumption) | assumption)
           have q12 : (ji10) < (a1.size : Int) := of_decide_eq_true (by first | (with_reducible assumption) | assumption)
           have hx12 := bt_at a1 (ji10)
           replace p12 := eq_true p12
           replace q12 := eq_true q12
           go_wp2
           repeat (go_quiet (fail); try go_wp2)
           go_roundg k2
           case measure => have := HK1.out; have := HK2.out; omega
           case rel => exact ⟨(wrap64 (x11_2 + 1)), (by first | rfl | (simp; done) | (simp [*]; done)), H', ⟨by have := HK1.out; have := HK2.out; omega⟩, by repeat (first | exact Drawn0.refl _ | apply Drawn0.step)⟩
          ·rw [if_neg c13] at H
           have c13b0 : ((bt a0 (ji7)) == (bt a1 (ji10))) = false := beq_eq_false_iff_ne.mpr c13
           have c13b1 : ((bt a0 (ji7)) != (bt a1 (ji10))) = true := bne_iff_ne.mpr c13
           by_cases c14 : x11_2 > x9_1
           ·rw [if_pos c14] at H
            have c14b0 : decide (x9_1 < x11_2) = true := decide_eq_true c14
            clear c14
            have H' := Aside0.mk H
            clear H
            have p9 : 0 ≤ ((ji7) : Int) := of_decide_eq_true (by first | (with_reducible assumption) | assumption)
            have q9 : (ji7) < (a0.size : Int) := of_decide_eq_true (by first | (with_reducible assumption) | assumption)
            have hx9 := bt_at a0 (ji7)
            replace p9 := eq_true p9
            replace q9 := eq_true q9
            have p12 : 0 ≤ ((ji10) : Int) := of_decide_eq_true (by first | (with_reducible assumption) | assumption)
            have q12 : (ji10) < (a1.size : Int) := of_decide_eq_true (by first | (with_reducible assumption) | assumption)
            have hx12 := bt_at a1 (ji10)
            replace p12 := eq_true p12
            replace q12 := eq_true q12
            go_wp2
            repeat (go_quiet (fail); try go_wp2)
            go_roundg k2
            case measure => have := HK1.out; have := HK2.out; omega
            case rel => exact ⟨(x10_1), (x11_2), (wrap64 (x10_1 + 1)), (by first | rfl | (simp; done) | (simp [*]; done)), (by first | rfl | (simp; done) | (simp [*]; done)), (by first | rfl | (simp; done) | (simp [*]; done)), H', ⟨by have := HK1.out; have := HK2.out; omega⟩, by repeat (first | exact Drawn0.refl _ | apply Drawn0.step)⟩
           ·rw [if_neg c14] at H
            have c14b0 : decide (x9_1 < x11_2) = false := decide_eq_false c14
            clear c14
            have H' := Aside0.mk H
            clear H
            have p9 : 0 ≤ ((ji7) : Int) := of_decide_eq_true (by first | (with_reducible assumption) | assumption)
            have q9 : (ji7) < (a0.size : Int) := of_decide_eq_true (by first | (with_reducible assumption) | assumption)
            have hx9 := bt_at a0 (ji7)
            replace p9 := eq_true p9
            replace q9 := eq_true q9
            have p12 : 0 ≤ ((ji10) : Int) := of_decide_eq_true (by first | (with_reducible assumption) | assumption)
            have q12 : (ji10) < (a1.size : Int) := of_decide_eq_true (by first | (with_reducible assumption) | assumption)
            have hx12 := bt_at a1 (ji10)
            replace p12 := eq_true p12
            replace q12 := eq_true q12
            go_wp2
            repeat (go_quiet (fail); try go_wp2)
            go_roundg k2
            case measure => have := HK1.out; have := HK2.out; omega
            case rel => exact ⟨(x8_1), (x9_1), (wrap64 (x10_1 + 1)), (by first | rfl | (simp; done) | (simp [*]; done)), (by first | rfl | (simp; done) | (simp [*]; done)), (by first | rfl | (simp; done) | (simp [*]; done)), H', ⟨by have := HK1.out; have := HK2.out; omega⟩, by repeat (first | exact Drawn0.refl _ | apply Drawn0.step)⟩
         ·rw [if_neg c11] at H
          exact absurd H (by simp)
        ·rw [if_neg c8] at H
         exact absurd H (by simp)
       ·rw [if_neg c6] at H
        have c6b0 : decide ((wrap64 (a2 + x11_2)) < (a1.size : Int)) = false := decide_eq_false c6
        clear c6
        by_cases c15 : x11_2 > x9_1
        ·rw [if_pos c15] at H
         have c15b0 : decide (x9_1 < x11_2) = true := decide_eq_true c15
         clear c15
         have H' := Aside0.mk H
         clear H
         go_wp2
         repeat (go_quiet (fail); try go_wp2)
         go_roundg k2
         case measure => have := HK1.out; have := HK2.out; omega
         case rel => exact ⟨(x10_1), (x11_2), (wrap64 (x10_1 + 1)), (by first | rfl | (simp; done) | (simp [*]; done)), (by first | rfl | (simp; done) | (simp [*]; done)), (by first | rfl | (simp; done) | (simp [*]; done)), H', ⟨by have := HK1.out; have := HK2.out; omega⟩, by repeat (first | exact Drawn0.refl _ | apply Drawn0.step)⟩
        ·rw [if_neg c15] at H
         have c15b0 : decide (x9_1 < x11_2) = false := decide_eq_false c15
         clear c15
         have H' := Aside0.mk H
         clear H
         go_wp2
         repeat (go_quiet (fail); try go_wp2)
         go_roundg k2
         case measure => have := HK1.out; have := HK2.out; omega
         case rel => exact ⟨(x8_1), (x9_1), (wrap64 (x10_1 + 1)), (by first | rfl | (simp; done) | (simp [*]; done)), (by first | rfl | (simp; done) | (simp [*]; done)), (by first | rfl | (simp; done) | (simp [*]; done)), H', ⟨by have := HK1.out; have := HK2.out; omega⟩, by repeat (first | exact Drawn0.refl _ | apply Drawn0.step)⟩
      ·rw [if_neg c5] at H
       have c5b0 : decide ((wrap64 (x10_1 + x11_2)) < (a0.size : Int)) = false := decide_eq_false c5
       clear c5
       by_cases c16 : x11_2 > x9_1
       ·rw [if_pos c16] at H
        have c16b0 : decide (x9_1 < x11_2) = true := decide_eq_true c16
        clear c16
        have H' := Aside0.mk H
        clear H
        go_wp2
        repeat (go_quiet (fail); try go_wp2)
        go_roundg k2
        case measure => have := HK1.out; have := HK2.out; omega
        case rel => exact ⟨(x10_1), (x11_2), (wrap64 (x10_1 + 1)), (by first | rfl | (simp; done) | (simp [*]; done)), (by first | rfl | (simp; done) | (simp [*]; done)), (by first | rfl | (simp; done) | (simp [*]; done)), H', ⟨by have := HK1.out; have := HK2.out; omega⟩, by repeat (first | exact Drawn0.refl _ | apply Drawn0.step)⟩
       ·rw [if_neg c16] at H
        have c16b0 : decide (x9_1 < x11_2) = false := decide_eq_false c16
        clear c16
        have H' := Aside0.mk H
        clear H
        go_wp2
        repeat (go_quiet (fail); try go_wp2)
        go_roundg k2
        case measure => have := HK1.out; have := HK2.out; omega
        case rel => exact ⟨(x8_1), (x9_1), (wrap64 (x10_1 + 1)), (by first | rfl | (simp; done) | (simp [*]; done)), (by first | rfl | (simp; done) | (simp [*]; done)), (by first | rfl | (simp; done) | (simp [*]; done)), H', ⟨by have := HK1.out; have := HK2.out; omega⟩, by repeat (first | exact Drawn0.refl _ | apply Drawn0.step)⟩
   ·rw [if_neg c4] at H
    have c4b0 : decide (x10_1 < (a0.size : Int)) = false := decide_eq_false c4
    clear c4
    simp only [Option.some.injEq, Prod.mk.injEq] at H
    obtain ⟨rfl, rfl⟩ := H
    go_wp2
    repeat (go_quiet (fail); try go_wp2)
    go_ret2
    exact ⟨by first | rfl | (simp; done) | (simp [*]; done), by repeat (first | exact Drawn0.refl _ | apply Drawn0.step)⟩

/-! ### graftageref04_plain: function 27 -/
def graftageref04_plain.f (k : Nat) (a0 : ByteArray) (a1 : ByteArray) : Option (ByteArray) := if a1.toList = ([] : List UInt8) then (some a0) else ((graftageref01_Put.f k a0 (IntKind.u64.wrap (wrap64 (2 * (a1.size : Int))))).bind fun t116 => (if t116.size + a1.size ≤ 9223372036854775807 then (some (t116 ++ a1)) else (none)))
theorem graftageref04_plain.mono : ∀ a0 a1 k, LeO (graftageref04_plain.f k a0 a1) (graftageref04_plain.f (k + 1) a0 a1) := by
 intro a0 a1 k
 unfold graftageref04_plain.f
 repeat' first
   | (with_reducible exact graftageref01_Put.mono _ _ _)
   | (with_reducible exact LeO.refl _)
   | (with_reducible exact LeO.none _)
   | (with_reducible refine LeO.ite ?_ ?_)
   | (with_reducible refine LeO.bind ?_ (fun _ => ?_))
   | exact graftageref01_Put.mono _ _ _
   | exact LeO.none _
   | refine LeO.ite ?_ ?_
   | refine LeO.bind ?_ (fun _ => ?_)
set_option maxHeartbeats 8000000 in
set_option maxRecDepth 100000 in
theorem graftageref04_plain.calls (k : Nat) (a0 : ByteArray) (a1 : ByteArray) (r : ByteArray) (w : World) (h : graftageref04_plain.f k a0 a1 = some r) :
  Calls Try.prog 27 #[.string a0, .string a1] w fun e w' => e = .returned (.string r) ∧ Below w.heap.size w w' := by
 have HB := Aside0.mk (Below.refl w.heap.size w)
 have H : (if a1.toList = ([] : List UInt8) then (some a0) else ((graftageref01_Put.f k a0 (IntKind.u64.wrap (wrap64 (2 * (a1.size : Int))))).bind fun t116 => (if t116.size + a1.size ≤ 9223372036854775807 then (some (t116 ++ a1)) else (none)))) = some r := h
 clear h
 by_cases c3 : a1.toList = ([] : List UInt8)
 ·rw [if_pos c3] at H
  have c3b0 : (a1.toList == ([] : List UInt8)) = true := beq_iff_eq.mpr c3
  have c3b1 : (a1.toList != ([] : List UInt8)) = false := bne_eq_false_iff_eq.mpr c3
  clear c3
  obtain rfl := Option.some.inj H
  go_enter Try.func27, Try.ntmps27
  go_wp2
  go_ret
  exact ⟨by first | rfl | (simp [errW_none, errW_some] <;> rfl) | (simp [*, errW_none, errW_some] <;> rfl), by repeat (first | (with_reducible first | exact HB.out | apply below_alloc | apply pw_below_drewN | apply below_drew1) | exact HB.out)⟩
 ·rw [if_neg c3] at H
  have c3b0 : (a1.toList == ([] : List UInt8)) = false := beq_eq_false_iff_ne.mpr c3
  have c3b1 : (a1.toList != ([] : List UInt8)) = true := bne_iff_ne.mpr c3
  replace H := Option.bind_eq_some_iff.mp H
  obtain ⟨t116, A40, H⟩ := H
  replace H : (if t116.size + a1.size ≤ 9223372036854775807 then (some (t116 ++ a1)) else (none)) = some r := H
  have A4 := Aside0.mk A40
  clear A40
  by_cases c5 : t116.size + a1.size ≤ 9223372036854775807
  ·rw [if_pos c5] at H
   have c5b0 := eq_true c5
   have c5b1 : decide (t116.size + a1.size ≤ 9223372036854775807) = true := decide_eq_true c5
   try have c5b2 : (9223372036854775807 < t116.size + a1.size) = False := eq_false (Nat.not_lt.2 c5)
   obtain rfl := Option.some.inj H
   go_enter Try.func27, Try.ntmps27
   go_wp2_with (first | ((with_reducible refine gate_callee (f := 25) rfl ?_); refine goesL_ (some 13) rfl rfl Try.func25 (by kernel_rfl) rfl #[.string a0, .int .u64 (IntKind.u64.wrap (wrap64 (2 * (a1.size : Int))))] rfl (by (try simp only [List.map_toArray, List.map_cons, List.map_nil]); first | done | rfl | (simp only [List.length_drop, List.length_take]; rfl)) ?_; (with_reducible refine (graftageref01_Put.calls k a0 (IntKind.u64.wrap (wrap64 (2 * (a1.size : Int)))) t116 _ A4.out).mono ?_); rintro e w6 ⟨rfl, hb⟩; refine ⟨_, rfl, ?_⟩; have n0_ := Aside0.mk (below_step (by repeat (first | (with_reducible first | exact HB.out | apply below_alloc | apply pw_below_drewN | apply below_drew1) | exact HB.out)) hb); clear HB; have HB := n0_; clear n0_; (try clear hb); (try clear hb2); (try clear hk); (try clear hi)))
   go_ret
   exact ⟨by first | rfl | (simp [errW_none, errW_some] <;> rfl) | (simp [*, errW_none, errW_some] <;> rfl), by repeat (first | (with_reducible first | exact HB.out | apply below_alloc | apply pw_below_drewN | apply below_drew1) | exact HB.out)⟩
  ·rw [if_neg c5] at H
   exact absurd H (by simp)

/-! ### graftageref04_Make: function 12 -/
mutual
def graftageref04_Make.j0 : Nat → ByteArray → ByteArray → Bool → Option (ByteArray)
 | 0, _, _, _ => none
 | k + 1, x0, x1, x17 => if x17 = true then (some (⟨#[]⟩ : ByteArray)) else ((graftageref01_Put.f k (⟨#[]⟩ : ByteArray) (IntKind.u64.wrap ((x0.size : Int)))).bind fun t117 => ((graftageref01_Put.f k t117 (IntKind.u64.wrap ((x1.size : Int)))).bind fun t118 => (graftageref04_Make.l0 k x0 x1 t118 0 0)))
def graftageref04_Make.l0 : Nat → ByteArray → ByteArray → ByteArray → Int → Int → Option (ByteArray)
 | 0, _, _, _, _, _ => none
 | k + 1, x0, x1, x5, x6, x7 => if x7 < (x1.size : Int) then ((graftageref04_longest.f k x0 x1 x7).bind fun bt120 => (if bt120.2 ≥ 8 then (if 0 ≤ x6 then (if x6 ≤ x7 then (if x7 ≤ (x1.size : Int) then ((graftageref04_plain.f k x5 (x1.extract (x6 : Int).toNat (x7 : Int).toNat)).bind fun t122 => ((graftageref01_Put.f k t122 (IntKind.u64.wrap (wrap64 ((wrap64 (2 * bt120.2)) + 1)))).bind fun t123 => ((graftageref01_Put.f k t123 (IntKind.u64.wrap (bt120.1))).bind fun t124 => (graftageref04_Make.l0 k x0 x1 t124 (wrap64 (x7 + bt120.2)) (wrap64 (x7 + bt120.2)))))) else (none)) else (none)) else (none)) else (if (wrap64 ((wrap64 (x7 + 1)) - x6)) = 1024 then (if 0 ≤ x6 then (if x6 ≤ (wrap64 (x7 + 1)) then (if (wrap64 (x7 + 1)) ≤ (x1.size : Int) then ((graftageref04_plain.f k x5 (x1.extract (x6 : Int).toNat ((wrap64 (x7 + 1)) : Int).toNat)).bind fun t125 => (graftageref04_Make.l0 k x0 x1 t125 (wrap64 (x7 + 1)) (wrap64 (x7 + 1)))) else (none)) else (none)) else (none)) else (graftageref04_Make.l0 k x0 x1 x5 x6 (wrap64 (x7 + 1)))))) else (if 0 ≤ x6 then (if x6 ≤ (x1.size : Int) then ((graftageref04_plain.f k x5 (x1.extract (x6 : Int).toNat x1.size)).bind fun t119 => (some t119)) else (none)) else (none))
end
def graftageref04_Make.f (k : Nat) (a0 : ByteArray) (a1 : ByteArray) : Option (ByteArray) := if (a0.size : Int) > 1048576 then (graftageref04_Make.j0 k a0 a1 true) else (graftageref04_Make.j0 k a0 a1 (decide ((a1.size : Int) > 1048576)))
theorem graftageref04_Make.mono_l : ∀ k, (∀ y0 y1 y2, LeO (graftageref04_Make.j0 k y0 y1 y2) (graftageref04_Make.j0 (k + 1) y0 y1 y2)) ∧ (∀ y0 y1 y2 y3 y4, LeO (graftageref04_Make.l0 k y0 y1 y2 y3 y4) (graftageref04_Make.l0 (k + 1) y0 y1 y2 y3 y4))
 | 0 => ⟨fun _ _ _ r h => by simp [graftageref04_Make.j0] at h, fun _ _ _ _ _ r h => by simp [graftageref04_Make.l0] at h⟩
 | k + 1 => by
  obtain ⟨ih0, ih1⟩ := graftageref04_Make.mono_l k
  refine ⟨?_, ?_⟩
  ·intro y0 y1 y2
   unfold graftageref04_Make.j0
   repeat' first
   | (with_reducible exact ih0 _ _ _)
   | (with_reducible exact ih1 _ _ _ _ _)
   | (with_reducible exact graftageref01_Put.mono _ _ _)
   | (with_reducible exact graftageref04_longest.mono _ _ _ _)
   | (with_reducible exact graftageref04_plain.mono _ _ _)
   | (with_reducible exact LeO.refl _)
   | (with_reducible exact LeO.none _)
   | (with_reducible refine LeO.ite ?_ ?_)
   | (with_reducible refine LeO.bind ?_ (fun _ => ?_))
   | exact ih0 _ _ _
   | exact ih1 _ _ _ _ _
   | exact graftageref01_Put.mono _ _ _
   | exact graftageref04_longest.mono _ _ _ _
   | exact graftageref04_plain.mono _ _ _
   | exact LeO.none _
   | refine LeO.ite ?_ ?_
   | refine LeO.bind ?_ (fun _ => ?_)
  ·intro y0 y1 y2 y3 y4
   unfold graftageref04_Make.l0
   repeat' first
   | (with_reducible exact ih0 _ _ _)
   | (with_reducible exact ih1 _ _ _ _ _)
   | (with_reducible exact graftageref01_Put.mono _ _ _)
   | (with_reducible exact graftageref04_longest.mono _ _ _ _)
   | (with_reducible exact graftageref04_plain.mono _ _ _)
   | (with_reducible exact LeO.refl _)
   | (with_reducible exact LeO.none _)
   | (with_reducible refine LeO.ite ?_ ?_)
   | (with_reducible refine LeO.bind ?_ (fun _ => ?_))
   | exact ih0 _ _ _
   | exact ih1 _ _ _ _ _
   | exact graftageref01_Put.mono _ _ _
   | exact graftageref04_longest.mono _ _ _ _
   | exact graftageref04_plain.mono _ _ _
   | exact LeO.none _
   | refine LeO.ite ?_ ?_
   | refine LeO.bind ?_ (fun _ => ?_)
theorem graftageref04_Make.mono : ∀ a0 a1 k, LeO (graftageref04_Make.f k a0 a1) (graftageref04_Make.f (k + 1) a0 a1) := by
 intro a0 a1 k
 obtain ⟨ih0, ih1⟩ := graftageref04_Make.mono_l k
 unfold graftageref04_Make.f
 repeat' first
   | (with_reducible exact ih0 _ _ _)
   | (with_reducible exact ih1 _ _ _ _ _)
   | (with_reducible exact graftageref01_Put.mono _ _ _)
   | (with_reducible exact graftageref04_longest.mono _ _ _ _)
   | (with_reducible exact graftageref04_plain.mono _ _ _)
   | (with_reducible exact LeO.refl _)
   | (with_reducible exact LeO.none _)
   | (with_reducible refine LeO.ite ?_ ?_)
   | (with_reducible refine LeO.bind ?_ (fun _ => ?_))
   | exact ih0 _ _ _
   | exact ih1 _ _ _ _ _
   | exact graftageref01_Put.mono _ _ _
   | exact graftageref04_longest.mono _ _ _ _
   | exact graftageref04_plain.mono _ _ _
   | exact LeO.none _
   | refine LeO.ite ?_ ?_
   | refine LeO.bind ?_ (fun _ => ?_)
set_option maxHeartbeats 8000000 in
set_option maxRecDepth 100000 in
theorem graftageref04_Make.calls (k : Nat) (a0 : ByteArray) (a1 : ByteArray) (r : ByteArray) (w : World) (h : graftageref04_Make.f k a0 a1 = some r) :
  Calls Try.prog 12 #[.string a0, .string a1] w fun e w' => e = .returned (.string r) ∧ Below w.heap.size w w' := by
 have HB := Aside0.mk (Below.refl w.heap.size w)
 have H : (if (a0.size : Int) > 1048576 then (graftageref04_Make.j0 k a0 a1 true) else (graftageref04_Make.j0 k a0 a1 (decide ((a1.size : Int) > 1048576)))) = some r := h
 clear h
 have HC3 := Aside0.mk H
 clear H
 go_enter Try.func12, Try.ntmps12
 go_upto_region 1 with (fail)
 go_cut [17] (fun v17 wc => ∃ (kq : Nat) (x17_2 : Bool), v17 = .bool x17_2 ∧ Aside0 (graftageref04_Make.j0 kq a0 a1 x17_2 = some r) ∧ Aside0 (kq ≤ k) ∧ Aside0 (Below w.heap.size w wc))
 case first =>
  have H := HC3.out
  clear HC3
  by_cases c4 : (a0.size : Int) > 1048576
  ·rw [if_pos c4] at H
   have c4b0 : decide (1048576 < (a0.size : Int)) = true := decide_eq_true c4
   have c4b1 : decide (1048576 < a0.size) = true := decide_eq_true (by omega)
   clear c4
   (first | rw [c4b0] | (simp only [i64_w, i32_w]; rw [c4b0]) | skip)
   have H' := Aside0.mk H
   clear H
   go_wp2
   go_meet
   case rel => exact ⟨_, (true), (by first | rfl | (simp; done) | (simp [*]; done)), H', ⟨by first | omega | exact Nat.le_refl _⟩, ⟨by repeat (first | (with_reducible first | exact HB.out | apply below_alloc | apply pw_below_drewN | apply below_drew1) | exact HB.out)⟩⟩
  ·rw [if_neg c4] at H
   have c4b0 : decide (1048576 < (a0.size : Int)) = false := decide_eq_false c4
   have c4b1 : decide (1048576 < a0.size) = false := decide_eq_false (by omega)
   clear c4
   (first | rw [c4b0] | (simp only [i64_w, i32_w]; rw [c4b0]) | skip)
   have H' := Aside0.mk H
   clear H
   go_wp2
   go_meet
   case rel => exact ⟨_, (decide ((a1.size : Int) > 1048576)), (by first | rfl | (simp; done) | (simp [*]; done)), H', ⟨by first | omega | exact Nat.le_refl _⟩, ⟨by repeat (first | (with_reducible first | exact HB.out | apply below_alloc | apply pw_below_drewN | apply below_drew1) | exact HB.out)⟩⟩
 case rest =>
  clear HC3
  try clear c1
  try clear p2
  try clear c4
  try clear c4b0
  try clear c4b1
  obtain ⟨kq, x17_2, rfl, HA, HJ2, HB⟩ := hcut
  cases kq with
  | zero => exact absurd HA.out (by simp [graftageref04_Make.j0])
  | succ kj2 =>
   have H := HA.out
   clear HA
   simp only [graftageref04_Make.j0] at H
   by_cases c5 : x17_2 = true
   ·subst c5
    have H1 : (some (⟨#[]⟩ : ByteArray)) = some r := by rw [if_pos rfl] at H; exact H
    clear H
    have H := H1
    clear H1
    obtain rfl := Option.some.inj H
    go_wp2
    go_ret
    exact ⟨by first | rfl | (simp [errW_none, errW_some] <;> rfl) | (simp [*, errW_none, errW_some] <;> rfl), by repeat (first | (with_reducible first | exact HB.out | apply below_alloc | apply pw_below_drewN | apply below_drew1) | exact HB.out)⟩
   ·replace c5 := Bool.eq_false_iff.mpr c5
    subst c5
    have H1 : ((graftageref01_Put.f kj2 (⟨#[]⟩ : ByteArray) (IntKind.u64.wrap ((a0.size : Int)))).bind fun t117 => ((graftageref01_Put.f kj2 t117 (IntKind.u64.wrap ((a1.size : Int)))).bind fun t118 => (graftageref04_Make.l0 kj2 a0 a1 t118 0 0))) = some r := by rw [if_neg (show ¬ (false = true) by decide)] at H; exact H
    clear H
    have H := H1
    clear H1
    replace H := Option.bind_eq_some_iff.mp H
    obtain ⟨t117, A60, H⟩ := H
    replace H : ((graftageref01_Put.f kj2 t117 (IntKind.u64.wrap ((a1.size : Int)))).bind fun t118 => (graftageref04_Make.l0 kj2 a0 a1 t118 0 0)) = some r := H
    have A6 := Aside0.mk A60
    clear A60
    replace H := Option.bind_eq_some_iff.mp H
    obtain ⟨t118, A70, H⟩ := H
    replace H : (graftageref04_Make.l0 kj2 a0 a1 t118 0 0) = some r := H
    have A7 := Aside0.mk A70
    clear A70
    have H' := Aside0.mk H
    clear H
    go_wp2_with (first | ((with_reducible refine gate_callee (f := 25) rfl ?_); refine goesL_ (some 21) rfl rfl Try.func25 (by kernel_rfl) rfl #[.string (⟨#[]⟩ : ByteArray), .int .u64 (IntKind.u64.wrap ((a0.size : Int)))] rfl (by (try simp only [List.map_toArray, List.map_cons, List.map_nil]); first | done | rfl | (simp only [List.length_drop, List.length_take]; rfl)) ?_; (with_reducible refine (graftageref01_Put.calls kj2 (⟨#[]⟩ : ByteArray) (IntKind.u64.wrap ((a0.size : Int))) t117 _ A6.out).mono ?_); rintro e w8 ⟨rfl, hb⟩; refine ⟨_, rfl, ?_⟩; have n0_ := Aside0.mk (below_step (by repeat (first | (with_reducible first | exact HB.out | apply below_alloc | apply pw_below_drewN | apply below_drew1) | exact HB.out)) hb); clear HB; have HB := n0_; clear n0_; (try clear hb); (try clear hb2); (try clear hk); (try clear hi)) | ((with_reducible refine gate_callee (f := 25) rfl ?_); refine goesL_ (some 25) rfl rfl Try.func25 (by kernel_rfl) rfl #[.string t117, .int .u64 (IntKind.u64.wrap ((a1.size : Int)))] rfl (by (try simp only [List.map_toArray, List.map_cons, List.map_nil]); first | done | rfl | (simp only [List.length_drop, List.length_take]; rfl)) ?_; (with_reducible refine (graftageref01_Put.calls kj2 t117 (IntKind.u64.wrap ((a1.size : Int))) t118 _ A7.out).mono ?_); rintro e w9 ⟨rfl, hb⟩; refine ⟨_, rfl, ?_⟩; have n0_ := Aside0.mk (below_step (by repeat (first | (with_reducible first | exact HB.out | apply below_alloc | apply pw_below_drewN | apply below_drew1) | exact HB.out)) hb); clear HB; have HB := n0_; clear n0_; (try clear hb); (try clear hb2); (try clear hk); (try clear hi)))
    go_loopg [5, 6, 7] kj2 (fun kq v5 v6 v7 w' => ∃ (x5_2 : ByteArray) (x6_2 : Int) (x7_2 : Int), v5 = .string x5_2 ∧ v6 = .int .i64 x6_2 ∧ v7 = .int .i64 x7_2 ∧ Aside0 (graftageref04_Make.l0 kq a0 a1 x5_2 x6_2 x7_2 = some r) ∧ Aside0 (kq ≤ kj2) ∧ Aside0 (Below w.heap.size w w'))
    case atStart => exact ⟨(t118), (0), (0), (by first | rfl | (simp; done) | (simp [*]; done)), (by first | rfl | (simp; done) | (simp [*]; done)), (by first | rfl | (simp; done) | (simp [*]; done)), H', ⟨Nat.le_refl _⟩, ⟨by repeat (first | (with_reducible first | exact HB.out | apply below_alloc | apply pw_below_drewN | apply below_drew1) | exact HB.out)⟩⟩
    case round =>
     clear H'
     try clear c1
     try clear c2
     try clear p2
     try clear c4
     try clear c4b0
     try clear c4b1
     try clear c5
     try clear p2
     obtain ⟨x5_2, x6_2, x7_2, rfl, rfl, rfl, HA, HK2, HB⟩ := hrel
     cases gk with
     | zero => exact absurd HA.out (by simp [graftageref04_Make.l0])
     | succ k2 =>
      have H := HA.out
      clear HA
      simp only [graftageref04_Make.l0] at H
      by_cases c10 : x7_2 < (a1.size : Int)
      ·rw [if_pos c10] at H
       have c10b0 : decide (x7_2 < (a1.size : Int)) = true := decide_eq_true c10
       clear c10
       replace H := Option.bind_eq_some_iff.mp H
       obtain ⟨⟨t120, t121⟩, A110, H⟩ := H
       replace H : (if t121 ≥ 8 then (if 0 ≤ x6_2 then (if x6_2 ≤ x7_2 then (if x7_2 ≤ (a1.size : Int) then ((graftageref04_plain.f k2 x5_2 (a1.extract (x6_2 : Int).toNat (x7_2 : Int).toNat)).bind fun t122 => ((graftageref01_Put.f k2 t122 (IntKind.u64.wrap (wrap64 ((wrap64 (2 * t121)) + 1)))).bind fun t123 => ((graftageref01_Put.f k2 t123 (IntKind.u64.wrap (t120))).bind fun t124 => (graftageref04_Make.l0 k2 a0 a1 t124 (wrap64 (x7_2 + t121)) (wrap64 (x7_2 + t121)))))) else (none)) else (none)) else (none)) else (if (wrap64 ((wrap64 (x7_2 + 1)) - x6_2)) = 1024 then (if 0 ≤ x6_2 then (if x6_2 ≤ (wrap64 (x7_2 + 1)) then (if (wrap64 (x7_2 + 1)) ≤ (a1.size : Int) then ((graftageref04_plain.f k2 x5_2 (a1.extract (x6_2 : Int).toNat ((wrap64 (x7_2 + 1)) : Int).toNat)).bind fun t125 => (graftageref04_Make.l0 k2 a0 a1 t125 (wrap64 (x7_2 + 1)) (wrap64 (x7_2 + 1)))) else (none)) else (none)) else (none)) else (graftageref04_Make.l0 k2 a0 a1 x5_2 x6_2 (wrap64 (x7_2 + 1))))) = some r := H
       have A11 := Aside0.mk A110
       clear A110
       by_cases c12 : t121 ≥ 8
       ·rw [if_pos c12] at H
        have c12b0 : decide (8 ≤ t121) = true := decide_eq_true c12
        clear c12
        by_cases c13 : 0 ≤ x6_2
        ·rw [if_pos c13] at H
         have c13b0 := eq_true c13
         have c13b1 : decide (0 ≤ x6_2) = true := decide_eq_true c13
         clear c13
         by_cases c14 : x6_2 ≤ x7_2
         ·rw [if_pos c14] at H
          have c14b0 := eq_true c14
          have c14b1 : decide (x6_2 ≤ x7_2) = true := decide_eq_true c14
          clear c14
          by_cases c15 : x7_2 ≤ (a1.size : Int)
          ·rw [if_pos c15] at H
           have c15b0 := eq_true c15
           have c15b1 : decide (x7_2 ≤ (a1.size : Int)) = true := decide_eq_true c15
           clear c15
           replace H := Option.bind_eq_some_iff.mp H
           obtain ⟨t122, A160, H⟩ := H
           replace H : ((graftageref01_Put.f k2 t122 (IntKind.u64.wrap (wrap64 ((wrap64 (2 * t121)) + 1)))).bind fun t123 => ((graftageref01_Put.f k2 t123 (IntKind.u64.wrap (t120))).bind fun t124 => (graftageref04_Make.l0 k2 a0 a1 t124 (wrap64 (x7_2 + t121)) (wrap64 (x7_2 + t121))))) = some r := H
           have A16 := Aside0.mk A160
           clear A160
           replace H := Option.bind_eq_some_iff.mp H
           obtain ⟨t123, A170, H⟩ := H
           replace H : ((graftageref01_Put.f k2 t123 (IntKind.u64.wrap (t120))).bind fun t124 => (graftageref04_Make.l0 k2 a0 a1 t124 (wrap64 (x7_2 + t121)) (wrap64 (x7_2 + t121)))) = some r := H
           have A17 := Aside0.mk A170
           clear A170
           replace H := Option.bind_eq_some_iff.mp H
           obtain ⟨t124, A180, H⟩ := H
           replace H : (graftageref04_Make.l0 k2 a0 a1 t124 (wrap64 (x7_2 + t121)) (wrap64 (x7_2 + t121))) = some r := H
           have A18 := Aside0.mk A180
           clear A180
           have H' := Aside0.mk H
           clear H
           go_wp2_with (first | ((with_reducible refine gate_callee (f := 26) rfl ?_); refine goesL_ (some 34) rfl rfl Try.func26 (by kernel_rfl) rfl #[.string a0, .string a1, .int .i64 x7_2] rfl (by (try simp only [List.map_toArray, List.map_cons, List.map_nil]); first | done | rfl | (simp only [List.length_drop, List.length_take]; rfl)) ?_; (with_reducible refine (graftageref04_longest.calls k2 a0 a1 x7_2 t120 t121 _ A11.out).mono ?_); rintro e w' ⟨rfl, ⟨nd, rfl⟩⟩; refine ⟨_, rfl, ?_⟩) | ((with_reducible refine gate_callee (f := 27) rfl ?_); refine goesL_ (some 44) rfl rfl Try.func27 (by kernel_rfl) rfl #[.string x5_2, .string (a1.extract (x6_2 : Int).toNat (x7_2 : Int).toNat)] rfl (by (try simp only [List.map_toArray, List.map_cons, List.map_nil]); first | done | rfl | (simp only [List.length_drop, List.length_take]; rfl)) ?_; (with_reducible refine (graftageref04_plain.calls k2 x5_2 (a1.extract (x6_2 : Int).toNat (x7_2 : Int).toNat) t122 _ A16.out).mono ?_); rintro e w19 ⟨rfl, hb⟩; refine ⟨_, rfl, ?_⟩; have n0_ := Aside0.mk (below_step (by repeat (first | (with_reducible first | exact HB.out | apply below_alloc | apply pw_below_drewN | apply below_drew1) | exact HB.out)) hb); clear HB; have HB := n0_; clear n0_; (try clear hb); (try clear hb2); (try clear hk); (try clear hi)) | ((with_reducible refine gate_callee (f := 25) rfl ?_); refine goesL_ (some 50) rfl rfl Try.func25 (by kernel_rfl) rfl #[.string t122, .int .u64 (IntKind.u64.wrap (wrap64 ((wrap64 (2 * t121)) + 1)))] rfl (by (try simp only [List.map_toArray, List.map_cons, List.map_nil]); first | done | rfl | (simp only [List.length_drop, List.length_take]; rfl)) ?_; (with_reducible refine (graftageref01_Put.calls k2 t122 (IntKind.u64.wrap (wrap64 ((wrap64 (2 * t121)) + 1))) t123 _ A17.out).mono ?_); rintro e w20 ⟨rfl, hb⟩; refine ⟨_, rfl, ?_⟩; have n0_ := Aside0.mk (below_step (by repeat (first | (with_reducible first | exact HB.out | apply below_alloc | apply pw_below_drewN | apply below_drew1) | exact HB.out)) hb); clear HB; have HB := n0_; clear n0_; (try clear hb); (try clear hb2); (try clear hk); (try clear hi)) | ((with_reducible refine gate_callee (f := 25) rfl ?_); refine goesL_ (some 53) rfl rfl Try.func25 (by kernel_rfl) rfl #[.string t123, .int .u64 (IntKind.u64.wrap (t120))] rfl (by (try simp only [List.map_toArray, List.map_cons, List.map_nil]); first | done | rfl | (simp only [List.length_drop, List.length_take]; rfl)) ?_; (with_reducible refine (graftageref01_Put.calls k2 t123 (IntKind.u64.wrap (t120)) t124 _ A18.out).mono ?_); rintro e w21 ⟨rfl, hb⟩; refine ⟨_, rfl, ?_⟩; have n0_ := Aside0.mk (below_step (by repeat (first | (with_reducible first | exact HB.out | apply below_alloc | apply pw_below_drewN | apply below_drew1) | exact HB.out)) hb); clear HB; have HB := n0_; clear n0_; (try clear hb); (try clear hb2); (try clear hk); (try clear hi)))
           go_roundg k2
           case measure => have := HJ2.out; have := HK2.out; omega
           case rel => exact ⟨(t124), (wrap64 (x7_2 + t121)), (wrap64 (x7_2 + t121)), (by first | rfl | (simp; done) | (simp [*]; done)), (by first | rfl | (simp; done) | (simp [*]; done)), (by first | rfl | (simp; done) | (simp [*]; done)), H', ⟨by have := HJ2.out; have := HK2.out; omega⟩, ⟨by repeat (first | (with_reducible first | exact HB.out | apply below_alloc | apply pw_below_drewN | apply below_drew1) | exact HB.out)⟩⟩
          ·rw [if_neg c15] at H
           exact absurd H (by simp)
         ·rw [if_neg c14] at H
          exact absurd H (by simp)
        ·rw [if_neg c13] at H
         exact absurd H (by simp)
       ·rw [if_neg c12] at H
        have c12b0 : decide (8 ≤ t121) = false := decide_eq_false c12
        clear c12
        by_cases c22 : (wrap64 ((wrap64 (x7_2 + 1)) - x6_2)) = 1024
        ·rw [if_pos c22] at H
         have c22b0 : ((wrap64 ((wrap64 (x7_2 + 1)) - x6_2)) == 1024) = true := beq_iff_eq.mpr c22
         have c22b1 : ((wrap64 ((wrap64 (x7_2 + 1)) - x6_2)) != 1024) = false := bne_eq_false_iff_eq.mpr c22
         clear c22
         by_cases c23 : 0 ≤ x6_2
         ·rw [if_pos c23] at H
          have c23b0 := eq_true c23
          have c23b1 : decide (0 ≤ x6_2) = true := decide_eq_true c23
          clear c23
          by_cases c24 : x6_2 ≤ (wrap64 (x7_2 + 1))
          ·rw [if_pos c24] at H
           have c24b0 := eq_true c24
           have c24b1 : decide (x6_2 ≤ (wrap64 (x7_2 + 1))) = true := decide_eq_true c24
           by_cases c25 : (wrap64 (x7_2 + 1)) ≤ (a1.size : Int)
           ·rw [if_pos c25] at H
            have c25b0 := eq_true c25
            have c25b1 : decide ((wrap64 (x7_2 + 1)) ≤ (a1.size : Int)) = true := decide_eq_true c25
            replace H := Option.bind_eq_some_iff.mp H
            obtain ⟨t125, A260, H⟩ := H
            replace H : (graftageref04_Make.l0 k2 a0 a1 t125 (wrap64 (x7_2 + 1)) (wrap64 (x7_2 + 1))) = some r := H
            have A26 := Aside0.mk A260
            clear A260
            have H' := Aside0.mk H
            clear H
            go_wp2_with (first | ((with_reducible refine gate_callee (f := 26) rfl ?_); refine goesL_ (some 34) rfl rfl Try.func26 (by kernel_rfl) rfl #[.string a0, .string a1, .int .i64 x7_2] rfl (by (try simp only [List.map_toArray, List.map_cons, List.map_nil]); first | done | rfl | (simp only [List.length_drop, List.length_take]; rfl)) ?_; (with_reducible refine (graftageref04_longest.calls k2 a0 a1 x7_2 t120 t121 _ A11.out).mono ?_); rintro e w' ⟨rfl, ⟨nd, rfl⟩⟩; refine ⟨_, rfl, ?_⟩) | ((with_reducible refine gate_callee (f := 27) rfl ?_); refine goesL_ (some 69) rfl rfl Try.func27 (by kernel_rfl) rfl #[.string x5_2, .string (a1.extract (x6_2 : Int).toNat ((wrap64 (x7_2 + 1)) : Int).toNat)] rfl (by (try simp only [List.map_toArray, List.map_cons, List.map_nil]); first | done | rfl | (simp only [List.length_drop, List.length_take]; rfl)) ?_; (with_reducible refine (graftageref04_plain.calls k2 x5_2 (a1.extract (x6_2 : Int).toNat ((wrap64 (x7_2 + 1)) : Int).toNat) t125 _ A26.out).mono ?_); rintro e w27 ⟨rfl, hb⟩; refine ⟨_, rfl, ?_⟩; have n0_ := Aside0.mk (below_step (by repeat (first | (with_reducible first | exact HB.out | apply below_alloc | apply pw_below_drewN | apply below_drew1) | exact HB.out)) hb); clear HB; have HB := n0_; clear n0_; (try clear hb); (try clear hb2); (try clear hk); (try clear hi)))
            go_roundg k2
            case measure => have := HJ2.out; have := HK2.out; omega
            case rel => exact ⟨(t125), (wrap64 (x7_2 + 1)), (wrap64 (x7_2 + 1)), (by first | rfl | (simp; done) | (simp [*]; done)), (by first | rfl | (simp; done) | (simp [*]; done)), (by first | rfl | (simp; done) | (simp [*]; done)), H', ⟨by have := HJ2.out; have := HK2.out; omega⟩, ⟨by repeat (first | (with_reducible first | exact HB.out | apply below_alloc | apply pw_below_drewN | apply below_drew1) | exact HB.out)⟩⟩
           ·rw [if_neg c25] at H
            exact absurd H (by simp)
          ·rw [if_neg c24] at H
           exact absurd H (by simp)
         ·rw [if_neg c23] at H
          exact absurd H (by simp)
        ·rw [if_neg c22] at H
         have c22b0 : ((wrap64 ((wrap64 (x7_2 + 1)) - x6_2)) == 1024) = false := beq_eq_false_iff_ne.mpr c22
         have c22b1 : ((wrap64 ((wrap64 (x7_2 + 1)) - x6_2)) != 1024) = true := bne_iff_ne.mpr c22
         have H' := Aside0.mk H
         clear H
         go_wp2_with (first | ((with_reducible refine gate_callee (f := 26) rfl ?_); refine goesL_ (some 34) rfl rfl Try.func26 (by kernel_rfl) rfl #[.string a0, .string a1, .int .i64 x7_2] rfl (by (try simp only [List.map_toArray, List.map_cons, List.map_nil]); first | done | rfl | (simp only [List.length_drop, List.length_take]; rfl)) ?_; (with_reducible refine (graftageref04_longest.calls k2 a0 a1 x7_2 t120 t121 _ A11.out).mono ?_); rintro e w' ⟨rfl, ⟨nd, rfl⟩⟩; refine ⟨_, rfl, ?_⟩))
         go_roundg k2
         case measure => have := HJ2.out; have := HK2.out; omega
         case rel => exact ⟨(x5_2), (x6_2), (wrap64 (x7_2 + 1)), (by first | rfl | (simp; done) | (simp [*]; done)), (by first | rfl | (simp; done) | (simp [*]; done)), (by first | rfl | (simp; done) | (simp [*]; done)), H', ⟨by have := HJ2.out; have := HK2.out; omega⟩, ⟨by repeat (first | (with_reducible first | exact HB.out | apply below_alloc | apply pw_below_drewN | apply below_drew1) | exact HB.out)⟩⟩
      ·rw [if_neg c10] at H
       have c10b0 : decide (x7_2 < (a1.size : Int)) = false := decide_eq_false c10
       clear c10
       by_cases c28 : 0 ≤ x6_2
       ·rw [if_pos c28] at H
        have c28b0 := eq_true c28
        have c28b1 : decide (0 ≤ x6_2) = true := decide_eq_true c28
        clear c28
        by_cases c29 : x6_2 ≤ (a1.size : Int)
        ·rw [if_pos c29] at H
         have c29b0 := eq_true c29
         have c29b1 : decide (x6_2 ≤ (a1.size : Int)) = true := decide_eq_true c29
         clear c29
         replace H := Option.bind_eq_some_iff.mp H
         obtain ⟨t119, A300, H⟩ := H
         replace H : (some t119) = some r := H
         have A30 := Aside0.mk A300
         clear A300
         obtain rfl := Option.some.inj H
         go_wp2_with (first | ((with_reducible refine gate_callee (f := 27) rfl ?_); refine goesL_ (some 75) rfl rfl Try.func27 (by kernel_rfl) rfl #[.string x5_2, .string (a1.extract (x6_2 : Int).toNat a1.size)] rfl (by (try simp only [List.map_toArray, List.map_cons, List.map_nil]); first | done | rfl | (simp only [List.length_drop, List.length_take]; rfl)) ?_; (with_reducible refine (graftageref04_plain.calls k2 x5_2 (a1.extract (x6_2 : Int).toNat a1.size) t119 _ A30.out).mono ?_); rintro e w31 ⟨rfl, hb⟩; refine ⟨_, rfl, ?_⟩; have n0_ := Aside0.mk (below_step (by repeat (first | (with_reducible first | exact HB.out | apply below_alloc | apply pw_below_drewN | apply below_drew1) | exact HB.out)) hb); clear HB; have HB := n0_; clear n0_; (try clear hb); (try clear hb2); (try clear hk); (try clear hi)))
         go_ret
         exact ⟨by first | rfl | (simp [errW_none, errW_some] <;> rfl) | (simp [*, errW_none, errW_some] <;> rfl), by repeat (first | (with_reducible first | exact HB.out | apply below_alloc | apply pw_below_drewN | apply below_drew1) | exact HB.out)⟩
        ·rw [if_neg c29] at H
         exact absurd H (by simp)
       ·rw [if_neg c28] at H
        exact absurd H (by simp)

/-! ### graftagelaw04_DeltaMakes: function 3 -/
def graftagelaw04_DeltaMakes.f (k : Nat) (a0 : ByteArray) (a1 : ByteArray) : Option (Bool) := (graftagelaw04_few.f a0 a1).bind fun t126 => (if t126 = true then ((delta_Make.f a0 a1).bind fun t127 => ((graftageref04_Make.f k a0 a1).bind fun t128 => (if t127.toList = t128.toList then ((graftagelaw04_lives.f).bind fun t129 => (some t129)) else (some false)))) else ((graftagelaw04_lives.f).bind fun t130 => (some t130)))
theorem graftagelaw04_DeltaMakes.mono : ∀ a0 a1 k, LeO (graftagelaw04_DeltaMakes.f k a0 a1) (graftagelaw04_DeltaMakes.f (k + 1) a0 a1) := by
 intro a0 a1 k
 unfold graftagelaw04_DeltaMakes.f
 repeat' first
   | (with_reducible exact graftageref04_Make.mono _ _ _)
   | (with_reducible exact LeO.refl _)
   | (with_reducible exact LeO.none _)
   | (with_reducible refine LeO.ite ?_ ?_)
   | (with_reducible refine LeO.bind ?_ (fun _ => ?_))
   | exact graftageref04_Make.mono _ _ _
   | exact LeO.none _
   | refine LeO.ite ?_ ?_
   | refine LeO.bind ?_ (fun _ => ?_)
set_option maxHeartbeats 8000000 in
set_option maxRecDepth 100000 in
theorem graftagelaw04_DeltaMakes.calls (k : Nat) (a0 : ByteArray) (a1 : ByteArray) (r : Bool) (w : World) (h : graftagelaw04_DeltaMakes.f k a0 a1 = some r) (hr : r = true) :
  Calls Try.prog 3 #[.string a0, .string a1] w fun e w' => e = .returned (.bool r) ∧ Below w.heap.size w w' := by
 have HB := Aside0.mk (Below.refl w.heap.size w)
 have H : ((graftagelaw04_few.f a0 a1).bind fun t126 => (if t126 = true then ((delta_Make.f a0 a1).bind fun t127 => ((graftageref04_Make.f k a0 a1).bind fun t128 => (if t127.toList = t128.toList then ((graftagelaw04_lives.f).bind fun t129 => (some t129)) else (some false)))) else ((graftagelaw04_lives.f).bind fun t130 => (some t130)))) = some r := h
 clear h
 replace H := Option.bind_eq_some_iff.mp H
 obtain ⟨t126, A30, H⟩ := H
 replace H : (if t126 = true then ((delta_Make.f a0 a1).bind fun t127 => ((graftageref04_Make.f k a0 a1).bind fun t128 => (if t127.toList = t128.toList then ((graftagelaw04_lives.f).bind fun t129 => (some t129)) else (some false)))) else ((graftagelaw04_lives.f).bind fun t130 => (some t130))) = some r := H
 have A3 := Aside0.mk A30
 clear A30
 by_cases c4 : t126 = true
 ·subst c4
  have H1 : ((delta_Make.f a0 a1).bind fun t127 => ((graftageref04_Make.f k a0 a1).bind fun t128 => (if t127.toList = t128.toList then ((graftagelaw04_lives.f).bind fun t129 => (some t129)) else (some false)))) = some r := by rw [if_pos rfl] at H; exact H
  clear H
  have H := H1
  clear H1
  replace H := Option.bind_eq_some_iff.mp H
  obtain ⟨t127, A50, H⟩ := H
  replace H : ((graftageref04_Make.f k a0 a1).bind fun t128 => (if t127.toList = t128.toList then ((graftagelaw04_lives.f).bind fun t129 => (some t129)) else (some false))) = some r := H
  have A5 := Aside0.mk A50
  clear A50
  replace H := Option.bind_eq_some_iff.mp H
  obtain ⟨t128, A60, H⟩ := H
  replace H : (if t127.toList = t128.toList then ((graftagelaw04_lives.f).bind fun t129 => (some t129)) else (some false)) = some r := H
  have A6 := Aside0.mk A60
  clear A60
  by_cases c7 : t127.toList = t128.toList
  ·rw [if_pos c7] at H
   have c7b0 : (t127.toList == t128.toList) = true := beq_iff_eq.mpr c7
   have c7b1 : (t127.toList != t128.toList) = false := bne_eq_false_iff_eq.mpr c7
   clear c7
   replace H := Option.bind_eq_some_iff.mp H
   obtain ⟨t129, A80, H⟩ := H
   replace H : (some t129) = some r := H
   have A8 := Aside0.mk A80
   clear A80
   obtain rfl := Option.some.inj H
   go_enter Try.func3, Try.ntmps3
   go_wp2_with (first | ((with_reducible refine gate_callee (f := 9) rfl ?_); refine goesL_ (some 7) rfl rfl Try.func9 (by kernel_rfl) rfl #[.string a0, .string a1] rfl (by (try simp only [List.map_toArray, List.map_cons, List.map_nil]); first | done | rfl | (simp only [List.length_drop, List.length_take]; rfl)) ?_; (with_reducible refine (graftagelaw04_few.calls a0 a1 true _ A3.out).mono ?_); rintro e w' ⟨rfl, ⟨nd, rfl⟩⟩; refine ⟨_, rfl, ?_⟩) | ((with_reducible refine gate_callee (f := 11) rfl ?_); refine goesL_ (some 12) rfl rfl Try.func11 (by kernel_rfl) rfl #[.string a0, .string a1] rfl (by (try simp only [List.map_toArray, List.map_cons, List.map_nil]); first | done | rfl | (simp only [List.length_drop, List.length_take]; rfl)) ?_; (with_reducible refine (delta_Make.calls a0 a1 t127 _ A5.out).mono ?_); rintro e w9 ⟨rfl, hb⟩; refine ⟨_, rfl, ?_⟩; have n0_ := Aside0.mk (below_step (by repeat (first | (with_reducible first | exact HB.out | apply below_alloc | apply pw_below_drewN | apply below_drew1) | exact HB.out)) hb); clear HB; have HB := n0_; clear n0_; (try clear hb); (try clear hb2); (try clear hk); (try clear hi)) | ((with_reducible refine gate_callee (f := 12) rfl ?_); refine goesL_ (some 15) rfl rfl Try.func12 (by kernel_rfl) rfl #[.string a0, .string a1] rfl (by (try simp only [List.map_toArray, List.map_cons, List.map_nil]); first | done | rfl | (simp only [List.length_drop, List.length_take]; rfl)) ?_; (with_reducible refine (graftageref04_Make.calls k a0 a1 t128 _ A6.out).mono ?_); rintro e w10 ⟨rfl, hb⟩; refine ⟨_, rfl, ?_⟩; have n0_ := Aside0.mk (below_step (by repeat (first | (with_reducible first | exact HB.out | apply below_alloc | apply pw_below_drewN | apply below_drew1) | exact HB.out)) hb); clear HB; have HB := n0_; clear n0_; (try clear hb); (try clear hb2); (try clear hk); (try clear hi)) | (go_at_call 10; (with_reducible refine (graftagelaw04_lives.calls  t129 _ A8.out).mono ?_); rintro e w11 ⟨rfl, hb⟩; have n0_ := Aside0.mk (below_step (by repeat (first | (with_reducible first | exact HB.out | apply below_alloc | apply pw_below_drewN | apply below_drew1) | exact HB.out)) hb); clear HB; have HB := n0_; clear n0_; (try clear hb); (try clear hb2); (try clear hk); (try clear hi)))
   go_ret
   exact ⟨by first | rfl | (simp [errW_none, errW_some] <;> rfl) | (simp [*, errW_none, errW_some] <;> rfl), by repeat (first | (with_reducible first | exact HB.out | apply below_alloc | apply pw_below_drewN | apply below_drew1) | exact HB.out)⟩
  ·rw [if_neg c7] at H
   have c7b0 : (t127.toList == t128.toList) = false := beq_eq_false_iff_ne.mpr c7
   have c7b1 : (t127.toList != t128.toList) = true := bne_iff_ne.mpr c7
   exact absurd (H.trans (congrArg some hr)) (by decide)
 ·replace c4 := Bool.eq_false_iff.mpr c4
  subst c4
  have H1 : ((graftagelaw04_lives.f).bind fun t130 => (some t130)) = some r := by rw [if_neg (show ¬ (false = true) by decide)] at H; exact H
  clear H
  have H := H1
  clear H1
  replace H := Option.bind_eq_some_iff.mp H
  obtain ⟨t130, A120, H⟩ := H
  replace H : (some t130) = some r := H
  have A12 := Aside0.mk A120
  clear A120
  obtain rfl := Option.some.inj H
  go_enter Try.func3, Try.ntmps3
  go_wp2_with (first | ((with_reducible refine gate_callee (f := 9) rfl ?_); refine goesL_ (some 7) rfl rfl Try.func9 (by kernel_rfl) rfl #[.string a0, .string a1] rfl (by (try simp only [List.map_toArray, List.map_cons, List.map_nil]); first | done | rfl | (simp only [List.length_drop, List.length_take]; rfl)) ?_; (with_reducible refine (graftagelaw04_few.calls a0 a1 false _ A3.out).mono ?_); rintro e w' ⟨rfl, ⟨nd, rfl⟩⟩; refine ⟨_, rfl, ?_⟩) | ((with_reducible refine gate_callee (f := 10) rfl ?_); refine goesL_ (some 9) rfl rfl Try.func10 (by kernel_rfl) rfl #[] rfl (by (try simp only [List.map_toArray, List.map_cons, List.map_nil]); first | done | rfl | (simp only [List.length_drop, List.length_take]; rfl)) ?_; (with_reducible refine (graftagelaw04_lives.calls  t130 _ A12.out).mono ?_); rintro e w13 ⟨rfl, hb⟩; refine ⟨_, rfl, ?_⟩; have n0_ := Aside0.mk (below_step (by repeat (first | (with_reducible first | exact HB.out | apply below_alloc | apply pw_below_drewN | apply below_drew1) | exact HB.out)) hb); clear HB; have HB := n0_; clear n0_; (try clear hb); (try clear hb2); (try clear hk); (try clear hi)))
  go_ret
  exact ⟨by first | rfl | (simp [errW_none, errW_some] <;> rfl) | (simp [*, errW_none, errW_some] <;> rfl), by repeat (first | (with_reducible first | exact HB.out | apply below_alloc | apply pw_below_drewN | apply below_drew1) | exact HB.out)⟩

/-- THE ONE PURE STATEMENT of graftagelaw04_DeltaMakes: yours. -/
def graftagelaw04_DeltaMakes.Pure : Prop := ∀ (a0 : ByteArray) (a1 : ByteArray), a0.size ≤ 140737488351232 → a1.size ≤ 140737488351232 → ∃ k, graftagelaw04_DeltaMakes.f k a0 a1 = some true
theorem graftagelaw04_DeltaMakes.walk (P : graftagelaw04_DeltaMakes.Pure) (a0 : ByteArray) (a1 : ByteArray) (w : World) (w0 : a0.size ≤ 140737488351232) (w1 : a1.size ≤ 140737488351232) :
  Calls Try.prog 3 #[.string a0, .string a1] w fun e w' => e = .returned (.bool true) ∧ Below w.heap.size w w' := by
 obtain ⟨k, h⟩ := P a0 a1 w0 w1
 refine (graftagelaw04_DeltaMakes.calls k a0 a1 true w h rfl).mono ?_
 rintro e w' ⟨rfl, hd⟩
 exact ⟨rfl, hd⟩

end Go.Proofs.Ytggjkijgbpnhiaa.PDl
