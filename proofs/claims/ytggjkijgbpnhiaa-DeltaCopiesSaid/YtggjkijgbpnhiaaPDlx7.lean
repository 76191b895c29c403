-- Written by wip/gen/gen.py of this session out of the seat's translation.
import Derived.Test.YtggjkijgbpnhiaaPDlx0
import Derived.Test.YtggjkijgbpnhiaaPDlx2
import Derived.Test.YtggjkijgbpnhiaaPDlx4
import Derived.Test.YtggjkijgbpnhiaaPDlx5
import Derived.Test.YtggjkijgbpnhiaaPDlx6
import Derived.Test.YtggjkijgbpnhiaaDlApplyF
namespace Go.Proofs.Ytggjkijgbpnhiaa.PDl
open Go.Proofs.Ytggjkijgbpnhiaa.Hand Go.RowKit Go.Proofs.YtggjkijgbpnhiaaW.PrintWords Go.Proofs.YtggjkijgbpnhiaaW.PrintLast Go.Proofs.YtggjkijgbpnhiaaW.PrintMore
attribute [local go_sem] max2_int min2_int max_two min_two max_three min_three max_four min_four   -- for this text's walks alone
set_option linter.unusedVariables false
set_option linter.unusedSimpArgs false

/-! ### graftageref04_Apply: function 14 -/
def graftageref04_Apply.l0 : Nat → ByteArray → ByteArray → Int → Int → Int → ByteArray → Option (ByteArray × Int)
 | 0, _, _, _, _, _, _ => none
 | k + 1, x0, x1, x6, x7, x8, x10 => if x10.size ≤ 9223372036854775807 then (if (x10.size : Int) < x7 then ((graftageref04_piece.f k x1 x8 x6 (IntKind.u64.wrap (x7 - (x10.size : Int)))).bind fun bt147 => (if bt147.2.2.2 = 0 then (if bt147.2.1 < 0 then (if 0 ≤ bt147.2.2.1 then (if bt147.2.2.1 ≤ (wrap64 (bt147.2.2.1 + bt147.1)) then (if (wrap64 (bt147.2.2.1 + bt147.1)) ≤ (x1.size : Int) then (if x10.size + (x1.extract (bt147.2.2.1 : Int).toNat ((wrap64 (bt147.2.2.1 + bt147.1)) : Int).toNat).size ≤ 9223372036854775807 then (graftageref04_Apply.l0 k x0 x1 x6 x7 (wrap64 (bt147.2.2.1 + bt147.1)) (x10 ++ (x1.extract (bt147.2.2.1 : Int).toNat ((wrap64 (bt147.2.2.1 + bt147.1)) : Int).toNat))) else (none)) else (none)) else (none)) else (none)) else (if 0 ≤ bt147.2.1 then (if bt147.2.1 ≤ (wrap64 (bt147.2.1 + bt147.1)) then (if (wrap64 (bt147.2.1 + bt147.1)) ≤ (x0.size : Int) then (if x10.size + (x0.extract (bt147.2.1 : Int).toNat ((wrap64 (bt147.2.1 + bt147.1)) : Int).toNat).size ≤ 9223372036854775807 then (graftageref04_Apply.l0 k x0 x1 x6 x7 bt147.2.2.1 (x10 ++ (x0.extract (bt147.2.1 : Int).toNat ((wrap64 (bt147.2.1 + bt147.1)) : Int).toNat))) else (none)) else (none)) else (none)) else (none))) else (some ((⟨#[]⟩ : ByteArray), bt147.2.2.2)))) else (if x8 < (x1.size : Int) then (some ((⟨#[]⟩ : ByteArray), 2)) else (some (x10, 0)))) else (none)
def graftageref04_Apply.f (k : Nat) (a0 : ByteArray) (a1 : ByteArray) : Option (ByteArray × Int) := (graftageref04_heads.f k a1).bind fun bt143 => (if bt143.2.2.2 = 0 then (if bt143.1 = (IntKind.u64.wrap ((a0.size : Int))) then (if bt143.2.1 > 1048576 then (some ((⟨#[]⟩ : ByteArray), 4)) else (graftageref04_Apply.l0 k a0 a1 bt143.1 bt143.2.1 bt143.2.2.1 (⟨#[]⟩ : ByteArray))) else (some ((⟨#[]⟩ : ByteArray), 40))) else (some ((⟨#[]⟩ : ByteArray), bt143.2.2.2)))
theorem graftageref04_Apply.mono_l : ∀ k, (∀ y0 y1 y2 y3 y4 y5, LeO (graftageref04_Apply.l0 k y0 y1 y2 y3 y4 y5) (graftageref04_Apply.l0 (k + 1) y0 y1 y2 y3 y4 y5))
 | 0 => fun _ _ _ _ _ _ r h => by simp [graftageref04_Apply.l0] at h
 | k + 1 => by
  have ih0 := graftageref04_Apply.mono_l k
  ·intro y0 y1 y2 y3 y4 y5
   unfold graftageref04_Apply.l0
   repeat' first
   | (with_reducible exact ih0 _ _ _ _ _ _)
   | (with_reducible exact graftageref04_heads.mono _ _)
   | (with_reducible exact graftageref04_piece.mono _ _ _ _ _)
   | (with_reducible exact LeO.refl _)
   | (with_reducible exact LeO.none _)
   | (with_reducible refine LeO.ite ?_ ?_)
   | (with_reducible refine LeO.bind ?_ (fun _ => ?_))
   | exact ih0 _ _ _ _ _ _
   | exact graftageref04_heads.mono _ _
   | exact graftageref04_piece.mono _ _ _ _ _
   | exact LeO.none _
   | refine LeO.ite ?_ ?_
   | refine LeO.bind ?_ (fun _ => ?_)
theorem graftageref04_Apply.mono : ∀ a0 a1 k, LeO (graftageref04_Apply.f k a0 a1) (graftageref04_Apply.f (k + 1) a0 a1) := by
 intro a0 a1 k
 have ih0 := graftageref04_Apply.mono_l k
 unfold graftageref04_Apply.f
 repeat' first
   | (with_reducible exact ih0 _ _ _ _ _ _)
   | (with_reducible exact graftageref04_heads.mono _ _)
   | (with_reducible exact graftageref04_piece.mono _ _ _ _ _)
   | (with_reducible exact LeO.refl _)
   | (with_reducible exact LeO.none _)
   | (with_reducible refine LeO.ite ?_ ?_)
   | (with_reducible refine LeO.bind ?_ (fun _ => ?_))
   | exact ih0 _ _ _ _ _ _
   | exact graftageref04_heads.mono _ _
   | exact graftageref04_piece.mono _ _ _ _ _
   | exact LeO.none _
   | refine LeO.ite ?_ ?_
   | refine LeO.bind ?_ (fun _ => ?_)
set_option maxHeartbeats 8000000 in
set_option maxRecDepth 100000 in
theorem graftageref04_Apply.calls (k : Nat) (a0 : ByteArray) (a1 : ByteArray) (r1 : ByteArray) (r2 : Int) (w : World) (h : graftageref04_Apply.f k a0 a1 = some (r1, r2)) :
  Calls Try.prog 14 #[.string a0, .string a1] w fun e w' => e = .returned (.tuple #[.string r1, .int .i64 r2]) ∧ Drawn0 w w' := by
 have H : ((graftageref04_heads.f k a1).bind fun bt143 => (if bt143.2.2.2 = 0 then (if bt143.1 = (IntKind.u64.wrap ((a0.size : Int))) then (if bt143.2.1 > 1048576 then (some ((⟨#[]⟩ : ByteArray), 4)) else (graftageref04_Apply.l0 k a0 a1 bt143.1 bt143.2.1 bt143.2.2.1 (⟨#[]⟩ : ByteArray))) else (some ((⟨#[]⟩ : ByteArray), 40))) else (some ((⟨#[]⟩ : ByteArray), bt143.2.2.2)))) = some (r1, r2) := h
 clear h
 replace H := Option.bind_eq_some_iff.mp H
 obtain ⟨⟨t143, t144, t145, t146⟩, A30, H⟩ := H
 replace H : (if t146 = 0 then (if t143 = (IntKind.u64.wrap ((a0.size : Int))) then (if t144 > 1048576 then (some ((⟨#[]⟩ : ByteArray), 4)) else (graftageref04_Apply.l0 k a0 a1 t143 t144 t145 (⟨#[]⟩ : ByteArray))) else (some ((⟨#[]⟩ : ByteArray), 40))) else (some ((⟨#[]⟩ : ByteArray), t146))) = some (r1, r2) := H
 have A3 := Aside0.mk A30
 clear A30
 by_cases c4 : t146 = 0
 ·rw [if_pos c4] at H
  have c4b0 : (t146 == 0) = true := beq_iff_eq.mpr c4
  have c4b1 : (t146 != 0) = false := bne_eq_false_iff_eq.mpr c4
  clear c4
  by_cases c5 : t143 = (IntKind.u64.wrap ((a0.size : Int)))
  ·rw [if_pos c5] at H
   have c5b0 : (t143 == (IntKind.u64.wrap ((a0.size : Int)))) = true := beq_iff_eq.mpr c5
   have c5b1 : (t143 != (IntKind.u64.wrap ((a0.size : Int)))) = false := bne_eq_false_iff_eq.mpr c5
   clear c5
   by_cases c6 : t144 > 1048576
   ·rw [if_pos c6] at H
    have c6b0 : decide (1048576 < t144) = true := decide_eq_true c6
    clear c6
    simp only [Option.some.injEq, Prod.mk.injEq] at H
    obtain ⟨rfl, rfl⟩ := H
    go_enter Try.func14, Try.ntmps14
    go_wp2_with (first | ((with_reducible refine gate_callee (f := 32) rfl ?_); refine goesL_ (some 17) rfl rfl Try.func32 (by kernel_rfl) rfl #[.string a1] rfl (by (try simp only [List.map_toArray, List.map_cons, List.map_nil]); first | done | rfl | (simp only [List.length_drop, List.length_take]; rfl)) ?_; (with_reducible refine (graftageref04_heads.calls k a1 t143 t144 t145 t146 _ A3.out).mono ?_); rintro e w' ⟨rfl, ⟨nd, rfl⟩⟩; refine ⟨_, rfl, ?_⟩))
    go_ret2
    exact ⟨by first | rfl | (simp; done) | (simp [*]; done), by repeat (first | exact Drawn0.refl _ | apply Drawn0.step)⟩
   ·rw [if_neg c6] at H
    have c6b0 : decide (1048576 < t144) = false := decide_eq_false c6
    clear c6
    have H' := Aside0.mk H
    clear H
    go_enter Try.func14, Try.ntmps14
    go_wp2_with (first | ((with_reducible refine gate_callee (f := 32) rfl ?_); refine goesL_ (some 17) rfl rfl Try.func32 (by kernel_rfl) rfl #[.string a1] rfl (by (try simp only [List.map_toArray, List.map_cons, List.map_nil]); first | done | rfl | (simp only [List.length_drop, List.length_take]; rfl)) ?_; (with_reducible refine (graftageref04_heads.calls k a1 t143 t144 t145 t146 _ A3.out).mono ?_); rintro e w' ⟨rfl, ⟨nd, rfl⟩⟩; refine ⟨_, rfl, ?_⟩))
    go_loopg [8, 10] k (fun kq v8 v10 w' => ∃ (x8_1 : Int) (x10_1 : ByteArray), v8 = .int .i64 x8_1 ∧ v10 = .string x10_1 ∧ Aside0 (graftageref04_Apply.l0 kq a0 a1 t143 t144 x8_1 x10_1 = some (r1, r2)) ∧ Aside0 (kq ≤ k) ∧ Drawn0 w w')
    case atStart => exact ⟨(t145), ((⟨#[]⟩ : ByteArray)), (by first | rfl | (simp; done) | (simp [*]; done)), (by first | rfl | (simp; done) | (simp [*]; done)), H', ⟨Nat.le_refl _⟩, by repeat (first | exact Drawn0.refl _ | apply Drawn0.step)⟩
    case round =>
     clear H'
     try clear c1
     try clear p2
     try clear c3
     try clear c4
     try clear c4b0
     try clear c4b1
     try clear c5
     try clear c5b0
     try clear c5b1
     try clear c6
     try clear c6b0
     obtain ⟨x8_1, x10_1, rfl, rfl, HA, HK1, ⟨m1, rfl⟩⟩ := hrel
     cases gk with
     | zero => exact absurd HA.out (by simp [graftageref04_Apply.l0])
     | succ k1 =>
      have H := HA.out
      clear HA
      simp only [graftageref04_Apply.l0] at H
      by_cases c7 : x10_1.size ≤ 9223372036854775807
      ·rw [if_pos c7] at H
       have c7b0 := eq_true c7
       have c7b1 : decide (x10_1.size ≤ 9223372036854775807) = true := decide_eq_true c7
       try have c7b2 : (9223372036854775807 < x10_1.size) = False := eq_false (Nat.not_lt.2 c7)
       have c7b3 : IntKind.u64.wrap ((x10_1.size : Int)) = (x10_1.size : Int) := by (have := c7; simp [IntKind.wrap, IntKind.bits, IntKind.signed]; omega)
       clear c7
       by_cases c8 : (x10_1.size : Int) < t144
       ·rw [if_pos c8] at H
        have c8b0 : decide ((x10_1.size : Int) < t144) = true := decide_eq_true c8
        clear c8
        replace H := Option.bind_eq_some_iff.mp H
        obtain ⟨⟨t147, t148, t149, t150⟩, A90, H⟩ := H
        replace H : (if t150 = 0 then (if t148 < 0 then (if 0 ≤ t149 then (if t149 ≤ (wrap64 (t149 + t147)) then (if (wrap64 (t149 + t147)) ≤ (a1.size : Int) then (if x10_1.size + (a1.extract (t149 : Int).toNat ((wrap64 (t149 + t147)) : Int).toNat).size ≤ 9223372036854775807 then (graftageref04_Apply.l0 k1 a0 a1 t143 t144 (wrap64 (t149 + t147)) (x10_1 ++ (a1.extract (t149 : Int).toNat ((wrap64 (t149 + t147)) : Int).toNat))) else (none)) else (none)) else (none)) else (none)) else (if 0 ≤ t148 then (if t148 ≤ (wrap64 (t148 + t147)) then (if (wrap64 (t148 + t147)) ≤ (a0.size : Int) then (if x10_1.size + (a0.extract (t148 : Int).toNat ((wrap64 (t148 + t147)) : Int).toNat).size ≤ 9223372036854775807 then (graftageref04_Apply.l0 k1 a0 a1 t143 t144 t149 (x10_1 ++ (a0.extract (t148 : Int).toNat ((wrap64 (t148 + t147)) : Int).toNat))) else (none)) else (none)) else (none)) else (none))) else (some ((⟨#[]⟩ : ByteArray), t150))) = some (r1, r2) := H
        have A9 := Aside0.mk A90
        clear A90
        by_cases c10 : t150 = 0
        ·rw [if_pos c10] at H
         have c10b0 : (t150 == 0) = true := beq_iff_eq.mpr c10
         have c10b1 : (t150 != 0) = false := bne_eq_false_iff_eq.mpr c10
         clear c10
         by_cases c11 : t148 < 0
         ·rw [if_pos c11] at H
          have c11b0 : decide (t148 < 0) = true := decide_eq_true c11
          clear c11
          by_cases c12 : 0 ≤ t149
          ·rw [if_pos c12] at H
           have c12b0 := eq_true c12
           have c12b1 : decide (0 ≤ t149) = true := decide_eq_true c12
           clear c12
           by_cases c13 : t149 ≤ (wrap64 (t149 + t147))
           ·rw [if_pos c13] at H
            have c13b0 := eq_true c13
            have c13b1 : decide (t149 ≤ (wrap64 (t149 + t147))) = true := decide_eq_true c13
            by_cases c14 : (wrap64 (t149 + t147)) ≤ (a1.size : Int)
            ·rw [if_pos c14] at H
             have c14b0 := eq_true c14
             have c14b1 : decide ((wrap64 (t149 + t147)) ≤ (a1.size : Int)) = true := decide_eq_true c14
             by_cases c15 : x10_1.size + (a1.extract (t149 : Int).toNat ((wrap64 (t149 + t147)) : Int).toNat).size ≤ 9223372036854775807
             ·rw [if_pos c15] at H
              have c15b0 := eq_true c15
              have c15b1 : decide (x10_1.size + (a1.extract (t149 : Int).toNat ((wrap64 (t149 + t147)) : Int).toNat).size ≤ 9223372036854775807) = true := decide_eq_true c15
              try have c15b2 : (9223372036854775807 < x10_1.size + (a1.extract (t149 : Int).toNat ((wrap64 (t149 + t147)) : Int).toNat).size) = False := eq_false (Nat.not_lt.2 c15)
              have H' := Aside0.mk H
              clear H
              go_wp2_with (first | ((with_reducible refine gate_callee (f := 33) rfl ?_); refine goesL_ (some 46) rfl rfl Try.func33 (by kernel_rfl) rfl #[.string a1, .int .i64 x8_1, .int .u64 t143, .int .u64 (IntKind.u64.wrap (t144 - (x10_1.size : Int)))] rfl (by (try simp only [List.map_toArray, List.map_cons, List.map_nil]); first | done | rfl | (simp only [List.length_drop, List.length_take]; rfl)) ?_; (with_reducible refine (graftageref04_piece.calls k1 a1 x8_1 t143 (IntKind.u64.wrap (t144 - (x10_1.size : Int))) t147 t148 t149 t150 _ A9.out).mono ?_); rintro e w' ⟨rfl, ⟨nd, rfl⟩⟩; refine ⟨_, rfl, ?_⟩))
              go_roundg k1
              case measure => have := HK1.out; omega
              case rel => exact ⟨(wrap64 (t149 + t147)), (x10_1 ++ (a1.extract (t149 : Int).toNat ((wrap64 (t149 + t147)) : Int).toNat)), (by first | rfl | (simp; done) | (simp [*]; done)), (by first | rfl | (simp; done) | (simp [*]; done)), H', ⟨by have := HK1.out; omega⟩, by repeat (first | exact Drawn0.refl _ | apply Drawn0.step)⟩
             ·rw [if_neg c15] at H
              exact absurd H (by simp)
            ·rw [if_neg c14] at H
             exact absurd H (by simp)
           ·rw [if_neg c13] at H
            exact absurd H (by simp)
          ·rw [if_neg c12] at H
           exact absurd H (by simp)
         ·rw [if_neg c11] at H
          have c11b0 : decide (t148 < 0) = false := decide_eq_false c11
          clear c11
          by_cases c16 : 0 ≤ t148
          ·rw [if_pos c16] at H
           have c16b0 := eq_true c16
           have c16b1 : decide (0 ≤ t148) = true := decide_eq_true c16
           clear c16
           by_cases c17 : t148 ≤ (wrap64 (t148 + t147))
           ·rw [if_pos c17] at H
            have c17b0 := eq_true c17
            have c17b1 : decide (t148 ≤ (wrap64 (t148 + t147))) = true := decide_eq_true c17
            by_cases c18 : (wrap64 (t148 + t147)) ≤ (a0.size : Int)
            ·rw [if_pos c18] at H
             have c18b0 := eq_true c18
             have c18b1 : decide ((wrap64 (t148 + t147)) ≤ (a0.size : Int)) = true := decide_eq_true c18
             by_cases c19 : x10_1.size + (a0.extract (t148 : Int).toNat ((wrap64 (t148 + t147)) : Int).toNat).size ≤ 9223372036854775807
             ·rw [if_pos c19] at H
              have c19b0 := eq_true c19
              have c19b1 : decide (x10_1.size + (a0.extract (t148 : Int).toNat ((wrap64 (t148 + t147)) : Int).toNat).size ≤ 9223372036854775807) = true := decide_eq_true c19
              try have c19b2 : (9223372036854775807 < x10_1.size + (a0.extract (t148 : Int).toNat ((wrap64 (t148 + t147)) : Int).toNat).size) = False := eq_false (Nat.not_lt.2 c19)
              have H' := Aside0.mk H
              clear H
              go_wp2_with (first | ((with_reducible refine gate_callee (f := 33) rfl ?_); refine goesL_ (some 46) rfl rfl Try.func33 (by kernel_rfl) rfl #[.string a1, .int .i64 x8_1, .int .u64 t143, .int .u64 (IntKind.u64.wrap (t144 - (x10_1.size : Int)))] rfl (by (try simp only [List.map_toArray, List.map_cons, List.map_nil]); first | done | rfl | (simp only [List.length_drop, List.length_take]; rfl)) ?_; (with_reducible refine (graftageref04_piece.calls k1 a1 x8_1 t143 (IntKind.u64.wrap (t144 - (x10_1.size : Int))) t147 t148 t149 t150 _ A9.out).mono ?_); rintro e w' ⟨rfl, ⟨nd, rfl⟩⟩; refine ⟨_, rfl, ?_⟩))
              go_roundg k1
              case measure => have := HK1.out; omega
              case rel => exact ⟨(t149), (x10_1 ++ (a0.extract (t148 : Int).toNat ((wrap64 (t148 + t147)) : Int).toNat)), (by first | rfl | (simp; done) | (simp [*]; done)), (by first | rfl | (simp; done) | (simp [*]; done)), H', ⟨by have := HK1.out; omega⟩, by repeat (first | exact Drawn0.refl _ | apply Drawn0.step)⟩
             ·rw [if_neg c19] at H
              exact absurd H (by simp)
            ·rw [if_neg c18] at H
             exact absurd H (by simp)
           ·rw [if_neg c17] at H
            exact absurd H (by simp)
          ·rw [if_neg c16] at H
           exact absurd H (by simp)
        ·rw [if_neg c10] at H
         have c10b0 : (t150 == 0) = false := beq_eq_false_iff_ne.mpr c10
         have c10b1 : (t150 != 0) = true := bne_iff_ne.mpr c10
         simp only [Option.some.injEq, Prod.mk.injEq] at H
         obtain ⟨rfl, rfl⟩ := H
         go_wp2_with (first | ((with_reducible refine gate_callee (f := 33) rfl ?_); refine goesL_ (some 46) rfl rfl Try.func33 (by kernel_rfl) rfl #[.string a1, .int .i64 x8_1, .int .u64 t143, .int .u64 (IntKind.u64.wrap (t144 - (x10_1.size : Int)))] rfl (by (try simp only [List.map_toArray, List.map_cons, List.map_nil]); first | done | rfl | (simp only [List.length_drop, List.length_take]; rfl)) ?_; (with_reducible refine (graftageref04_piece.calls k1 a1 x8_1 t143 (IntKind.u64.wrap (t144 - (x10_1.size : Int))) t147 t148 t149 t150 _ A9.out).mono ?_); rintro e w' ⟨rfl, ⟨nd, rfl⟩⟩; refine ⟨_, rfl, ?_⟩))
         go_ret2
         exact ⟨by first | rfl | (simp; done) | (simp [*]; done), by repeat (first | exact Drawn0.refl _ | apply Drawn0.step)⟩
       ·rw [if_neg c8] at H
        have c8b0 : decide ((x10_1.size : Int) < t144) = false := decide_eq_false c8
        clear c8
        by_cases c20 : x8_1 < (a1.size : Int)
        ·rw [if_pos c20] at H
         have c20b0 : decide (x8_1 < (a1.size : Int)) = true := decide_eq_true c20
         clear c20
         simp only [Option.some.injEq, Prod.mk.injEq] at H
         obtain ⟨rfl, rfl⟩ := H
         go_wp2
         go_ret2
         exact ⟨by first | rfl | (simp; done) | (simp [*]; done), by repeat (first | exact Drawn0.refl _ | apply Drawn0.step)⟩
        ·rw [if_neg c20] at H
         have c20b0 : decide (x8_1 < (a1.size : Int)) = false := decide_eq_false c20
         clear c20
         simp only [Option.some.injEq, Prod.mk.injEq] at H
         obtain ⟨rfl, rfl⟩ := H
         go_wp2
         go_ret2
         exact ⟨by first | rfl | (simp; done) | (simp [*]; done), by repeat (first | exact Drawn0.refl _ | apply Drawn0.step)⟩
      ·rw [if_neg c7] at H
       exact absurd H (by simp)
  ·rw [if_neg c5] at H
   have c5b0 : (t143 == (IntKind.u64.wrap ((a0.size : Int)))) = false := beq_eq_false_iff_ne.mpr c5
   have c5b1 : (t143 != (IntKind.u64.wrap ((a0.size : Int)))) = true := bne_iff_ne.mpr c5
   simp only [Option.some.injEq, Prod.mk.injEq] at H
   obtain ⟨rfl, rfl⟩ := H
   go_enter Try.func14, Try.ntmps14
   go_wp2_with (first | ((with_reducible refine gate_callee (f := 32) rfl ?_); refine goesL_ (some 17) rfl rfl Try.func32 (by kernel_rfl) rfl #[.string a1] rfl (by (try simp only [List.map_toArray, List.map_cons, List.map_nil]); first | done | rfl | (simp only [List.length_drop, List.length_take]; rfl)) ?_; (with_reducible refine (graftageref04_heads.calls k a1 t143 t144 t145 t146 _ A3.out).mono ?_); rintro e w' ⟨rfl, ⟨nd, rfl⟩⟩; refine ⟨_, rfl, ?_⟩))
   go_ret2
   exact ⟨by first | rfl | (simp; done) | (simp [*]; done), by repeat (first | exact Drawn0.refl _ | apply Drawn0.step)⟩
 ·rw [if_neg c4] at H
  have c4b0 : (t146 == 0) = false := beq_eq_false_iff_ne.mpr c4
  have c4b1 : (t146 != 0) = true := bne_iff_ne.mpr c4
  simp only [Option.some.injEq, Prod.mk.injEq] at H
  obtain ⟨rfl, rfl⟩ := H
  go_enter Try.func14, Try.ntmps14
  go_wp2_with (first | ((with_reducible refine gate_callee (f := 32) rfl ?_); refine goesL_ (some 17) rfl rfl Try.func32 (by kernel_rfl) rfl #[.string a1] rfl (by (try simp only [List.map_toArray, List.map_cons, List.map_nil]); first | done | rfl | (simp only [List.length_drop, List.length_take]; rfl)) ?_; (with_reducible refine (graftageref04_heads.calls k a1 t143 t144 t145 t146 _ A3.out).mono ?_); rintro e w' ⟨rfl, ⟨nd, rfl⟩⟩; refine ⟨_, rfl, ?_⟩))
  go_ret2
  exact ⟨by first | rfl | (simp; done) | (simp [*]; done), by repeat (first | exact Drawn0.refl _ | apply Drawn0.step)⟩

/-! ### graftagelaw04_DeltaApplies: function 4 -/
def graftagelaw04_DeltaApplies.f (k : Nat) (a0 : ByteArray) (a1 : ByteArray) : Option (Bool) := (graftagelaw04_few.f a0 a1).bind fun t151 => (if t151 = true then ((delta_Apply.f a0 a1).bind fun bt152 => ((graftageref04_Apply.f k a0 a1).bind fun bt154 => (if bt152.1.toList = bt154.1.toList then (if bt152.2 = bt154.2 then ((graftagelaw04_lives.f).bind fun t156 => (some t156)) else (some false)) else (some false)))) else ((graftagelaw04_lives.f).bind fun t157 => (some t157)))
theorem graftagelaw04_DeltaApplies.mono : ∀ a0 a1 k, LeO (graftagelaw04_DeltaApplies.f k a0 a1) (graftagelaw04_DeltaApplies.f (k + 1) a0 a1) := by
 intro a0 a1 k
 unfold graftagelaw04_DeltaApplies.f
 repeat' first
   | (with_reducible exact graftageref04_Apply.mono _ _ _)
   | (with_reducible exact LeO.refl _)
   | (with_reducible exact LeO.none _)
   | (with_reducible refine LeO.ite ?_ ?_)
   | (with_reducible refine LeO.bind ?_ (fun _ => ?_))
   | exact graftageref04_Apply.mono _ _ _
   | exact LeO.none _
   | refine LeO.ite ?_ ?_
   | refine LeO.bind ?_ (fun _ => ?_)
set_option maxHeartbeats 8000000 in
set_option maxRecDepth 100000 in
theorem graftagelaw04_DeltaApplies.calls (k : Nat) (a0 : ByteArray) (a1 : ByteArray) (r : Bool) (w : World) (h : graftagelaw04_DeltaApplies.f k a0 a1 = some r) (hr : r = true) :
  Calls Try.prog 4 #[.string a0, .string a1] w fun e w' => e = .returned (.bool r) ∧ Below w.heap.size w w' := by
 have HB := Aside0.mk (Below.refl w.heap.size w)
 have H : ((graftagelaw04_few.f a0 a1).bind fun t151 => (if t151 = true then ((delta_Apply.f a0 a1).bind fun bt152 => ((graftageref04_Apply.f k a0 a1).bind fun bt154 => (if bt152.1.toList = bt154.1.toList then (if bt152.2 = bt154.2 then ((graftagelaw04_lives.f).bind fun t156 => (some t156)) else (some false)) else (some false)))) else ((graftagelaw04_lives.f).bind fun t157 => (some t157)))) = some r := h
 clear h
 replace H := Option.bind_eq_some_iff.mp H
 obtain ⟨t151, A30, H⟩ := H
 replace H : (if t151 = true then ((delta_Apply.f a0 a1).bind fun bt152 => ((graftageref04_Apply.f k a0 a1).bind fun bt154 => (if bt152.1.toList = bt154.1.toList then (if bt152.2 = bt154.2 then ((graftagelaw04_lives.f).bind fun t156 => (some t156)) else (some false)) else (some false)))) else ((graftagelaw04_lives.f).bind fun t157 => (some t157))) = some r := H
 have A3 := Aside0.mk A30
 clear A30
 by_cases c4 : t151 = true
 ·subst c4
  have H1 : ((delta_Apply.f a0 a1).bind fun bt152 => ((graftageref04_Apply.f k a0 a1).bind fun bt154 => (if bt152.1.toList = bt154.1.toList then (if bt152.2 = bt154.2 then ((graftagelaw04_lives.f).bind fun t156 => (some t156)) else (some false)) else (some false)))) = some r := by rw [if_pos rfl] at H; exact H
  clear H
  have H := H1
  clear H1
  replace H := Option.bind_eq_some_iff.mp H
  obtain ⟨⟨t152, t153⟩, A50, H⟩ := H
  replace H : ((graftageref04_Apply.f k a0 a1).bind fun bt154 => (if t152.toList = bt154.1.toList then (if t153 = bt154.2 then ((graftagelaw04_lives.f).bind fun t156 => (some t156)) else (some false)) else (some false))) = some r := H
  have A5 := Aside0.mk A50
  clear A50
  replace H := Option.bind_eq_some_iff.mp H
  obtain ⟨⟨t154, t155⟩, A60, H⟩ := H
  replace H : (if t152.toList = t154.toList then (if t153 = t155 then ((graftagelaw04_lives.f).bind fun t156 => (some t156)) else (some false)) else (some false)) = some r := H
  have A6 := Aside0.mk A60
  clear A60
  by_cases c7 : t152.toList = t154.toList
  ·rw [if_pos c7] at H
   have c7b0 : (t152.toList == t154.toList) = true := beq_iff_eq.mpr c7
   have c7b1 : (t152.toList != t154.toList) = false := bne_eq_false_iff_eq.mpr c7
   clear c7
   by_cases c8 : t153 = t155
   ·rw [if_pos c8] at H
    have c8b0 : (t153 == t155) = true := beq_iff_eq.mpr c8
    have c8b1 : (t153 != t155) = false := bne_eq_false_iff_eq.mpr c8
    clear c8
    replace H := Option.bind_eq_some_iff.mp H
    obtain ⟨t156, A90, H⟩ := H
    replace H : (some t156) = some r := H
    have A9 := Aside0.mk A90
    clear A90
    obtain rfl := Option.some.inj H
    go_enter Try.func4, Try.ntmps4
    go_wp2_with (first | ((with_reducible refine gate_callee (f := 9) rfl ?_); refine goesL_ (some 11) rfl rfl Try.func9 (by kernel_rfl) rfl #[.string a0, .string a1] rfl (by (try simp only [List.map_toArray, List.map_cons, List.map_nil]); first | done | rfl | (simp only [List.length_drop, List.length_take]; rfl)) ?_; (with_reducible refine (graftagelaw04_few.calls a0 a1 true _ A3.out).mono ?_); rintro e w' ⟨rfl, ⟨nd, rfl⟩⟩; refine ⟨_, rfl, ?_⟩) | ((with_reducible refine gate_callee (f := 13) rfl ?_); refine goesL_ (some 17) rfl rfl Try.func13 (by kernel_rfl) rfl #[.string a0, .string a1] rfl (by (try simp only [List.map_toArray, List.map_cons, List.map_nil]); first | done | rfl | (simp only [List.length_drop, List.length_take]; rfl)) ?_; (with_reducible refine (delta_Apply.calls a0 a1 t152 t153 _ A5.out).mono ?_); rintro e w10 ⟨rfl, hb⟩; refine ⟨_, rfl, ?_⟩; have n0_ := Aside0.mk (below_step (by repeat (first | (with_reducible first | exact HB.out | apply below_alloc | apply pw_below_drewN | apply below_drew1) | exact HB.out)) hb); clear HB; have HB := n0_; clear n0_; (try clear hb); (try clear hb2); (try clear hk); (try clear hi)) | ((with_reducible refine gate_callee (f := 14) rfl ?_); refine goesL_ (some 23) rfl rfl Try.func14 (by kernel_rfl) rfl #[.string a0, .string a1] rfl (by (try simp only [List.map_toArray, List.map_cons, List.map_nil]); first | done | rfl | (simp only [List.length_drop, List.length_take]; rfl)) ?_; (with_reducible refine (graftageref04_Apply.calls k a0 a1 t154 t155 _ A6.out).mono ?_); rintro e w' ⟨rfl, ⟨nd, rfl⟩⟩; refine ⟨_, rfl, ?_⟩) | (go_at_call 10; (with_reducible refine (graftagelaw04_lives.calls  t156 _ A9.out).mono ?_); rintro e w11 ⟨rfl, hb⟩; have n0_ := Aside0.mk (below_step (by repeat (first | (with_reducible first | exact HB.out | apply below_alloc | apply pw_below_drewN | apply below_drew1) | exact HB.out)) hb); clear HB; have HB := n0_; clear n0_; (try clear hb); (try clear hb2); (try clear hk); (try clear hi)))
    go_ret
    exact ⟨by first | rfl | (simp [errW_none, errW_some] <;> rfl) | (simp [*, errW_none, errW_some] <;> rfl), by repeat (first | (with_reducible first | exact HB.out | apply below_alloc | apply pw_below_drewN | apply below_drew1) | exact HB.out)⟩
   ·rw [if_neg c8] at H
    have c8b0 : (t153 == t155) = false := beq_eq_false_iff_ne.mpr c8
    have c8b1 : (t153 != t155) = true := bne_iff_ne.mpr c8
    exact absurd (H.trans (congrArg some hr)) (by decide)
  ·rw [if_neg c7] at H
   have c7b0 : (t152.toList == t154.toList) = false := beq_eq_false_iff_ne.mpr c7
   have c7b1 : (t152.toList != t154.toList) = true := bne_iff_ne.mpr c7
   exact absurd (H.trans (congrArg some hr)) (by decide)
 ·replace c4 := Bool.eq_false_iff.mpr c4
  subst c4
  have H1 : ((graftagelaw04_lives.f).bind fun t157 => (some t157)) = some r := by rw [if_neg (show ¬ (false = true) by decide)] at H; exact H
  clear H
  have H := H1
  clear H1
  replace H := Option.bind_eq_some_iff.mp H
  obtain ⟨t157, A120, H⟩ := H
  replace H : (some t157) = some r := H
  have A12 := Aside0.mk A120
  clear A120
  obtain rfl := Option.some.inj H
  go_enter Try.func4, Try.ntmps4
  go_wp2_with (first | ((with_reducible refine gate_callee (f := 9) rfl ?_); refine goesL_ (some 11) rfl rfl Try.func9 (by kernel_rfl) rfl #[.string a0, .string a1] rfl (by (try simp only [List.map_toArray, List.map_cons, List.map_nil]); first | done | rfl | (simp only [List.length_drop, List.length_take]; rfl)) ?_; (with_reducible refine (graftagelaw04_few.calls a0 a1 false _ A3.out).mono ?_); rintro e w' ⟨rfl, ⟨nd, rfl⟩⟩; refine ⟨_, rfl, ?_⟩) | ((with_reducible refine gate_callee (f := 10) rfl ?_); refine goesL_ (some 13) rfl rfl Try.func10 (by kernel_rfl) rfl #[] rfl (by (try simp only [List.map_toArray, List.map_cons, List.map_nil]); first | done | rfl | (simp only [List.length_drop, List.length_take]; rfl)) ?_; (with_reducible refine (graftagelaw04_lives.calls  t157 _ A12.out).mono ?_); rintro e w13 ⟨rfl, hb⟩; refine ⟨_, rfl, ?_⟩; have n0_ := Aside0.mk (below_step (by repeat (first | (with_reducible first | exact HB.out | apply below_alloc | apply pw_below_drewN | apply below_drew1) | exact HB.out)) hb); clear HB; have HB := n0_; clear n0_; (try clear hb); (try clear hb2); (try clear hk); (try clear hi)))
  go_ret
  exact ⟨by first | rfl | (simp [errW_none, errW_some] <;> rfl) | (simp [*, errW_none, errW_some] <;> rfl), by repeat (first | (with_reducible first | exact HB.out | apply below_alloc | apply pw_below_drewN | apply below_drew1) | exact HB.out)⟩

/-- THE ONE PURE STATEMENT of graftagelaw04_DeltaApplies: yours. -/
def graftagelaw04_DeltaApplies.Pure : Prop := ∀ (a0 : ByteArray) (a1 : ByteArray), a0.size ≤ 140737488351232 → a1.size ≤ 140737488351232 → ∃ k, graftagelaw04_DeltaApplies.f k a0 a1 = some true
theorem graftagelaw04_DeltaApplies.walk (P : graftagelaw04_DeltaApplies.Pure) (a0 : ByteArray) (a1 : ByteArray) (w : World) (w0 : a0.size ≤ 140737488351232) (w1 : a1.size ≤ 140737488351232) :
  Calls Try.prog 4 #[.string a0, .string a1] w fun e w' => e = .returned (.bool true) ∧ Below w.heap.size w w' := by
 obtain ⟨k, h⟩ := P a0 a1 w0 w1
 refine (graftagelaw04_DeltaApplies.calls k a0 a1 true w h rfl).mono ?_
 rintro e w' ⟨rfl, hd⟩
 exact ⟨rfl, hd⟩

/-! ### delta_reader_head: function 34 -/
def delta_reader_head.f (k : Nat) (s0_0 : ByteArray) (s0_1 : Int) (s0_2 : Int) : Option (Int × Int × ByteArray × Int × Int) := (delta_reader_num.f k s0_0 s0_1 s0_2).bind fun bt158 => ((delta_reader_num.f k bt158.2.1 bt158.2.2.1 bt158.2.2.2).bind fun bt162 => (if bt158.1 > 1048576 then ((delta_reader_fail.f bt162.2.1 bt162.2.2.1 bt162.2.2.2 4 true).bind fun bt166 => (if bt166.2.2 = 0 then (some (wrap64 (bt158.1), wrap64 (bt162.1), bt166.1, bt166.2.1, bt166.2.2)) else (some (0, 0, bt166.1, bt166.2.1, bt166.2.2)))) else ((delta_reader_fail.f bt162.2.1 bt162.2.2.1 bt162.2.2.2 4 (decide (bt162.1 > 1048576))).bind fun bt169 => (if bt169.2.2 = 0 then (some (wrap64 (bt158.1), wrap64 (bt162.1), bt169.1, bt169.2.1, bt169.2.2)) else (some (0, 0, bt169.1, bt169.2.1, bt169.2.2))))))
theorem delta_reader_head.mono : ∀ a0 a1 a2 k, LeO (delta_reader_head.f k a0 a1 a2) (delta_reader_head.f (k + 1) a0 a1 a2) := by
 intro a0 a1 a2 k
 unfold delta_reader_head.f
 repeat' first
   | (with_reducible exact delta_reader_num.mono _ _ _ _)
   | (with_reducible exact LeO.refl _)
   | (with_reducible exact LeO.none _)
   | (with_reducible refine LeO.ite ?_ ?_)
   | (with_reducible refine LeO.bind ?_ (fun _ => ?_))
   | exact delta_reader_num.mono _ _ _ _
   | exact LeO.none _
   | refine LeO.ite ?_ ?_
   | refine LeO.bind ?_ (fun _ => ?_)
set_option maxHeartbeats 8000000 in
set_option maxRecDepth 100000 in
theorem delta_reader_head.calls (k : Nat) (g : Nat) (s0_0 : ByteArray) (s0_1 : Int) (s0_2 : Int) (r1 : Int) (r2 : Int) (r3 : ByteArray) (r4 : Int) (r5 : Int) (w0 w : World) (hI : IsS56 w0 w g s0_0 s0_1 s0_2) (hB : Below w0.heap.size w0 w) (h : delta_reader_head.f k s0_0 s0_1 s0_2 = some (r1, r2, r3, r4, r5)) :
  Calls Try.prog 34 #[.pointer (some ⟨g, 0, none⟩)] w fun e w' => e = .returned (.tuple #[.int .i64 r1, .int .i64 r2]) ∧ IsS56 w0 w' g r3 r4 r5 ∧ Below w0.heap.size w0 w' ∧ KeepBut w w' g none := by
 have HI0 := Aside0.mk hI
 have HK := Aside0.mk (KeepBut.refl w g none)
 have HL := Aside0.mk hB.size
 clear hI
 have HW0 := Aside0.mk hB.size
 have HB := Aside0.mk hB
 clear hB
 have H : ((delta_reader_num.f k s0_0 s0_1 s0_2).bind fun bt158 => ((delta_reader_num.f k bt158.2.1 bt158.2.2.1 bt158.2.2.2).bind fun bt162 => (if bt158.1 > 1048576 then ((delta_reader_fail.f bt162.2.1 bt162.2.2.1 bt162.2.2.2 4 true).bind fun bt166 => (if bt166.2.2 = 0 then (some (wrap64 (bt158.1), wrap64 (bt162.1), bt166.1, bt166.2.1, bt166.2.2)) else (some (0, 0, bt166.1, bt166.2.1, bt166.2.2)))) else ((delta_reader_fail.f bt162.2.1 bt162.2.2.1 bt162.2.2.2 4 (decide (bt162.1 > 1048576))).bind fun bt169 => (if bt169.2.2 = 0 then (some (wrap64 (bt158.1), wrap64 (bt162.1), bt169.1, bt169.2.1, bt169.2.2)) else (some (0, 0, bt169.1, bt169.2.1, bt169.2.2))))))) = some (r1, r2, r3, r4, r5) := h
 clear h
 replace H := Option.bind_eq_some_iff.mp H
 obtain ⟨⟨t158, t159, t160, t161⟩, A20, H⟩ := H
 replace H : ((delta_reader_num.f k t159 t160 t161).bind fun bt162 => (if t158 > 1048576 then ((delta_reader_fail.f bt162.2.1 bt162.2.2.1 bt162.2.2.2 4 true).bind fun bt166 => (if bt166.2.2 = 0 then (some (wrap64 (t158), wrap64 (bt162.1), bt166.1, bt166.2.1, bt166.2.2)) else (some (0, 0, bt166.1, bt166.2.1, bt166.2.2)))) else ((delta_reader_fail.f bt162.2.1 bt162.2.2.1 bt162.2.2.2 4 (decide (bt162.1 > 1048576))).bind fun bt169 => (if bt169.2.2 = 0 then (some (wrap64 (t158), wrap64 (bt162.1), bt169.1, bt169.2.1, bt169.2.2)) else (some (0, 0, bt169.1, bt169.2.1, bt169.2.2)))))) = some (r1, r2, r3, r4, r5) := H
 have A2 := Aside0.mk A20
 clear A20
 replace H := Option.bind_eq_some_iff.mp H
 obtain ⟨⟨t162, t163, t164, t165⟩, A30, H⟩ := H
 replace H : (if t158 > 1048576 then ((delta_reader_fail.f t163 t164 t165 4 true).bind fun bt166 => (if bt166.2.2 = 0 then (some (wrap64 (t158), wrap64 (t162), bt166.1, bt166.2.1, bt166.2.2)) else (some (0, 0, bt166.1, bt166.2.1, bt166.2.2)))) else ((delta_reader_fail.f t163 t164 t165 4 (decide (t162 > 1048576))).bind fun bt169 => (if bt169.2.2 = 0 then (some (wrap64 (t158), wrap64 (t162), bt169.1, bt169.2.1, bt169.2.2)) else (some (0, 0, bt169.1, bt169.2.1, bt169.2.2))))) = some (r1, r2, r3, r4, r5) := H
 have A3 := Aside0.mk A30
 clear A30
 by_cases c4 : t158 > 1048576
 ·rw [if_pos c4] at H
  have c4b0 : decide (1048576 < t158) = true := decide_eq_true c4
  clear c4
  replace H := Option.bind_eq_some_iff.mp H
  obtain ⟨⟨t166, t167, t168⟩, A50, H⟩ := H
  replace H : (if t168 = 0 then (some (wrap64 (t158), wrap64 (t162), t166, t167, t168)) else (some (0, 0, t166, t167, t168))) = some (r1, r2, r3, r4, r5) := H
  have A5 := Aside0.mk A50
  clear A50
  by_cases c6 : t168 = 0
  ·rw [if_pos c6] at H
   have c6b0 : (t168 == 0) = true := beq_iff_eq.mpr c6
   have c6b1 : (t168 != 0) = false := bne_eq_false_iff_eq.mpr c6
   clear c6
   simp only [Option.some.injEq, Prod.mk.injEq] at H
   obtain ⟨rfl, rfl, rfl, rfl, rfl⟩ := H
   go_enter Try.func34, Try.ntmps34
   go_wp2_with (first | ((with_reducible refine gate_callee (f := 28) rfl ?_); refine goesL_ (some 7) rfl rfl Try.func28 (by kernel_rfl) rfl #[.pointer (some ⟨g, 0, none⟩)] rfl (by (try simp only [List.map_toArray, List.map_cons, List.map_nil]); first | done | rfl | (simp only [List.length_drop, List.length_take]; rfl)) ?_; (with_reducible refine (delta_reader_num.calls k g s0_0 s0_1 s0_2 t158 t159 t160 t161 w0 _ ?side1 ?side2 A2.out).mono ?_); (case side1 => repeat (first | (with_reducible first | exact HI0.out | apply IsS56.alloc | apply IsS56.drewN | apply IsS56.drew | apply IsS56.set_0 | apply IsS56.set_1 | apply IsS56.set_2) | exact HI0.out)); (case side2 => repeat (first | (with_reducible first | exact HB.out | apply below_alloc | apply pw_below_drewN | apply below_drew1 | refine below_set ?_ (IsS56.ge HI0.out)) | exact HB.out)); rintro e w7 ⟨rfl, hi, hb, hk⟩; refine ⟨_, rfl, ?_⟩; have n0_ := Aside0.mk (KeepBut.trans (by repeat (first | (with_reducible first | exact HK.out | apply KeepBut.set_ | apply keep_drewN | apply keep_drew | apply keep_alloc) | exact HK.out)) hk (.inl rfl)); have n1_ := Aside0.mk (hb); have n2_ := Aside0.mk (hi); clear HK; clear HB; clear HI0; have HK := n0_; have HB := n1_; have HI0 := n2_; clear n0_ n1_ n2_; (try clear hb); (try clear hb2); (try clear hk); (try clear hi)) | ((with_reducible refine gate_callee (f := 28) rfl ?_); refine goesL_ (some 9) rfl rfl Try.func28 (by kernel_rfl) rfl #[.pointer (some ⟨g, 0, none⟩)] rfl (by (try simp only [List.map_toArray, List.map_cons, List.map_nil]); first | done | rfl | (simp only [List.length_drop, List.length_take]; rfl)) ?_; (with_reducible refine (delta_reader_num.calls k g t159 t160 t161 t162 t163 t164 t165 w0 _ ?side1 ?side2 A3.out).mono ?_); (case side1 => repeat (first | (with_reducible first | exact HI0.out | apply IsS56.alloc | apply IsS56.drewN | apply IsS56.drew | apply IsS56.set_0 | apply IsS56.set_1 | apply IsS56.set_2) | exact HI0.out)); (case side2 => repeat (first | (with_reducible first | exact HB.out | apply below_alloc | apply pw_below_drewN | apply below_drew1 | refine below_set ?_ (IsS56.ge HI0.out)) | exact HB.out)); rintro e w8 ⟨rfl, hi, hb, hk⟩; refine ⟨_, rfl, ?_⟩; have n0_ := Aside0.mk (KeepBut.trans (by repeat (first | (with_reducible first | exact HK.out | apply KeepBut.set_ | apply keep_drewN | apply keep_drew | apply keep_alloc) | exact HK.out)) hk (.inl rfl)); have n1_ := Aside0.mk (hb); have n2_ := Aside0.mk (hi); clear HK; clear HB; clear HI0; have HK := n0_; have HB := n1_; have HI0 := n2_; clear n0_ n1_ n2_; (try clear hb); (try clear hb2); (try clear hk); (try clear hi)) | ((with_reducible refine gate_callee (f := 29) rfl ?_); refine goesL_ (some 17) rfl rfl Try.func29 (by kernel_rfl) rfl #[.pointer (some ⟨g, 0, none⟩), .int .i64 4, .bool true] rfl (by (try simp only [List.map_toArray, List.map_cons, List.map_nil]); first | done | rfl | (simp only [List.length_drop, List.length_take]; rfl)) ?_; (with_reducible refine (delta_reader_fail.calls g t163 t164 t165 4 true t166 t167 t168 w0 _ ?side1 ?side2 A5.out).mono ?_); (case side1 => repeat (first | (with_reducible first | exact HI0.out | apply IsS56.alloc | apply IsS56.drewN | apply IsS56.drew | apply IsS56.set_0 | apply IsS56.set_1 | apply IsS56.set_2) | exact HI0.out)); (case side2 => repeat (first | (with_reducible first | exact HB.out | apply below_alloc | apply pw_below_drewN | apply below_drew1 | refine below_set ?_ (IsS56.ge HI0.out)) | exact HB.out)); rintro e w9 ⟨rfl, hi, hb, hk⟩; refine ⟨_, rfl, ?_⟩; have n0_ := Aside0.mk (KeepBut.trans (by repeat (first | (with_reducible first | exact HK.out | apply KeepBut.set_ | apply keep_drewN | apply keep_drew | apply keep_alloc) | exact HK.out)) hk (.inl rfl)); have n1_ := Aside0.mk (hb); have n2_ := Aside0.mk (hi); clear HK; clear HB; clear HI0; have HK := n0_; have HB := n1_; have HI0 := n2_; clear n0_ n1_ n2_; (try clear hb); (try clear hb2); (try clear hk); (try clear hi); obtain ⟨HGz10, hgz10⟩ := HI0.out; have hcz10_0 := cellS56_0 HGz10; have hcz10_1 := cellS56_1 HGz10; have hcz10_2 := cellS56_2 HGz10; have hfz10_0 := blk_frozen HGz10 0; have hfz10_1 := blk_frozen HGz10 1; have hfz10_2 := blk_frozen HGz10 2; clear HGz10 hgz10))
   go_ret2
   exact ⟨by first | rfl | (simp [errW_none, errW_some] <;> rfl) | (simp [*, errW_none, errW_some] <;> rfl), by repeat (first | (with_reducible first | exact HI0.out | apply IsS56.alloc | apply IsS56.drewN | apply IsS56.drew | apply IsS56.set_0 | apply IsS56.set_1 | apply IsS56.set_2) | exact HI0.out), by repeat (first | (with_reducible first | exact HB.out | apply below_alloc | apply pw_below_drewN | apply below_drew1 | refine below_set ?_ (IsS56.ge HI0.out)) | exact HB.out), by repeat (first | (with_reducible first | exact HK.out | apply KeepBut.set_ | apply keep_drewN | apply keep_drew | apply keep_alloc) | exact HK.out)⟩
  ·rw [if_neg c6] at H
   have c6b0 : (t168 == 0) = false := beq_eq_false_iff_ne.mpr c6
   have c6b1 : (t168 != 0) = true := bne_iff_ne.mpr c6
   simp only [Option.some.injEq, Prod.mk.injEq] at H
   obtain ⟨rfl, rfl, rfl, rfl, rfl⟩ := H
   go_enter Try.func34, Try.ntmps34
   go_wp2_with (first | ((with_reducible refine gate_callee (f := 28) rfl ?_); refine goesL_ (some 7) rfl rfl Try.func28 (by kernel_rfl) rfl #[.pointer (some ⟨g, 0, none⟩)] rfl (by (try simp only [List.map_toArray, List.map_cons, List.map_nil]); first | done | rfl | (simp only [List.length_drop, List.length_take]; rfl)) ?_; (with_reducible refine (delta_reader_num.calls k g s0_0 s0_1 s0_2 t158 t159 t160 t161 w0 _ ?side1 ?side2 A2.out).mono ?_); (case side1 => repeat (first | (with_reducible first | exact HI0.out | apply IsS56.alloc | apply IsS56.drewN | apply IsS56.drew | apply IsS56.set_0 | apply IsS56.set_1 | apply IsS56.set_2) | exact HI0.out)); (case side2 => repeat (first | (with_reducible first | exact HB.out | apply below_alloc | apply pw_below_drewN | apply below_drew1 | refine below_set ?_ (IsS56.ge HI0.out)) | exact HB.out)); rintro e w11 ⟨rfl, hi, hb, hk⟩; refine ⟨_, rfl, ?_⟩; have n0_ := Aside0.mk (KeepBut.trans (by repeat (first | (with_reducible first | exact HK.out | apply KeepBut.set_ | apply keep_drewN | apply keep_drew | apply keep_alloc) | exact HK.out)) hk (.inl rfl)); have n1_ := Aside0.mk (hb); have n2_ := Aside0.mk (hi); clear HK; clear HB; clear HI0; have HK := n0_; have HB := n1_; have HI0 := n2_; clear n0_ n1_ n2_; (try clear hb); (try clear hb2); (try clear hk); (try clear hi)) | ((with_reducible refine gate_callee (f := 28) rfl ?_); refine goesL_ (some 9) rfl rfl Try.func28 (by kernel_rfl) rfl #[.pointer (some ⟨g, 0, none⟩)] rfl (by (try simp only [List.map_toArray, List.map_cons, List.map_nil]); first | done | rfl | (simp only [List.length_drop, List.length_take]; rfl)) ?_; (with_reducible refine (delta_reader_num.calls k g t159 t160 t161 t162 t163 t164 t165 w0 _ ?side1 ?side2 A3.out).mono ?_); (case side1 => repeat (first | (with_reducible first | exact HI0.out | apply IsS56.alloc | apply IsS56.drewN | apply IsS56.drew | apply IsS56.set_0 | apply IsS56.set_1 | apply IsS56.set_2) | exact HI0.out)); (case side2 => repeat (first | (with_reducible first | exact HB.out | apply below_alloc | apply pw_below_drewN | apply below_drew1 | refine below_set ?_ (IsS56.ge HI0.out)) | exact HB.out)); rintro e w12 ⟨rfl, hi, hb, hk⟩; refine ⟨_, rfl, ?_⟩; have n0_ := Aside0.mk (KeepBut.trans (by repeat (first | (with_reducible first | exact HK.out | apply KeepBut.set_ | apply keep_drewN | apply keep_drew | apply keep_alloc) | exact HK.out)) hk (.inl rfl)); have n1_ := Aside0.mk (hb); have n2_ := Aside0.mk (hi); clear HK; clear HB; clear HI0; have HK := n0_; have HB := n1_; have HI0 := n2_; clear n0_ n1_ n2_; (try clear hb); (try clear hb2); (try clear hk); (try clear hi)) | ((with_reducible refine gate_callee (f := 29) rfl ?_); refine goesL_ (some 17) rfl rfl Try.func29 (by kernel_rfl) rfl #[.pointer (some ⟨g, 0, none⟩), .int .i64 4, .bool true] rfl (by (try simp only [List.map_toArray, List.map_cons, List.map_nil]); first | done | rfl | (simp only [List.length_drop, List.length_take]; rfl)) ?_; (with_reducible refine (delta_reader_fail.calls g t163 t164 t165 4 true t166 t167 t168 w0 _ ?side1 ?side2 A5.out).mono ?_); (case side1 => repeat (first | (with_reducible first | exact HI0.out | apply IsS56.alloc | apply IsS56.drewN | apply IsS56.drew | apply IsS56.set_0 | apply IsS56.set_1 | apply IsS56.set_2) | exact HI0.out)); (case side2 => repeat (first | (with_reducible first | exact HB.out | apply below_alloc | apply pw_below_drewN | apply below_drew1 | refine below_set ?_ (IsS56.ge HI0.out)) | exact HB.out)); rintro e w13 ⟨rfl, hi, hb, hk⟩; refine ⟨_, rfl, ?_⟩; have n0_ := Aside0.mk (KeepBut.trans (by repeat (first | (with_reducible first | exact HK.out | apply KeepBut.set_ | apply keep_drewN | apply keep_drew | apply keep_alloc) | exact HK.out)) hk (.inl rfl)); have n1_ := Aside0.mk (hb); have n2_ := Aside0.mk (hi); clear HK; clear HB; clear HI0; have HK := n0_; have HB := n1_; have HI0 := n2_; clear n0_ n1_ n2_; (try clear hb); (try clear hb2); (try clear hk); (try clear hi); obtain ⟨HGz14, hgz14⟩ := HI0.out; have hcz14_0 := cellS56_0 HGz14; have hcz14_1 := cellS56_1 HGz14; have hcz14_2 := cellS56_2 HGz14; have hfz14_0 := blk_frozen HGz14 0; have hfz14_1 := blk_frozen HGz14 1; have hfz14_2 := blk_frozen HGz14 2; clear HGz14 hgz14))
   go_ret2
   exact ⟨by first | rfl | (simp [errW_none, errW_some] <;> rfl) | (simp [*, errW_none, errW_some] <;> rfl), by repeat (first | (with_reducible first | exact HI0.out | apply IsS56.alloc | apply IsS56.drewN | apply IsS56.drew | apply IsS56.set_0 | apply IsS56.set_1 | apply IsS56.set_2) | exact HI0.out), by repeat (first | (with_reducible first | exact HB.out | apply below_alloc | apply pw_below_drewN | apply below_drew1 | refine below_set ?_ (IsS56.ge HI0.out)) | exact HB.out), by repeat (first | (with_reducible first | exact HK.out | apply KeepBut.set_ | apply keep_drewN | apply keep_drew | apply keep_alloc) | exact HK.out)⟩
 ·rw [if_neg c4] at H
  have c4b0 : decide (1048576 < t158) = false := decide_eq_false c4
  clear c4
  replace H := Option.bind_eq_some_iff.mp H
  obtain ⟨⟨t169, t170, t171⟩, A150, H⟩ := H
  replace H : (if t171 = 0 then (some (wrap64 (t158), wrap64 (t162), t169, t170, t171)) else (some (0, 0, t169, t170, t171))) = some (r1, r2, r3, r4, r5) := H
  have A15 := Aside0.mk A150
  clear A150
  by_cases c16 : t171 = 0
  ·rw [if_pos c16] at H
   have c16b0 : (t171 == 0) = true := beq_iff_eq.mpr c16
   have c16b1 : (t171 != 0) = false := bne_eq_false_iff_eq.mpr c16
   clear c16
   simp only [Option.some.injEq, Prod.mk.injEq] at H
   obtain ⟨rfl, rfl, rfl, rfl, rfl⟩ := H
   go_enter Try.func34, Try.ntmps34
   go_wp2_with (first | ((with_reducible refine gate_callee (f := 28) rfl ?_); refine goesL_ (some 7) rfl rfl Try.func28 (by kernel_rfl) rfl #[.pointer (some ⟨g, 0, none⟩)] rfl (by (try simp only [List.map_toArray, List.map_cons, List.map_nil]); first | done | rfl | (simp only [List.length_drop, List.length_take]; rfl)) ?_; (with_reducible refine (delta_reader_num.calls k g s0_0 s0_1 s0_2 t158 t159 t160 t161 w0 _ ?side1 ?side2 A2.out).mono ?_); (case side1 => repeat (first | (with_reducible first | exact HI0.out | apply IsS56.alloc | apply IsS56.drewN | apply IsS56.drew | apply IsS56.set_0 | apply IsS56.set_1 | apply IsS56.set_2) | exact HI0.out)); (case side2 => repeat (first | (with_reducible first | exact HB.out | apply below_alloc | apply pw_below_drewN | apply below_drew1 | refine below_set ?_ (IsS56.ge HI0.out)) | exact HB.out)); rintro e w17 ⟨rfl, hi, hb, hk⟩; refine ⟨_, rfl, ?_⟩; have n0_ := Aside0.mk (KeepBut.trans (by repeat (first | (with_reducible first | exact HK.out | apply KeepBut.set_ | apply keep_drewN | apply keep_drew | apply keep_alloc) | exact HK.out)) hk (.inl rfl)); have n1_ := Aside0.mk (hb); have n2_ := Aside0.mk (hi); clear HK; clear HB; clear HI0; have HK := n0_; have HB := n1_; have HI0 := n2_; clear n0_ n1_ n2_; (try clear hb); (try clear hb2); (try clear hk); (try clear hi)) | ((with_reducible refine gate_callee (f := 28) rfl ?_); refine goesL_ (some 9) rfl rfl Try.func28 (by kernel_rfl) rfl #[.pointer (some ⟨g, 0, none⟩)] rfl (by (try simp only [List.map_toArray, List.map_cons, List.map_nil]); first | done | rfl | (simp only [List.length_drop, List.length_take]; rfl)) ?_; (with_reducible refine (delta_reader_num.calls k g t159 t160 t161 t162 t163 t164 t165 w0 _ ?side1 ?side2 A3.out).mono ?_); (case side1 => repeat (first | (with_reducible first | exact HI0.out | apply IsS56.alloc | apply IsS56.drewN | apply IsS56.drew | apply IsS56.set_0 | apply IsS56.set_1 | apply IsS56.set_2) | exact HI0.out)); (case side2 => repeat (first | (with_reducible first | exact HB.out | apply below_alloc | apply pw_below_drewN | apply below_drew1 | refine below_set ?_ (IsS56.ge HI0.out)) | exact HB.out)); rintro e w18 ⟨rfl, hi, hb, hk⟩; refine ⟨_, rfl, ?_⟩; have n0_ := Aside0.mk (KeepBut.trans (by repeat (first | (with_reducible first | exact HK.out | apply KeepBut.set_ | apply keep_drewN | apply keep_drew | apply keep_alloc) | exact HK.out)) hk (.inl rfl)); have n1_ := Aside0.mk (hb); have n2_ := Aside0.mk (hi); clear HK; clear HB; clear HI0; have HK := n0_; have HB := n1_; have HI0 := n2_; clear n0_ n1_ n2_; (try clear hb); (try clear hb2); (try clear hk); (try clear hi)) | ((with_reducible refine gate_callee (f := 29) rfl ?_); refine goesL_ (some 17) rfl rfl Try.func29 (by kernel_rfl) rfl #[.pointer (some ⟨g, 0, none⟩), .int .i64 4, .bool (decide (t162 > 1048576))] rfl (by (try simp only [List.map_toArray, List.map_cons, List.map_nil]); first | done | rfl | (simp only [List.length_drop, List.length_take]; rfl)) ?_; (with_reducible refine (delta_reader_fail.calls g t163 t164 t165 4 (decide (t162 > 1048576)) t169 t170 t171 w0 _ ?side1 ?side2 A15.out).mono ?_); (case side1 => repeat (first | (with_reducible first | exact HI0.out | apply IsS56.alloc | apply IsS56.drewN | apply IsS56.drew | apply IsS56.set_0 | apply IsS56.set_1 | apply IsS56.set_2) | exact HI0.out)); (case side2 => repeat (first | (with_reducible first | exact HB.out | apply below_alloc | apply pw_below_drewN | apply below_drew1 | refine below_set ?_ (IsS56.ge HI0.out)) | exact HB.out)); rintro e w19 ⟨rfl, hi, hb, hk⟩; refine ⟨_, rfl, ?_⟩; have n0_ := Aside0.mk (KeepBut.trans (by repeat (first | (with_reducible first | exact HK.out | apply KeepBut.set_ | apply keep_drewN | apply keep_drew | apply keep_alloc) | exact HK.out)) hk (.inl rfl)); have n1_ := Aside0.mk (hb); have n2_ := Aside0.mk (hi); clear HK; clear HB; clear HI0; have HK := n0_; have HB := n1_; have HI0 := n2_; clear n0_ n1_ n2_; (try clear hb); (try clear hb2); (try clear hk); (try clear hi); obtain ⟨HGz20, hgz20⟩ := HI0.out; have hcz20_0 := cellS56_0 HGz20; have hcz20_1 := cellS56_1 HGz20; have hcz20_2 := cellS56_2 HGz20; have hfz20_0 := blk_frozen HGz20 0; have hfz20_1 := blk_frozen HGz20 1; have hfz20_2 := blk_frozen HGz20 2; clear HGz20 hgz20))
   go_ret2
   exact ⟨by first | rfl | (simp [errW_none, errW_some] <;> rfl) | (simp [*, errW_none, errW_some] <;> rfl), by repeat (first | (with_reducible first | exact HI0.out | apply IsS56.alloc | apply IsS56.drewN | apply IsS56.drew | apply IsS56.set_0 | apply IsS56.set_1 | apply IsS56.set_2) | exact HI0.out), by repeat (first | (with_reducible first | exact HB.out | apply below_alloc | apply pw_below_drewN | apply below_drew1 | refine below_set ?_ (IsS56.ge HI0.out)) | exact HB.out), by repeat (first | (with_reducible first | exact HK.out | apply KeepBut.set_ | apply keep_drewN | apply keep_drew | apply keep_alloc) | exact HK.out)⟩
  ·rw [if_neg c16] at H
   have c16b0 : (t171 == 0) = false := beq_eq_false_iff_ne.mpr c16
   have c16b1 : (t171 != 0) = true := bne_iff_ne.mpr c16
   simp only [Option.some.injEq, Prod.mk.injEq] at H
   obtain ⟨rfl, rfl, rfl, rfl, rfl⟩ := H
   go_enter Try.func34, Try.ntmps34
   go_wp2_with (first | ((with_reducible refine gate_callee (f := 28) rfl ?_); refine goesL_ (some 7) rfl rfl Try.func28 (by kernel_rfl) rfl #[.pointer (some ⟨g, 0, none⟩)] rfl (by (try simp only [List.map_toArray, List.map_cons, List.map_nil]); first | done | rfl | (simp only [List.length_drop, List.length_take]; rfl)) ?_; (with_reducible refine (delta_reader_num.calls k g s0_0 s0_1 s0_2 t158 t159 t160 t161 w0 _ ?side1 ?side2 A2.out).mono ?_); (case side1 => repeat (first | (with_reducible first | exact HI0.out | apply IsS56.alloc | apply IsS56.drewN | apply IsS56.drew | apply IsS56.set_0 | apply IsS56.set_1 | apply IsS56.set_2) | exact HI0.out)); (case side2 => repeat (first | (with_reducible first | exact HB.out | apply below_alloc | apply pw_below_drewN | apply below_drew1 | refine below_set ?_ (IsS56.ge HI0.out)) | exact HB.out)); rintro e w21 ⟨rfl, hi, hb, hk⟩; refine ⟨_, rfl, ?_⟩; have n0_ := Aside0.mk (KeepBut.trans (by repeat (first | (with_reducible first | exact HK.out | apply KeepBut.set_ | apply keep_drewN | apply keep_drew | apply keep_alloc) | exact HK.out)) hk (.inl rfl)); have n1_ := Aside0.mk (hb); have n2_ := Aside0.mk (hi); clear HK; clear HB; clear HI0; have HK := n0_; have HB := n1_; have HI0 := n2_; clear n0_ n1_ n2_; (try clear hb); (try clear hb2); (try clear hk); (try clear hi)) | ((with_reducible refine gate_callee (f := 28) rfl ?_); refine goesL_ (some 9) rfl rfl Try.func28 (by kernel_rfl) rfl #[.pointer (some ⟨g, 0, none⟩)] rfl (by (try simp only [List.map_toArray, List.map_cons, List.map_nil]); first | done | rfl | (simp only [List.length_drop, List.length_take]; rfl)) ?_; (with_reducible refine (delta_reader_num.calls k g t159 t160 t161 t162 t163 t164 t165 w0 _ ?side1 ?side2 A3.out).mono ?_); (case side1 => repeat (first | (with_reducible first | exact HI0.out | apply IsS56.alloc | apply IsS56.drewN | apply IsS56.drew | apply IsS56.set_0 | apply IsS56.set_1 | apply IsS56.set_2) | exact HI0.out)); (case side2 => repeat (first | (with_reducible first | exact HB.out | apply below_alloc | apply pw_below_drewN | apply below_drew1 | refine below_set ?_ (IsS56.ge HI0.out)) | exact HB.out)); rintro e w22 ⟨rfl, hi, hb, hk⟩; refine ⟨_, rfl, ?_⟩; have n0_ := Aside0.mk (KeepBut.trans (by repeat (first | (with_reducible first | exact HK.out | apply KeepBut.set_ | apply keep_drewN | apply keep_drew | apply keep_alloc) | exact HK.out)) hk (.inl rfl)); have n1_ := Aside0.mk (hb); have n2_ := Aside0.mk (hi); clear HK; clear HB; clear HI0; have HK := n0_; have HB := n1_; have HI0 := n2_; clear n0_ n1_ n2_; (try clear hb); (try clear hb2); (try clear hk); (try clear hi)) | ((with_reducible refine gate_callee (f := 29) rfl ?_); refine goesL_ (some 17) rfl rfl Try.func29 (by kernel_rfl) rfl #[.pointer (some ⟨g, 0, none⟩), .int .i64 4, .bool (decide (t162 > 1048576))] rfl (by (try simp only [List.map_toArray, List.map_cons, List.map_nil]); first | done | rfl | (simp only [List.length_drop, List.length_take]; rfl)) ?_; (with_reducible refine (delta_reader_fail.calls g t163 t164 t165 4 (decide (t162 > 1048576)) t169 t170 t171 w0 _ ?side1 ?side2 A15.out).mono ?_); (case side1 => repeat (first | (with_reducible first | exact HI0.out | apply IsS56.alloc | apply IsS56.drewN | apply IsS56.drew | apply IsS56.set_0 | apply IsS56.set_1 | apply IsS56.set_2) | exact HI0.out)); (case side2 => repeat (first | (with_reducible first | exact HB.out | apply below_alloc | apply pw_below_drewN | apply below_drew1 | refine below_set ?_ (IsS56.ge HI0.out)) | exact HB.out)); rintro e w23 ⟨rfl, hi, hb, hk⟩; refine ⟨_, rfl, ?_⟩; have n0_ := Aside0.mk (KeepBut.trans (by repeat (first | (with_reducible first | exact HK.out | apply KeepBut.set_ | apply keep_drewN | apply keep_drew | apply keep_alloc) | exact HK.out)) hk (.inl rfl)); have n1_ := Aside0.mk (hb); have n2_ := Aside0.mk (hi); clear HK; clear HB; clear HI0; have HK := n0_; have HB := n1_; have HI0 := n2_; clear n0_ n1_ n2_; (try clear hb); (try clear hb2); (try clear hk); (try clear hi); obtain ⟨HGz24, hgz24⟩ := HI0.out; have hcz24_0 := cellS56_0 HGz24; have hcz24_1 := cellS56_1 HGz24; have hcz24_2 := cellS56_2 HGz24; have hfz24_0 := blk_frozen HGz24 0; have hfz24_1 := blk_frozen HGz24 1; have hfz24_2 := blk_frozen HGz24 2; clear HGz24 hgz24))
   go_ret2
   exact ⟨by first | rfl | (simp [errW_none, errW_some] <;> rfl) | (simp [*, errW_none, errW_some] <;> rfl), by repeat (first | (with_reducible first | exact HI0.out | apply IsS56.alloc | apply IsS56.drewN | apply IsS56.drew | apply IsS56.set_0 | apply IsS56.set_1 | apply IsS56.set_2) | exact HI0.out), by repeat (first | (with_reducible first | exact HB.out | apply below_alloc | apply pw_below_drewN | apply below_drew1 | refine below_set ?_ (IsS56.ge HI0.out)) | exact HB.out), by repeat (first | (with_reducible first | exact HK.out | apply KeepBut.set_ | apply keep_drewN | apply keep_drew | apply keep_alloc) | exact HK.out)⟩

end Go.Proofs.Ytggjkijgbpnhiaa.PDl
