import Derived.Test.YtefnmfcgjlppaaaDoorZP0
import Derived.Test.YtefnmfcgjlppaaaDoorZPTdx14
import Derived.Test.YtefnmfcgjlppaaaDoorZPTdx15
import Derived.Test.YtefnmfcgjlppaaaDoorZPTdx16
-- Written by wip/gen/gen.py of this session out of the seat's translation.
namespace Go.Proofs.YtefnmfcgjlppaaaDoor.PTd
open Go.Proofs.YtefnmfcgjlppaaaDoor.Hand Go.RowKit Go.Proofs.YtefnmfcgjlppaaaDoorW.PrintWords Go.Proofs.YtefnmfcgjlppaaaDoorW.PrintLast Go.Proofs.YtefnmfcgjlppaaaDoorW.PrintMore
attribute [local go_sem] max2_int min2_int max_two min_two max_three min_three max_four min_four   -- for this text's walks alone
set_option linter.unusedVariables false
set_option linter.unusedSimpArgs false

/-! ### graftageref42_asks: function 52 -/
mutual
def graftageref42_asks.l0 : Nat → ByteArray → Int → Option (Int × ByteArray)
 | 0, _, _ => none
 | k + 1, x0, x4 => (graftageref42_begins.f x0 (⟨#[102, 105, 120, 117, 112, 33, 32]⟩ : ByteArray)).bind fun t219 => (if t219 = true then (graftageref42_asks.j1 k x0 x4 true) else ((graftageref42_begins.f x0 (⟨#[115, 113, 117, 97, 115, 104, 33, 32]⟩ : ByteArray)).bind fun t220 => (graftageref42_asks.j1 k x0 x4 t220)))
def graftageref42_asks.j1 : Nat → ByteArray → Int → Bool → Option (Int × ByteArray)
 | 0, _, _, _ => none
 | k + 1, x0, x4, x10 => if x10 = true then (if x4 = 0 then ((graftageref42_begins.f x0 (⟨#[102, 105, 120, 117, 112, 33, 32]⟩ : ByteArray)).bind fun t221 => (if t221 = true then ((graftageref42_blank.f k x0).bind fun t222 => (if 0 ≤ (wrap64 (t222 + 1)) then (if (wrap64 (t222 + 1)) ≤ (x0.size : Int) then (graftageref42_asks.l0 k (x0.extract ((wrap64 (t222 + 1)) : Int).toNat x0.size) 5) else (none)) else (none))) else ((graftageref42_blank.f k x0).bind fun t223 => (if 0 ≤ (wrap64 (t223 + 1)) then (if (wrap64 (t223 + 1)) ≤ (x0.size : Int) then (graftageref42_asks.l0 k (x0.extract ((wrap64 (t223 + 1)) : Int).toNat x0.size) 4) else (none)) else (none))))) else ((graftageref42_blank.f k x0).bind fun t224 => (if 0 ≤ (wrap64 (t224 + 1)) then (if (wrap64 (t224 + 1)) ≤ (x0.size : Int) then (graftageref42_asks.l0 k (x0.extract ((wrap64 (t224 + 1)) : Int).toNat x0.size) x4) else (none)) else (none)))) else (some (x4, x0))
end
def graftageref42_asks.f (k : Nat) (a0 : ByteArray) : Option (Int × ByteArray) := graftageref42_asks.l0 k a0 0
theorem graftageref42_asks.mono_l : ∀ k, (∀ y0 y1, LeO (graftageref42_asks.l0 k y0 y1) (graftageref42_asks.l0 (k + 1) y0 y1)) ∧ (∀ y0 y1 y2, LeO (graftageref42_asks.j1 k y0 y1 y2) (graftageref42_asks.j1 (k + 1) y0 y1 y2))
 | 0 => ⟨fun _ _ r h => by simp [graftageref42_asks.l0] at h, fun _ _ _ r h => by simp [graftageref42_asks.j1] at h⟩
 | k + 1 => by
  obtain ⟨ih0, ih1⟩ := graftageref42_asks.mono_l k
  refine ⟨?_, ?_⟩
  ·intro y0 y1
   unfold graftageref42_asks.l0
   repeat' first
   | (with_reducible exact ih0 _ _)
   | (with_reducible exact ih1 _ _ _)
   | (with_reducible exact graftageref42_blank.mono _ _)
   | (with_reducible exact LeO.refl _)
   | (with_reducible exact LeO.none _)
   | (with_reducible refine LeO.ite ?_ ?_)
   | (with_reducible refine LeO.bind ?_ (fun _ => ?_))
   | exact ih0 _ _
   | exact ih1 _ _ _
   | exact graftageref42_blank.mono _ _
   | exact LeO.none _
   | refine LeO.ite ?_ ?_
   | refine LeO.bind ?_ (fun _ => ?_)
  ·intro y0 y1 y2
   unfold graftageref42_asks.j1
   repeat' first
   | (with_reducible exact ih0 _ _)
   | (with_reducible exact ih1 _ _ _)
   | (with_reducible exact graftageref42_blank.mono _ _)
   | (with_reducible exact LeO.refl _)
   | (with_reducible exact LeO.none _)
   | (with_reducible refine LeO.ite ?_ ?_)
   | (with_reducible refine LeO.bind ?_ (fun _ => ?_))
   | exact ih0 _ _
   | exact ih1 _ _ _
   | exact graftageref42_blank.mono _ _
   | exact LeO.none _
   | refine LeO.ite ?_ ?_
   | refine LeO.bind ?_ (fun _ => ?_)
theorem graftageref42_asks.mono : ∀ a0 k, LeO (graftageref42_asks.f k a0) (graftageref42_asks.f (k + 1) a0) := by
 intro a0 k
 obtain ⟨ih0, ih1⟩ := graftageref42_asks.mono_l k
 unfold graftageref42_asks.f
 repeat' first
   | (with_reducible exact ih0 _ _)
   | (with_reducible exact ih1 _ _ _)
   | (with_reducible exact graftageref42_blank.mono _ _)
   | (with_reducible exact LeO.refl _)
   | (with_reducible exact LeO.none _)
   | (with_reducible refine LeO.ite ?_ ?_)
   | (with_reducible refine LeO.bind ?_ (fun _ => ?_))
   | exact ih0 _ _
   | exact ih1 _ _ _
   | exact graftageref42_blank.mono _ _
   | exact LeO.none _
   | refine LeO.ite ?_ ?_
   | refine LeO.bind ?_ (fun _ => ?_)
set_option maxHeartbeats 8000000 in
set_option maxRecDepth 100000 in
theorem graftageref42_asks.calls (k : Nat) (a0 : ByteArray) (r1 : Int) (r2 : ByteArray) (w : World) (h : graftageref42_asks.f k a0 = some (r1, r2)) :
  Calls Tryd.prog 52 #[.string a0] w fun e w' => e = .returned (.tuple #[.int .i64 r1, .string r2]) ∧ Drawn0 w w' := by
 have H : (graftageref42_asks.l0 k a0 0) = some (r1, r2) := h
 clear h
 have H' := Aside0.mk H
 clear H
 go_enter Tryd.func52, Tryd.ntmps52
 go_wp2
 go_loopg [0, 4] k (fun kq v0 v4 w' => ∃ (x0_1 : ByteArray) (x4_1 : Int), v0 = .string x0_1 ∧ v4 = .int .i64 x4_1 ∧ Aside0 (graftageref42_asks.l0 kq x0_1 x4_1 = some (r1, r2)) ∧ Aside0 (kq ≤ k) ∧ Drawn0 w w')
 case atStart => exact ⟨(a0), (0), (by first | rfl | (simp; done) | (simp [*]; done)), (by first | rfl | (simp; done) | (simp [*]; done)), H', ⟨Nat.le_refl _⟩, by repeat (first | exact Drawn0.refl _ | apply Drawn0.step)⟩
 case round =>
  clear H'
  obtain ⟨x0_1, x4_1, rfl, rfl, HA, HK1, ⟨m1, rfl⟩⟩ := hrel
  cases gk with
  | zero => exact absurd HA.out (by simp [graftageref42_asks.l0])
  | succ k1 =>
   have H := HA.out
   clear HA
   simp only [graftageref42_asks.l0] at H
   have HC2 := Aside0.mk H
   clear H
   go_upto_region 2 with (fail)
   go_cut [10] (fun v10 wc => ∃ (kq : Nat) (x10_1 : Bool), v10 = .bool x10_1 ∧ Aside0 (graftageref42_asks.j1 kq x0_1 x4_1 x10_1 = some (r1, r2)) ∧ Aside0 (kq ≤ k1) ∧ Drawn0 w wc)
   case first =>
    have H := HC2.out
    clear HC2
    replace H := Option.bind_eq_some_iff.mp H
    obtain ⟨t219, A30, H⟩ := H
    replace H : (if t219 = true then (graftageref42_asks.j1 k1 x0_1 x4_1 true) else ((graftageref42_begins.f x0_1 (⟨#[115, 113, 117, 97, 115, 104, 33, 32]⟩ : ByteArray)).bind fun t220 => (graftageref42_asks.j1 k1 x0_1 x4_1 t220))) = some (r1, r2) := H
    have A3 := Aside0.mk A30
    clear A30
    by_cases c4 : t219 = true
    ·subst c4
     have H1 : (graftageref42_asks.j1 k1 x0_1 x4_1 true) = some (r1, r2) := by rw [if_pos rfl] at H; exact H
     clear H
     have H := H1
     clear H1
     have H' := Aside0.mk H
     clear H
     go_wp2_with (first | ((with_reducible refine gate_callee (f := 62) rfl ?_); refine goesL_ (some 6) rfl rfl Tryd.func62 (by kernel_rfl) rfl #[.string x0_1, .string (⟨#[102, 105, 120, 117, 112, 33, 32]⟩ : ByteArray)] rfl (by (try simp only [List.map_toArray, List.map_cons, List.map_nil]); first | done | rfl | (simp only [List.length_drop, List.length_take]; rfl)) ?_; (with_reducible refine (graftageref42_begins.calls x0_1 (⟨#[102, 105, 120, 117, 112, 33, 32]⟩ : ByteArray) true _ A3.out).mono ?_); rintro e w' ⟨rfl, ⟨nd, rfl⟩⟩; refine ⟨_, rfl, ?_⟩))
     go_meet
     case rel => exact ⟨_, (true), (by first | rfl | (simp; done) | (simp [*]; done)), H', ⟨by have := HK1.out; first | omega | exact Nat.le_refl _⟩, by repeat (first | exact Drawn0.refl _ | apply Drawn0.step)⟩
    ·replace c4 := Bool.eq_false_iff.mpr c4
     subst c4
     have H1 : ((graftageref42_begins.f x0_1 (⟨#[115, 113, 117, 97, 115, 104, 33, 32]⟩ : ByteArray)).bind fun t220 => (graftageref42_asks.j1 k1 x0_1 x4_1 t220)) = some (r1, r2) := by rw [if_neg (show ¬ (false = true) by decide)] at H; exact H
     clear H
     have H := H1
     clear H1
     replace H := Option.bind_eq_some_iff.mp H
     obtain ⟨t220, A50, H⟩ := H
     replace H : (graftageref42_asks.j1 k1 x0_1 x4_1 t220) = some (r1, r2) := H
     have A5 := Aside0.mk A50
     clear A50
     have H' := Aside0.mk H
     clear H
     go_wp2_with (first | ((with_reducible refine gate_callee (f := 62) rfl ?_); refine goesL_ (some 6) rfl rfl Tryd.func62 (by kernel_rfl) rfl #[.string x0_1, .string (⟨#[102, 105, 120, 117, 112, 33, 32]⟩ : ByteArray)] rfl (by (try simp only [List.map_toArray, List.map_cons, List.map_nil]); first | done | rfl | (simp only [List.length_drop, List.length_take]; rfl)) ?_; (with_reducible refine (graftageref42_begins.calls x0_1 (⟨#[102, 105, 120, 117, 112, 33, 32]⟩ : ByteArray) false _ A3.out).mono ?_); rintro e w' ⟨rfl, ⟨nd, rfl⟩⟩; refine ⟨_, rfl, ?_⟩) | (go_at_call 62; (with_reducible refine (graftageref42_begins.calls x0_1 (⟨#[115, 113, 117, 97, 115, 104, 33, 32]⟩ : ByteArray) t220 _ A5.out).mono ?_); rintro e w' ⟨rfl, ⟨nd, rfl⟩⟩))
     go_meet
     case rel => exact ⟨_, (t220), (by first | rfl | (simp; done) | (simp [*]; done)), H', ⟨by have := HK1.out; first | omega | exact Nat.le_refl _⟩, by repeat (first | exact Drawn0.refl _ | apply Drawn0.step)⟩
   case rest =>
    clear HC2
    try clear p2
    try clear c4
    try clear c5
    obtain ⟨kq, x10_1, rfl, HA, HJ1, ⟨mc1, rfl⟩⟩ := hcut
    cases kq with
    | zero => exact absurd HA.out (by simp [graftageref42_asks.j1])
    | succ kj1 =>
     have H := HA.out
     clear HA
     simp only [graftageref42_asks.j1] at H
     by_cases c6 : x10_1 = true
     ·subst c6
      have H1 : (if x4_1 = 0 then ((graftageref42_begins.f x0_1 (⟨#[102, 105, 120, 117, 112, 33, 32]⟩ : ByteArray)).bind fun t221 => (if t221 = true then ((graftageref42_blank.f kj1 x0_1).bind fun t222 => (if 0 ≤ (wrap64 (t222 + 1)) then (if (wrap64 (t222 + 1)) ≤ (x0_1.size : Int) then (graftageref42_asks.l0 kj1 (x0_1.extract ((wrap64 (t222 + 1)) : Int).toNat x0_1.size) 5) else (none)) else (none))) else ((graftageref42_blank.f kj1 x0_1).bind fun t223 => (if 0 ≤ (wrap64 (t223 + 1)) then (if (wrap64 (t223 + 1)) ≤ (x0_1.size : Int) then (graftageref42_asks.l0 kj1 (x0_1.extract ((wrap64 (t223 + 1)) : Int).toNat x0_1.size) 4) else (none)) else (none))))) else ((graftageref42_blank.f kj1 x0_1).bind fun t224 => (if 0 ≤ (wrap64 (t224 + 1)) then (if (wrap64 (t224 + 1)) ≤ (x0_1.size : Int) then (graftageref42_asks.l0 kj1 (x0_1.extract ((wrap64 (t224 + 1)) : Int).toNat x0_1.size) x4_1) else (none)) else (none)))) = some (r1, r2) := by rw [if_pos rfl] at H; exact H
      clear H
      have H := H1
      clear H1
      by_cases c7 : x4_1 = 0
      ·rw [if_pos c7] at H
       have c7b0 : (x4_1 == 0) = true := beq_iff_eq.mpr c7
       have c7b1 : (x4_1 != 0) = false := bne_eq_false_iff_eq.mpr c7
       clear c7
       replace H := Option.bind_eq_some_iff.mp H
       obtain ⟨t221, A80, H⟩ := H
       replace H : (if t221 = true then ((graftageref42_blank.f kj1 x0_1).bind fun t222 => (if 0 ≤ (wrap64 (t222 + 1)) then (if (wrap64 (t222 + 1)) ≤ (x0_1.size : Int) then (graftageref42_asks.l0 kj1 (x0_1.extract ((wrap64 (t222 + 1)) : Int).toNat x0_1.size) 5) else (none)) else (none))) else ((graftageref42_blank.f kj1 x0_1).bind fun t223 => (if 0 ≤ (wrap64 (t223 + 1)) then (if (wrap64 (t223 + 1)) ≤ (x0_1.size : Int) then (graftageref42_asks.l0 kj1 (x0_1.extract ((wrap64 (t223 + 1)) : Int).toNat x0_1.size) 4) else (none)) else (none)))) = some (r1, r2) := H
       have A8 := Aside0.mk A80
       clear A80
       by_cases c9 : t221 = true
       ·subst c9
        have H1 : ((graftageref42_blank.f kj1 x0_1).bind fun t222 => (if 0 ≤ (wrap64 (t222 + 1)) then (if (wrap64 (t222 + 1)) ≤ (x0_1.size : Int) then (graftageref42_asks.l0 kj1 (x0_1.extract ((wrap64 (t222 + 1)) : Int).toNat x0_1.size) 5) else (none)) else (none))) = some (r1, r2) := by rw [if_pos rfl] at H; exact H
        clear H
        have H := H1
        clear H1
        replace H := Option.bind_eq_some_iff.mp H
        obtain ⟨t222, A100, H⟩ := H
        replace H : (if 0 ≤ (wrap64 (t222 + 1)) then (if (wrap64 (t222 + 1)) ≤ (x0_1.size : Int) then (graftageref42_asks.l0 kj1 (x0_1.extract ((wrap64 (t222 + 1)) : Int).toNat x0_1.size) 5) else (none)) else (none)) = some (r1, r2) := H
        have A10 := Aside0.mk A100
        clear A100
        obtain ⟨ji11, hji11⟩ : ∃ j_ : Int, (wrap64 (t222 + 1)) = j_ := ⟨_, rfl⟩
        replace H : (if 0 ≤ (ji11) then (if (ji11) ≤ (x0_1.size : Int) then (graftageref42_asks.l0 kj1 (x0_1.extract ((ji11) : Int).toNat x0_1.size) 5) else (none)) else (none)) = some (r1, r2) := by first | (rw [hji11] at H; exact H) | (simp only [hji11] at H ⊢; exact H)
        (try rw [hji11] at A8)
        (try rw [hji11] at A10)
        have hji11w : (IntKind.i64.wrap (t222 + 1)) = ji11 := (i64_w _).trans hji11
        by_cases c12 : 0 ≤ (ji11)
        ·rw [if_pos c12] at H
         have c12b0 := eq_true c12
         have c12b1 : decide (0 ≤ (ji11)) = true := decide_eq_true c12
         clear c12
         by_cases c13 : (ji11) ≤ (x0_1.size : Int)
         ·rw [if_pos c13] at H
          have c13b0 := eq_true c13
          have c13b1 : decide ((ji11) ≤ (x0_1.size : Int)) = true := decide_eq_true c13
          clear c13
          have H' := Aside0.mk H
          clear H
          go_wp2_with (first | ((with_reducible refine gate_callee (f := 62) rfl ?_); refine goesL_ (some 14) rfl rfl Tryd.func62 (by kernel_rfl) rfl #[.string x0_1, .string (⟨#[102, 105, 120, 117, 112, 33, 32]⟩ : ByteArray)] rfl (by (try simp only [List.map_toArray, List.map_cons, List.map_nil]); first | done | rfl | (simp only [List.length_drop, List.length_take]; rfl)) ?_; (with_reducible refine (graftageref42_begins.calls x0_1 (⟨#[102, 105, 120, 117, 112, 33, 32]⟩ : ByteArray) true _ A8.out).mono ?_); rintro e w' ⟨rfl, ⟨nd, rfl⟩⟩; refine ⟨_, rfl, ?_⟩) | ((with_reducible refine gate_callee (f := 47) rfl ?_); refine goesL_ (some 17) rfl rfl Tryd.func47 (by kernel_rfl) rfl #[.string x0_1] rfl (by (try simp only [List.map_toArray, List.map_cons, List.map_nil]); first | done | rfl | (simp only [List.length_drop, List.length_take]; rfl)) ?_; (with_reducible refine (graftageref42_blank.calls kj1 x0_1 t222 _ A10.out).mono ?_); rintro e w' ⟨rfl, ⟨nd, rfl⟩⟩; refine ⟨_, rfl, ?_⟩))
          go_roundg kj1
          case measure => have := HK1.out; have := HJ1.out; omega
          case rel => exact ⟨(x0_1.extract ((ji11) : Int).toNat x0_1.size), (5), (by first | rfl | (simp; done) | (simp only [← hji11] <;> (first | rfl | simp)) | (simp [*]; done)), (by first | rfl | (simp; done) | (simp [*]; done)), H', ⟨by have := HK1.out; have := HJ1.out; omega⟩, by repeat (first | exact Drawn0.refl _ | apply Drawn0.step)⟩
         ·rw [if_neg c13] at H
          exact absurd H (by simp)
        ·rw [if_neg c12] at H
         exact absurd H (by simp)
       ·replace c9 := Bool.eq_false_iff.mpr c9
        subst c9
        have H1 : ((graftageref42_blank.f kj1 x0_1).bind fun t223 => (if 0 ≤ (wrap64 (t223 + 1)) then (if (wrap64 (t223 + 1)) ≤ (x0_1.size : Int) then (graftageref42_asks.l0 kj1 (x0_1.extract ((wrap64 (t223 + 1)) : Int).toNat x0_1.size) 4) else (none)) else (none))) = some (r1, r2) := by rw [if_neg (show ¬ (false = true) by decide)] at H; exact H
        clear H
        have H := H1
        clear H1
        replace H := Option.bind_eq_some_iff.mp H
        obtain ⟨t223, A140, H⟩ := H
        replace H : (if 0 ≤ (wrap64 (t223 + 1)) then (if (wrap64 (t223 + 1)) ≤ (x0_1.size : Int) then (graftageref42_asks.l0 kj1 (x0_1.extract ((wrap64 (t223 + 1)) : Int).toNat x0_1.size) 4) else (none)) else (none)) = some (r1, r2) := H
        have A14 := Aside0.mk A140
        clear A140
        obtain ⟨ji15, hji15⟩ : ∃ j_ : Int, (wrap64 (t223 + 1)) = j_ := ⟨_, rfl⟩
        replace H : (if 0 ≤ (ji15) then (if (ji15) ≤ (x0_1.size : Int) then (graftageref42_asks.l0 kj1 (x0_1.extract ((ji15) : Int).toNat x0_1.size) 4) else (none)) else (none)) = some (r1, r2) := by first | (rw [hji15] at H; exact H) | (simp only [hji15] at H ⊢; exact H)
        (try rw [hji15] at A8)
        (try rw [hji15] at A14)
        have hji15w : (IntKind.i64.wrap (t223 + 1)) = ji15 := (i64_w _).trans hji15
        by_cases c16 : 0 ≤ (ji15)
        ·rw [if_pos c16] at H
         have c16b0 := eq_true c16
         have c16b1 : decide (0 ≤ (ji15)) = true := decide_eq_true c16
         clear c16
         by_cases c17 : (ji15) ≤ (x0_1.size : Int)
         ·rw [if_pos c17] at H
          have c17b0 := eq_true c17
          have c17b1 : decide ((ji15) ≤ (x0_1.size : Int)) = true := decide_eq_true c17
          clear c17
          have H' := Aside0.mk H
          clear H
          go_wp2_with (first | ((with_reducible refine gate_callee (f := 62) rfl ?_); refine goesL_ (some 14) rfl rfl Tryd.func62 (by kernel_rfl) rfl #[.string x0_1, .string (⟨#[102, 105, 120, 117, 112, 33, 32]⟩ : ByteArray)] rfl (by (try simp only [List.map_toArray, List.map_cons, List.map_nil]); first | done | rfl | (simp only [List.length_drop, List.length_take]; rfl)) ?_; (with_reducible refine (graftageref42_begins.calls x0_1 (⟨#[102, 105, 120, 117, 112, 33, 32]⟩ : ByteArray) false _ A8.out).mono ?_); rintro e w' ⟨rfl, ⟨nd, rfl⟩⟩; refine ⟨_, rfl, ?_⟩) | ((with_reducible refine gate_callee (f := 47) rfl ?_); refine goesL_ (some 17) rfl rfl Tryd.func47 (by kernel_rfl) rfl #[.string x0_1] rfl (by (try simp only [List.map_toArray, List.map_cons, List.map_nil]); first | done | rfl | (simp only [List.length_drop, List.length_take]; rfl)) ?_; (with_reducible refine (graftageref42_blank.calls kj1 x0_1 t223 _ A14.out).mono ?_); rintro e w' ⟨rfl, ⟨nd, rfl⟩⟩; refine ⟨_, rfl, ?_⟩))
          go_roundg kj1
          case measure => have := HK1.out; have := HJ1.out; omega
          case rel => exact ⟨(x0_1.extract ((ji15) : Int).toNat x0_1.size), (4), (by first | rfl | (simp; done) | (simp only [← hji15] <;> (first | rfl | simp)) | (simp [*]; done)), (by first | rfl | (simp; done) | (simp [*]; done)), H', ⟨by have := HK1.out; have := HJ1.out; omega⟩, by repeat (first | exact Drawn0.refl _ | apply Drawn0.step)⟩
         ·rw [if_neg c17] at H
          exact absurd H (by simp)
        ·rw [if_neg c16] at H
         exact absurd H (by simp)
      ·rw [if_neg c7] at H
       have c7b0 : (x4_1 == 0) = false := beq_eq_false_iff_ne.mpr c7
       have c7b1 : (x4_1 != 0) = true := bne_iff_ne.mpr c7
       replace H := Option.bind_eq_some_iff.mp H
       obtain ⟨t224, A180, H⟩ := H
       replace H : (if 0 ≤ (wrap64 (t224 + 1)) then (if (wrap64 (t224 + 1)) ≤ (x0_1.size : Int) then (graftageref42_asks.l0 kj1 (x0_1.extract ((wrap64 (t224 + 1)) : Int).toNat x0_1.size) x4_1) else (none)) else (none)) = some (r1, r2) := H
       have A18 := Aside0.mk A180
       clear A180
       obtain ⟨ji19, hji19⟩ : ∃ j_ : Int, (wrap64 (t224 + 1)) = j_ := ⟨_, rfl⟩
       replace H : (if 0 ≤ (ji19) then (if (ji19) ≤ (x0_1.size : Int) then (graftageref42_asks.l0 kj1 (x0_1.extract ((ji19) : Int).toNat x0_1.size) x4_1) else (none)) else (none)) = some (r1, r2) := by first | (rw [hji19] at H; exact H) | (simp only [hji19] at H ⊢; exact H)
       (try rw [hji19] at A18)
       have hji19w : (IntKind.i64.wrap (t224 + 1)) = ji19 := (i64_w _).trans hji19
       by_cases c20 : 0 ≤ (ji19)
       ·rw [if_pos c20] at H
        have c20b0 := eq_true c20
        have c20b1 : decide (0 ≤ (ji19)) = true := decide_eq_true c20
        clear c20
        by_cases c21 : (ji19) ≤ (x0_1.size : Int)
        ·rw [if_pos c21] at H
         have c21b0 := eq_true c21
         have c21b1 : decide ((ji19) ≤ (x0_1.size : Int)) = true := decide_eq_true c21
         clear c21
         have H' := Aside0.mk H
         clear H
         go_wp2_with (first | ((with_reducible refine gate_callee (f := 47) rfl ?_); refine goesL_ (some 17) rfl rfl Tryd.func47 (by kernel_rfl) rfl #[.string x0_1] rfl (by (try simp only [List.map_toArray, List.map_cons, List.map_nil]); first | done | rfl | (simp only [List.length_drop, List.length_take]; rfl)) ?_; (with_reducible refine (graftageref42_blank.calls kj1 x0_1 t224 _ A18.out).mono ?_); rintro e w' ⟨rfl, ⟨nd, rfl⟩⟩; refine ⟨_, rfl, ?_⟩))
         go_roundg kj1
         case measure => have := HK1.out; have := HJ1.out; omega
         case rel => exact ⟨(x0_1.extract ((ji19) : Int).toNat x0_1.size), (x4_1), (by first | rfl | (simp; done) | (simp only [← hji19] <;> (first | rfl | simp)) | (simp [*]; done)), (by first | rfl | (simp; done) | (simp [*]; done)), H', ⟨by have := HK1.out; have := HJ1.out; omega⟩, by repeat (first | exact Drawn0.refl _ | apply Drawn0.step)⟩
        ·rw [if_neg c21] at H
         exact absurd H (by simp)
       ·rw [if_neg c20] at H
        exact absurd H (by simp)
     ·replace c6 := Bool.eq_false_iff.mpr c6
      subst c6
      have H1 : (some (x4_1, x0_1)) = some (r1, r2) := by rw [if_neg (show ¬ (false = true) by decide)] at H; exact H
      clear H
      have H := H1
      clear H1
      simp only [Option.some.injEq, Prod.mk.injEq] at H
      obtain ⟨rfl, rfl⟩ := H
      go_wp2
      go_ret2
      exact ⟨by first | rfl | (simp; done) | (simp [*]; done), by repeat (first | exact Drawn0.refl _ | apply Drawn0.step)⟩

/-! ### graftageref42_goal: function 32 -/
mutual
def graftageref42_goal.j0 : Nat → List (S34) → Int → Int → ByteArray → Bool → Option (Int × Int)
 | 0, _, _, _, _, _ => none
 | k + 1, x0, x1, x6, x7, x27 => if x27 = true then (some ((-1), 0)) else (graftageref42_goal.l0 k x0 x1 x6 x7 0)
def graftageref42_goal.l0 : Nat → List (S34) → Int → Int → ByteArray → Int → Option (Int × Int)
 | 0, _, _, _, _, _ => none
 | k + 1, x0, x1, x6, x7, x8 => if x8 < x1 then (if 0 ≤ x8 then (if x8 < (x0.length : Int) then ((graftageref42_makes.f ((rd_T34 x0 x8).f0)).bind fun t230 => (if t230 = true then (if ((rd_T34 x0 x8).f2).toList = x7.toList then (some (x8, x6)) else (graftageref42_goal.l0 k x0 x1 x6 x7 (wrap64 (x8 + 1)))) else (graftageref42_goal.l0 k x0 x1 x6 x7 (wrap64 (x8 + 1))))) else (none)) else (none)) else (some ((-1), 0))
end
def graftageref42_goal.f (k : Nat) (l0 : List (S34)) (a1 : Int) : Option (Int × Int) := if 0 ≤ a1 then (if a1 < (l0.length : Int) then ((graftageref42_asks.f k ((rd_T34 l0 a1).f2)).bind fun bt226 => (if ((rd_T34 l0 a1).f0) = 1 then (graftageref42_goal.j0 k l0 a1 bt226.1 bt226.2 (bt226.1 == 0)) else (graftageref42_goal.j0 k l0 a1 bt226.1 bt226.2 true))) else (none)) else (none)
theorem graftageref42_goal.mono_l : ∀ k, (∀ y0 y1 y2 y3 y4, LeO (graftageref42_goal.j0 k y0 y1 y2 y3 y4) (graftageref42_goal.j0 (k + 1) y0 y1 y2 y3 y4)) ∧ (∀ y0 y1 y2 y3 y4, LeO (graftageref42_goal.l0 k y0 y1 y2 y3 y4) (graftageref42_goal.l0 (k + 1) y0 y1 y2 y3 y4))
 | 0 => ⟨fun _ _ _ _ _ r h => by simp [graftageref42_goal.j0] at h, fun _ _ _ _ _ r h => by simp [graftageref42_goal.l0] at h⟩
 | k + 1 => by
  obtain ⟨ih0, ih1⟩ := graftageref42_goal.mono_l k
  refine ⟨?_, ?_⟩
  ·intro y0 y1 y2 y3 y4
   unfold graftageref42_goal.j0
   repeat' first
   | (with_reducible exact ih0 _ _ _ _ _)
   | (with_reducible exact ih1 _ _ _ _ _)
   | (with_reducible exact graftageref42_asks.mono _ _)
   | (with_reducible exact LeO.refl _)
   | (with_reducible exact LeO.none _)
   | (with_reducible refine LeO.ite ?_ ?_)
   | (with_reducible refine LeO.bind ?_ (fun _ => ?_))
   | exact ih0 _ _ _ _ _
   | exact ih1 _ _ _ _ _
   | exact graftageref42_asks.mono _ _
   | exact LeO.none _
   | refine LeO.ite ?_ ?_
   | refine LeO.bind ?_ (fun _ => ?_)
  ·intro y0 y1 y2 y3 y4
   unfold graftageref42_goal.l0
   repeat' first
   | (with_reducible exact ih0 _ _ _ _ _)
   | (with_reducible exact ih1 _ _ _ _ _)
   | (with_reducible exact graftageref42_asks.mono _ _)
   | (with_reducible exact LeO.refl _)
   | (with_reducible exact LeO.none _)
   | (with_reducible refine LeO.ite ?_ ?_)
   | (with_reducible refine LeO.bind ?_ (fun _ => ?_))
   | exact ih0 _ _ _ _ _
   | exact ih1 _ _ _ _ _
   | exact graftageref42_asks.mono _ _
   | exact LeO.none _
   | refine LeO.ite ?_ ?_
   | refine LeO.bind ?_ (fun _ => ?_)
theorem graftageref42_goal.mono : ∀ a0 a1 k, LeO (graftageref42_goal.f k a0 a1) (graftageref42_goal.f (k + 1) a0 a1) := by
 intro a0 a1 k
 obtain ⟨ih0, ih1⟩ := graftageref42_goal.mono_l k
 unfold graftageref42_goal.f
 repeat' first
   | (with_reducible exact ih0 _ _ _ _ _)
   | (with_reducible exact ih1 _ _ _ _ _)
   | (with_reducible exact graftageref42_asks.mono _ _)
   | (with_reducible exact LeO.refl _)
   | (with_reducible exact LeO.none _)
   | (with_reducible refine LeO.ite ?_ ?_)
   | (with_reducible refine LeO.bind ?_ (fun _ => ?_))
   | exact ih0 _ _ _ _ _
   | exact ih1 _ _ _ _ _
   | exact graftageref42_asks.mono _ _
   | exact LeO.none _
   | refine LeO.ite ?_ ?_
   | refine LeO.bind ?_ (fun _ => ?_)
set_option maxHeartbeats 8000000 in
set_option maxRecDepth 100000 in
theorem graftageref42_goal.calls (k : Nat) (A0 : Option Addr) (c0 : Nat) (l0 : List (S34)) (a1 : Int) (r1 : Int) (r2 : Int) (w : World) (hr0 : Kd.C k34 w A0 l0.length l0) (hc0 : l0.length ≤ c0) (h : graftageref42_goal.f k l0 a1 = some (r1, r2)) :
  Calls Tryd.prog 32 #[.slice A0 l0.length c0, .int .i64 a1] w fun e w' => e = .returned (.tuple #[.int .i64 r1, .int .i64 r2]) ∧ Drawn0 w w' := by
 have HR0 := Aside0.mk hr0
 have HC0 := Aside0.mk hc0
 clear hr0 hc0
 have H : (if 0 ≤ a1 then (if a1 < (l0.length : Int) then ((graftageref42_asks.f k ((rd_T34 l0 a1).f2)).bind fun bt226 => (if ((rd_T34 l0 a1).f0) = 1 then (graftageref42_goal.j0 k l0 a1 bt226.1 bt226.2 (bt226.1 == 0)) else (graftageref42_goal.j0 k l0 a1 bt226.1 bt226.2 true))) else (none)) else (none)) = some (r1, r2) := h
 clear h
 by_cases c3 : 0 ≤ a1
 ·rw [if_pos c3] at H
  have c3b0 : decide (0 ≤ a1) = true := decide_eq_true c3
  clear c3
  by_cases c4 : a1 < (l0.length : Int)
  ·rw [if_pos c4] at H
   have c4b0 : decide (a1 < (l0.length : Int)) = true := decide_eq_true c4
   clear c4
   replace H := Option.bind_eq_some_iff.mp H
   obtain ⟨⟨t226, t227⟩, A50, H⟩ := H
   replace H : (if ((rd_T34 l0 a1).f0) = 1 then (graftageref42_goal.j0 k l0 a1 t226 t227 (t226 == 0)) else (graftageref42_goal.j0 k l0 a1 t226 t227 true)) = some (r1, r2) := H
   have A5 := Aside0.mk A50
   clear A50
   have HC6 := Aside0.mk H
   clear H
   have p225 : 0 ≤ (a1 : Int) := of_decide_eq_true (by first | (with_reducible assumption) | assumption)
   have q225 : a1 < (l0.length : Int) := of_decide_eq_true (by first | (with_reducible assumption) | assumption)
   obtain ⟨ad225, e225, hx225_0, hx225_1, hx225_2⟩ := at_T34 HR0.out a1 p225 q225
   cases e225
   replace p225 := eq_true p225
   replace q225 := eq_true q225
   go_enter Tryd.func32, Tryd.ntmps32
   go_upto_region 2 with (first | ((with_reducible refine gate_callee (f := 52) rfl ?_); refine goesL_ (some 15) rfl rfl Tryd.func52 (by kernel_rfl) rfl #[.string ((rd_T34 l0 a1).f2)] rfl (by (try simp only [List.map_toArray, List.map_cons, List.map_nil]); first | done | rfl | (simp only [List.length_drop, List.length_take]; rfl)) ?_; (with_reducible refine (graftageref42_asks.calls k ((rd_T34 l0 a1).f2) t226 t227 _ A5.out).mono ?_); rintro e w' ⟨rfl, ⟨nd, rfl⟩⟩; refine ⟨_, rfl, ?_⟩))
   (try simp only [Act.put, List.setIfInBounds_toArray, List.set_cons_zero, List.set_cons_succ])
   go_cut [27] (fun v27 wc => ∃ (kq : Nat) (x27_5 : Bool), v27 = .bool x27_5 ∧ Aside0 (graftageref42_goal.j0 kq l0 a1 t226 t227 x27_5 = some (r1, r2)) ∧ Aside0 (kq ≤ k) ∧ Drawn0 w wc)
   case first =>
    have H := HC6.out
    clear HC6
    by_cases c7 : ((rd_T34 l0 a1).f0) = 1
    ·rw [if_pos c7] at H
     have c7b0 : (((rd_T34 l0 a1).f0) == 1) = true := beq_iff_eq.mpr c7
     have c7b1 : (((rd_T34 l0 a1).f0) != 1) = false := bne_eq_false_iff_eq.mpr c7
     clear c7
     (first | rw [c7b0] | (simp only [i64_w, i32_w]; rw [c7b0]) | skip)
     have H' := Aside0.mk H
     clear H
     have p228 : 0 ≤ (a1 : Int) := of_decide_eq_true (by first | (with_reducible assumption) | assumption)
     have q228 : a1 < (l0.length : Int) := of_decide_eq_true (by first | (with_reducible assumption) | assumption)
     obtain ⟨ad228, e228, hx228_0, hx228_1, hx228_2⟩ := at_T34 HR0.out a1 p228 q228
     obtain rfl : ad225 = ad228 := (by injection e228)
     replace p228 := eq_true p228
     replace q228 := eq_true q228
     go_wp2
     go_meet
     case rel => exact ⟨_, ((t226 == 0)), (by first | rfl | (simp; done) | (simp [*]; done)), H', ⟨by first | omega | exact Nat.le_refl _⟩, by repeat (first | exact Drawn0.refl _ | apply Drawn0.step)⟩
    ·rw [if_neg c7] at H
     have c7b0 : (((rd_T34 l0 a1).f0) == 1) = false := beq_eq_false_iff_ne.mpr c7
     have c7b1 : (((rd_T34 l0 a1).f0) != 1) = true := bne_iff_ne.mpr c7
     (first | rw [c7b0] | (simp only [i64_w, i32_w]; rw [c7b0]) | skip)
     have H' := Aside0.mk H
     clear H
     have p228 : 0 ≤ (a1 : Int) := of_decide_eq_true (by first | (with_reducible assumption) | assumption)
     have q228 : a1 < (l0.length : Int) := of_decide_eq_true (by first | (with_reducible assumption) | assumption)
     obtain ⟨ad228, e228, hx228_0, hx228_1, hx228_2⟩ := at_T34 HR0.out a1 p228 q228
     obtain rfl : ad225 = ad228 := (by injection e228)
     replace p228 := eq_true p228
     replace q228 := eq_true q228
     go_wp2
     go_meet
     case rel => exact ⟨_, (true), (by first | rfl | (simp; done) | (simp [*]; done)), H', ⟨by first | omega | exact Nat.le_refl _⟩, by repeat (first | exact Drawn0.refl _ | apply Drawn0.step)⟩
   case rest =>
    clear HC6
    try clear p2
    try clear q2
    try clear hx2
    try clear c3
    try clear c3b0
    try clear c4
    try clear c4b0
    try clear c5
    try clear c7
    try clear c7b0
    try clear c7b1
    try clear hx225_0
    try clear hx225_1
    try clear hx225_2
    try clear hx228_0
    try clear hx228_1
    try clear hx228_2
    try clear p225
    try clear p228
    try clear q225
    try clear q228
    obtain ⟨kq, x27_5, rfl, HA, HJ5, ⟨mc5, rfl⟩⟩ := hcut
    cases kq with
    | zero => exact absurd HA.out (by simp [graftageref42_goal.j0])
    | succ kj5 =>
     have H := HA.out
     clear HA
     simp only [graftageref42_goal.j0] at H
     by_cases c8 : x27_5 = true
     ·subst c8
      have H1 : (some ((-1), 0)) = some (r1, r2) := by rw [if_pos rfl] at H; exact H
      clear H
      have H := H1
      clear H1
      simp only [Option.some.injEq, Prod.mk.injEq] at H
      obtain ⟨rfl, rfl⟩ := H
      go_wp2
      go_ret2
      exact ⟨by first | rfl | (simp; done) | (simp [*]; done), by repeat (first | exact Drawn0.refl _ | apply Drawn0.step)⟩
     ·replace c8 := Bool.eq_false_iff.mpr c8
      subst c8
      have H1 : (graftageref42_goal.l0 kj5 l0 a1 t226 t227 0) = some (r1, r2) := by rw [if_neg (show ¬ (false = true) by decide)] at H; exact H
      clear H
      have H := H1
      clear H1
      have H' := Aside0.mk H
      clear H
      go_wp2
      go_loopg [8] kj5 (fun kq v8 w' => ∃ (x8_2 : Int), v8 = .int .i64 x8_2 ∧ Aside0 (graftageref42_goal.l0 kq l0 a1 t226 t227 x8_2 = some (r1, r2)) ∧ Aside0 (kq ≤ kj5) ∧ Drawn0 w w')
      case atStart => exact ⟨(0), (by first | rfl | (simp; done) | (simp [*]; done)), H', ⟨Nat.le_refl _⟩, by repeat (first | exact Drawn0.refl _ | apply Drawn0.step)⟩
      case round =>
       clear H'
       try clear p2
       try clear q2
       try clear hx2
       try clear c3
       try clear c3b0
       try clear c4
       try clear c4b0
       try clear c5
       try clear c7
       try clear c7b0
       try clear c7b1
       try clear c8
       try clear hx225_0
       try clear hx225_1
       try clear hx225_2
       try clear hx228_0
       try clear hx228_1
       try clear hx228_2
       try clear p2
       try clear p225
       try clear p228
       try clear q2
       try clear q225
       try clear q228
       obtain ⟨x8_2, rfl, HA, HK2, ⟨m2, rfl⟩⟩ := hrel
       cases gk with
       | zero => exact absurd HA.out (by simp [graftageref42_goal.l0])
       | succ k2 =>
        have H := HA.out
        clear HA
        simp only [graftageref42_goal.l0] at H
        by_cases c9 : x8_2 < a1
        ·rw [if_pos c9] at H
         have c9b0 : decide (x8_2 < a1) = true := decide_eq_true c9
         clear c9
         by_cases c10 : 0 ≤ x8_2
         ·rw [if_pos c10] at H
          have c10b0 : decide (0 ≤ x8_2) = true := decide_eq_true c10
          clear c10
          by_cases c11 : x8_2 < (l0.length : Int)
          ·rw [if_pos c11] at H
           have c11b0 : decide (x8_2 < (l0.length : Int)) = true := decide_eq_true c11
           clear c11
           replace H := Option.bind_eq_some_iff.mp H
           obtain ⟨t230, A120, H⟩ := H
           replace H : (if t230 = true then (if ((rd_T34 l0 x8_2).f2).toList = t227.toList then (some (x8_2, t226)) else (graftageref42_goal.l0 k2 l0 a1 t226 t227 (wrap64 (x8_2 + 1)))) else (graftageref42_goal.l0 k2 l0 a1 t226 t227 (wrap64 (x8_2 + 1)))) = some (r1, r2) := H
           have A12 := Aside0.mk A120
           clear A120
           by_cases c13 : t230 = true
           ·subst c13
            have H1 : (if ((rd_T34 l0 x8_2).f2).toList = t227.toList then (some (x8_2, t226)) else (graftageref42_goal.l0 k2 l0 a1 t226 t227 (wrap64 (x8_2 + 1)))) = some (r1, r2) := by rw [if_pos rfl] at H; exact H
            clear H
            have H := H1
            clear H1
            by_cases c14 : ((rd_T34 l0 x8_2).f2).toList = t227.toList
            ·rw [if_pos c14] at H
             have c14b0 : (((rd_T34 l0 x8_2).f2).toList == t227.toList) = true := beq_iff_eq.mpr c14
             have c14b1 : (((rd_T34 l0 x8_2).f2).toList != t227.toList) = false := bne_eq_false_iff_eq.mpr c14
             clear c14
             simp only [Option.some.injEq, Prod.mk.injEq] at H
             obtain ⟨rfl, rfl⟩ := H
             have p229 : 0 ≤ (x8_2 : Int) := of_decide_eq_true (by first | (with_reducible assumption) | assumption)
             have q229 : x8_2 < (l0.length : Int) := of_decide_eq_true (by first | (with_reducible assumption) | assumption)
             obtain ⟨ad229, e229, hx229_0, hx229_1, hx229_2⟩ := at_T34 HR0.out x8_2 p229 q229
             obtain rfl : ad225 = ad229 := (by injection e229)
             replace p229 := eq_true p229
             replace q229 := eq_true q229
             go_wp2_with (first | ((with_reducible refine gate_callee (f := 40) rfl ?_); refine goesL_ (some 38) rfl rfl Tryd.func40 (by kernel_rfl) rfl #[.int .i64 ((rd_T34 l0 x8_2).f0)] rfl (by (try simp only [List.map_toArray, List.map_cons, List.map_nil]); first | done | rfl | (simp only [List.length_drop, List.length_take]; rfl)) ?_; (with_reducible refine (graftageref42_makes.calls ((rd_T34 l0 x8_2).f0) true _ A12.out).mono ?_); rintro e w' ⟨rfl, ⟨nd, rfl⟩⟩; refine ⟨_, rfl, ?_⟩; have p231 : 0 ≤ (x8_2 : Int) := of_decide_eq_true (by first | (with_reducible assumption) | assumption); have q231 : x8_2 < (l0.length : Int) := of_decide_eq_true (by first | (with_reducible assumption) | assumption); obtain ⟨ad231, e231, hx231_0, hx231_1, hx231_2⟩ := at_T34 HR0.out x8_2 p231 q231; obtain rfl : ad225 = ad231 := (by injection e231); replace p231 := eq_true p231; replace q231 := eq_true q231))
             go_ret2
             exact ⟨by first | rfl | (simp; done) | (simp [*]; done), by repeat (first | exact Drawn0.refl _ | apply Drawn0.step)⟩
            ·rw [if_neg c14] at H
             have c14b0 : (((rd_T34 l0 x8_2).f2).toList == t227.toList) = false := beq_eq_false_iff_ne.mpr c14
             have c14b1 : (((rd_T34 l0 x8_2).f2).toList != t227.toList) = true := bne_iff_ne.mpr c14
             have H' := Aside0.mk H
             clear H
             have p229 : 0 ≤ (x8_2 : Int) := of_decide_eq_true (by first | (with_reducible assumption) | assumption)
             have q229 : x8_2 < (l0.length : Int) := of_decide_eq_true (by first | (with_reducible assumption) | assumption)
             obtain ⟨ad229, e229, hx229_0, hx229_1, hx229_2⟩ := at_T34 HR0.out x8_2 p229 q229
             obtain rfl : ad225 = ad229 := (by injection e229)
             replace p229 := eq_true p229
             replace q229 := eq_true q229
             go_wp2_with (first | ((with_reducible refine gate_callee (f := 40) rfl ?_); refine goesL_ (some 38) rfl rfl Tryd.func40 (by kernel_rfl) rfl #[.int .i64 ((rd_T34 l0 x8_2).f0)] rfl (by (try simp only [List.map_toArray, List.map_cons, List.map_nil]); first | done | rfl | (simp only [List.length_drop, List.length_take]; rfl)) ?_; (with_reducible refine (graftageref42_makes.calls ((rd_T34 l0 x8_2).f0) true _ A12.out).mono ?_); rintro e w' ⟨rfl, ⟨nd, rfl⟩⟩; refine ⟨_, rfl, ?_⟩; have p231 : 0 ≤ (x8_2 : Int) := of_decide_eq_true (by first | (with_reducible assumption) | assumption); have q231 : x8_2 < (l0.length : Int) := of_decide_eq_true (by first | (with_reducible assumption) | assumption); obtain ⟨ad231, e231, hx231_0, hx231_1, hx231_2⟩ := at_T34 HR0.out x8_2 p231 q231; obtain rfl : ad225 = ad231 := (by injection e231); replace p231 := eq_true p231; replace q231 := eq_true q231))
             go_roundg k2
             case measure => have := HJ5.out; have := HK2.out; omega
             case rel => exact ⟨(wrap64 (x8_2 + 1)), (by first | rfl | (simp; done) | (simp [*]; done)), H', ⟨by have := HJ5.out; have := HK2.out; omega⟩, by repeat (first | exact Drawn0.refl _ | apply Drawn0.step)⟩
           ·replace c13 := Bool.eq_false_iff.mpr c13
            subst c13
            have H1 : (graftageref42_goal.l0 k2 l0 a1 t226 t227 (wrap64 (x8_2 + 1))) = some (r1, r2) := by rw [if_neg (show ¬ (false = true) by decide)] at H; exact H
            clear H
            have H := H1
            clear H1
            have H' := Aside0.mk H
            clear H
            have p229 : 0 ≤ (x8_2 : Int) := of_decide_eq_true (by first | (with_reducible assumption) | assumption)
            have q229 : x8_2 < (l0.length : Int) := of_decide_eq_true (by first | (with_reducible assumption) | assumption)
            obtain ⟨ad229, e229, hx229_0, hx229_1, hx229_2⟩ := at_T34 HR0.out x8_2 p229 q229
            obtain rfl : ad225 = ad229 := (by injection e229)
            replace p229 := eq_true p229
            replace q229 := eq_true q229
            go_wp2_with (first | ((with_reducible refine gate_callee (f := 40) rfl ?_); refine goesL_ (some 38) rfl rfl Tryd.func40 (by kernel_rfl) rfl #[.int .i64 ((rd_T34 l0 x8_2).f0)] rfl (by (try simp only [List.map_toArray, List.map_cons, List.map_nil]); first | done | rfl | (simp only [List.length_drop, List.length_take]; rfl)) ?_; (with_reducible refine (graftageref42_makes.calls ((rd_T34 l0 x8_2).f0) false _ A12.out).mono ?_); rintro e w' ⟨rfl, ⟨nd, rfl⟩⟩; refine ⟨_, rfl, ?_⟩))
            go_roundg k2
            case measure => have := HJ5.out; have := HK2.out; omega
            case rel => exact ⟨(wrap64 (x8_2 + 1)), (by first | rfl | (simp; done) | (simp [*]; done)), H', ⟨by have := HJ5.out; have := HK2.out; omega⟩, by repeat (first | exact Drawn0.refl _ | apply Drawn0.step)⟩
          ·rw [if_neg c11] at H
           exact absurd H (by simp)
         ·rw [if_neg c10] at H
          exact absurd H (by simp)
        ·rw [if_neg c9] at H
         have c9b0 : decide (x8_2 < a1) = false := decide_eq_false c9
         clear c9
         simp only [Option.some.injEq, Prod.mk.injEq] at H
         obtain ⟨rfl, rfl⟩ := H
         go_wp2
         go_ret2
         exact ⟨by first | rfl | (simp; done) | (simp [*]; done), by repeat (first | exact Drawn0.refl _ | apply Drawn0.step)⟩
  ·rw [if_neg c4] at H
   exact absurd H (by simp)
 ·rw [if_neg c3] at H
  exact absurd H (by simp)

end Go.Proofs.YtefnmfcgjlppaaaDoor.PTd
