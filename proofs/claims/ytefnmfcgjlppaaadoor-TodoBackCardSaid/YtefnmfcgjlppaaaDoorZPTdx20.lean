import Derived.Test.YtefnmfcgjlppaaaDoorZP0
import Derived.Test.YtefnmfcgjlppaaaDoorZPTdx11
import Derived.Test.YtefnmfcgjlppaaaDoorZPTdx13
import Derived.Test.YtefnmfcgjlppaaaDoorZPTdx14
import Derived.Test.YtefnmfcgjlppaaaDoorZPTdx16
import Derived.Test.YtefnmfcgjlppaaaDoorZThing
import Derived.Test.YtefnmfcgjlppaaaDoorZText
-- Written by wip/gen/gen.py of this session out of the seat's translation.
namespace Go.Proofs.YtefnmfcgjlppaaaDoor.PTd
open Go.Proofs.YtefnmfcgjlppaaaDoor.Hand Go.RowKit Go.Proofs.YtefnmfcgjlppaaaDoorW.PrintWords Go.Proofs.YtefnmfcgjlppaaaDoorW.PrintLast Go.Proofs.YtefnmfcgjlppaaaDoorW.PrintMore
attribute [local go_sem] max2_int min2_int max_two min_two max_three min_three max_four min_four   -- for this text's walks alone
set_option linter.unusedVariables false
set_option linter.unusedSimpArgs false

-- given by hand: function 16 (todo_Text)

/-! ### graftageref42_Text: function 17 -/
def graftageref42_Text.l0 : Nat → List (S34) → ByteArray → Int → Option (ByteArray)
 | 0, _, _, _ => none
 | k + 1, x0, x3, x4 => if x4 < (x0.length : Int) then (if 0 ≤ x4 then ((graftageref42_word.f ((rd_T34 x0 x4).f0)).bind fun t266 => (if x3.size + t266.size ≤ 9223372036854775807 then (if ((rd_T34 x0 x4).f1).toList = ([] : List UInt8) then (if ((rd_T34 x0 x4).f2).toList = ([] : List UInt8) then (if (x3 ++ t266).size + 1 ≤ 9223372036854775807 then (graftageref42_Text.l0 k x0 ((x3 ++ t266) ++ (⟨#[10]⟩ : ByteArray)) (wrap64 (x4 + 1))) else (none)) else (if (x3 ++ t266).size + 1 ≤ 9223372036854775807 then (if ((x3 ++ t266) ++ (⟨#[32]⟩ : ByteArray)).size + ((rd_T34 x0 x4).f2).size ≤ 9223372036854775807 then (if (((x3 ++ t266) ++ (⟨#[32]⟩ : ByteArray)) ++ ((rd_T34 x0 x4).f2)).size + 1 ≤ 9223372036854775807 then (graftageref42_Text.l0 k x0 ((((x3 ++ t266) ++ (⟨#[32]⟩ : ByteArray)) ++ ((rd_T34 x0 x4).f2)) ++ (⟨#[10]⟩ : ByteArray)) (wrap64 (x4 + 1))) else (none)) else (none)) else (none))) else (if (x3 ++ t266).size + 1 ≤ 9223372036854775807 then (if ((x3 ++ t266) ++ (⟨#[32]⟩ : ByteArray)).size + ((rd_T34 x0 x4).f1).size ≤ 9223372036854775807 then (if ((rd_T34 x0 x4).f2).toList = ([] : List UInt8) then (if (((x3 ++ t266) ++ (⟨#[32]⟩ : ByteArray)) ++ ((rd_T34 x0 x4).f1)).size + 1 ≤ 9223372036854775807 then (graftageref42_Text.l0 k x0 ((((x3 ++ t266) ++ (⟨#[32]⟩ : ByteArray)) ++ ((rd_T34 x0 x4).f1)) ++ (⟨#[10]⟩ : ByteArray)) (wrap64 (x4 + 1))) else (none)) else (if (((x3 ++ t266) ++ (⟨#[32]⟩ : ByteArray)) ++ ((rd_T34 x0 x4).f1)).size + 1 ≤ 9223372036854775807 then (if ((((x3 ++ t266) ++ (⟨#[32]⟩ : ByteArray)) ++ ((rd_T34 x0 x4).f1)) ++ (⟨#[32]⟩ : ByteArray)).size + ((rd_T34 x0 x4).f2).size ≤ 9223372036854775807 then (if (((((x3 ++ t266) ++ (⟨#[32]⟩ : ByteArray)) ++ ((rd_T34 x0 x4).f1)) ++ (⟨#[32]⟩ : ByteArray)) ++ ((rd_T34 x0 x4).f2)).size + 1 ≤ 9223372036854775807 then (graftageref42_Text.l0 k x0 ((((((x3 ++ t266) ++ (⟨#[32]⟩ : ByteArray)) ++ ((rd_T34 x0 x4).f1)) ++ (⟨#[32]⟩ : ByteArray)) ++ ((rd_T34 x0 x4).f2)) ++ (⟨#[10]⟩ : ByteArray)) (wrap64 (x4 + 1))) else (none)) else (none)) else (none))) else (none)) else (none))) else (none))) else (none)) else (some x3)
def graftageref42_Text.f (k : Nat) (l0 : List (S34)) : Option (ByteArray) := (graftageref42_Check.f k l0).bind fun t264 => (if t264 = 0 then (graftageref42_Text.l0 k l0 (⟨#[]⟩ : ByteArray) 0) else (some (⟨#[]⟩ : ByteArray)))
theorem graftageref42_Text.mono_l : ∀ k, (∀ y0 y1 y2, LeO (graftageref42_Text.l0 k y0 y1 y2) (graftageref42_Text.l0 (k + 1) y0 y1 y2))
 | 0 => fun _ _ _ r h => by simp [graftageref42_Text.l0] at h
 | k + 1 => by
  have ih0 := graftageref42_Text.mono_l k
  ·intro y0 y1 y2
   unfold graftageref42_Text.l0
   repeat' first
   | (with_reducible exact ih0 _ _ _)
   | (with_reducible exact graftageref42_Check.mono _ _)
   | (with_reducible exact LeO.refl _)
   | (with_reducible exact LeO.none _)
   | (with_reducible refine LeO.ite ?_ ?_)
   | (with_reducible refine LeO.bind ?_ (fun _ => ?_))
   | exact ih0 _ _ _
   | exact graftageref42_Check.mono _ _
   | exact LeO.none _
   | refine LeO.ite ?_ ?_
   | refine LeO.bind ?_ (fun _ => ?_)
theorem graftageref42_Text.mono : ∀ a0 k, LeO (graftageref42_Text.f k a0) (graftageref42_Text.f (k + 1) a0) := by
 intro a0 k
 have ih0 := graftageref42_Text.mono_l k
 unfold graftageref42_Text.f
 repeat' first
   | (with_reducible exact ih0 _ _ _)
   | (with_reducible exact graftageref42_Check.mono _ _)
   | (with_reducible exact LeO.refl _)
   | (with_reducible exact LeO.none _)
   | (with_reducible refine LeO.ite ?_ ?_)
   | (with_reducible refine LeO.bind ?_ (fun _ => ?_))
   | exact ih0 _ _ _
   | exact graftageref42_Check.mono _ _
   | exact LeO.none _
   | refine LeO.ite ?_ ?_
   | refine LeO.bind ?_ (fun _ => ?_)
set_option maxHeartbeats 8000000 in
set_option maxRecDepth 100000 in
theorem graftageref42_Text.calls (k : Nat) (A0 : Option Addr) (c0 : Nat) (l0 : List (S34)) (r : ByteArray) (w : World) (hr0 : Kd.C k34 w A0 l0.length l0) (hc0 : l0.length ≤ c0) (h : graftageref42_Text.f k l0 = some r) :
  Calls Tryd.prog 17 #[.slice A0 l0.length c0] w fun e w' => e = .returned (.string r) ∧ Below w.heap.size w w' := by
 have HR0 := Aside0.mk hr0
 have HC0 := Aside0.mk hc0
 clear hr0 hc0
 have HB := Aside0.mk (Below.refl w.heap.size w)
 have H : ((graftageref42_Check.f k l0).bind fun t264 => (if t264 = 0 then (graftageref42_Text.l0 k l0 (⟨#[]⟩ : ByteArray) 0) else (some (⟨#[]⟩ : ByteArray)))) = some r := h
 clear h
 replace H := Option.bind_eq_some_iff.mp H
 obtain ⟨t264, A20, H⟩ := H
 replace H : (if t264 = 0 then (graftageref42_Text.l0 k l0 (⟨#[]⟩ : ByteArray) 0) else (some (⟨#[]⟩ : ByteArray))) = some r := H
 have A2 := Aside0.mk A20
 clear A20
 by_cases c3 : t264 = 0
 ·rw [if_pos c3] at H
  have c3b0 : (t264 == 0) = true := beq_iff_eq.mpr c3
  have c3b1 : (t264 != 0) = false := bne_eq_false_iff_eq.mpr c3
  clear c3
  have H' := Aside0.mk H
  clear H
  go_enter Tryd.func17, Tryd.ntmps17
  go_wp2_with (first | ((with_reducible refine gate_callee (f := 18) rfl ?_); refine goesL_ (some 6) rfl rfl Tryd.func18 (by kernel_rfl) rfl #[.slice A0 l0.length c0] rfl (by (try simp only [List.map_toArray, List.map_cons, List.map_nil]); first | done | rfl | (simp only [List.length_drop, List.length_take]; rfl)) ?_; (with_reducible refine (graftageref42_Check.calls k _ _ l0 t264 _ ?side1 ?side2 A2.out).mono ?_); (case side1 => repeat (first | exact HR0.out | (with_reducible refine Kd.C_alloc ?_ _) | (with_reducible refine Kd.C_drewN ?_ _) | (with_reducible refine Kd.C_drew ?_))); (case side2 => exact HC0.out); rintro e w4 ⟨rfl, hb⟩; refine ⟨_, rfl, ?_⟩; have n0_ := Aside0.mk (below_step (by repeat (first | (with_reducible first | exact HB.out | apply below_alloc | apply pw_below_drewN | apply below_drew1) | exact HB.out)) hb); clear HB; have HB := n0_; clear n0_; (try clear hb); (try clear hb2); (try clear hk); (try clear hi)))
  go_loopg [3, 4] k (fun kq v3 v4 w' => ∃ (x3_1 : ByteArray) (x4_1 : Int), v3 = .string x3_1 ∧ v4 = .int .i64 x4_1 ∧ Aside0 (graftageref42_Text.l0 kq l0 x3_1 x4_1 = some r) ∧ Aside0 (kq ≤ k) ∧ Aside0 (Below w.heap.size w w'))
  case atStart => exact ⟨((⟨#[]⟩ : ByteArray)), (0), (by first | rfl | (simp; done) | (simp [*]; done)), (by first | rfl | (simp; done) | (simp [*]; done)), H', ⟨Nat.le_refl _⟩, ⟨by repeat (first | (with_reducible first | exact HB.out | apply below_alloc | apply pw_below_drewN | apply below_drew1) | exact HB.out)⟩⟩
  case round =>
   clear H'
   try clear c1
   try clear p2
   try clear c3
   try clear c3b0
   try clear c3b1
   obtain ⟨x3_1, x4_1, rfl, rfl, HA, HK1, HB⟩ := hrel
   cases gk with
   | zero => exact absurd HA.out (by simp [graftageref42_Text.l0])
   | succ k1 =>
    have H := HA.out
    clear HA
    simp only [graftageref42_Text.l0] at H
    by_cases c5 : x4_1 < (l0.length : Int)
    ·rw [if_pos c5] at H
     have c5b0 : decide (x4_1 < (l0.length : Int)) = true := decide_eq_true c5
     clear c5
     by_cases c6 : 0 ≤ x4_1
     ·rw [if_pos c6] at H
      have c6b0 : decide (0 ≤ x4_1) = true := decide_eq_true c6
      clear c6
      replace H := Option.bind_eq_some_iff.mp H
      obtain ⟨t266, A70, H⟩ := H
      replace H : (if x3_1.size + t266.size ≤ 9223372036854775807 then (if ((rd_T34 l0 x4_1).f1).toList = ([] : List UInt8) then (if ((rd_T34 l0 x4_1).f2).toList = ([] : List UInt8) then (if (x3_1 ++ t266).size + 1 ≤ 9223372036854775807 then (graftageref42_Text.l0 k1 l0 ((x3_1 ++ t266) ++ (⟨#[10]⟩ : ByteArray)) (wrap64 (x4_1 + 1))) else (none)) else (if (x3_1 ++ t266).size + 1 ≤ 9223372036854775807 then (if ((x3_1 ++ t266) ++ (⟨#[32]⟩ : ByteArray)).size + ((rd_T34 l0 x4_1).f2).size ≤ 9223372036854775807 then (if (((x3_1 ++ t266) ++ (⟨#[32]⟩ : ByteArray)) ++ ((rd_T34 l0 x4_1).f2)).size + 1 ≤ 9223372036854775807 then (graftageref42_Text.l0 k1 l0 ((((x3_1 ++ t266) ++ (⟨#[32]⟩ : ByteArray)) ++ ((rd_T34 l0 x4_1).f2)) ++ (⟨#[10]⟩ : ByteArray)) (wrap64 (x4_1 + 1))) else (none)) else (none)) else (none))) else (if (x3_1 ++ t266).size + 1 ≤ 9223372036854775807 then (if ((x3_1 ++ t266) ++ (⟨#[32]⟩ : ByteArray)).size + ((rd_T34 l0 x4_1).f1).size ≤ 9223372036854775807 then (if ((rd_T34 l0 x4_1).f2).toList = ([] : List UInt8) then (if (((x3_1 ++ t266) ++ (⟨#[32]⟩ : ByteArray)) ++ ((rd_T34 l0 x4_1).f1)).size + 1 ≤ 9223372036854775807 then (graftageref42_Text.l0 k1 l0 ((((x3_1 ++ t266) ++ (⟨#[32]⟩ : ByteArray)) ++ ((rd_T34 l0 x4_1).f1)) ++ (⟨#[10]⟩ : ByteArray)) (wrap64 (x4_1 + 1))) else (none)) else (if (((x3_1 ++ t266) ++ (⟨#[32]⟩ : ByteArray)) ++ ((rd_T34 l0 x4_1).f1)).size + 1 ≤ 9223372036854775807 then (if ((((x3_1 ++ t266) ++ (⟨#[32]⟩ : ByteArray)) ++ ((rd_T34 l0 x4_1).f1)) ++ (⟨#[32]⟩ : ByteArray)).size + ((rd_T34 l0 x4_1).f2).size ≤ 9223372036854775807 then (if (((((x3_1 ++ t266) ++ (⟨#[32]⟩ : ByteArray)) ++ ((rd_T34 l0 x4_1).f1)) ++ (⟨#[32]⟩ : ByteArray)) ++ ((rd_T34 l0 x4_1).f2)).size + 1 ≤ 9223372036854775807 then (graftageref42_Text.l0 k1 l0 ((((((x3_1 ++ t266) ++ (⟨#[32]⟩ : ByteArray)) ++ ((rd_T34 l0 x4_1).f1)) ++ (⟨#[32]⟩ : ByteArray)) ++ ((rd_T34 l0 x4_1).f2)) ++ (⟨#[10]⟩ : ByteArray)) (wrap64 (x4_1 + 1))) else (none)) else (none)) else (none))) else (none)) else (none))) else (none)) = some r := H
      have A7 := Aside0.mk A70
      clear A70
      by_cases c8 : x3_1.size + t266.size ≤ 9223372036854775807
      ·rw [if_pos c8] at H
       have c8b0 := eq_true c8
       have c8b1 : decide (x3_1.size + t266.size ≤ 9223372036854775807) = true := decide_eq_true c8
       try have c8b2 : (9223372036854775807 < x3_1.size + t266.size) = False := eq_false (Nat.not_lt.2 c8)
       by_cases c9 : ((rd_T34 l0 x4_1).f1).toList = ([] : List UInt8)
       ·rw [if_pos c9] at H
        have c9b0 : (((rd_T34 l0 x4_1).f1).toList == ([] : List UInt8)) = true := beq_iff_eq.mpr c9
        have c9b1 : (((rd_T34 l0 x4_1).f1).toList != ([] : List UInt8)) = false := bne_eq_false_iff_eq.mpr c9
        clear c9
        by_cases c10 : ((rd_T34 l0 x4_1).f2).toList = ([] : List UInt8)
        ·rw [if_pos c10] at H
         have c10b0 : (((rd_T34 l0 x4_1).f2).toList == ([] : List UInt8)) = true := beq_iff_eq.mpr c10
         have c10b1 : (((rd_T34 l0 x4_1).f2).toList != ([] : List UInt8)) = false := bne_eq_false_iff_eq.mpr c10
         clear c10
         by_cases c11 : (x3_1 ++ t266).size + 1 ≤ 9223372036854775807
         ·rw [if_pos c11] at H
          have c11b0 := eq_true c11
          have c11b1 : decide ((x3_1 ++ t266).size + 1 ≤ 9223372036854775807) = true := decide_eq_true c11
          try have c11b2 : (9223372036854775807 < (x3_1 ++ t266).size + 1) = False := eq_false (Nat.not_lt.2 c11)
          try (have c11b3 := c11b2; simp only [ByteArray.size_append] at c11b3)
          try (have c11b4 := c11b2; simp only [ByteArray.size_append, show (⟨#[32]⟩ : ByteArray).size = 1 from rfl, show (⟨#[10]⟩ : ByteArray).size = 1 from rfl] at c11b4)
          have H' := Aside0.mk H
          clear H
          have p265 : 0 ≤ (x4_1 : Int) := of_decide_eq_true (by first | (with_reducible assumption) | assumption)
          have q265 : x4_1 < (l0.length : Int) := of_decide_eq_true (by first | (with_reducible assumption) | assumption)
          obtain ⟨ad265, e265, hx265_0, hx265_1, hx265_2⟩ := at_T34 HR0.out x4_1 p265 q265
          cases e265
          replace hx265_0 := (HB.out.cell (World.block_lt_of_cell? w _ hx265_0)).trans hx265_0
          replace hx265_1 := (HB.out.cell (World.block_lt_of_cell? w _ hx265_1)).trans hx265_1
          replace hx265_2 := (HB.out.cell (World.block_lt_of_cell? w _ hx265_2)).trans hx265_2
          replace p265 := eq_true p265
          replace q265 := eq_true q265
          go_wp2_with (first | ((with_reducible refine gate_callee (f := 38) rfl ?_); refine goesL_ (some 20) rfl rfl Tryd.func38 (by kernel_rfl) rfl #[.int .i64 ((rd_T34 l0 x4_1).f0)] rfl (by (try simp only [List.map_toArray, List.map_cons, List.map_nil]); first | done | rfl | (simp only [List.length_drop, List.length_take]; rfl)) ?_; (with_reducible refine (graftageref42_word.calls ((rd_T34 l0 x4_1).f0) t266 _ A7.out).mono ?_); rintro e w12 ⟨rfl, hb⟩; refine ⟨_, rfl, ?_⟩; have n0_ := Aside0.mk (below_step (by repeat (first | (with_reducible first | exact HB.out | apply below_alloc | apply pw_below_drewN | apply below_drew1) | exact HB.out)) hb); clear HB; have HB := n0_; clear n0_; (try clear hb); (try clear hb2); (try clear hk); (try clear hi); have p267 : 0 ≤ (x4_1 : Int) := of_decide_eq_true (by first | (with_reducible assumption) | assumption); have q267 : x4_1 < (l0.length : Int) := of_decide_eq_true (by first | (with_reducible assumption) | assumption); obtain ⟨ad267, e267, hx267_0, hx267_1, hx267_2⟩ := at_T34 HR0.out x4_1 p267 q267; obtain rfl : ad265 = ad267 := (by injection e267); replace hx267_0 := (HB.out.cell (World.block_lt_of_cell? w _ hx267_0)).trans hx267_0; replace hx267_1 := (HB.out.cell (World.block_lt_of_cell? w _ hx267_1)).trans hx267_1; replace hx267_2 := (HB.out.cell (World.block_lt_of_cell? w _ hx267_2)).trans hx267_2; replace p267 := eq_true p267; replace q267 := eq_true q267; have p268 : 0 ≤ (x4_1 : Int) := of_decide_eq_true (by first | (with_reducible assumption) | assumption); have q268 : x4_1 < (l0.length : Int) := of_decide_eq_true (by first | (with_reducible assumption) | assumption); obtain ⟨ad268, e268, hx268_0, hx268_1, hx268_2⟩ := at_T34 HR0.out x4_1 p268 q268; obtain rfl : ad265 = ad268 := (by injection e268); replace hx268_0 := (HB.out.cell (World.block_lt_of_cell? w _ hx268_0)).trans hx268_0; replace hx268_1 := (HB.out.cell (World.block_lt_of_cell? w _ hx268_1)).trans hx268_1; replace hx268_2 := (HB.out.cell (World.block_lt_of_cell? w _ hx268_2)).trans hx268_2; replace p268 := eq_true p268; replace q268 := eq_true q268))
          go_roundg k1
          case measure => have := HK1.out; omega
          case rel => exact ⟨((x3_1 ++ t266) ++ (⟨#[10]⟩ : ByteArray)), (wrap64 (x4_1 + 1)), (by first | rfl | (simp; done) | (simp [*]; done)), (by first | rfl | (simp; done) | (simp [*]; done)), H', ⟨by have := HK1.out; omega⟩, ⟨by repeat (first | (with_reducible first | exact HB.out | apply below_alloc | apply pw_below_drewN | apply below_drew1) | exact HB.out)⟩⟩
         ·rw [if_neg c11] at H
          exact absurd H (by simp)
        ·rw [if_neg c10] at H
         have c10b0 : (((rd_T34 l0 x4_1).f2).toList == ([] : List UInt8)) = false := beq_eq_false_iff_ne.mpr c10
         have c10b1 : (((rd_T34 l0 x4_1).f2).toList != ([] : List UInt8)) = true := bne_iff_ne.mpr c10
         by_cases c13 : (x3_1 ++ t266).size + 1 ≤ 9223372036854775807
         ·rw [if_pos c13] at H
          have c13b0 := eq_true c13
          have c13b1 : decide ((x3_1 ++ t266).size + 1 ≤ 9223372036854775807) = true := decide_eq_true c13
          try have c13b2 : (9223372036854775807 < (x3_1 ++ t266).size + 1) = False := eq_false (Nat.not_lt.2 c13)
          try (have c13b3 := c13b2; simp only [ByteArray.size_append] at c13b3)
          try (have c13b4 := c13b2; simp only [ByteArray.size_append, show (⟨#[32]⟩ : ByteArray).size = 1 from rfl, show (⟨#[10]⟩ : ByteArray).size = 1 from rfl] at c13b4)
          by_cases c14 : ((x3_1 ++ t266) ++ (⟨#[32]⟩ : ByteArray)).size + ((rd_T34 l0 x4_1).f2).size ≤ 9223372036854775807
          ·rw [if_pos c14] at H
           have c14b0 := eq_true c14
           have c14b1 : decide (((x3_1 ++ t266) ++ (⟨#[32]⟩ : ByteArray)).size + ((rd_T34 l0 x4_1).f2).size ≤ 9223372036854775807) = true := decide_eq_true c14
           try have c14b2 : (9223372036854775807 < ((x3_1 ++ t266) ++ (⟨#[32]⟩ : ByteArray)).size + ((rd_T34 l0 x4_1).f2).size) = False := eq_false (Nat.not_lt.2 c14)
           try (have c14b3 := c14b2; simp only [ByteArray.size_append] at c14b3)
           try (have c14b4 := c14b2; simp only [ByteArray.size_append, show (⟨#[32]⟩ : ByteArray).size = 1 from rfl, show (⟨#[10]⟩ : ByteArray).size = 1 from rfl] at c14b4)
           by_cases c15 : (((x3_1 ++ t266) ++ (⟨#[32]⟩ : ByteArray)) ++ ((rd_T34 l0 x4_1).f2)).size + 1 ≤ 9223372036854775807
           ·rw [if_pos c15] at H
            have c15b0 := eq_true c15
            have c15b1 : decide ((((x3_1 ++ t266) ++ (⟨#[32]⟩ : ByteArray)) ++ ((rd_T34 l0 x4_1).f2)).size + 1 ≤ 9223372036854775807) = true := decide_eq_true c15
            try have c15b2 : (9223372036854775807 < (((x3_1 ++ t266) ++ (⟨#[32]⟩ : ByteArray)) ++ ((rd_T34 l0 x4_1).f2)).size + 1) = False := eq_false (Nat.not_lt.2 c15)
            try (have c15b3 := c15b2; simp only [ByteArray.size_append] at c15b3)
            try (have c15b4 := c15b2; simp only [ByteArray.size_append, show (⟨#[32]⟩ : ByteArray).size = 1 from rfl, show (⟨#[10]⟩ : ByteArray).size = 1 from rfl] at c15b4)
            have H' := Aside0.mk H
            clear H
            have p265 : 0 ≤ (x4_1 : Int) := of_decide_eq_true (by first | (with_reducible assumption) | assumption)
            have q265 : x4_1 < (l0.length : Int) := of_decide_eq_true (by first | (with_reducible assumption) | assumption)
            obtain ⟨ad265, e265, hx265_0, hx265_1, hx265_2⟩ := at_T34 HR0.out x4_1 p265 q265
            cases e265
            replace hx265_0 := (HB.out.cell (World.block_lt_of_cell? w _ hx265_0)).trans hx265_0
            replace hx265_1 := (HB.out.cell (World.block_lt_of_cell? w _ hx265_1)).trans hx265_1
            replace hx265_2 := (HB.out.cell (World.block_lt_of_cell? w _ hx265_2)).trans hx265_2
            replace p265 := eq_true p265
            replace q265 := eq_true q265
            go_wp2_with (first | ((with_reducible refine gate_callee (f := 38) rfl ?_); refine goesL_ (some 20) rfl rfl Tryd.func38 (by kernel_rfl) rfl #[.int .i64 ((rd_T34 l0 x4_1).f0)] rfl (by (try simp only [List.map_toArray, List.map_cons, List.map_nil]); first | done | rfl | (simp only [List.length_drop, List.length_take]; rfl)) ?_; (with_reducible refine (graftageref42_word.calls ((rd_T34 l0 x4_1).f0) t266 _ A7.out).mono ?_); rintro e w16 ⟨rfl, hb⟩; refine ⟨_, rfl, ?_⟩; have n0_ := Aside0.mk (below_step (by repeat (first | (with_reducible first | exact HB.out | apply below_alloc | apply pw_below_drewN | apply below_drew1) | exact HB.out)) hb); clear HB; have HB := n0_; clear n0_; (try clear hb); (try clear hb2); (try clear hk); (try clear hi); have p267 : 0 ≤ (x4_1 : Int) := of_decide_eq_true (by first | (with_reducible assumption) | assumption); have q267 : x4_1 < (l0.length : Int) := of_decide_eq_true (by first | (with_reducible assumption) | assumption); obtain ⟨ad267, e267, hx267_0, hx267_1, hx267_2⟩ := at_T34 HR0.out x4_1 p267 q267; obtain rfl : ad265 = ad267 := (by injection e267); replace hx267_0 := (HB.out.cell (World.block_lt_of_cell? w _ hx267_0)).trans hx267_0; replace hx267_1 := (HB.out.cell (World.block_lt_of_cell? w _ hx267_1)).trans hx267_1; replace hx267_2 := (HB.out.cell (World.block_lt_of_cell? w _ hx267_2)).trans hx267_2; replace p267 := eq_true p267; replace q267 := eq_true q267; have p268 : 0 ≤ (x4_1 : Int) := of_decide_eq_true (by first | (with_reducible assumption) | assumption); have q268 : x4_1 < (l0.length : Int) := of_decide_eq_true (by first | (with_reducible assumption) | assumption); obtain ⟨ad268, e268, hx268_0, hx268_1, hx268_2⟩ := at_T34 HR0.out x4_1 p268 q268; obtain rfl : ad265 = ad268 := (by injection e268); replace hx268_0 := (HB.out.cell (World.block_lt_of_cell? w _ hx268_0)).trans hx268_0; replace hx268_1 := (HB.out.cell (World.block_lt_of_cell? w _ hx268_1)).trans hx268_1; replace hx268_2 := (HB.out.cell (World.block_lt_of_cell? w _ hx268_2)).trans hx268_2; replace p268 := eq_true p268; replace q268 := eq_true q268; have p269 : 0 ≤ (x4_1 : Int) := of_decide_eq_true (by first | (with_reducible assumption) | assumption); have q269 : x4_1 < (l0.length : Int) := of_decide_eq_true (by first | (with_reducible assumption) | assumption); obtain ⟨ad269, e269, hx269_0, hx269_1, hx269_2⟩ := at_T34 HR0.out x4_1 p269 q269; obtain rfl : ad265 = ad269 := (by injection e269); replace hx269_0 := (HB.out.cell (World.block_lt_of_cell? w _ hx269_0)).trans hx269_0; replace hx269_1 := (HB.out.cell (World.block_lt_of_cell? w _ hx269_1)).trans hx269_1; replace hx269_2 := (HB.out.cell (World.block_lt_of_cell? w _ hx269_2)).trans hx269_2; replace p269 := eq_true p269; replace q269 := eq_true q269))
            go_roundg k1
            case measure => have := HK1.out; omega
            case rel => exact ⟨((((x3_1 ++ t266) ++ (⟨#[32]⟩ : ByteArray)) ++ ((rd_T34 l0 x4_1).f2)) ++ (⟨#[10]⟩ : ByteArray)), (wrap64 (x4_1 + 1)), (by first | rfl | (simp; done) | (simp [*]; done)), (by first | rfl | (simp; done) | (simp [*]; done)), H', ⟨by have := HK1.out; omega⟩, ⟨by repeat (first | (with_reducible first | exact HB.out | apply below_alloc | apply pw_below_drewN | apply below_drew1) | exact HB.out)⟩⟩
           ·rw [if_neg c15] at H
            exact absurd H (by simp)
          ·rw [if_neg c14] at H
           exact absurd H (by simp)
         ·rw [if_neg c13] at H
          exact absurd H (by simp)
       ·rw [if_neg c9] at H
        have c9b0 : (((rd_T34 l0 x4_1).f1).toList == ([] : List UInt8)) = false := beq_eq_false_iff_ne.mpr c9
        have c9b1 : (((rd_T34 l0 x4_1).f1).toList != ([] : List UInt8)) = true := bne_iff_ne.mpr c9
        by_cases c17 : (x3_1 ++ t266).size + 1 ≤ 9223372036854775807
        ·rw [if_pos c17] at H
         have c17b0 := eq_true c17
         have c17b1 : decide ((x3_1 ++ t266).size + 1 ≤ 9223372036854775807) = true := decide_eq_true c17
         try have c17b2 : (9223372036854775807 < (x3_1 ++ t266).size + 1) = False := eq_false (Nat.not_lt.2 c17)
         try (have c17b3 := c17b2; simp only [ByteArray.size_append] at c17b3)
         try (have c17b4 := c17b2; simp only [ByteArray.size_append, show (⟨#[32]⟩ : ByteArray).size = 1 from rfl, show (⟨#[10]⟩ : ByteArray).size = 1 from rfl] at c17b4)
         by_cases c18 : ((x3_1 ++ t266) ++ (⟨#[32]⟩ : ByteArray)).size + ((rd_T34 l0 x4_1).f1).size ≤ 9223372036854775807
         ·rw [if_pos c18] at H
          have c18b0 := eq_true c18
          have c18b1 : decide (((x3_1 ++ t266) ++ (⟨#[32]⟩ : ByteArray)).size + ((rd_T34 l0 x4_1).f1).size ≤ 9223372036854775807) = true := decide_eq_true c18
          try have c18b2 : (9223372036854775807 < ((x3_1 ++ t266) ++ (⟨#[32]⟩ : ByteArray)).size + ((rd_T34 l0 x4_1).f1).size) = False := eq_false (Nat.not_lt.2 c18)
          try (have c18b3 := c18b2; simp only [ByteArray.size_append] at c18b3)
          try (have c18b4 := c18b2; simp only [ByteArray.size_append, show (⟨#[32]⟩ : ByteArray).size = 1 from rfl, show (⟨#[10]⟩ : ByteArray).size = 1 from rfl] at c18b4)
          by_cases c19 : ((rd_T34 l0 x4_1).f2).toList = ([] : List UInt8)
          ·rw [if_pos c19] at H
           have c19b0 : (((rd_T34 l0 x4_1).f2).toList == ([] : List UInt8)) = true := beq_iff_eq.mpr c19
           have c19b1 : (((rd_T34 l0 x4_1).f2).toList != ([] : List UInt8)) = false := bne_eq_false_iff_eq.mpr c19
           clear c19
           by_cases c20 : (((x3_1 ++ t266) ++ (⟨#[32]⟩ : ByteArray)) ++ ((rd_T34 l0 x4_1).f1)).size + 1 ≤ 9223372036854775807
           ·rw [if_pos c20] at H
            have c20b0 := eq_true c20
            have c20b1 : decide ((((x3_1 ++ t266) ++ (⟨#[32]⟩ : ByteArray)) ++ ((rd_T34 l0 x4_1).f1)).size + 1 ≤ 9223372036854775807) = true := decide_eq_true c20
            try have c20b2 : (9223372036854775807 < (((x3_1 ++ t266) ++ (⟨#[32]⟩ : ByteArray)) ++ ((rd_T34 l0 x4_1).f1)).size + 1) = False := eq_false (Nat.not_lt.2 c20)
            try (have c20b3 := c20b2; simp only [ByteArray.size_append] at c20b3)
            try (have c20b4 := c20b2; simp only [ByteArray.size_append, show (⟨#[32]⟩ : ByteArray).size = 1 from rfl, show (⟨#[10]⟩ : ByteArray).size = 1 from rfl] at c20b4)
            have H' := Aside0.mk H
            clear H
            have p265 : 0 ≤ (x4_1 : Int) := of_decide_eq_true (by first | (with_reducible assumption) | assumption)
            have q265 : x4_1 < (l0.length : Int) := of_decide_eq_true (by first | (with_reducible assumption) | assumption)
            obtain ⟨ad265, e265, hx265_0, hx265_1, hx265_2⟩ := at_T34 HR0.out x4_1 p265 q265
            cases e265
            replace hx265_0 := (HB.out.cell (World.block_lt_of_cell? w _ hx265_0)).trans hx265_0
            replace hx265_1 := (HB.out.cell (World.block_lt_of_cell? w _ hx265_1)).trans hx265_1
            replace hx265_2 := (HB.out.cell (World.block_lt_of_cell? w _ hx265_2)).trans hx265_2
            replace p265 := eq_true p265
            replace q265 := eq_true q265
            go_wp2_with (first | ((with_reducible refine gate_callee (f := 38) rfl ?_); refine goesL_ (some 20) rfl rfl Tryd.func38 (by kernel_rfl) rfl #[.int .i64 ((rd_T34 l0 x4_1).f0)] rfl (by (try simp only [List.map_toArray, List.map_cons, List.map_nil]); first | done | rfl | (simp only [List.length_drop, List.length_take]; rfl)) ?_; (with_reducible refine (graftageref42_word.calls ((rd_T34 l0 x4_1).f0) t266 _ A7.out).mono ?_); rintro e w21 ⟨rfl, hb⟩; refine ⟨_, rfl, ?_⟩; have n0_ := Aside0.mk (below_step (by repeat (first | (with_reducible first | exact HB.out | apply below_alloc | apply pw_below_drewN | apply below_drew1) | exact HB.out)) hb); clear HB; have HB := n0_; clear n0_; (try clear hb); (try clear hb2); (try clear hk); (try clear hi); have p267 : 0 ≤ (x4_1 : Int) := of_decide_eq_true (by first | (with_reducible assumption) | assumption); have q267 : x4_1 < (l0.length : Int) := of_decide_eq_true (by first | (with_reducible assumption) | assumption); obtain ⟨ad267, e267, hx267_0, hx267_1, hx267_2⟩ := at_T34 HR0.out x4_1 p267 q267; obtain rfl : ad265 = ad267 := (by injection e267); replace hx267_0 := (HB.out.cell (World.block_lt_of_cell? w _ hx267_0)).trans hx267_0; replace hx267_1 := (HB.out.cell (World.block_lt_of_cell? w _ hx267_1)).trans hx267_1; replace hx267_2 := (HB.out.cell (World.block_lt_of_cell? w _ hx267_2)).trans hx267_2; replace p267 := eq_true p267; replace q267 := eq_true q267; have p270 : 0 ≤ (x4_1 : Int) := of_decide_eq_true (by first | (with_reducible assumption) | assumption); have q270 : x4_1 < (l0.length : Int) := of_decide_eq_true (by first | (with_reducible assumption) | assumption); obtain ⟨ad270, e270, hx270_0, hx270_1, hx270_2⟩ := at_T34 HR0.out x4_1 p270 q270; obtain rfl : ad265 = ad270 := (by injection e270); replace hx270_0 := (HB.out.cell (World.block_lt_of_cell? w _ hx270_0)).trans hx270_0; replace hx270_1 := (HB.out.cell (World.block_lt_of_cell? w _ hx270_1)).trans hx270_1; replace hx270_2 := (HB.out.cell (World.block_lt_of_cell? w _ hx270_2)).trans hx270_2; replace p270 := eq_true p270; replace q270 := eq_true q270; have p271 : 0 ≤ (x4_1 : Int) := of_decide_eq_true (by first | (with_reducible assumption) | assumption); have q271 : x4_1 < (l0.length : Int) := of_decide_eq_true (by first | (with_reducible assumption) | assumption); obtain ⟨ad271, e271, hx271_0, hx271_1, hx271_2⟩ := at_T34 HR0.out x4_1 p271 q271; obtain rfl : ad265 = ad271 := (by injection e271); replace hx271_0 := (HB.out.cell (World.block_lt_of_cell? w _ hx271_0)).trans hx271_0; replace hx271_1 := (HB.out.cell (World.block_lt_of_cell? w _ hx271_1)).trans hx271_1; replace hx271_2 := (HB.out.cell (World.block_lt_of_cell? w _ hx271_2)).trans hx271_2; replace p271 := eq_true p271; replace q271 := eq_true q271))
            go_roundg k1
            case measure => have := HK1.out; omega
            case rel => exact ⟨((((x3_1 ++ t266) ++ (⟨#[32]⟩ : ByteArray)) ++ ((rd_T34 l0 x4_1).f1)) ++ (⟨#[10]⟩ : ByteArray)), (wrap64 (x4_1 + 1)), (by first | rfl | (simp; done) | (simp [*]; done)), (by first | rfl | (simp; done) | (simp [*]; done)), H', ⟨by have := HK1.out; omega⟩, ⟨by repeat (first | (with_reducible first | exact HB.out | apply below_alloc | apply pw_below_drewN | apply below_drew1) | exact HB.out)⟩⟩
           ·rw [if_neg c20] at H
            exact absurd H (by simp)
          ·rw [if_neg c19] at H
           have c19b0 : (((rd_T34 l0 x4_1).f2).toList == ([] : List UInt8)) = false := beq_eq_false_iff_ne.mpr c19
           have c19b1 : (((rd_T34 l0 x4_1).f2).toList != ([] : List UInt8)) = true := bne_iff_ne.mpr c19
           by_cases c22 : (((x3_1 ++ t266) ++ (⟨#[32]⟩ : ByteArray)) ++ ((rd_T34 l0 x4_1).f1)).size + 1 ≤ 9223372036854775807
           ·rw [if_pos c22] at H
            have c22b0 := eq_true c22
            have c22b1 : decide ((((x3_1 ++ t266) ++ (⟨#[32]⟩ : ByteArray)) ++ ((rd_T34 l0 x4_1).f1)).size + 1 ≤ 9223372036854775807) = true := decide_eq_true c22
            try have c22b2 : (9223372036854775807 < (((x3_1 ++ t266) ++ (⟨#[32]⟩ : ByteArray)) ++ ((rd_T34 l0 x4_1).f1)).size + 1) = False := eq_false (Nat.not_lt.2 c22)
            try (have c22b3 := c22b2; simp only [ByteArray.size_append] at c22b3)
            try (have c22b4 := c22b2; simp only [ByteArray.size_append, show (⟨#[32]⟩ : ByteArray).size = 1 from rfl, show (⟨#[10]⟩ : ByteArray).size = 1 from rfl] at c22b4)
            by_cases c23 : ((((x3_1 ++ t266) ++ (⟨#[32]⟩ : ByteArray)) ++ ((rd_T34 l0 x4_1).f1)) ++ (⟨#[32]⟩ : ByteArray)).size + ((rd_T34 l0 x4_1).f2).size ≤ 9223372036854775807
            ·rw [if_pos c23] at H
             have c23b0 := eq_true c23
             have c23b1 : decide (((((x3_1 ++ t266) ++ (⟨#[32]⟩ : ByteArray)) ++ ((rd_T34 l0 x4_1).f1)) ++ (⟨#[32]⟩ : ByteArray)).size + ((rd_T34 l0 x4_1).f2).size ≤ 9223372036854775807) = true := decide_eq_true c23
             try have c23b2 : (9223372036854775807 < ((((x3_1 ++ t266) ++ (⟨#[32]⟩ : ByteArray)) ++ ((rd_T34 l0 x4_1).f1)) ++ (⟨#[32]⟩ : ByteArray)).size + ((rd_T34 l0 x4_1).f2).size) = False := eq_false (Nat.not_lt.2 c23)
             try (have c23b3 := c23b2; simp only [ByteArray.size_append] at c23b3)
             try (have c23b4 := c23b2; simp only [ByteArray.size_append, show (⟨#[32]⟩ : ByteArray).size = 1 from rfl, show (⟨#[10]⟩ : ByteArray).size = 1 from rfl] at c23b4)
             by_cases c24 : (((((x3_1 ++ t266) ++ (⟨#[32]⟩ : ByteArray)) ++ ((rd_T34 l0 x4_1).f1)) ++ (⟨#[32]⟩ : ByteArray)) ++ ((rd_T34 l0 x4_1).f2)).size + 1 ≤ 9223372036854775807
             ·rw [if_pos c24] at H
              have c24b0 := eq_true c24
              have c24b1 : decide ((((((x3_1 ++ t266) ++ (⟨#[32]⟩ : ByteArray)) ++ ((rd_T34 l0 x4_1).f1)) ++ (⟨#[32]⟩ : ByteArray)) ++ ((rd_T34 l0 x4_1).f2)).size + 1 ≤ 9223372036854775807) = true := decide_eq_true c24
              try have c24b2 : (9223372036854775807 < (((((x3_1 ++ t266) ++ (⟨#[32]⟩ : ByteArray)) ++ ((rd_T34 l0 x4_1).f1)) ++ (⟨#[32]⟩ : ByteArray)) ++ ((rd_T34 l0 x4_1).f2)).size + 1) = False := eq_false (Nat.not_lt.2 c24)
              try (have c24b3 := c24b2; simp only [ByteArray.size_append] at c24b3)
              try (have c24b4 := c24b2; simp only [ByteArray.size_append, show (⟨#[32]⟩ : ByteArray).size = 1 from rfl, show (⟨#[10]⟩ : ByteArray).size = 1 from rfl] at c24b4)
              have H' := Aside0.mk H
              clear H
              have p265 : 0 ≤ (x4_1 : Int) := of_decide_eq_true (by first | (with_reducible assumption) | assumption)
              have q265 : x4_1 < (l0.length : Int) := of_decide_eq_true (by first | (with_reducible assumption) | assumption)
              obtain ⟨ad265, e265, hx265_0, hx265_1, hx265_2⟩ := at_T34 HR0.out x4_1 p265 q265
              cases e265
              replace hx265_0 := (HB.out.cell (World.block_lt_of_cell? w _ hx265_0)).trans hx265_0
              replace hx265_1 := (HB.out.cell (World.block_lt_of_cell? w _ hx265_1)).trans hx265_1
              replace hx265_2 := (HB.out.cell (World.block_lt_of_cell? w _ hx265_2)).trans hx265_2
              replace p265 := eq_true p265
              replace q265 := eq_true q265
              go_wp2_with (first | ((with_reducible refine gate_callee (f := 38) rfl ?_); refine goesL_ (some 20) rfl rfl Tryd.func38 (by kernel_rfl) rfl #[.int .i64 ((rd_T34 l0 x4_1).f0)] rfl (by (try simp only [List.map_toArray, List.map_cons, List.map_nil]); first | done | rfl | (simp only [List.length_drop, List.length_take]; rfl)) ?_; (with_reducible refine (graftageref42_word.calls ((rd_T34 l0 x4_1).f0) t266 _ A7.out).mono ?_); rintro e w25 ⟨rfl, hb⟩; refine ⟨_, rfl, ?_⟩; have n0_ := Aside0.mk (below_step (by repeat (first | (with_reducible first | exact HB.out | apply below_alloc | apply pw_below_drewN | apply below_drew1) | exact HB.out)) hb); clear HB; have HB := n0_; clear n0_; (try clear hb); (try clear hb2); (try clear hk); (try clear hi); have p267 : 0 ≤ (x4_1 : Int) := of_decide_eq_true (by first | (with_reducible assumption) | assumption); have q267 : x4_1 < (l0.length : Int) := of_decide_eq_true (by first | (with_reducible assumption) | assumption); obtain ⟨ad267, e267, hx267_0, hx267_1, hx267_2⟩ := at_T34 HR0.out x4_1 p267 q267; obtain rfl : ad265 = ad267 := (by injection e267); replace hx267_0 := (HB.out.cell (World.block_lt_of_cell? w _ hx267_0)).trans hx267_0; replace hx267_1 := (HB.out.cell (World.block_lt_of_cell? w _ hx267_1)).trans hx267_1; replace hx267_2 := (HB.out.cell (World.block_lt_of_cell? w _ hx267_2)).trans hx267_2; replace p267 := eq_true p267; replace q267 := eq_true q267; have p270 : 0 ≤ (x4_1 : Int) := of_decide_eq_true (by first | (with_reducible assumption) | assumption); have q270 : x4_1 < (l0.length : Int) := of_decide_eq_true (by first | (with_reducible assumption) | assumption); obtain ⟨ad270, e270, hx270_0, hx270_1, hx270_2⟩ := at_T34 HR0.out x4_1 p270 q270; obtain rfl : ad265 = ad270 := (by injection e270); replace hx270_0 := (HB.out.cell (World.block_lt_of_cell? w _ hx270_0)).trans hx270_0; replace hx270_1 := (HB.out.cell (World.block_lt_of_cell? w _ hx270_1)).trans hx270_1; replace hx270_2 := (HB.out.cell (World.block_lt_of_cell? w _ hx270_2)).trans hx270_2; replace p270 := eq_true p270; replace q270 := eq_true q270; have p271 : 0 ≤ (x4_1 : Int) := of_decide_eq_true (by first | (with_reducible assumption) | assumption); have q271 : x4_1 < (l0.length : Int) := of_decide_eq_true (by first | (with_reducible assumption) | assumption); obtain ⟨ad271, e271, hx271_0, hx271_1, hx271_2⟩ := at_T34 HR0.out x4_1 p271 q271; obtain rfl : ad265 = ad271 := (by injection e271); replace hx271_0 := (HB.out.cell (World.block_lt_of_cell? w _ hx271_0)).trans hx271_0; replace hx271_1 := (HB.out.cell (World.block_lt_of_cell? w _ hx271_1)).trans hx271_1; replace hx271_2 := (HB.out.cell (World.block_lt_of_cell? w _ hx271_2)).trans hx271_2; replace p271 := eq_true p271; replace q271 := eq_true q271; have p272 : 0 ≤ (x4_1 : Int) := of_decide_eq_true (by first | (with_reducible assumption) | assumption); have q272 : x4_1 < (l0.length : Int) := of_decide_eq_true (by first | (with_reducible assumption) | assumption); obtain ⟨ad272, e272, hx272_0, hx272_1, hx272_2⟩ := at_T34 HR0.out x4_1 p272 q272; obtain rfl : ad265 = ad272 := (by injection e272); replace hx272_0 := (HB.out.cell (World.block_lt_of_cell? w _ hx272_0)).trans hx272_0; replace hx272_1 := (HB.out.cell (World.block_lt_of_cell? w _ hx272_1)).trans hx272_1; replace hx272_2 := (HB.out.cell (World.block_lt_of_cell? w _ hx272_2)).trans hx272_2; replace p272 := eq_true p272; replace q272 := eq_true q272))
              go_roundg k1
              case measure => have := HK1.out; omega
              case rel => exact ⟨((((((x3_1 ++ t266) ++ (⟨#[32]⟩ : ByteArray)) ++ ((rd_T34 l0 x4_1).f1)) ++ (⟨#[32]⟩ : ByteArray)) ++ ((rd_T34 l0 x4_1).f2)) ++ (⟨#[10]⟩ : ByteArray)), (wrap64 (x4_1 + 1)), (by first | rfl | (simp; done) | (simp [*]; done)), (by first | rfl | (simp; done) | (simp [*]; done)), H', ⟨by have := HK1.out; omega⟩, ⟨by repeat (first | (with_reducible first | exact HB.out | apply below_alloc | apply pw_below_drewN | apply below_drew1) | exact HB.out)⟩⟩
             ·rw [if_neg c24] at H
              exact absurd H (by simp)
            ·rw [if_neg c23] at H
             exact absurd H (by simp)
           ·rw [if_neg c22] at H
            exact absurd H (by simp)
         ·rw [if_neg c18] at H
          exact absurd H (by simp)
        ·rw [if_neg c17] at H
         exact absurd H (by simp)
      ·rw [if_neg c8] at H
       exact absurd H (by simp)
     ·rw [if_neg c6] at H
      exact absurd H (by simp)
    ·rw [if_neg c5] at H
     have c5b0 : decide (x4_1 < (l0.length : Int)) = false := decide_eq_false c5
     clear c5
     obtain rfl := Option.some.inj H
     go_wp2
     go_ret
     exact ⟨by first | rfl | (simp [errW_none, errW_some] <;> rfl) | (simp [*, errW_none, errW_some] <;> rfl), by repeat (first | (with_reducible first | exact HB.out | apply below_alloc | apply pw_below_drewN | apply below_drew1) | exact HB.out)⟩
 ·rw [if_neg c3] at H
  have c3b0 : (t264 == 0) = false := beq_eq_false_iff_ne.mpr c3
  have c3b1 : (t264 != 0) = true := bne_iff_ne.mpr c3
  obtain rfl := Option.some.inj H
  go_enter Tryd.func17, Tryd.ntmps17
  go_wp2_with (first | ((with_reducible refine gate_callee (f := 18) rfl ?_); refine goesL_ (some 6) rfl rfl Tryd.func18 (by kernel_rfl) rfl #[.slice A0 l0.length c0] rfl (by (try simp only [List.map_toArray, List.map_cons, List.map_nil]); first | done | rfl | (simp only [List.length_drop, List.length_take]; rfl)) ?_; (with_reducible refine (graftageref42_Check.calls k _ _ l0 t264 _ ?side1 ?side2 A2.out).mono ?_); (case side1 => repeat (first | exact HR0.out | (with_reducible refine Kd.C_alloc ?_ _) | (with_reducible refine Kd.C_drewN ?_ _) | (with_reducible refine Kd.C_drew ?_))); (case side2 => exact HC0.out); rintro e w26 ⟨rfl, hb⟩; refine ⟨_, rfl, ?_⟩; have n0_ := Aside0.mk (below_step (by repeat (first | (with_reducible first | exact HB.out | apply below_alloc | apply pw_below_drewN | apply below_drew1) | exact HB.out)) hb); clear HB; have HB := n0_; clear n0_; (try clear hb); (try clear hb2); (try clear hk); (try clear hi)))
  go_ret
  exact ⟨by first | rfl | (simp [errW_none, errW_some] <;> rfl) | (simp [*, errW_none, errW_some] <;> rfl), by repeat (first | (with_reducible first | exact HB.out | apply below_alloc | apply pw_below_drewN | apply below_drew1) | exact HB.out)⟩

/-! ### graftageref42_Left: function 20 -/
def graftageref42_Left.l0 : Nat → List (S34) → Int → Int → Option (Int)
 | 0, _, _, _ => none
 | k + 1, x0, x3, x4 => if x4 < (x0.length : Int) then (if 0 ≤ x4 then ((graftageref42_makes.f ((rd_T34 x0 x4).f0)).bind fun t274 => (if t274 = true then (graftageref42_Left.l0 k x0 (wrap64 (x3 + 1)) (wrap64 (x4 + 1))) else (graftageref42_Left.l0 k x0 x3 (wrap64 (x4 + 1))))) else (none)) else (some x3)
def graftageref42_Left.f (k : Nat) (l0 : List (S34)) : Option (Int) := graftageref42_Left.l0 k l0 0 0
theorem graftageref42_Left.mono_l : ∀ k, (∀ y0 y1 y2, LeO (graftageref42_Left.l0 k y0 y1 y2) (graftageref42_Left.l0 (k + 1) y0 y1 y2))
 | 0 => fun _ _ _ r h => by simp [graftageref42_Left.l0] at h
 | k + 1 => by
  have ih0 := graftageref42_Left.mono_l k
  ·intro y0 y1 y2
   unfold graftageref42_Left.l0
   repeat' first
   | (with_reducible exact ih0 _ _ _)
   | (with_reducible exact LeO.refl _)
   | (with_reducible exact LeO.none _)
   | (with_reducible refine LeO.ite ?_ ?_)
   | (with_reducible refine LeO.bind ?_ (fun _ => ?_))
   | exact ih0 _ _ _
   | exact LeO.none _
   | refine LeO.ite ?_ ?_
   | refine LeO.bind ?_ (fun _ => ?_)
theorem graftageref42_Left.mono : ∀ a0 k, LeO (graftageref42_Left.f k a0) (graftageref42_Left.f (k + 1) a0) := by
 intro a0 k
 have ih0 := graftageref42_Left.mono_l k
 unfold graftageref42_Left.f
 repeat' first
   | (with_reducible exact ih0 _ _ _)
   | (with_reducible exact LeO.refl _)
   | (with_reducible exact LeO.none _)
   | (with_reducible refine LeO.ite ?_ ?_)
   | (with_reducible refine LeO.bind ?_ (fun _ => ?_))
   | exact ih0 _ _ _
   | exact LeO.none _
   | refine LeO.ite ?_ ?_
   | refine LeO.bind ?_ (fun _ => ?_)
set_option maxHeartbeats 8000000 in
set_option maxRecDepth 100000 in
theorem graftageref42_Left.calls (k : Nat) (A0 : Option Addr) (c0 : Nat) (l0 : List (S34)) (r : Int) (w : World) (hr0 : Kd.C k34 w A0 l0.length l0) (hc0 : l0.length ≤ c0) (h : graftageref42_Left.f k l0 = some r) :
  Calls Tryd.prog 20 #[.slice A0 l0.length c0] w fun e w' => e = .returned (.int .i64 r) ∧ Drawn0 w w' := by
 have HR0 := Aside0.mk hr0
 have HC0 := Aside0.mk hc0
 clear hr0 hc0
 have H : (graftageref42_Left.l0 k l0 0 0) = some r := h
 clear h
 have H' := Aside0.mk H
 clear H
 go_enter Tryd.func20, Tryd.ntmps20
 go_wp2
 go_loopg [3, 4] k (fun kq v3 v4 w' => ∃ (x3_1 : Int) (x4_1 : Int), v3 = .int .i64 x3_1 ∧ v4 = .int .i64 x4_1 ∧ Aside0 (graftageref42_Left.l0 kq l0 x3_1 x4_1 = some r) ∧ Aside0 (kq ≤ k) ∧ Drawn0 w w')
 case atStart => exact ⟨(0), (0), (by first | rfl | (simp; done) | (simp [*]; done)), (by first | rfl | (simp; done) | (simp [*]; done)), H', ⟨Nat.le_refl _⟩, by repeat (first | exact Drawn0.refl _ | apply Drawn0.step)⟩
 case round =>
  clear H'
  obtain ⟨x3_1, x4_1, rfl, rfl, HA, HK1, ⟨m1, rfl⟩⟩ := hrel
  cases gk with
  | zero => exact absurd HA.out (by simp [graftageref42_Left.l0])
  | succ k1 =>
   have H := HA.out
   clear HA
   simp only [graftageref42_Left.l0] at H
   by_cases c2 : x4_1 < (l0.length : Int)
   ·rw [if_pos c2] at H
    have c2b0 : decide (x4_1 < (l0.length : Int)) = true := decide_eq_true c2
    clear c2
    by_cases c3 : 0 ≤ x4_1
    ·rw [if_pos c3] at H
     have c3b0 : decide (0 ≤ x4_1) = true := decide_eq_true c3
     clear c3
     replace H := Option.bind_eq_some_iff.mp H
     obtain ⟨t274, A40, H⟩ := H
     replace H : (if t274 = true then (graftageref42_Left.l0 k1 l0 (wrap64 (x3_1 + 1)) (wrap64 (x4_1 + 1))) else (graftageref42_Left.l0 k1 l0 x3_1 (wrap64 (x4_1 + 1)))) = some r := H
     have A4 := Aside0.mk A40
     clear A40
     by_cases c5 : t274 = true
     ·subst c5
      have H1 : (graftageref42_Left.l0 k1 l0 (wrap64 (x3_1 + 1)) (wrap64 (x4_1 + 1))) = some r := by rw [if_pos rfl] at H; exact H
      clear H
      have H := H1
      clear H1
      have H' := Aside0.mk H
      clear H
      have p273 : 0 ≤ (x4_1 : Int) := of_decide_eq_true (by first | (with_reducible assumption) | assumption)
      have q273 : x4_1 < (l0.length : Int) := of_decide_eq_true (by first | (with_reducible assumption) | assumption)
      obtain ⟨ad273, e273, hx273_0, hx273_1, hx273_2⟩ := at_T34 HR0.out x4_1 p273 q273
      cases e273
      replace p273 := eq_true p273
      replace q273 := eq_true q273
      go_wp2_with (first | ((with_reducible refine gate_callee (f := 40) rfl ?_); refine goesL_ (some 16) rfl rfl Tryd.func40 (by kernel_rfl) rfl #[.int .i64 ((rd_T34 l0 x4_1).f0)] rfl (by (try simp only [List.map_toArray, List.map_cons, List.map_nil]); first | done | rfl | (simp only [List.length_drop, List.length_take]; rfl)) ?_; (with_reducible refine (graftageref42_makes.calls ((rd_T34 l0 x4_1).f0) true _ A4.out).mono ?_); rintro e w' ⟨rfl, ⟨nd, rfl⟩⟩; refine ⟨_, rfl, ?_⟩))
      go_roundg k1
      case measure => have := HK1.out; omega
      case rel => exact ⟨(wrap64 (x3_1 + 1)), (wrap64 (x4_1 + 1)), (by first | rfl | (simp; done) | (simp [*]; done)), (by first | rfl | (simp; done) | (simp [*]; done)), H', ⟨by have := HK1.out; omega⟩, by repeat (first | exact Drawn0.refl _ | apply Drawn0.step)⟩
     ·replace c5 := Bool.eq_false_iff.mpr c5
      subst c5
      have H1 : (graftageref42_Left.l0 k1 l0 x3_1 (wrap64 (x4_1 + 1))) = some r := by rw [if_neg (show ¬ (false = true) by decide)] at H; exact H
      clear H
      have H := H1
      clear H1
      have H' := Aside0.mk H
      clear H
      have p273 : 0 ≤ (x4_1 : Int) := of_decide_eq_true (by first | (with_reducible assumption) | assumption)
      have q273 : x4_1 < (l0.length : Int) := of_decide_eq_true (by first | (with_reducible assumption) | assumption)
      obtain ⟨ad273, e273, hx273_0, hx273_1, hx273_2⟩ := at_T34 HR0.out x4_1 p273 q273
      cases e273
      replace p273 := eq_true p273
      replace q273 := eq_true q273
      go_wp2_with (first | ((with_reducible refine gate_callee (f := 40) rfl ?_); refine goesL_ (some 16) rfl rfl Tryd.func40 (by kernel_rfl) rfl #[.int .i64 ((rd_T34 l0 x4_1).f0)] rfl (by (try simp only [List.map_toArray, List.map_cons, List.map_nil]); first | done | rfl | (simp only [List.length_drop, List.length_take]; rfl)) ?_; (with_reducible refine (graftageref42_makes.calls ((rd_T34 l0 x4_1).f0) false _ A4.out).mono ?_); rintro e w' ⟨rfl, ⟨nd, rfl⟩⟩; refine ⟨_, rfl, ?_⟩))
      go_roundg k1
      case measure => have := HK1.out; omega
      case rel => exact ⟨(x3_1), (wrap64 (x4_1 + 1)), (by first | rfl | (simp; done) | (simp [*]; done)), (by first | rfl | (simp; done) | (simp [*]; done)), H', ⟨by have := HK1.out; omega⟩, by repeat (first | exact Drawn0.refl _ | apply Drawn0.step)⟩
    ·rw [if_neg c3] at H
     exact absurd H (by simp)
   ·rw [if_neg c2] at H
    have c2b0 : decide (x4_1 < (l0.length : Int)) = false := decide_eq_false c2
    clear c2
    obtain rfl := Option.some.inj H
    go_wp2
    go_ret
    exact ⟨by first | rfl | (simp; done) | (simp [*]; done), by repeat (first | exact Drawn0.refl _ | apply Drawn0.step)⟩

/-! ### graftagelaw42_TodoTells: function 6 -/
def graftagelaw42_TodoTells.f (k : Nat) (l0 : List (S34)) : Option (Bool) := if (l0.length : Int) > 300 then ((graftagelaw42_lives.f k).bind fun t275 => (some t275)) else ((todo_Text.f l0).bind fun t276 => ((graftageref42_Text.f k l0).bind fun t277 => (if t276.toList = t277.toList then ((todo_Check.f l0).bind fun t278 => ((graftageref42_Check.f k l0).bind fun t279 => (if t278 = t279 then ((todo_Left.f k l0).bind fun t280 => ((graftageref42_Left.f k l0).bind fun t281 => (if t280 = t281 then ((graftagelaw42_lives.f k).bind fun t282 => (some t282)) else (some false)))) else (some false)))) else (some false))))
theorem graftagelaw42_TodoTells.mono : ∀ a0 k, LeO (graftagelaw42_TodoTells.f k a0) (graftagelaw42_TodoTells.f (k + 1) a0) := by
 intro a0 k
 unfold graftagelaw42_TodoTells.f
 repeat' first
   | (with_reducible exact graftagelaw42_lives.mono _)
   | (with_reducible exact graftageref42_Check.mono _ _)
   | (with_reducible exact graftageref42_Left.mono _ _)
   | (with_reducible exact graftageref42_Text.mono _ _)
   | (with_reducible exact todo_Left.mono _ _)
   | (with_reducible exact LeO.refl _)
   | (with_reducible exact LeO.none _)
   | (with_reducible refine LeO.ite ?_ ?_)
   | (with_reducible refine LeO.bind ?_ (fun _ => ?_))
   | exact graftagelaw42_lives.mono _
   | exact graftageref42_Check.mono _ _
   | exact graftageref42_Left.mono _ _
   | exact graftageref42_Text.mono _ _
   | exact todo_Left.mono _ _
   | exact LeO.none _
   | refine LeO.ite ?_ ?_
   | refine LeO.bind ?_ (fun _ => ?_)
set_option maxHeartbeats 8000000 in
set_option maxRecDepth 100000 in
theorem graftagelaw42_TodoTells.calls (k : Nat) (A0 : Option Addr) (c0 : Nat) (l0 : List (S34)) (r : Bool) (w : World) (hr0 : Kd.C k34 w A0 l0.length l0) (hc0 : l0.length ≤ c0) (hWd : Wds w) (h : graftagelaw42_TodoTells.f k l0 = some r) (hr : r = true) :
  Calls Tryd.prog 6 #[.slice A0 l0.length c0] w fun e w' => e = .returned (.bool r) ∧ Below w.heap.size w w' := by
 have HR0 := Aside0.mk hr0
 have HC0 := Aside0.mk hc0
 clear hr0 hc0
 have HB := Aside0.mk (Below.refl w.heap.size w)
 have H : (if (l0.length : Int) > 300 then ((graftagelaw42_lives.f k).bind fun t275 => (some t275)) else ((todo_Text.f l0).bind fun t276 => ((graftageref42_Text.f k l0).bind fun t277 => (if t276.toList = t277.toList then ((todo_Check.f l0).bind fun t278 => ((graftageref42_Check.f k l0).bind fun t279 => (if t278 = t279 then ((todo_Left.f k l0).bind fun t280 => ((graftageref42_Left.f k l0).bind fun t281 => (if t280 = t281 then ((graftagelaw42_lives.f k).bind fun t282 => (some t282)) else (some false)))) else (some false)))) else (some false))))) = some r := h
 clear h
 by_cases c2 : (l0.length : Int) > 300
 ·rw [if_pos c2] at H
  have c2b0 : decide (300 < (l0.length : Int)) = true := decide_eq_true c2
  have c2b1 : decide (300 < l0.length) = true := decide_eq_true (by omega)
  clear c2
  replace H := Option.bind_eq_some_iff.mp H
  obtain ⟨t275, A30, H⟩ := H
  replace H : (some t275) = some r := H
  have A3 := Aside0.mk A30
  clear A30
  obtain rfl := Option.some.inj H
  go_enter Tryd.func6, Tryd.ntmps6
  go_wp2_with (first | ((with_reducible refine gate_callee (f := 8) rfl ?_); refine goesL_ (some 6) rfl rfl Tryd.func8 (by kernel_rfl) rfl #[] rfl (by (try simp only [List.map_toArray, List.map_cons, List.map_nil]); first | done | rfl | (simp only [List.length_drop, List.length_take]; rfl)) ?_; (with_reducible refine (graftagelaw42_lives.calls k  t275 _ (hWd.below (by repeat (first | (with_reducible first | exact HB.out | apply below_alloc | apply pw_below_drewN | apply below_drew1) | exact HB.out))) A3.out).mono ?_); rintro e w4 ⟨rfl, hb⟩; refine ⟨_, rfl, ?_⟩; have n0_ := Aside0.mk (below_step (by repeat (first | (with_reducible first | exact HB.out | apply below_alloc | apply pw_below_drewN | apply below_drew1) | exact HB.out)) hb); clear HB; have HB := n0_; clear n0_; (try clear hb); (try clear hb2); (try clear hk); (try clear hi)))
  go_ret
  exact ⟨by first | rfl | (simp [errW_none, errW_some] <;> rfl) | (simp [*, errW_none, errW_some] <;> rfl), by repeat (first | (with_reducible first | exact HB.out | apply below_alloc | apply pw_below_drewN | apply below_drew1) | exact HB.out)⟩
 ·rw [if_neg c2] at H
  have c2b0 : decide (300 < (l0.length : Int)) = false := decide_eq_false c2
  have c2b1 : decide (300 < l0.length) = false := decide_eq_false (by omega)
  clear c2
  replace H := Option.bind_eq_some_iff.mp H
  obtain ⟨t276, A50, H⟩ := H
  replace H : ((graftageref42_Text.f k l0).bind fun t277 => (if t276.toList = t277.toList then ((todo_Check.f l0).bind fun t278 => ((graftageref42_Check.f k l0).bind fun t279 => (if t278 = t279 then ((todo_Left.f k l0).bind fun t280 => ((graftageref42_Left.f k l0).bind fun t281 => (if t280 = t281 then ((graftagelaw42_lives.f k).bind fun t282 => (some t282)) else (some false)))) else (some false)))) else (some false))) = some r := H
  have A5 := Aside0.mk A50
  clear A50
  replace H := Option.bind_eq_some_iff.mp H
  obtain ⟨t277, A60, H⟩ := H
  replace H : (if t276.toList = t277.toList then ((todo_Check.f l0).bind fun t278 => ((graftageref42_Check.f k l0).bind fun t279 => (if t278 = t279 then ((todo_Left.f k l0).bind fun t280 => ((graftageref42_Left.f k l0).bind fun t281 => (if t280 = t281 then ((graftagelaw42_lives.f k).bind fun t282 => (some t282)) else (some false)))) else (some false)))) else (some false)) = some r := H
  have A6 := Aside0.mk A60
  clear A60
  by_cases c7 : t276.toList = t277.toList
  ·rw [if_pos c7] at H
   have c7b0 : (t276.toList == t277.toList) = true := beq_iff_eq.mpr c7
   have c7b1 : (t276.toList != t277.toList) = false := bne_eq_false_iff_eq.mpr c7
   clear c7
   replace H := Option.bind_eq_some_iff.mp H
   obtain ⟨t278, A80, H⟩ := H
   replace H : ((graftageref42_Check.f k l0).bind fun t279 => (if t278 = t279 then ((todo_Left.f k l0).bind fun t280 => ((graftageref42_Left.f k l0).bind fun t281 => (if t280 = t281 then ((graftagelaw42_lives.f k).bind fun t282 => (some t282)) else (some false)))) else (some false))) = some r := H
   have A8 := Aside0.mk A80
   clear A80
   replace H := Option.bind_eq_some_iff.mp H
   obtain ⟨t279, A90, H⟩ := H
   replace H : (if t278 = t279 then ((todo_Left.f k l0).bind fun t280 => ((graftageref42_Left.f k l0).bind fun t281 => (if t280 = t281 then ((graftagelaw42_lives.f k).bind fun t282 => (some t282)) else (some false)))) else (some false)) = some r := H
   have A9 := Aside0.mk A90
   clear A90
   by_cases c10 : t278 = t279
   ·rw [if_pos c10] at H
    have c10b0 : (t278 == t279) = true := beq_iff_eq.mpr c10
    have c10b1 : (t278 != t279) = false := bne_eq_false_iff_eq.mpr c10
    clear c10
    replace H := Option.bind_eq_some_iff.mp H
    obtain ⟨t280, A110, H⟩ := H
    replace H : ((graftageref42_Left.f k l0).bind fun t281 => (if t280 = t281 then ((graftagelaw42_lives.f k).bind fun t282 => (some t282)) else (some false))) = some r := H
    have A11 := Aside0.mk A110
    clear A110
    replace H := Option.bind_eq_some_iff.mp H
    obtain ⟨t281, A120, H⟩ := H
    replace H : (if t280 = t281 then ((graftagelaw42_lives.f k).bind fun t282 => (some t282)) else (some false)) = some r := H
    have A12 := Aside0.mk A120
    clear A120
    by_cases c13 : t280 = t281
    ·rw [if_pos c13] at H
     have c13b0 : (t280 == t281) = true := beq_iff_eq.mpr c13
     have c13b1 : (t280 != t281) = false := bne_eq_false_iff_eq.mpr c13
     clear c13
     replace H := Option.bind_eq_some_iff.mp H
     obtain ⟨t282, A140, H⟩ := H
     replace H : (some t282) = some r := H
     have A14 := Aside0.mk A140
     clear A140
     obtain rfl := Option.some.inj H
     go_enter Tryd.func6, Tryd.ntmps6
     go_wp2_with (first | ((with_reducible refine gate_callee (f := 16) rfl ?_); refine goesL_ (some 8) rfl rfl Tryd.func16 (by kernel_rfl) rfl #[.slice A0 l0.length c0] rfl (by (try simp only [List.map_toArray, List.map_cons, List.map_nil]); first | done | rfl | (simp only [List.length_drop, List.length_take]; rfl)) ?_; (with_reducible refine (todo_Text.calls _ _ l0 t276 _ ?side1 ?side2 (hWd.below (by repeat (first | (with_reducible first | exact HB.out | apply below_alloc | apply pw_below_drewN | apply below_drew1) | exact HB.out))) A5.out).mono ?_); (case side1 => repeat (first | exact HR0.out | (with_reducible refine Kd.C_alloc ?_ _) | (with_reducible refine Kd.C_drewN ?_ _) | (with_reducible refine Kd.C_drew ?_))); (case side2 => exact HC0.out); rintro e w15 ⟨rfl, hb⟩; refine ⟨_, rfl, ?_⟩; have n0_ := Aside0.mk (below_step (by repeat (first | (with_reducible first | exact HB.out | apply below_alloc | apply pw_below_drewN | apply below_drew1) | exact HB.out)) hb); clear HB; have HB := n0_; clear n0_; (try clear hb); (try clear hb2); (try clear hk); (try clear hi)) | ((with_reducible refine gate_callee (f := 17) rfl ?_); refine goesL_ (some 10) rfl rfl Tryd.func17 (by kernel_rfl) rfl #[.slice A0 l0.length c0] rfl (by (try simp only [List.map_toArray, List.map_cons, List.map_nil]); first | done | rfl | (simp only [List.length_drop, List.length_take]; rfl)) ?_; (with_reducible refine (graftageref42_Text.calls k _ _ l0 t277 _ ?side1 ?side2 A6.out).mono ?_); (case side1 => repeat (first | exact (Kd.C_below HR0.out HB.out) | (with_reducible refine Kd.C_alloc ?_ _) | (with_reducible refine Kd.C_drewN ?_ _) | (with_reducible refine Kd.C_drew ?_))); (case side2 => exact HC0.out); rintro e w16 ⟨rfl, hb⟩; refine ⟨_, rfl, ?_⟩; have n0_ := Aside0.mk (below_step (by repeat (first | (with_reducible first | exact HB.out | apply below_alloc | apply pw_below_drewN | apply below_drew1) | exact HB.out)) hb); clear HB; have HB := n0_; clear n0_; (try clear hb); (try clear hb2); (try clear hk); (try clear hi)) | (go_at_call 14; (with_reducible refine (todo_Check.calls _ _ l0 t278 _ ?side1 ?side2 A8.out).mono ?_); (case side1 => repeat (first | exact (Kd.C_below HR0.out HB.out) | (with_reducible refine Kd.C_alloc ?_ _) | (with_reducible refine Kd.C_drewN ?_ _) | (with_reducible refine Kd.C_drew ?_))); (case side2 => exact HC0.out); rintro e w17 ⟨rfl, hb⟩; have n0_ := Aside0.mk (below_step (by repeat (first | (with_reducible first | exact HB.out | apply below_alloc | apply pw_below_drewN | apply below_drew1) | exact HB.out)) hb); clear HB; have HB := n0_; clear n0_; (try clear hb); (try clear hb2); (try clear hk); (try clear hi)) | (go_at_call 18; (with_reducible refine (graftageref42_Check.calls k _ _ l0 t279 _ ?side1 ?side2 A9.out).mono ?_); (case side1 => repeat (first | exact (Kd.C_below HR0.out HB.out) | (with_reducible refine Kd.C_alloc ?_ _) | (with_reducible refine Kd.C_drewN ?_ _) | (with_reducible refine Kd.C_drew ?_))); (case side2 => exact HC0.out); rintro e w18 ⟨rfl, hb⟩; have n0_ := Aside0.mk (below_step (by repeat (first | (with_reducible first | exact HB.out | apply below_alloc | apply pw_below_drewN | apply below_drew1) | exact HB.out)) hb); clear HB; have HB := n0_; clear n0_; (try clear hb); (try clear hb2); (try clear hk); (try clear hi)) | (go_at_call 19; (with_reducible refine (todo_Left.calls k _ _ l0 t280 _ ?side1 ?side2 A11.out).mono ?_); (case side1 => repeat (first | exact (Kd.C_below HR0.out HB.out) | (with_reducible refine Kd.C_alloc ?_ _) | (with_reducible refine Kd.C_drewN ?_ _) | (with_reducible refine Kd.C_drew ?_))); (case side2 => exact HC0.out); rintro e w19 ⟨rfl, hb⟩; have n0_ := Aside0.mk (below_step (by repeat (first | (with_reducible first | exact HB.out | apply below_alloc | apply pw_below_drewN | apply below_drew1) | exact HB.out)) hb); clear HB; have HB := n0_; clear n0_; (try clear hb); (try clear hb2); (try clear hk); (try clear hi)) | (go_at_call 20; (with_reducible refine (graftageref42_Left.calls k _ _ l0 t281 _ ?side1 ?side2 A12.out).mono ?_); (case side1 => repeat (first | exact (Kd.C_below HR0.out HB.out) | (with_reducible refine Kd.C_alloc ?_ _) | (with_reducible refine Kd.C_drewN ?_ _) | (with_reducible refine Kd.C_drew ?_))); (case side2 => exact HC0.out); rintro e w' ⟨rfl, ⟨nd, rfl⟩⟩) | (go_at_call 8; (with_reducible refine (graftagelaw42_lives.calls k  t282 _ (hWd.below (by repeat (first | (with_reducible first | exact HB.out | apply below_alloc | apply pw_below_drewN | apply below_drew1) | exact HB.out))) A14.out).mono ?_); rintro e w20 ⟨rfl, hb⟩; have n0_ := Aside0.mk (below_step (by repeat (first | (with_reducible first | exact HB.out | apply below_alloc | apply pw_below_drewN | apply below_drew1) | exact HB.out)) hb); clear HB; have HB := n0_; clear n0_; (try clear hb); (try clear hb2); (try clear hk); (try clear hi)))
     go_ret
     exact ⟨by first | rfl | (simp [errW_none, errW_some] <;> rfl) | (simp [*, errW_none, errW_some] <;> rfl), by repeat (first | (with_reducible first | exact HB.out | apply below_alloc | apply pw_below_drewN | apply below_drew1) | exact HB.out)⟩
    ·rw [if_neg c13] at H
     have c13b0 : (t280 == t281) = false := beq_eq_false_iff_ne.mpr c13
     have c13b1 : (t280 != t281) = true := bne_iff_ne.mpr c13
     exact absurd (H.trans (congrArg some hr)) (by decide)
   ·rw [if_neg c10] at H
    have c10b0 : (t278 == t279) = false := beq_eq_false_iff_ne.mpr c10
    have c10b1 : (t278 != t279) = true := bne_iff_ne.mpr c10
    exact absurd (H.trans (congrArg some hr)) (by decide)
  ·rw [if_neg c7] at H
   have c7b0 : (t276.toList == t277.toList) = false := beq_eq_false_iff_ne.mpr c7
   have c7b1 : (t276.toList != t277.toList) = true := bne_iff_ne.mpr c7
   exact absurd (H.trans (congrArg some hr)) (by decide)

/-! ### graftagelaw42_TodoBack: function 7 -/
def graftagelaw42_TodoBack.j0 : Nat → List (S34) → Bool → Option (Bool)
 | 0, _, _ => none
 | k + 1, x0, x13 => if x13 = true then (if (x0.length : Int) > 300 then ((graftagelaw42_lives.f k).bind fun t284 => (some t284)) else ((todo_Text.f x0).bind fun t285 => (if t285.toList = ([] : List UInt8) then ((graftagelaw42_lives.f k).bind fun t286 => (some t286)) else (some false)))) else ((todo_Text.f x0).bind fun t287 => ((todo_Parse.f k t287).bind fun bt288 => (if bt288.2.2 = 0 then (if bt288.2.1 = 0 then ((graftageref42_Same.f k bt288.1 x0).bind fun t293 => (if t293 = true then ((graftagelaw42_lives.f k).bind fun t294 => (some t294)) else (some false))) else (some false)) else (some false))))
def graftagelaw42_TodoBack.f (k : Nat) (l0 : List (S34)) : Option (Bool) := if (l0.length : Int) > 300 then (graftagelaw42_TodoBack.j0 k l0 true) else ((todo_Check.f l0).bind fun t283 => (graftagelaw42_TodoBack.j0 k l0 (t283 != 0)))
theorem graftagelaw42_TodoBack.mono_l : ∀ k, (∀ y0 y1, LeO (graftagelaw42_TodoBack.j0 k y0 y1) (graftagelaw42_TodoBack.j0 (k + 1) y0 y1))
 | 0 => fun _ _ r h => by simp [graftagelaw42_TodoBack.j0] at h
 | k + 1 => by
  have ih0 := graftagelaw42_TodoBack.mono_l k
  ·intro y0 y1
   unfold graftagelaw42_TodoBack.j0
   repeat' first
   | (with_reducible exact ih0 _ _)
   | (with_reducible exact graftagelaw42_lives.mono _)
   | (with_reducible exact graftageref42_Same.mono _ _ _)
   | (with_reducible exact todo_Parse.mono _ _)
   | (with_reducible exact LeO.refl _)
   | (with_reducible exact LeO.none _)
   | (with_reducible refine LeO.ite ?_ ?_)
   | (with_reducible refine LeO.bind ?_ (fun _ => ?_))
   | exact ih0 _ _
   | exact graftagelaw42_lives.mono _
   | exact graftageref42_Same.mono _ _ _
   | exact todo_Parse.mono _ _
   | exact LeO.none _
   | refine LeO.ite ?_ ?_
   | refine LeO.bind ?_ (fun _ => ?_)
theorem graftagelaw42_TodoBack.mono : ∀ a0 k, LeO (graftagelaw42_TodoBack.f k a0) (graftagelaw42_TodoBack.f (k + 1) a0) := by
 intro a0 k
 have ih0 := graftagelaw42_TodoBack.mono_l k
 unfold graftagelaw42_TodoBack.f
 repeat' first
   | (with_reducible exact ih0 _ _)
   | (with_reducible exact graftagelaw42_lives.mono _)
   | (with_reducible exact graftageref42_Same.mono _ _ _)
   | (with_reducible exact todo_Parse.mono _ _)
   | (with_reducible exact LeO.refl _)
   | (with_reducible exact LeO.none _)
   | (with_reducible refine LeO.ite ?_ ?_)
   | (with_reducible refine LeO.bind ?_ (fun _ => ?_))
   | exact ih0 _ _
   | exact graftagelaw42_lives.mono _
   | exact graftageref42_Same.mono _ _ _
   | exact todo_Parse.mono _ _
   | exact LeO.none _
   | refine LeO.ite ?_ ?_
   | refine LeO.bind ?_ (fun _ => ?_)
set_option maxHeartbeats 8000000 in
set_option maxRecDepth 100000 in
theorem graftagelaw42_TodoBack.calls (k : Nat) (A0 : Option Addr) (c0 : Nat) (l0 : List (S34)) (r : Bool) (w : World) (hr0 : Kd.C k34 w A0 l0.length l0) (hc0 : l0.length ≤ c0) (hWd : Wds w) (h : graftagelaw42_TodoBack.f k l0 = some r) (hr : r = true) :
  Calls Tryd.prog 7 #[.slice A0 l0.length c0] w fun e w' => e = .returned (.bool r) ∧ Below w.heap.size w w' := by
 have HR0 := Aside0.mk hr0
 have HC0 := Aside0.mk hc0
 clear hr0 hc0
 have HB := Aside0.mk (Below.refl w.heap.size w)
 have H : (if (l0.length : Int) > 300 then (graftagelaw42_TodoBack.j0 k l0 true) else ((todo_Check.f l0).bind fun t283 => (graftagelaw42_TodoBack.j0 k l0 (t283 != 0)))) = some r := h
 clear h
 have HC2 := Aside0.mk H
 clear H
 go_enter Tryd.func7, Tryd.ntmps7
 go_upto_region 1 with (fail)
 go_cut [13] (fun v13 wc => ∃ (kq : Nat) (x13_1 : Bool), v13 = .bool x13_1 ∧ Aside0 (graftagelaw42_TodoBack.j0 kq l0 x13_1 = some r) ∧ Aside0 (kq ≤ k) ∧ Aside0 (Below w.heap.size w wc))
 case first =>
  have H := HC2.out
  clear HC2
  by_cases c3 : (l0.length : Int) > 300
  ·rw [if_pos c3] at H
   have c3b0 : decide (300 < (l0.length : Int)) = true := decide_eq_true c3
   have c3b1 : decide (300 < l0.length) = true := decide_eq_true (by omega)
   clear c3
   (first | rw [c3b0] | (simp only [i64_w, i32_w]; rw [c3b0]) | skip)
   have H' := Aside0.mk H
   clear H
   go_wp2
   go_meet
   case rel => exact ⟨_, (true), (by first | rfl | (simp; done) | (simp [*]; done)), H', ⟨by first | omega | exact Nat.le_refl _⟩, ⟨by repeat (first | (with_reducible first | exact HB.out | apply below_alloc | apply pw_below_drewN | apply below_drew1) | exact HB.out)⟩⟩
  ·rw [if_neg c3] at H
   have c3b0 : decide (300 < (l0.length : Int)) = false := decide_eq_false c3
   have c3b1 : decide (300 < l0.length) = false := decide_eq_false (by omega)
   clear c3
   (first | rw [c3b0] | (simp only [i64_w, i32_w]; rw [c3b0]) | skip)
   replace H := Option.bind_eq_some_iff.mp H
   obtain ⟨t283, A40, H⟩ := H
   replace H : (graftagelaw42_TodoBack.j0 k l0 (t283 != 0)) = some r := H
   have A4 := Aside0.mk A40
   clear A40
   have H' := Aside0.mk H
   clear H
   go_wp2_with (first | (go_at_call 14; (with_reducible refine (todo_Check.calls _ _ l0 t283 _ ?side1 ?side2 A4.out).mono ?_); (case side1 => repeat (first | exact (Kd.C_below HR0.out HB.out) | (with_reducible refine Kd.C_alloc ?_ _) | (with_reducible refine Kd.C_drewN ?_ _) | (with_reducible refine Kd.C_drew ?_))); (case side2 => exact HC0.out); rintro e w5 ⟨rfl, hb⟩; have n0_ := Aside0.mk (below_step (by repeat (first | (with_reducible first | exact HB.out | apply below_alloc | apply pw_below_drewN | apply below_drew1) | exact HB.out)) hb); clear HB; have HB := n0_; clear n0_; (try clear hb); (try clear hb2); (try clear hk); (try clear hi)))
   go_meet
   case rel => exact ⟨_, ((t283 != 0)), (by first | rfl | (simp; done) | (simp [*]; done)), H', ⟨by first | omega | exact Nat.le_refl _⟩, ⟨by repeat (first | (with_reducible first | exact HB.out | apply below_alloc | apply pw_below_drewN | apply below_drew1) | exact HB.out)⟩⟩
 case rest =>
  clear HC2
  try clear p2
  try clear c3
  try clear c3b0
  try clear c3b1
  obtain ⟨kq, x13_1, rfl, HA, HJ1, HB⟩ := hcut
  cases kq with
  | zero => exact absurd HA.out (by simp [graftagelaw42_TodoBack.j0])
  | succ kj1 =>
   have H := HA.out
   clear HA
   simp only [graftagelaw42_TodoBack.j0] at H
   by_cases c6 : x13_1 = true
   ·subst c6
    have H1 : (if (l0.length : Int) > 300 then ((graftagelaw42_lives.f kj1).bind fun t284 => (some t284)) else ((todo_Text.f l0).bind fun t285 => (if t285.toList = ([] : List UInt8) then ((graftagelaw42_lives.f kj1).bind fun t286 => (some t286)) else (some false)))) = some r := by rw [if_pos rfl] at H; exact H
    clear H
    have H := H1
    clear H1
    by_cases c7 : (l0.length : Int) > 300
    ·rw [if_pos c7] at H
     have c7b0 : decide (300 < (l0.length : Int)) = true := decide_eq_true c7
     have c7b1 : decide (300 < l0.length) = true := decide_eq_true (by omega)
     clear c7
     replace H := Option.bind_eq_some_iff.mp H
     obtain ⟨t284, A80, H⟩ := H
     replace H : (some t284) = some r := H
     have A8 := Aside0.mk A80
     clear A80
     obtain rfl := Option.some.inj H
     go_wp2_with (first | (go_at_call 8; (with_reducible refine (graftagelaw42_lives.calls kj1  t284 _ (hWd.below (by repeat (first | (with_reducible first | exact HB.out | apply below_alloc | apply pw_below_drewN | apply below_drew1) | exact HB.out))) A8.out).mono ?_); rintro e w9 ⟨rfl, hb⟩; have n0_ := Aside0.mk (below_step (by repeat (first | (with_reducible first | exact HB.out | apply below_alloc | apply pw_below_drewN | apply below_drew1) | exact HB.out)) hb); clear HB; have HB := n0_; clear n0_; (try clear hb); (try clear hb2); (try clear hk); (try clear hi)))
     go_ret
     exact ⟨by first | rfl | (simp [errW_none, errW_some] <;> rfl) | (simp [*, errW_none, errW_some] <;> rfl), by repeat (first | (with_reducible first | exact HB.out | apply below_alloc | apply pw_below_drewN | apply below_drew1) | exact HB.out)⟩
    ·rw [if_neg c7] at H
     have c7b0 : decide (300 < (l0.length : Int)) = false := decide_eq_false c7
     have c7b1 : decide (300 < l0.length) = false := decide_eq_false (by omega)
     clear c7
     replace H := Option.bind_eq_some_iff.mp H
     obtain ⟨t285, A100, H⟩ := H
     replace H : (if t285.toList = ([] : List UInt8) then ((graftagelaw42_lives.f kj1).bind fun t286 => (some t286)) else (some false)) = some r := H
     have A10 := Aside0.mk A100
     clear A100
     by_cases c11 : t285.toList = ([] : List UInt8)
     ·rw [if_pos c11] at H
      have c11b0 : (t285.toList == ([] : List UInt8)) = true := beq_iff_eq.mpr c11
      have c11b1 : (t285.toList != ([] : List UInt8)) = false := bne_eq_false_iff_eq.mpr c11
      clear c11
      replace H := Option.bind_eq_some_iff.mp H
      obtain ⟨t286, A120, H⟩ := H
      replace H : (some t286) = some r := H
      have A12 := Aside0.mk A120
      clear A120
      obtain rfl := Option.some.inj H
      go_wp2_with (first | (go_at_call 16; (with_reducible refine (todo_Text.calls _ _ l0 t285 _ ?side1 ?side2 (hWd.below (by repeat (first | (with_reducible first | exact HB.out | apply below_alloc | apply pw_below_drewN | apply below_drew1) | exact HB.out))) A10.out).mono ?_); (case side1 => repeat (first | exact (Kd.C_below HR0.out HB.out) | (with_reducible refine Kd.C_alloc ?_ _) | (with_reducible refine Kd.C_drewN ?_ _) | (with_reducible refine Kd.C_drew ?_))); (case side2 => exact HC0.out); rintro e w13 ⟨rfl, hb⟩; have n0_ := Aside0.mk (below_step (by repeat (first | (with_reducible first | exact HB.out | apply below_alloc | apply pw_below_drewN | apply below_drew1) | exact HB.out)) hb); clear HB; have HB := n0_; clear n0_; (try clear hb); (try clear hb2); (try clear hk); (try clear hi)) | (go_at_call 8; (with_reducible refine (graftagelaw42_lives.calls kj1  t286 _ (hWd.below (by repeat (first | (with_reducible first | exact HB.out | apply below_alloc | apply pw_below_drewN | apply below_drew1) | exact HB.out))) A12.out).mono ?_); rintro e w14 ⟨rfl, hb⟩; have n0_ := Aside0.mk (below_step (by repeat (first | (with_reducible first | exact HB.out | apply below_alloc | apply pw_below_drewN | apply below_drew1) | exact HB.out)) hb); clear HB; have HB := n0_; clear n0_; (try clear hb); (try clear hb2); (try clear hk); (try clear hi)))
      go_ret
      exact ⟨by first | rfl | (simp [errW_none, errW_some] <;> rfl) | (simp [*, errW_none, errW_some] <;> rfl), by repeat (first | (with_reducible first | exact HB.out | apply below_alloc | apply pw_below_drewN | apply below_drew1) | exact HB.out)⟩
     ·rw [if_neg c11] at H
      have c11b0 : (t285.toList == ([] : List UInt8)) = false := beq_eq_false_iff_ne.mpr c11
      have c11b1 : (t285.toList != ([] : List UInt8)) = true := bne_iff_ne.mpr c11
      exact absurd (H.trans (congrArg some hr)) (by decide)
   ·replace c6 := Bool.eq_false_iff.mpr c6
    subst c6
    have H1 : ((todo_Text.f l0).bind fun t287 => ((todo_Parse.f kj1 t287).bind fun bt288 => (if bt288.2.2 = 0 then (if bt288.2.1 = 0 then ((graftageref42_Same.f kj1 bt288.1 l0).bind fun t293 => (if t293 = true then ((graftagelaw42_lives.f kj1).bind fun t294 => (some t294)) else (some false))) else (some false)) else (some false)))) = some r := by rw [if_neg (show ¬ (false = true) by decide)] at H; exact H
    clear H
    have H := H1
    clear H1
    replace H := Option.bind_eq_some_iff.mp H
    obtain ⟨t287, A150, H⟩ := H
    replace H : ((todo_Parse.f kj1 t287).bind fun bt288 => (if bt288.2.2 = 0 then (if bt288.2.1 = 0 then ((graftageref42_Same.f kj1 bt288.1 l0).bind fun t293 => (if t293 = true then ((graftagelaw42_lives.f kj1).bind fun t294 => (some t294)) else (some false))) else (some false)) else (some false))) = some r := H
    have A15 := Aside0.mk A150
    clear A150
    replace H := Option.bind_eq_some_iff.mp H
    obtain ⟨⟨t288, t289, t290⟩, A160, H⟩ := H
    replace H : (if t290 = 0 then (if t289 = 0 then ((graftageref42_Same.f kj1 t288 l0).bind fun t293 => (if t293 = true then ((graftagelaw42_lives.f kj1).bind fun t294 => (some t294)) else (some false))) else (some false)) else (some false)) = some r := H
    have A16 := Aside0.mk A160
    clear A160
    by_cases c17 : t290 = 0
    ·rw [if_pos c17] at H
     have c17b0 : (t290 == 0) = true := beq_iff_eq.mpr c17
     have c17b1 : (t290 != 0) = false := bne_eq_false_iff_eq.mpr c17
     clear c17
     by_cases c18 : t289 = 0
     ·rw [if_pos c18] at H
      have c18b0 : (t289 == 0) = true := beq_iff_eq.mpr c18
      have c18b1 : (t289 != 0) = false := bne_eq_false_iff_eq.mpr c18
      clear c18
      replace H := Option.bind_eq_some_iff.mp H
      obtain ⟨t293, A190, H⟩ := H
      replace H : (if t293 = true then ((graftagelaw42_lives.f kj1).bind fun t294 => (some t294)) else (some false)) = some r := H
      have A19 := Aside0.mk A190
      clear A190
      by_cases c20 : t293 = true
      ·subst c20
       have H1 : ((graftagelaw42_lives.f kj1).bind fun t294 => (some t294)) = some r := by rw [if_pos rfl] at H; exact H
       clear H
       have H := H1
       clear H1
       replace H := Option.bind_eq_some_iff.mp H
       obtain ⟨t294, A210, H⟩ := H
       replace H : (some t294) = some r := H
       have A21 := Aside0.mk A210
       clear A210
       obtain rfl := Option.some.inj H
       go_wp2_with (first | ((with_reducible refine gate_callee (f := 16) rfl ?_); refine goesL_ (some 27) rfl rfl Tryd.func16 (by kernel_rfl) rfl #[.slice A0 l0.length c0] rfl (by (try simp only [List.map_toArray, List.map_cons, List.map_nil]); first | done | rfl | (simp only [List.length_drop, List.length_take]; rfl)) ?_; (with_reducible refine (todo_Text.calls _ _ l0 t287 _ ?side1 ?side2 (hWd.below (by repeat (first | (with_reducible first | exact HB.out | apply below_alloc | apply pw_below_drewN | apply below_drew1) | exact HB.out))) A15.out).mono ?_); (case side1 => repeat (first | exact (Kd.C_below HR0.out HB.out) | (with_reducible refine Kd.C_alloc ?_ _) | (with_reducible refine Kd.C_drewN ?_ _) | (with_reducible refine Kd.C_drew ?_))); (case side2 => exact HC0.out); rintro e w22 ⟨rfl, hb⟩; refine ⟨_, rfl, ?_⟩; have n0_ := Aside0.mk (below_step (by repeat (first | (with_reducible first | exact HB.out | apply below_alloc | apply pw_below_drewN | apply below_drew1) | exact HB.out)) hb); clear HB; have HB := n0_; clear n0_; (try clear hb); (try clear hb2); (try clear hk); (try clear hi)) | ((with_reducible refine gate_callee (f := 9) rfl ?_); refine goesL_ (some 28) rfl rfl Tryd.func9 (by kernel_rfl) rfl #[.string t287] rfl (by (try simp only [List.map_toArray, List.map_cons, List.map_nil]); first | done | rfl | (simp only [List.length_drop, List.length_take]; rfl)) ?_; (with_reducible refine (todo_Parse.calls kj1 t287 t288 t289 t290 _ (hWd.below (by repeat (first | (with_reducible first | exact HB.out | apply below_alloc | apply pw_below_drewN | apply below_drew1) | exact HB.out))) A16.out).mono ?_); rintro e w23 ⟨v291, rfl, ho0, hb⟩; refine ⟨_, rfl, ?_⟩; have n0_ := Aside0.mk (Kd.R_lower ho0 (below_size (by repeat (first | (with_reducible first | exact HB.out | apply below_alloc | apply pw_below_drewN | apply below_drew1) | exact HB.out)))); have n1_ := Aside0.mk (below_step (by repeat (first | (with_reducible first | exact HB.out | apply below_alloc | apply pw_below_drewN | apply below_drew1) | exact HB.out)) hb); clear HB; have HO292 := n0_; have HB := n1_; clear n0_ n1_; (try clear hb); (try clear hb2); (try clear hk); (try clear hi); (try clear ho0); obtain ⟨Ao24, co24, eo24⟩ := Kd.R_slice HO292.out; subst eo24) | (go_at_call 11; (with_reducible refine (graftageref42_Same.calls kj1 _ _ t288 _ _ l0 true _ ?side1 ?side2 ?side3 ?side4 A19.out).mono ?_); (case side1 => repeat (first | exact (Kd.R_reads' HO292.out).2.2 | (with_reducible refine Kd.C_alloc ?_ _) | (with_reducible refine Kd.C_drewN ?_ _) | (with_reducible refine Kd.C_drew ?_))); (case side2 => exact (Kd.R_reads' HO292.out).2.1); (case side3 => repeat (first | exact (Kd.C_below HR0.out HB.out) | (with_reducible refine Kd.C_alloc ?_ _) | (with_reducible refine Kd.C_drewN ?_ _) | (with_reducible refine Kd.C_drew ?_))); (case side4 => exact HC0.out); rintro e w' ⟨rfl, ⟨nd, rfl⟩⟩) | (go_at_call 8; (with_reducible refine (graftagelaw42_lives.calls kj1  t294 _ (hWd.below (by repeat (first | (with_reducible first | exact HB.out | apply below_alloc | apply pw_below_drewN | apply below_drew1) | exact HB.out))) A21.out).mono ?_); rintro e w25 ⟨rfl, hb⟩; have n0_ := Aside0.mk (Kd.R_below (by (with_reducible repeat (first | apply Kd.R_alloc | apply Kd.R_drewN | apply Kd.R_drew)); exact HO292.out) hb); have n1_ := Aside0.mk (below_step (by repeat (first | (with_reducible first | exact HB.out | apply below_alloc | apply pw_below_drewN | apply below_drew1) | exact HB.out)) hb); clear HO292; clear HB; have HO292 := n0_; have HB := n1_; clear n0_ n1_; (try clear hb); (try clear hb2); (try clear hk); (try clear hi)))
       go_ret
       exact ⟨by first | rfl | (simp [errW_none, errW_some] <;> rfl) | (simp [*, errW_none, errW_some] <;> rfl), by repeat (first | (with_reducible first | exact HB.out | apply below_alloc | apply pw_below_drewN | apply below_drew1) | exact HB.out)⟩
      ·replace c20 := Bool.eq_false_iff.mpr c20
       subst c20
       have H1 : (some false) = some r := by rw [if_neg (show ¬ (false = true) by decide)] at H; exact H
       clear H
       have H := H1
       clear H1
       exact absurd (H.trans (congrArg some hr)) (by decide)
     ·rw [if_neg c18] at H
      have c18b0 : (t289 == 0) = false := beq_eq_false_iff_ne.mpr c18
      have c18b1 : (t289 != 0) = true := bne_iff_ne.mpr c18
      exact absurd (H.trans (congrArg some hr)) (by decide)
    ·rw [if_neg c17] at H
     have c17b0 : (t290 == 0) = false := beq_eq_false_iff_ne.mpr c17
     have c17b1 : (t290 != 0) = true := bne_iff_ne.mpr c17
     exact absurd (H.trans (congrArg some hr)) (by decide)

end Go.Proofs.YtefnmfcgjlppaaaDoor.PTd
