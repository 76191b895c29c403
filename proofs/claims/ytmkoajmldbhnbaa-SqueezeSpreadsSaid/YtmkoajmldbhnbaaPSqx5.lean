-- Written by wip/gen/gen.py of this session out of the seat's translation.
import Derived.Test.YtmkoajmldbhnbaaPSqx0
import Derived.Test.YtmkoajmldbhnbaaPSqx3
import Derived.Test.YtmkoajmldbhnbaaPSqx4
import Derived.Test.YtmkoajmldbhnbaaSqDecF
namespace Go.Proofs.Ytmkoajmldbhnbaa.PSq
open Go.Proofs.Ytmkoajmldbhnbaa.Hand Go.RowKit Go.Proofs.YtmkoajmldbhnbaaW.PrintWords Go.Proofs.YtmkoajmldbhnbaaW.PrintLast Go.Proofs.YtmkoajmldbhnbaaW.PrintMore
attribute [local go_sem] max2_int min2_int max_two min_two max_three min_three max_four min_four   -- for this text's walks alone
set_option linter.unusedVariables false
set_option linter.unusedSimpArgs false

/-! ### graftageref03_Spread: function 13 -/
mutual
def graftageref03_Spread.j0 : Nat → ByteArray → Int → Int → Bool → Option (ByteArray × Int)
 | 0, _, _, _, _ => none
 | k + 1, x0, x6, x7, x34 => if x34 = true then (some ((⟨#[]⟩ : ByteArray), 4)) else (graftageref03_Spread.l0 k x0 x6 x7 ([] : List Int))
def graftageref03_Spread.l0 : Nat → ByteArray → Int → Int → List Int → Option (ByteArray × Int)
 | 0, _, _, _, _ => none
 | k + 1, x0, x6, x7, x9 => if (IntKind.u64.wrap ((x9.length : Int))) < x6 then ((graftageref01_Take.f k x0 x7).bind fun bt142 => (if bt142.2.2 = 0 then (if (IntKind.u64.wrap (Int.tdiv bt142.1 2)) = 0 then (graftageref03_Spread.j2 k x0 x6 bt142.2.1 x9 bt142.1 (IntKind.u64.wrap (Int.tdiv bt142.1 2)) true) else (if (Int.tmod bt142.1 2) = 1 then (if (IntKind.u64.wrap (Int.tdiv bt142.1 2)) < 4 then (graftageref03_Spread.j2 k x0 x6 bt142.2.1 x9 bt142.1 (IntKind.u64.wrap (Int.tdiv bt142.1 2)) true) else (graftageref03_Spread.j2 k x0 x6 bt142.2.1 x9 bt142.1 (IntKind.u64.wrap (Int.tdiv bt142.1 2)) (decide ((IntKind.u64.wrap (Int.tdiv bt142.1 2)) > (IntKind.u64.wrap (x6 - (IntKind.u64.wrap ((x9.length : Int))))))))) else (graftageref03_Spread.j2 k x0 x6 bt142.2.1 x9 bt142.1 (IntKind.u64.wrap (Int.tdiv bt142.1 2)) (decide ((IntKind.u64.wrap (Int.tdiv bt142.1 2)) > (IntKind.u64.wrap (x6 - (IntKind.u64.wrap ((x9.length : Int)))))))))) else (some ((⟨#[]⟩ : ByteArray), bt142.2.2)))) else (if x7 < (x0.size : Int) then (some ((⟨#[]⟩ : ByteArray), 2)) else (some (strOfNums x9, 0)))
def graftageref03_Spread.j2 : Nat → ByteArray → Int → Int → List Int → Int → Int → Bool → Option (ByteArray × Int)
 | 0, _, _, _, _, _, _, _ => none
 | k + 1, x0, x6, x7, x9, x10, x13, x72 => if x72 = true then (some ((⟨#[]⟩ : ByteArray), 2)) else (if (Int.tmod x10 2) = 0 then (if x13 > (IntKind.u64.wrap (wrap64 ((x0.size : Int) - x7))) then (some ((⟨#[]⟩ : ByteArray), 3)) else (if 0 ≤ x7 then (if x7 ≤ (wrap64 (x7 + (wrap64 (x13)))) then (if (wrap64 (x7 + (wrap64 (x13)))) ≤ (x0.size : Int) then (if x9.length + (x0.extract (x7 : Int).toNat ((wrap64 (x7 + (wrap64 (x13)))) : Int).toNat).size < 140737488355328 then (graftageref03_Spread.l0 k x0 x6 (wrap64 (x7 + (wrap64 (x13)))) (x9 ++ bytesOf (x0.extract (x7 : Int).toNat ((wrap64 (x7 + (wrap64 (x13)))) : Int).toNat))) else (none)) else (none)) else (none)) else (none))) else ((graftageref01_Take.f k x0 x7).bind fun bt148 => (if bt148.2.2 = 0 then (if bt148.1 = 0 then (graftageref03_Spread.j3 k x0 x6 bt148.2.1 x9 x13 bt148.1 true) else (graftageref03_Spread.j3 k x0 x6 bt148.2.1 x9 x13 bt148.1 (decide (bt148.1 > (IntKind.u64.wrap ((x9.length : Int))))))) else (some ((⟨#[]⟩ : ByteArray), bt148.2.2)))))
def graftageref03_Spread.j3 : Nat → ByteArray → Int → Int → List Int → Int → Int → Bool → Option (ByteArray × Int)
 | 0, _, _, _, _, _, _, _ => none
 | k + 1, x0, x6, x7, x9, x13, x14, x115 => if x115 = true then (some ((⟨#[]⟩ : ByteArray), 2)) else (graftageref03_Spread.l1 k x0 x6 x7 x9 x13 x14 0)
def graftageref03_Spread.l1 : Nat → ByteArray → Int → Int → List Int → Int → Int → Int → Option (ByteArray × Int)
 | 0, _, _, _, _, _, _, _ => none
 | k + 1, x0, x6, x7, x9, x13, x14, x17 => if x17 < (wrap64 (x13)) then (if 0 ≤ (wrap64 ((x9.length : Int) - (wrap64 (x14)))) then (if (wrap64 ((x9.length : Int) - (wrap64 (x14)))) < (x9.length : Int) then (if x9.length < 140737488355328 then (graftageref03_Spread.l1 k x0 x6 x7 (x9 ++ [rd x9 (wrap64 ((x9.length : Int) - (wrap64 (x14))))]) x13 x14 (wrap64 (x17 + 1))) else (none)) else (none)) else (none)) else (graftageref03_Spread.l0 k x0 x6 x7 x9)
end
def graftageref03_Spread.f (k : Nat) (a0 : ByteArray) (a1 : Int) : Option (ByteArray × Int) := (graftageref01_Take.f k a0 0).bind fun bt139 => (if bt139.2.2 = 0 then (if a1 < 0 then (graftageref03_Spread.j0 k a0 bt139.1 bt139.2.1 true) else (graftageref03_Spread.j0 k a0 bt139.1 bt139.2.1 (decide (bt139.1 > (IntKind.u64.wrap (a1)))))) else (some ((⟨#[]⟩ : ByteArray), bt139.2.2)))
theorem graftageref03_Spread.mono_l : ∀ k, (∀ y0 y1 y2 y3, LeO (graftageref03_Spread.j0 k y0 y1 y2 y3) (graftageref03_Spread.j0 (k + 1) y0 y1 y2 y3)) ∧ (∀ y0 y1 y2 y3, LeO (graftageref03_Spread.l0 k y0 y1 y2 y3) (graftageref03_Spread.l0 (k + 1) y0 y1 y2 y3)) ∧ (∀ y0 y1 y2 y3 y4 y5 y6, LeO (graftageref03_Spread.j2 k y0 y1 y2 y3 y4 y5 y6) (graftageref03_Spread.j2 (k + 1) y0 y1 y2 y3 y4 y5 y6)) ∧ (∀ y0 y1 y2 y3 y4 y5 y6, LeO (graftageref03_Spread.j3 k y0 y1 y2 y3 y4 y5 y6) (graftageref03_Spread.j3 (k + 1) y0 y1 y2 y3 y4 y5 y6)) ∧ (∀ y0 y1 y2 y3 y4 y5 y6, LeO (graftageref03_Spread.l1 k y0 y1 y2 y3 y4 y5 y6) (graftageref03_Spread.l1 (k + 1) y0 y1 y2 y3 y4 y5 y6))
 | 0 => ⟨fun _ _ _ _ r h => by simp [graftageref03_Spread.j0] at h, fun _ _ _ _ r h => by simp [graftageref03_Spread.l0] at h, fun _ _ _ _ _ _ _ r h => by simp [graftageref03_Spread.j2] at h, fun _ _ _ _ _ _ _ r h => by simp [graftageref03_Spread.j3] at h, fun _ _ _ _ _ _ _ r h => by simp [graftageref03_Spread.l1] at h⟩
 | k + 1 => by
  obtain ⟨ih0, ih1, ih2, ih3, ih4⟩ := graftageref03_Spread.mono_l k
  refine ⟨?_, ?_, ?_, ?_, ?_⟩
  ·intro y0 y1 y2 y3
   unfold graftageref03_Spread.j0
   repeat' first
   | (with_reducible exact ih0 _ _ _ _)
   | (with_reducible exact ih1 _ _ _ _)
   | (with_reducible exact ih2 _ _ _ _ _ _ _)
   | (with_reducible exact ih3 _ _ _ _ _ _ _)
   | (with_reducible exact ih4 _ _ _ _ _ _ _)
   | (with_reducible exact graftageref01_Take.mono _ _ _)
   | (with_reducible exact LeO.refl _)
   | (with_reducible exact LeO.none _)
   | (with_reducible refine LeO.ite ?_ ?_)
   | (with_reducible refine LeO.bind ?_ (fun _ => ?_))
   | exact ih0 _ _ _ _
   | exact ih1 _ _ _ _
   | exact ih2 _ _ _ _ _ _ _
   | exact ih3 _ _ _ _ _ _ _
   | exact ih4 _ _ _ _ _ _ _
   | exact graftageref01_Take.mono _ _ _
   | exact LeO.none _
   | refine LeO.ite ?_ ?_
   | refine LeO.bind ?_ (fun _ => ?_)
  ·intro y0 y1 y2 y3
   unfold graftageref03_Spread.l0
   repeat' first
   | (with_reducible exact ih0 _ _ _ _)
   | (with_reducible exact ih1 _ _ _ _)
   | (with_reducible exact ih2 _ _ _ _ _ _ _)
   | (with_reducible exact ih3 _ _ _ _ _ _ _)
   | (with_reducible exact ih4 _ _ _ _ _ _ _)
   | (with_reducible exact graftageref01_Take.mono _ _ _)
   | (with_reducible exact LeO.refl _)
   | (with_reducible exact LeO.none _)
   | (with_reducible refine LeO.ite ?_ ?_)
   | (with_reducible refine LeO.bind ?_ (fun _ => ?_))
   | exact ih0 _ _ _ _
   | exact ih1 _ _ _ _
   | exact ih2 _ _ _ _ _ _ _
   | exact ih3 _ _ _ _ _ _ _
   | exact ih4 _ _ _ _ _ _ _
   | exact graftageref01_Take.mono _ _ _
   | exact LeO.none _
   | refine LeO.ite ?_ ?_
   | refine LeO.bind ?_ (fun _ => ?_)
  ·intro y0 y1 y2 y3 y4 y5 y6
   unfold graftageref03_Spread.j2
   repeat' first
   | (with_reducible exact ih0 _ _ _ _)
   | (with_reducible exact ih1 _ _ _ _)
   | (with_reducible exact ih2 _ _ _ _ _ _ _)
   | (with_reducible exact ih3 _ _ _ _ _ _ _)
   | (with_reducible exact ih4 _ _ _ _ _ _ _)
   | (with_reducible exact graftageref01_Take.mono _ _ _)
   | (with_reducible exact LeO.refl _)
   | (with_reducible exact LeO.none _)
   | (with_reducible refine LeO.ite ?_ ?_)
   | (with_reducible refine LeO.bind ?_ (fun _ => ?_))
   | exact ih0 _ _ _ _
   | exact ih1 _ _ _ _
   | exact ih2 _ _ _ _ _ _ _
   | exact ih3 _ _ _ _ _ _ _
   | exact ih4 _ _ _ _ _ _ _
   | exact graftageref01_Take.mono _ _ _
   | exact LeO.none _
   | refine LeO.ite ?_ ?_
   | refine LeO.bind ?_ (fun _ => ?_)
  ·intro y0 y1 y2 y3 y4 y5 y6
   unfold graftageref03_Spread.j3
   repeat' first
   | (with_reducible exact ih0 _ _ _ _)
   | (with_reducible exact ih1 _ _ _ _)
   | (with_reducible exact ih2 _ _ _ _ _ _ _)
   | (with_reducible exact ih3 _ _ _ _ _ _ _)
   | (with_reducible exact ih4 _ _ _ _ _ _ _)
   | (with_reducible exact graftageref01_Take.mono _ _ _)
   | (with_reducible exact LeO.refl _)
   | (with_reducible exact LeO.none _)
   | (with_reducible refine LeO.ite ?_ ?_)
   | (with_reducible refine LeO.bind ?_ (fun _ => ?_))
   | exact ih0 _ _ _ _
   | exact ih1 _ _ _ _
   | exact ih2 _ _ _ _ _ _ _
   | exact ih3 _ _ _ _ _ _ _
   | exact ih4 _ _ _ _ _ _ _
   | exact graftageref01_Take.mono _ _ _
   | exact LeO.none _
   | refine LeO.ite ?_ ?_
   | refine LeO.bind ?_ (fun _ => ?_)
  ·intro y0 y1 y2 y3 y4 y5 y6
   unfold graftageref03_Spread.l1
   repeat' first
   | (with_reducible exact ih0 _ _ _ _)
   | (with_reducible exact ih1 _ _ _ _)
   | (with_reducible exact ih2 _ _ _ _ _ _ _)
   | (with_reducible exact ih3 _ _ _ _ _ _ _)
   | (with_reducible exact ih4 _ _ _ _ _ _ _)
   | (with_reducible exact graftageref01_Take.mono _ _ _)
   | (with_reducible exact LeO.refl _)
   | (with_reducible exact LeO.none _)
   | (with_reducible refine LeO.ite ?_ ?_)
   | (with_reducible refine LeO.bind ?_ (fun _ => ?_))
   | exact ih0 _ _ _ _
   | exact ih1 _ _ _ _
   | exact ih2 _ _ _ _ _ _ _
   | exact ih3 _ _ _ _ _ _ _
   | exact ih4 _ _ _ _ _ _ _
   | exact graftageref01_Take.mono _ _ _
   | exact LeO.none _
   | refine LeO.ite ?_ ?_
   | refine LeO.bind ?_ (fun _ => ?_)
theorem graftageref03_Spread.mono : ∀ a0 a1 k, LeO (graftageref03_Spread.f k a0 a1) (graftageref03_Spread.f (k + 1) a0 a1) := by
 intro a0 a1 k
 obtain ⟨ih0, ih1, ih2, ih3, ih4⟩ := graftageref03_Spread.mono_l k
 unfold graftageref03_Spread.f
 repeat' first
   | (with_reducible exact ih0 _ _ _ _)
   | (with_reducible exact ih1 _ _ _ _)
   | (with_reducible exact ih2 _ _ _ _ _ _ _)
   | (with_reducible exact ih3 _ _ _ _ _ _ _)
   | (with_reducible exact ih4 _ _ _ _ _ _ _)
   | (with_reducible exact graftageref01_Take.mono _ _ _)
   | (with_reducible exact LeO.refl _)
   | (with_reducible exact LeO.none _)
   | (with_reducible refine LeO.ite ?_ ?_)
   | (with_reducible refine LeO.bind ?_ (fun _ => ?_))
   | exact ih0 _ _ _ _
   | exact ih1 _ _ _ _
   | exact ih2 _ _ _ _ _ _ _
   | exact ih3 _ _ _ _ _ _ _
   | exact ih4 _ _ _ _ _ _ _
   | exact graftageref01_Take.mono _ _ _
   | exact LeO.none _
   | refine LeO.ite ?_ ?_
   | refine LeO.bind ?_ (fun _ => ?_)
set_option maxHeartbeats 8000000 in
set_option maxRecDepth 100000 in
theorem graftageref03_Spread.calls (k : Nat) (a0 : ByteArray) (a1 : Int) (r1 : ByteArray) (r2 : Int) (w : World) (h : graftageref03_Spread.f k a0 a1 = some (r1, r2)) :
  Calls Try.prog 13 #[.string a0, .int .i64 a1] w fun e w' => e = .returned (.tuple #[.string r1, .int .i64 r2]) ∧ Below w.heap.size w w' := by
 have HB := Aside0.mk (Below.refl w.heap.size w)
 have H : ((graftageref01_Take.f k a0 0).bind fun bt139 => (if bt139.2.2 = 0 then (if a1 < 0 then (graftageref03_Spread.j0 k a0 bt139.1 bt139.2.1 true) else (graftageref03_Spread.j0 k a0 bt139.1 bt139.2.1 (decide (bt139.1 > (IntKind.u64.wrap (a1)))))) else (some ((⟨#[]⟩ : ByteArray), bt139.2.2)))) = some (r1, r2) := h
 clear h
 replace H := Option.bind_eq_some_iff.mp H
 obtain ⟨⟨t139, t140, t141⟩, A30, H⟩ := H
 replace H : (if t141 = 0 then (if a1 < 0 then (graftageref03_Spread.j0 k a0 t139 t140 true) else (graftageref03_Spread.j0 k a0 t139 t140 (decide (t139 > (IntKind.u64.wrap (a1)))))) else (some ((⟨#[]⟩ : ByteArray), t141))) = some (r1, r2) := H
 have A3 := Aside0.mk A30
 clear A30
 by_cases c4 : t141 = 0
 ·rw [if_pos c4] at H
  have c4b0 : (t141 == 0) = true := beq_iff_eq.mpr c4
  have c4b1 : (t141 != 0) = false := bne_eq_false_iff_eq.mpr c4
  clear c4
  have HC5 := Aside0.mk H
  clear H
  go_enter Try.func13, Try.ntmps13
  go_upto_region 4 with (first | ((with_reducible refine gate_callee (f := 23) rfl ?_); refine goesL_ (some 20) rfl rfl Try.func23 (by kernel_rfl) rfl #[.string a0, .int .i64 0] rfl (by (try simp only [List.map_toArray, List.map_cons, List.map_nil]); first | done | rfl | (simp only [List.length_drop, List.length_take]; rfl)) ?_; (with_reducible refine (graftageref01_Take.calls k a0 0 t139 t140 t141 _ A3.out).mono ?_); rintro e w' ⟨rfl, ⟨nd, rfl⟩⟩; refine ⟨_, rfl, ?_⟩))
  (try simp only [Act.put, List.setIfInBounds_toArray, List.set_cons_zero, List.set_cons_succ])
  go_cut [34] (fun v34 wc => ∃ (kq : Nat) (x34_4 : Bool), v34 = .bool x34_4 ∧ Aside0 (graftageref03_Spread.j0 kq a0 t139 t140 x34_4 = some (r1, r2)) ∧ Aside0 (kq ≤ k) ∧ Aside0 (Below w.heap.size w wc))
  case first =>
   have H := HC5.out
   clear HC5
   by_cases c6 : a1 < 0
   ·rw [if_pos c6] at H
    have c6b0 : decide (a1 < 0) = true := decide_eq_true c6
    clear c6
    (first | rw [c6b0] | (simp only [i64_w, i32_w]; rw [c6b0]) | skip)
    have H' := Aside0.mk H
    clear H
    go_wp2
    go_meet
    case rel => exact ⟨_, (true), (by first | rfl | (simp; done) | (simp [*]; done)), H', ⟨by first | omega | exact Nat.le_refl _⟩, ⟨by repeat (first | (with_reducible first | exact HB.out | apply below_alloc | apply pw_below_drewN | apply below_drew1) | exact HB.out)⟩⟩
   ·rw [if_neg c6] at H
    have c6b0 : decide (a1 < 0) = false := decide_eq_false c6
    clear c6
    (first | rw [c6b0] | (simp only [i64_w, i32_w]; rw [c6b0]) | skip)
    have H' := Aside0.mk H
    clear H
    go_wp2
    go_meet
    case rel => exact ⟨_, (decide (t139 > (IntKind.u64.wrap (a1)))), (by first | rfl | (simp; done) | (simp [*]; done)), H', ⟨by first | omega | exact Nat.le_refl _⟩, ⟨by repeat (first | (with_reducible first | exact HB.out | apply below_alloc | apply pw_below_drewN | apply below_drew1) | exact HB.out)⟩⟩
  case rest =>
   clear HC5
   try clear c1
   try clear c2
   try clear p2
   try clear c4
   try clear c4b0
   try clear c4b1
   try clear c6
   try clear c6b0
   obtain ⟨kq, x34_4, rfl, HA, HJ4, HB⟩ := hcut
   cases kq with
   | zero => exact absurd HA.out (by simp [graftageref03_Spread.j0])
   | succ kj4 =>
    have H := HA.out
    clear HA
    simp only [graftageref03_Spread.j0] at H
    by_cases c7 : x34_4 = true
    ·subst c7
     have H1 : (some ((⟨#[]⟩ : ByteArray), 4)) = some (r1, r2) := by rw [if_pos rfl] at H; exact H
     clear H
     have H := H1
     clear H1
     simp only [Option.some.injEq, Prod.mk.injEq] at H
     obtain ⟨rfl, rfl⟩ := H
     go_wp2
     go_ret2
     exact ⟨by first | rfl | (simp [errW_none, errW_some] <;> rfl) | (simp [*, errW_none, errW_some] <;> rfl), by repeat (first | (with_reducible first | exact HB.out | apply below_alloc | apply pw_below_drewN | apply below_drew1) | exact HB.out)⟩
    ·replace c7 := Bool.eq_false_iff.mpr c7
     subst c7
     have H1 : (graftageref03_Spread.l0 kj4 a0 t139 t140 ([] : List Int)) = some (r1, r2) := by rw [if_neg (show ¬ (false = true) by decide)] at H; exact H
     clear H
     have H := H1
     clear H1
     have H' := Aside0.mk H
     clear H
     go_wp2
     go_loopg [7, 9] kj4 (fun kq v7 v9 w' => ∃ (x7_2 : Int) (x9_2 : List Int), v7 = .int .i64 x7_2 ∧ Aside0 (graftageref03_Spread.l0 kq a0 t139 x7_2 x9_2 = some (r1, r2)) ∧ Aside0 (kq ≤ kj4) ∧ Aside0 (Kd.R (Kd.int .u8) 5 w' w.heap.size (fun _ => True) v9 x9_2) ∧ Aside0 (Below w.heap.size w w'))
     case atStart => exact ⟨(t140), (([] : List Int)), (by first | rfl | (simp; done) | (simp [*]; done)), H', ⟨Nat.le_refl _⟩, ⟨by first | exact Kd.R_nil _ _ _ _ _ | exact Kd.N_nil _ _ _ _ _ | exact Kd.V_nil _ _ _ _ _ | exact Kd.Q_nil _ _ _ _ _ | exact Kd.S_nil _ _ _ _ _⟩, ⟨by repeat (first | (with_reducible first | exact HB.out | apply below_alloc | apply pw_below_drewN | apply below_drew1) | exact HB.out)⟩⟩
     case round =>
      clear H'
      try clear c1
      try clear c2
      try clear p2
      try clear c4
      try clear c4b0
      try clear c4b1
      try clear c6
      try clear c6b0
      try clear c7
      try clear p2
      obtain ⟨x7_2, x9_2, rfl, HA, HK2, HO_9, HB⟩ := hrel
      cases gk with
      | zero => exact absurd HA.out (by simp [graftageref03_Spread.l0])
      | succ k2 =>
       have H := HA.out
       clear HA
       simp only [graftageref03_Spread.l0] at H
       by_cases c8 : (IntKind.u64.wrap ((x9_2.length : Int))) < t139
       ·rw [if_pos c8] at H
        have c8b0 : decide ((IntKind.u64.wrap ((x9_2.length : Int))) < t139) = true := decide_eq_true c8
        clear c8
        replace H := Option.bind_eq_some_iff.mp H
        obtain ⟨⟨t142, t143, t144⟩, A90, H⟩ := H
        replace H : (if t144 = 0 then (if (IntKind.u64.wrap (Int.tdiv t142 2)) = 0 then (graftageref03_Spread.j2 k2 a0 t139 t143 x9_2 t142 (IntKind.u64.wrap (Int.tdiv t142 2)) true) else (if (Int.tmod t142 2) = 1 then (if (IntKind.u64.wrap (Int.tdiv t142 2)) < 4 then (graftageref03_Spread.j2 k2 a0 t139 t143 x9_2 t142 (IntKind.u64.wrap (Int.tdiv t142 2)) true) else (graftageref03_Spread.j2 k2 a0 t139 t143 x9_2 t142 (IntKind.u64.wrap (Int.tdiv t142 2)) (decide ((IntKind.u64.wrap (Int.tdiv t142 2)) > (IntKind.u64.wrap (t139 - (IntKind.u64.wrap ((x9_2.length : Int))))))))) else (graftageref03_Spread.j2 k2 a0 t139 t143 x9_2 t142 (IntKind.u64.wrap (Int.tdiv t142 2)) (decide ((IntKind.u64.wrap (Int.tdiv t142 2)) > (IntKind.u64.wrap (t139 - (IntKind.u64.wrap ((x9_2.length : Int)))))))))) else (some ((⟨#[]⟩ : ByteArray), t144))) = some (r1, r2) := H
        have A9 := Aside0.mk A90
        clear A90
        by_cases c10 : t144 = 0
        ·rw [if_pos c10] at H
         have c10b0 : (t144 == 0) = true := beq_iff_eq.mpr c10
         have c10b1 : (t144 != 0) = false := bne_eq_false_iff_eq.mpr c10
         clear c10
         have HC11 := Aside0.mk H
         clear H
         obtain ⟨Ao12, co12, eo12⟩ := Kd.R_slice HO_9.out
         subst eo12
         go_upto_region 13 with (first | ((with_reducible refine gate_callee (f := 23) rfl ?_); refine goesL_ (some 43) rfl rfl Try.func23 (by kernel_rfl) rfl #[.string a0, .int .i64 x7_2] rfl (by (try simp only [List.map_toArray, List.map_cons, List.map_nil]); first | done | rfl | (simp only [List.length_drop, List.length_take]; rfl)) ?_; (with_reducible refine (graftageref01_Take.calls k2 a0 x7_2 t142 t143 t144 _ A9.out).mono ?_); rintro e w' ⟨rfl, ⟨nd, rfl⟩⟩; refine ⟨_, rfl, ?_⟩))
         (try simp only [Act.put, List.setIfInBounds_toArray, List.set_cons_zero, List.set_cons_succ])
         go_cut [72] (fun v72 wc => ∃ (kq : Nat) (x72_10 : Bool), v72 = .bool x72_10 ∧ Aside0 (graftageref03_Spread.j2 kq a0 t139 t143 x9_2 t142 (IntKind.u64.wrap (Int.tdiv t142 2)) x72_10 = some (r1, r2)) ∧ Aside0 (kq ≤ k2) ∧ Aside0 (Kd.R (Kd.int .u8) 5 wc w.heap.size (fun _ => True) (.slice Ao12 x9_2.length co12) x9_2) ∧ Aside0 (Below w.heap.size w wc))
         case first =>
          have H := HC11.out
          clear HC11
          by_cases c13 : (IntKind.u64.wrap (Int.tdiv t142 2)) = 0
          ·rw [if_pos c13] at H
           have c13b0 : ((IntKind.u64.wrap (Int.tdiv t142 2)) == 0) = true := beq_iff_eq.mpr c13
           have c13b1 : ((IntKind.u64.wrap (Int.tdiv t142 2)) != 0) = false := bne_eq_false_iff_eq.mpr c13
           clear c13
           (first | rw [c13b0] | (simp only [i64_w, i32_w]; rw [c13b0]) | skip)
           have H' := Aside0.mk H
           clear H
           go_wp2
           go_meet
           case rel => exact ⟨_, (true), (by first | rfl | (simp; done) | (simp [*]; done)), H', ⟨by have := HJ4.out; have := HK2.out; first | omega | exact Nat.le_refl _⟩, ⟨by (with_reducible repeat (first | apply Kd.R_alloc | apply Kd.R_drewN | apply Kd.R_drew)); exact HO_9.out⟩, ⟨by repeat (first | (with_reducible first | exact HB.out | apply below_alloc | apply pw_below_drewN | apply below_drew1) | exact HB.out)⟩⟩
          ·rw [if_neg c13] at H
           have c13b0 : ((IntKind.u64.wrap (Int.tdiv t142 2)) == 0) = false := beq_eq_false_iff_ne.mpr c13
           have c13b1 : ((IntKind.u64.wrap (Int.tdiv t142 2)) != 0) = true := bne_iff_ne.mpr c13
           (first | rw [c13b0] | (simp only [i64_w, i32_w]; rw [c13b0]) | skip)
           by_cases c14 : (Int.tmod t142 2) = 1
           ·rw [if_pos c14] at H
            have c14b0 : ((Int.tmod t142 2) == 1) = true := beq_iff_eq.mpr c14
            have c14b1 : ((Int.tmod t142 2) != 1) = false := bne_eq_false_iff_eq.mpr c14
            clear c14
            by_cases c15 : (IntKind.u64.wrap (Int.tdiv t142 2)) < 4
            ·rw [if_pos c15] at H
             have c15b0 : decide ((IntKind.u64.wrap (Int.tdiv t142 2)) < 4) = true := decide_eq_true c15
             clear c15
             have H' := Aside0.mk H
             clear H
             go_wp2
             go_meet
             case rel => exact ⟨_, (true), (by first | rfl | (simp; done) | (simp [*]; done)), H', ⟨by have := HJ4.out; have := HK2.out; first | omega | exact Nat.le_refl _⟩, ⟨by (with_reducible repeat (first | apply Kd.R_alloc | apply Kd.R_drewN | apply Kd.R_drew)); exact HO_9.out⟩, ⟨by repeat (first | (with_reducible first | exact HB.out | apply below_alloc | apply pw_below_drewN | apply below_drew1) | exact HB.out)⟩⟩
            ·rw [if_neg c15] at H
             have c15b0 : decide ((IntKind.u64.wrap (Int.tdiv t142 2)) < 4) = false := decide_eq_false c15
             clear c15
             have H' := Aside0.mk H
             clear H
             go_wp2
             go_meet
             case rel => exact ⟨_, (decide ((IntKind.u64.wrap (Int.tdiv t142 2)) > (IntKind.u64.wrap (t139 - (IntKind.u64.wrap ((x9_2.length : Int))))))), (by first | rfl | (simp; done) | (simp [*]; done)), H', ⟨by have := HJ4.out; have := HK2.out; first | omega | exact Nat.le_refl _⟩, ⟨by (with_reducible repeat (first | apply Kd.R_alloc | apply Kd.R_drewN | apply Kd.R_drew)); exact HO_9.out⟩, ⟨by repeat (first | (with_reducible first | exact HB.out | apply below_alloc | apply pw_below_drewN | apply below_drew1) | exact HB.out)⟩⟩
           ·rw [if_neg c14] at H
            have c14b0 : ((Int.tmod t142 2) == 1) = false := beq_eq_false_iff_ne.mpr c14
            have c14b1 : ((Int.tmod t142 2) != 1) = true := bne_iff_ne.mpr c14
            have H' := Aside0.mk H
            clear H
            go_wp2
            go_meet
            case rel => exact ⟨_, (decide ((IntKind.u64.wrap (Int.tdiv t142 2)) > (IntKind.u64.wrap (t139 - (IntKind.u64.wrap ((x9_2.length : Int))))))), (by first | rfl | (simp; done) | (simp [*]; done)), H', ⟨by have := HJ4.out; have := HK2.out; first | omega | exact Nat.le_refl _⟩, ⟨by (with_reducible repeat (first | apply Kd.R_alloc | apply Kd.R_drewN | apply Kd.R_drew)); exact HO_9.out⟩, ⟨by repeat (first | (with_reducible first | exact HB.out | apply below_alloc | apply pw_below_drewN | apply below_drew1) | exact HB.out)⟩⟩
         case rest =>
          clear HC11
          try clear c1
          try clear c2
          try clear p2
          try clear c4
          try clear c4b0
          try clear c4b1
          try clear c6
          try clear c6b0
          try clear c7
          try clear c8
          try clear c8b0
          try clear c10
          try clear c10b0
          try clear c10b1
          try clear c13
          try clear c13b0
          try clear c13b1
          try clear c14
          try clear c14b0
          try clear c14b1
          try clear c15
          try clear c15b0
          try clear p2
          obtain ⟨kq, x72_10, rfl, HA, HJ10, HO_9, HB⟩ := hcut
          cases kq with
          | zero => exact absurd HA.out (by simp [graftageref03_Spread.j2])
          | succ kj10 =>
           have H := HA.out
           clear HA
           simp only [graftageref03_Spread.j2] at H
           by_cases c16 : x72_10 = true
           ·subst c16
            have H1 : (some ((⟨#[]⟩ : ByteArray), 2)) = some (r1, r2) := by rw [if_pos rfl] at H; exact H
            clear H
            have H := H1
            clear H1
            simp only [Option.some.injEq, Prod.mk.injEq] at H
            obtain ⟨rfl, rfl⟩ := H
            go_wp2
            go_ret2
            exact ⟨by first | rfl | (simp [errW_none, errW_some] <;> rfl) | (simp [*, errW_none, errW_some] <;> rfl), by repeat (first | (with_reducible first | exact HB.out | apply below_alloc | apply pw_below_drewN | apply below_drew1) | exact HB.out)⟩
           ·replace c16 := Bool.eq_false_iff.mpr c16
            subst c16
            have H1 : (if (Int.tmod t142 2) = 0 then (if (IntKind.u64.wrap (Int.tdiv t142 2)) > (IntKind.u64.wrap (wrap64 ((a0.size : Int) - t143))) then (some ((⟨#[]⟩ : ByteArray), 3)) else (if 0 ≤ t143 then (if t143 ≤ (wrap64 (t143 + (wrap64 ((IntKind.u64.wrap (Int.tdiv t142 2)))))) then (if (wrap64 (t143 + (wrap64 ((IntKind.u64.wrap (Int.tdiv t142 2)))))) ≤ (a0.size : Int) then (if x9_2.length + (a0.extract (t143 : Int).toNat ((wrap64 (t143 + (wrap64 ((IntKind.u64.wrap (Int.tdiv t142 2)))))) : Int).toNat).size < 140737488355328 then (graftageref03_Spread.l0 kj10 a0 t139 (wrap64 (t143 + (wrap64 ((IntKind.u64.wrap (Int.tdiv t142 2)))))) (x9_2 ++ bytesOf (a0.extract (t143 : Int).toNat ((wrap64 (t143 + (wrap64 ((IntKind.u64.wrap (Int.tdiv t142 2)))))) : Int).toNat))) else (none)) else (none)) else (none)) else (none))) else ((graftageref01_Take.f kj10 a0 t143).bind fun bt148 => (if bt148.2.2 = 0 then (if bt148.1 = 0 then (graftageref03_Spread.j3 kj10 a0 t139 bt148.2.1 x9_2 (IntKind.u64.wrap (Int.tdiv t142 2)) bt148.1 true) else (graftageref03_Spread.j3 kj10 a0 t139 bt148.2.1 x9_2 (IntKind.u64.wrap (Int.tdiv t142 2)) bt148.1 (decide (bt148.1 > (IntKind.u64.wrap ((x9_2.length : Int))))))) else (some ((⟨#[]⟩ : ByteArray), bt148.2.2))))) = some (r1, r2) := by rw [if_neg (show ¬ (false = true) by decide)] at H; exact H
            clear H
            have H := H1
            clear H1
            by_cases c17 : (Int.tmod t142 2) = 0
            ·rw [if_pos c17] at H
             have c17b0 : ((Int.tmod t142 2) == 0) = true := beq_iff_eq.mpr c17
             have c17b1 : ((Int.tmod t142 2) != 0) = false := bne_eq_false_iff_eq.mpr c17
             clear c17
             by_cases c18 : (IntKind.u64.wrap (Int.tdiv t142 2)) > (IntKind.u64.wrap (wrap64 ((a0.size : Int) - t143)))
             ·rw [if_pos c18] at H
              have c18b0 : decide ((IntKind.u64.wrap (wrap64 ((a0.size : Int) - t143))) < (IntKind.u64.wrap (Int.tdiv t142 2))) = true := decide_eq_true c18
              clear c18
              simp only [Option.some.injEq, Prod.mk.injEq] at H
              obtain ⟨rfl, rfl⟩ := H
              go_wp2
              go_ret2
              exact ⟨by first | rfl | (simp [errW_none, errW_some] <;> rfl) | (simp [*, errW_none, errW_some] <;> rfl), by repeat (first | (with_reducible first | exact HB.out | apply below_alloc | apply pw_below_drewN | apply below_drew1) | exact HB.out)⟩
             ·rw [if_neg c18] at H
              have c18b0 : decide ((IntKind.u64.wrap (wrap64 ((a0.size : Int) - t143))) < (IntKind.u64.wrap (Int.tdiv t142 2))) = false := decide_eq_false c18
              clear c18
              by_cases c19 : 0 ≤ t143
              ·rw [if_pos c19] at H
               have c19b0 := eq_true c19
               have c19b1 : decide (0 ≤ t143) = true := decide_eq_true c19
               clear c19
               by_cases c20 : t143 ≤ (wrap64 (t143 + (wrap64 ((IntKind.u64.wrap (Int.tdiv t142 2))))))
               ·rw [if_pos c20] at H
                have c20b0 := eq_true c20
                have c20b1 : decide (t143 ≤ (wrap64 (t143 + (wrap64 ((IntKind.u64.wrap (Int.tdiv t142 2))))))) = true := decide_eq_true c20
                by_cases c21 : (wrap64 (t143 + (wrap64 ((IntKind.u64.wrap (Int.tdiv t142 2)))))) ≤ (a0.size : Int)
                ·rw [if_pos c21] at H
                 have c21b0 := eq_true c21
                 have c21b1 : decide ((wrap64 (t143 + (wrap64 ((IntKind.u64.wrap (Int.tdiv t142 2)))))) ≤ (a0.size : Int)) = true := decide_eq_true c21
                 by_cases c22 : x9_2.length + (a0.extract (t143 : Int).toNat ((wrap64 (t143 + (wrap64 ((IntKind.u64.wrap (Int.tdiv t142 2)))))) : Int).toNat).size < 140737488355328
                 ·rw [if_pos c22] at H
                  have LMc22 := Aside0.mk c22
                  clear c22
                  obtain ⟨y145, hy145⟩ : ∃ y_ : List Int, y_ = (x9_2 ++ bytesOf (a0.extract (t143 : Int).toNat ((wrap64 (t143 + (wrap64 ((IntKind.u64.wrap (Int.tdiv t142 2)))))) : Int).toNat)) := ⟨_, rfl⟩
                  replace H : (graftageref03_Spread.l0 kj10 a0 t139 (wrap64 (t143 + (wrap64 ((IntKind.u64.wrap (Int.tdiv t142 2)))))) y145) = some (r1, r2) := by first | (rw [hy145]; with_reducible exact H) | (have H2_ := (Option.bind_some _ _).symm.trans H; rw [hy145]; with_reducible exact H2_) | (have H2_ := (Option.bind_some _ _).symm.trans H; with_reducible exact H2_) | with_reducible exact H | (rw [hy145]; exact H) | exact H
                  have Ny145 := Aside0.mk hy145
                  clear hy145
                  have H' := Aside0.mk H
                  clear H
                  go_wp2_with (first | (at_builtin; refine print_append_str (w0 := w) w.heap.size rfl (.tmp 83) _ 30 9 5 rfl Try.underlying30 Try.underlying9 info5 (.slice Ao12 x9_2.length co12) x9_2 (a0.extract (t143 : Int).toNat ((wrap64 (t143 + (wrap64 ((IntKind.u64.wrap (Int.tdiv t142 2)))))) : Int).toNat) rfl rfl ?aO ?aB ?aS ?aL ?_; (case aB => exact (by repeat (first | (with_reducible first | exact HB.out | apply below_alloc | apply pw_below_drewN | apply below_drew1) | exact HB.out))); (case aO => exact (Kd.own_of_R (by (with_reducible repeat (first | apply Kd.R_alloc | apply Kd.R_drewN | apply Kd.R_drew)); exact HO_9.out))); (case aS => exact (below_size (by repeat (first | (with_reducible first | exact HB.out | apply below_alloc | apply pw_below_drewN | apply below_drew1) | exact HB.out)))); (case aL => have := LMc22.out; omega); intro v146 w23 ho0 hb hg; have ho := Kd.R_of_own (h1 := fun _ => rfl) (ok := fun _ => True) ho0 (fun _ _ => trivial); clear ho0; have hat := True.intro; rw [← Ny145.out] at ho; change Kd.R (Kd.int .u8) 5 w23 w.heap.size (fun _ => True) v146 y145 at ho; have n0_ := Aside0.mk (hb); have n1_ := Aside0.mk (ho); clear HB; clear HO_9; have HB := n0_; have HO147 := n1_; clear n0_ n1_; clear ho hb hg hat))
                  go_roundg kj10
                  case measure => have := HJ4.out; have := HK2.out; have := HJ10.out; omega
                  case rel => exact ⟨(wrap64 (t143 + (wrap64 ((IntKind.u64.wrap (Int.tdiv t142 2)))))), (y145), (by first | rfl | (simp; done) | (simp [*]; done)), H', ⟨by have := HJ4.out; have := HK2.out; have := HJ10.out; omega⟩, ⟨by (with_reducible repeat (first | apply Kd.R_alloc | apply Kd.R_drewN | apply Kd.R_drew)); exact HO147.out⟩, ⟨by repeat (first | (with_reducible first | exact HB.out | apply below_alloc | apply pw_below_drewN | apply below_drew1) | exact HB.out)⟩⟩
                 ·rw [if_neg c22] at H
                  exact absurd H (by simp)
                ·rw [if_neg c21] at H
                 exact absurd H (by simp)
               ·rw [if_neg c20] at H
                exact absurd H (by simp)
              ·rw [if_neg c19] at H
               exact absurd H (by simp)
            ·rw [if_neg c17] at H
             have c17b0 : ((Int.tmod t142 2) == 0) = false := beq_eq_false_iff_ne.mpr c17
             have c17b1 : ((Int.tmod t142 2) != 0) = true := bne_iff_ne.mpr c17
             replace H := Option.bind_eq_some_iff.mp H
             obtain ⟨⟨t148, t149, t150⟩, A240, H⟩ := H
             replace H : (if t150 = 0 then (if t148 = 0 then (graftageref03_Spread.j3 kj10 a0 t139 t149 x9_2 (IntKind.u64.wrap (Int.tdiv t142 2)) t148 true) else (graftageref03_Spread.j3 kj10 a0 t139 t149 x9_2 (IntKind.u64.wrap (Int.tdiv t142 2)) t148 (decide (t148 > (IntKind.u64.wrap ((x9_2.length : Int))))))) else (some ((⟨#[]⟩ : ByteArray), t150))) = some (r1, r2) := H
             have A24 := Aside0.mk A240
             clear A240
             by_cases c25 : t150 = 0
             ·rw [if_pos c25] at H
              have c25b0 : (t150 == 0) = true := beq_iff_eq.mpr c25
              have c25b1 : (t150 != 0) = false := bne_eq_false_iff_eq.mpr c25
              clear c25
              have HC26 := Aside0.mk H
              clear H
              go_upto_region 24 with (first | ((with_reducible refine gate_callee (f := 23) rfl ?_); refine goesL_ (some 99) rfl rfl Try.func23 (by kernel_rfl) rfl #[.string a0, .int .i64 t143] rfl (by (try simp only [List.map_toArray, List.map_cons, List.map_nil]); first | done | rfl | (simp only [List.length_drop, List.length_take]; rfl)) ?_; (with_reducible refine (graftageref01_Take.calls kj10 a0 t143 t148 t149 t150 _ A24.out).mono ?_); rintro e w' ⟨rfl, ⟨nd, rfl⟩⟩; refine ⟨_, rfl, ?_⟩))
              (try simp only [Act.put, List.setIfInBounds_toArray, List.set_cons_zero, List.set_cons_succ])
              go_cut [115] (fun v115 wc => ∃ (kq : Nat) (x115_25 : Bool), v115 = .bool x115_25 ∧ Aside0 (graftageref03_Spread.j3 kq a0 t139 t149 x9_2 (IntKind.u64.wrap (Int.tdiv t142 2)) t148 x115_25 = some (r1, r2)) ∧ Aside0 (kq ≤ kj10) ∧ Aside0 (Kd.R (Kd.int .u8) 5 wc w.heap.size (fun _ => True) (.slice Ao12 x9_2.length co12) x9_2) ∧ Aside0 (Below w.heap.size w wc))
              case first =>
               have H := HC26.out
               clear HC26
               by_cases c27 : t148 = 0
               ·rw [if_pos c27] at H
                have c27b0 : (t148 == 0) = true := beq_iff_eq.mpr c27
                have c27b1 : (t148 != 0) = false := bne_eq_false_iff_eq.mpr c27
                clear c27
                (first | rw [c27b0] | (simp only [i64_w, i32_w]; rw [c27b0]) | skip)
                have H' := Aside0.mk H
                clear H
                go_wp2
                go_meet
                case rel => exact ⟨_, (true), (by first | rfl | (simp; done) | (simp [*]; done)), H', ⟨by have := HJ4.out; have := HK2.out; have := HJ10.out; first | omega | exact Nat.le_refl _⟩, ⟨by (with_reducible repeat (first | apply Kd.R_alloc | apply Kd.R_drewN | apply Kd.R_drew)); exact HO_9.out⟩, ⟨by repeat (first | (with_reducible first | exact HB.out | apply below_alloc | apply pw_below_drewN | apply below_drew1) | exact HB.out)⟩⟩
               ·rw [if_neg c27] at H
                have c27b0 : (t148 == 0) = false := beq_eq_false_iff_ne.mpr c27
                have c27b1 : (t148 != 0) = true := bne_iff_ne.mpr c27
                (first | rw [c27b0] | (simp only [i64_w, i32_w]; rw [c27b0]) | skip)
                have H' := Aside0.mk H
                clear H
                go_wp2
                go_meet
                case rel => exact ⟨_, (decide (t148 > (IntKind.u64.wrap ((x9_2.length : Int))))), (by first | rfl | (simp; done) | (simp [*]; done)), H', ⟨by have := HJ4.out; have := HK2.out; have := HJ10.out; first | omega | exact Nat.le_refl _⟩, ⟨by (with_reducible repeat (first | apply Kd.R_alloc | apply Kd.R_drewN | apply Kd.R_drew)); exact HO_9.out⟩, ⟨by repeat (first | (with_reducible first | exact HB.out | apply below_alloc | apply pw_below_drewN | apply below_drew1) | exact HB.out)⟩⟩
              case rest =>
               clear HC26
               try clear c1
               try clear c2
               try clear p2
               try clear c4
               try clear c4b0
               try clear c4b1
               try clear c6
               try clear c6b0
               try clear p6
               try clear c7
               try clear c8
               try clear c8b0
               try clear c10
               try clear c10b0
               try clear c10b1
               try clear c13
               try clear c13b0
               try clear c13b1
               try clear c14
               try clear c14b0
               try clear c14b1
               try clear c15
               try clear c15b0
               try clear c16
               try clear c17
               try clear c17b0
               try clear c17b1
               try clear c18
               try clear c18b0
               try clear c19
               try clear c19b0
               try clear c19b1
               try clear c20
               try clear c20b0
               try clear c20b1
               try clear c21
               try clear c21b0
               try clear c21b1
               try clear c22
               try clear c23
               try clear c25
               try clear c25b0
               try clear c25b1
               try clear c27
               try clear c27b0
               try clear c27b1
               try clear p2
               obtain ⟨kq, x115_25, rfl, HA, HJ25, HO_9, HB⟩ := hcut
               cases kq with
               | zero => exact absurd HA.out (by simp [graftageref03_Spread.j3])
               | succ kj25 =>
                have H := HA.out
                clear HA
                simp only [graftageref03_Spread.j3] at H
                by_cases c28 : x115_25 = true
                ·subst c28
                 have H1 : (some ((⟨#[]⟩ : ByteArray), 2)) = some (r1, r2) := by rw [if_pos rfl] at H; exact H
                 clear H
                 have H := H1
                 clear H1
                 simp only [Option.some.injEq, Prod.mk.injEq] at H
                 obtain ⟨rfl, rfl⟩ := H
                 go_wp2
                 go_ret2
                 exact ⟨by first | rfl | (simp [errW_none, errW_some] <;> rfl) | (simp [*, errW_none, errW_some] <;> rfl), by repeat (first | (with_reducible first | exact HB.out | apply below_alloc | apply pw_below_drewN | apply below_drew1) | exact HB.out)⟩
                ·replace c28 := Bool.eq_false_iff.mpr c28
                 subst c28
                 have H1 : (graftageref03_Spread.l1 kj25 a0 t139 t149 x9_2 (IntKind.u64.wrap (Int.tdiv t142 2)) t148 0) = some (r1, r2) := by rw [if_neg (show ¬ (false = true) by decide)] at H; exact H
                 clear H
                 have H := H1
                 clear H1
                 have H' := Aside0.mk H
                 clear H
                 go_wp2
                 go_loopg [9, 17] kj25 (fun kq v9 v17 w' => ∃ (x9_5 : List Int) (x17_5 : Int), v17 = .int .i64 x17_5 ∧ Aside0 (graftageref03_Spread.l1 kq a0 t139 t149 x9_5 (IntKind.u64.wrap (Int.tdiv t142 2)) t148 x17_5 = some (r1, r2)) ∧ Aside0 (kq ≤ kj25) ∧ Aside0 (Kd.R (Kd.int .u8) 5 w' w.heap.size (fun _ => True) v9 x9_5) ∧ Aside0 (Below w.heap.size w w'))
                 case atStart => exact ⟨(x9_2), (0), (by first | rfl | (simp; done) | (simp [*]; done)), H', ⟨Nat.le_refl _⟩, ⟨by (with_reducible repeat (first | apply Kd.R_alloc | apply Kd.R_drewN | apply Kd.R_drew)); exact HO_9.out⟩, ⟨by repeat (first | (with_reducible first | exact HB.out | apply below_alloc | apply pw_below_drewN | apply below_drew1) | exact HB.out)⟩⟩
                 case round =>
                  clear H'
                  try clear c1
                  try clear c2
                  try clear p2
                  try clear c4
                  try clear c4b0
                  try clear c4b1
                  try clear c6
                  try clear c6b0
                  try clear p6
                  try clear c7
                  try clear c8
                  try clear c8b0
                  try clear c10
                  try clear c10b0
                  try clear c10b1
                  try clear c13
                  try clear c13b0
                  try clear c13b1
                  try clear c14
                  try clear c14b0
                  try clear c14b1
                  try clear c15
                  try clear c15b0
                  try clear c16
                  try clear c17
                  try clear c17b0
                  try clear c17b1
                  try clear c18
                  try clear c18b0
                  try clear c19
                  try clear c19b0
                  try clear c19b1
                  try clear c20
                  try clear c20b0
                  try clear c20b1
                  try clear c21
                  try clear c21b0
                  try clear c21b1
                  try clear c22
                  try clear c23
                  try clear c25
                  try clear c25b0
                  try clear c25b1
                  try clear c27
                  try clear c27b0
                  try clear c27b1
                  try clear c28
                  try clear p2
                  try clear p6
                  obtain ⟨x9_5, x17_5, rfl, HA, HK5, HO_9, HB⟩ := hrel
                  cases gk with
                  | zero => exact absurd HA.out (by simp [graftageref03_Spread.l1])
                  | succ k5 =>
                   have H := HA.out
                   clear HA
                   simp only [graftageref03_Spread.l1] at H
                   by_cases c29 : x17_5 < (wrap64 ((IntKind.u64.wrap (Int.tdiv t142 2))))
                   ·rw [if_pos c29] at H
                    have c29b0 : decide (x17_5 < (wrap64 ((IntKind.u64.wrap (Int.tdiv t142 2))))) = true := decide_eq_true c29
                    clear c29
                    obtain ⟨ji30, hji30⟩ : ∃ j_ : Int, (wrap64 ((x9_5.length : Int) - (wrap64 (t148)))) = j_ := ⟨_, rfl⟩
                    replace H : (if 0 ≤ (ji30) then (if (ji30) < (x9_5.length : Int) then (if x9_5.length < 140737488355328 then (graftageref03_Spread.l1 k5 a0 t139 t149 (x9_5 ++ [rd x9_5 (ji30)]) (IntKind.u64.wrap (Int.tdiv t142 2)) t148 (wrap64 (x17_5 + 1))) else (none)) else (none)) else (none)) = some (r1, r2) := by first | (rw [hji30] at H; exact H) | (simp only [hji30] at H ⊢; exact H)
                    have hji30w : (IntKind.i64.wrap ((x9_5.length : Int) - (wrap64 (t148)))) = ji30 := (i64_w _).trans hji30
                    by_cases c31 : 0 ≤ (ji30)
                    ·rw [if_pos c31] at H
                     have c31b0 : decide (0 ≤ (ji30)) = true := decide_eq_true c31
                     clear c31
                     by_cases c32 : (ji30) < (x9_5.length : Int)
                     ·rw [if_pos c32] at H
                      have c32b0 : decide ((ji30) < (x9_5.length : Int)) = true := decide_eq_true c32
                      clear c32
                      by_cases c33 : x9_5.length < 140737488355328
                      ·rw [if_pos c33] at H
                       have LMc33 := Aside0.mk c33
                       clear c33
                       obtain ⟨y152, hy152⟩ : ∃ y_ : List Int, y_ = (x9_5 ++ [rd x9_5 (ji30)]) := ⟨_, rfl⟩
                       replace H : (graftageref03_Spread.l1 k5 a0 t139 t149 y152 (IntKind.u64.wrap (Int.tdiv t142 2)) t148 (wrap64 (x17_5 + 1))) = some (r1, r2) := by first | (rw [hy152]; with_reducible exact H) | (have H2_ := (Option.bind_some _ _).symm.trans H; rw [hy152]; with_reducible exact H2_) | (have H2_ := (Option.bind_some _ _).symm.trans H; with_reducible exact H2_) | with_reducible exact H | (rw [hy152]; exact H) | exact H
                       have Ny152 := Aside0.mk hy152
                       clear hy152
                       have H' := Aside0.mk H
                       clear H
                       obtain ⟨Ao34, co34, eo34⟩ := Kd.R_slice HO_9.out
                       subst eo34
                       have p151 : 0 ≤ ((ji30) : Int) := of_decide_eq_true (by first | (with_reducible assumption) | assumption)
                       have q151 : (ji30) < (x9_5.length : Int) := of_decide_eq_true (by first | (with_reducible assumption) | assumption)
                       obtain ⟨ad151, e151, hx151_0⟩ := Kd.at_int (Kd.R_reads' HO_9.out).2.2 (ji30) p151 q151
                       cases e151
                       replace p151 := eq_true p151
                       replace q151 := eq_true q151
                       go_wp2_with (first | ((with_reducible refine gate_builtin (b := .append) (xs := #[.tmp 122, .tmp 131]) rfl ?_); (try (refine gate_guard (by rfl) ?_; dsimp only)); at_builtin; refine Kd.R_append (Kd.int .u8) (w0 := w) w.heap.size rfl (.tmp 122) (.tmp 131) 30 5 (.int .u8 0) 1 rfl Try.underlying30 info5 rfl (by decide) (by omega) (.slice (some ad151) x9_5.length co34) x9_5 (rd x9_5 (ji30)) [.int .u8 (rd x9_5 (ji30))] (fun _ => True) (fun _ => False) rfl rfl ?aP (fun _ hk => hk.elim) ?aF ?aO ?aB ?aS ?aL ?_; (case aP => exact rfl); (case aB => exact (by repeat (first | (with_reducible first | exact HB.out | apply below_alloc | apply pw_below_drewN | apply below_drew1) | exact HB.out))); (case aF => exact (fun _ _ => trivial)); (case aO => exact (by (with_reducible repeat (first | apply Kd.R_alloc | apply Kd.R_drewN | apply Kd.R_drew)); exact HO_9.out)); (case aS => exact (below_size (by repeat (first | (with_reducible first | exact HB.out | apply below_alloc | apply pw_below_drewN | apply below_drew1) | exact HB.out)))); (case aL => have := LMc33.out; omega); intro v153 w35 ho hb hg hat; rw [← Ny152.out] at ho; have n0_ := Aside0.mk (hb); have n1_ := Aside0.mk (ho); clear HB; clear HO_9; have HB := n0_; have HO154 := n1_; clear n0_ n1_; clear ho hb hg hat))
                       go_roundg k5
                       case measure => have := HJ4.out; have := HK2.out; have := HJ10.out; have := HJ25.out; have := HK5.out; omega
                       case rel => exact ⟨(y152), (wrap64 (x17_5 + 1)), (by first | rfl | (simp; done) | (simp [*]; done)), H', ⟨by have := HJ4.out; have := HK2.out; have := HJ10.out; have := HJ25.out; have := HK5.out; omega⟩, ⟨by (with_reducible repeat (first | apply Kd.R_alloc | apply Kd.R_drewN | apply Kd.R_drew)); exact HO154.out⟩, ⟨by repeat (first | (with_reducible first | exact HB.out | apply below_alloc | apply pw_below_drewN | apply below_drew1) | exact HB.out)⟩⟩
                      ·rw [if_neg c33] at H
                       exact absurd H (by simp)
                     ·rw [if_neg c32] at H
                      exact absurd H (by simp)
                    ·rw [if_neg c31] at H
                     exact absurd H (by simp)
                   ·rw [if_neg c29] at H
                    have c29b0 : decide (x17_5 < (wrap64 ((IntKind.u64.wrap (Int.tdiv t142 2))))) = false := decide_eq_false c29
                    clear c29
                    have H' := Aside0.mk H
                    clear H
                    go_wp2
                    go_roundg k5
                    case measure => have := HJ4.out; have := HK2.out; have := HJ10.out; have := HJ25.out; have := HK5.out; omega
                    case rel => exact ⟨(t149), (x9_5), (by first | rfl | (simp; done) | (simp [*]; done)), H', ⟨by have := HJ4.out; have := HK2.out; have := HJ10.out; have := HJ25.out; have := HK5.out; omega⟩, ⟨by (with_reducible repeat (first | apply Kd.R_alloc | apply Kd.R_drewN | apply Kd.R_drew)); exact HO_9.out⟩, ⟨by repeat (first | (with_reducible first | exact HB.out | apply below_alloc | apply pw_below_drewN | apply below_drew1) | exact HB.out)⟩⟩
             ·rw [if_neg c25] at H
              have c25b0 : (t150 == 0) = false := beq_eq_false_iff_ne.mpr c25
              have c25b1 : (t150 != 0) = true := bne_iff_ne.mpr c25
              simp only [Option.some.injEq, Prod.mk.injEq] at H
              obtain ⟨rfl, rfl⟩ := H
              go_wp2_with (first | ((with_reducible refine gate_callee (f := 23) rfl ?_); refine goesL_ (some 99) rfl rfl Try.func23 (by kernel_rfl) rfl #[.string a0, .int .i64 t143] rfl (by (try simp only [List.map_toArray, List.map_cons, List.map_nil]); first | done | rfl | (simp only [List.length_drop, List.length_take]; rfl)) ?_; (with_reducible refine (graftageref01_Take.calls kj10 a0 t143 t148 t149 t150 _ A24.out).mono ?_); rintro e w' ⟨rfl, ⟨nd, rfl⟩⟩; refine ⟨_, rfl, ?_⟩))
              go_ret2
              exact ⟨by first | rfl | (simp [errW_none, errW_some] <;> rfl) | (simp [*, errW_none, errW_some] <;> rfl), by repeat (first | (with_reducible first | exact HB.out | apply below_alloc | apply pw_below_drewN | apply below_drew1) | exact HB.out)⟩
        ·rw [if_neg c10] at H
         have c10b0 : (t144 == 0) = false := beq_eq_false_iff_ne.mpr c10
         have c10b1 : (t144 != 0) = true := bne_iff_ne.mpr c10
         simp only [Option.some.injEq, Prod.mk.injEq] at H
         obtain ⟨rfl, rfl⟩ := H
         obtain ⟨Ao36, co36, eo36⟩ := Kd.R_slice HO_9.out
         subst eo36
         go_wp2_with (first | ((with_reducible refine gate_callee (f := 23) rfl ?_); refine goesL_ (some 43) rfl rfl Try.func23 (by kernel_rfl) rfl #[.string a0, .int .i64 x7_2] rfl (by (try simp only [List.map_toArray, List.map_cons, List.map_nil]); first | done | rfl | (simp only [List.length_drop, List.length_take]; rfl)) ?_; (with_reducible refine (graftageref01_Take.calls k2 a0 x7_2 t142 t143 t144 _ A9.out).mono ?_); rintro e w' ⟨rfl, ⟨nd, rfl⟩⟩; refine ⟨_, rfl, ?_⟩))
         go_ret2
         exact ⟨by first | rfl | (simp [errW_none, errW_some] <;> rfl) | (simp [*, errW_none, errW_some] <;> rfl), by repeat (first | (with_reducible first | exact HB.out | apply below_alloc | apply pw_below_drewN | apply below_drew1) | exact HB.out)⟩
       ·rw [if_neg c8] at H
        have c8b0 : decide ((IntKind.u64.wrap ((x9_2.length : Int))) < t139) = false := decide_eq_false c8
        clear c8
        by_cases c37 : x7_2 < (a0.size : Int)
        ·rw [if_pos c37] at H
         have c37b0 : decide (x7_2 < (a0.size : Int)) = true := decide_eq_true c37
         clear c37
         simp only [Option.some.injEq, Prod.mk.injEq] at H
         obtain ⟨rfl, rfl⟩ := H
         obtain ⟨Ao38, co38, eo38⟩ := Kd.R_slice HO_9.out
         subst eo38
         go_wp2
         go_ret2
         exact ⟨by first | rfl | (simp [errW_none, errW_some] <;> rfl) | (simp [*, errW_none, errW_some] <;> rfl), by repeat (first | (with_reducible first | exact HB.out | apply below_alloc | apply pw_below_drewN | apply below_drew1) | exact HB.out)⟩
        ·rw [if_neg c37] at H
         have c37b0 : decide (x7_2 < (a0.size : Int)) = false := decide_eq_false c37
         clear c37
         simp only [Option.some.injEq, Prod.mk.injEq] at H
         obtain ⟨rfl, rfl⟩ := H
         obtain ⟨Ao39, co39, eo39⟩ := Kd.R_slice HO_9.out
         subst eo39
         have hcv40 := own_string (P := Try.prog) Try.underlying30 Try.underlying5 Try.underlying9 (Kd.own_of_R HO_9.out)
         go_wp2
         go_ret2
         exact ⟨by first | rfl | (simp [errW_none, errW_some] <;> rfl) | (simp [*, errW_none, errW_some] <;> rfl), by repeat (first | (with_reducible first | exact HB.out | apply below_alloc | apply pw_below_drewN | apply below_drew1) | exact HB.out)⟩
 ·rw [if_neg c4] at H
  have c4b0 : (t141 == 0) = false := beq_eq_false_iff_ne.mpr c4
  have c4b1 : (t141 != 0) = true := bne_iff_ne.mpr c4
  simp only [Option.some.injEq, Prod.mk.injEq] at H
  obtain ⟨rfl, rfl⟩ := H
  go_enter Try.func13, Try.ntmps13
  go_wp2_with (first | ((with_reducible refine gate_callee (f := 23) rfl ?_); refine goesL_ (some 20) rfl rfl Try.func23 (by kernel_rfl) rfl #[.string a0, .int .i64 0] rfl (by (try simp only [List.map_toArray, List.map_cons, List.map_nil]); first | done | rfl | (simp only [List.length_drop, List.length_take]; rfl)) ?_; (with_reducible refine (graftageref01_Take.calls k a0 0 t139 t140 t141 _ A3.out).mono ?_); rintro e w' ⟨rfl, ⟨nd, rfl⟩⟩; refine ⟨_, rfl, ?_⟩))
  go_ret2
  exact ⟨by first | rfl | (simp [errW_none, errW_some] <;> rfl) | (simp [*, errW_none, errW_some] <;> rfl), by repeat (first | (with_reducible first | exact HB.out | apply below_alloc | apply pw_below_drewN | apply below_drew1) | exact HB.out)⟩

/-! ### graftagelaw03_SqueezeSpreads: function 4 -/
def graftagelaw03_SqueezeSpreads.j0 : Nat → ByteArray → Int → Bool → Option (Bool)
 | 0, _, _, _ => none
 | k + 1, x0, x1, x15 => if x15 = true then ((graftagelaw03_lives.f).bind fun t155 => (some t155)) else ((squeeze_Decompress.f x0 x1).bind fun bt156 => ((graftageref03_Spread.f k x0 x1).bind fun bt158 => ((graftagelaw03_lives.f).bind fun t160 => (if t160 = true then (if bt156.1.toList = bt158.1.toList then (some (bt156.2 == bt158.2)) else (some false)) else (some false)))))
def graftagelaw03_SqueezeSpreads.f (k : Nat) (a0 : ByteArray) (a1 : Int) : Option (Bool) := if (a0.size : Int) > 3000 then (graftagelaw03_SqueezeSpreads.j0 k a0 a1 true) else (graftagelaw03_SqueezeSpreads.j0 k a0 a1 (decide (a1 > 5000)))
theorem graftagelaw03_SqueezeSpreads.mono_l : ∀ k, (∀ y0 y1 y2, LeO (graftagelaw03_SqueezeSpreads.j0 k y0 y1 y2) (graftagelaw03_SqueezeSpreads.j0 (k + 1) y0 y1 y2))
 | 0 => fun _ _ _ r h => by simp [graftagelaw03_SqueezeSpreads.j0] at h
 | k + 1 => by
  have ih0 := graftagelaw03_SqueezeSpreads.mono_l k
  ·intro y0 y1 y2
   unfold graftagelaw03_SqueezeSpreads.j0
   repeat' first
   | (with_reducible exact ih0 _ _ _)
   | (with_reducible exact graftageref03_Spread.mono _ _ _)
   | (with_reducible exact LeO.refl _)
   | (with_reducible exact LeO.none _)
   | (with_reducible refine LeO.ite ?_ ?_)
   | (with_reducible refine LeO.bind ?_ (fun _ => ?_))
   | exact ih0 _ _ _
   | exact graftageref03_Spread.mono _ _ _
   | exact LeO.none _
   | refine LeO.ite ?_ ?_
   | refine LeO.bind ?_ (fun _ => ?_)
theorem graftagelaw03_SqueezeSpreads.mono : ∀ a0 a1 k, LeO (graftagelaw03_SqueezeSpreads.f k a0 a1) (graftagelaw03_SqueezeSpreads.f (k + 1) a0 a1) := by
 intro a0 a1 k
 have ih0 := graftagelaw03_SqueezeSpreads.mono_l k
 unfold graftagelaw03_SqueezeSpreads.f
 repeat' first
   | (with_reducible exact ih0 _ _ _)
   | (with_reducible exact graftageref03_Spread.mono _ _ _)
   | (with_reducible exact LeO.refl _)
   | (with_reducible exact LeO.none _)
   | (with_reducible refine LeO.ite ?_ ?_)
   | (with_reducible refine LeO.bind ?_ (fun _ => ?_))
   | exact ih0 _ _ _
   | exact graftageref03_Spread.mono _ _ _
   | exact LeO.none _
   | refine LeO.ite ?_ ?_
   | refine LeO.bind ?_ (fun _ => ?_)
set_option maxHeartbeats 8000000 in
set_option maxRecDepth 100000 in
theorem graftagelaw03_SqueezeSpreads.calls (k : Nat) (a0 : ByteArray) (a1 : Int) (r : Bool) (w : World) (h : graftagelaw03_SqueezeSpreads.f k a0 a1 = some r) (hr : r = true) :
  Calls Try.prog 4 #[.string a0, .int .i64 a1] w fun e w' => e = .returned (.bool r) ∧ Below w.heap.size w w' := by
 have HB := Aside0.mk (Below.refl w.heap.size w)
 have H : (if (a0.size : Int) > 3000 then (graftagelaw03_SqueezeSpreads.j0 k a0 a1 true) else (graftagelaw03_SqueezeSpreads.j0 k a0 a1 (decide (a1 > 5000)))) = some r := h
 clear h
 have HC3 := Aside0.mk H
 clear H
 go_enter Try.func4, Try.ntmps4
 go_upto_region 1 with (fail)
 go_cut [15] (fun v15 wc => ∃ (kq : Nat) (x15_2 : Bool), v15 = .bool x15_2 ∧ Aside0 (graftagelaw03_SqueezeSpreads.j0 kq a0 a1 x15_2 = some r) ∧ Aside0 (kq ≤ k) ∧ Aside0 (Below w.heap.size w wc))
 case first =>
  have H := HC3.out
  clear HC3
  by_cases c4 : (a0.size : Int) > 3000
  ·rw [if_pos c4] at H
   have c4b0 : decide (3000 < (a0.size : Int)) = true := decide_eq_true c4
   have c4b1 : decide (3000 < a0.size) = true := decide_eq_true (by omega)
   clear c4
   (first | rw [c4b0] | (simp only [i64_w, i32_w]; rw [c4b0]) | skip)
   have H' := Aside0.mk H
   clear H
   go_wp2
   go_meet
   case rel => exact ⟨_, (true), (by first | rfl | (simp; done) | (simp [*]; done)), H', ⟨by first | omega | exact Nat.le_refl _⟩, ⟨by repeat (first | (with_reducible first | exact HB.out | apply below_alloc | apply pw_below_drewN | apply below_drew1) | exact HB.out)⟩⟩
  ·rw [if_neg c4] at H
   have c4b0 : decide (3000 < (a0.size : Int)) = false := decide_eq_false c4
   have c4b1 : decide (3000 < a0.size) = false := decide_eq_false (by omega)
   clear c4
   (first | rw [c4b0] | (simp only [i64_w, i32_w]; rw [c4b0]) | skip)
   have H' := Aside0.mk H
   clear H
   go_wp2
   go_meet
   case rel => exact ⟨_, (decide (a1 > 5000)), (by first | rfl | (simp; done) | (simp [*]; done)), H', ⟨by first | omega | exact Nat.le_refl _⟩, ⟨by repeat (first | (with_reducible first | exact HB.out | apply below_alloc | apply pw_below_drewN | apply below_drew1) | exact HB.out)⟩⟩
 case rest =>
  clear HC3
  try clear p2
  try clear c4
  try clear c4b0
  try clear c4b1
  obtain ⟨kq, x15_2, rfl, HA, HJ2, HB⟩ := hcut
  cases kq with
  | zero => exact absurd HA.out (by simp [graftagelaw03_SqueezeSpreads.j0])
  | succ kj2 =>
   have H := HA.out
   clear HA
   simp only [graftagelaw03_SqueezeSpreads.j0] at H
   by_cases c5 : x15_2 = true
   ·subst c5
    have H1 : ((graftagelaw03_lives.f).bind fun t155 => (some t155)) = some r := by rw [if_pos rfl] at H; exact H
    clear H
    have H := H1
    clear H1
    replace H := Option.bind_eq_some_iff.mp H
    obtain ⟨t155, A60, H⟩ := H
    replace H : (some t155) = some r := H
    have A6 := Aside0.mk A60
    clear A60
    obtain rfl := Option.some.inj H
    go_wp2_with (first | ((with_reducible refine gate_callee (f := 8) rfl ?_); refine goesL_ (some 16) rfl rfl Try.func8 (by kernel_rfl) rfl #[] rfl (by (try simp only [List.map_toArray, List.map_cons, List.map_nil]); first | done | rfl | (simp only [List.length_drop, List.length_take]; rfl)) ?_; (with_reducible refine (graftagelaw03_lives.calls  t155 _ A6.out).mono ?_); rintro e w7 ⟨rfl, hb⟩; refine ⟨_, rfl, ?_⟩; have n0_ := Aside0.mk (below_step (by repeat (first | (with_reducible first | exact HB.out | apply below_alloc | apply pw_below_drewN | apply below_drew1) | exact HB.out)) hb); clear HB; have HB := n0_; clear n0_; (try clear hb); (try clear hb2); (try clear hk); (try clear hi)))
    go_ret
    exact ⟨by first | rfl | (simp [errW_none, errW_some] <;> rfl) | (simp [*, errW_none, errW_some] <;> rfl), by repeat (first | (with_reducible first | exact HB.out | apply below_alloc | apply pw_below_drewN | apply below_drew1) | exact HB.out)⟩
   ·replace c5 := Bool.eq_false_iff.mpr c5
    subst c5
    have H1 : ((squeeze_Decompress.f a0 a1).bind fun bt156 => ((graftageref03_Spread.f kj2 a0 a1).bind fun bt158 => ((graftagelaw03_lives.f).bind fun t160 => (if t160 = true then (if bt156.1.toList = bt158.1.toList then (some (bt156.2 == bt158.2)) else (some false)) else (some false))))) = some r := by rw [if_neg (show ¬ (false = true) by decide)] at H; exact H
    clear H
    have H := H1
    clear H1
    replace H := Option.bind_eq_some_iff.mp H
    obtain ⟨⟨t156, t157⟩, A80, H⟩ := H
    replace H : ((graftageref03_Spread.f kj2 a0 a1).bind fun bt158 => ((graftagelaw03_lives.f).bind fun t160 => (if t160 = true then (if t156.toList = bt158.1.toList then (some (t157 == bt158.2)) else (some false)) else (some false)))) = some r := H
    have A8 := Aside0.mk A80
    clear A80
    replace H := Option.bind_eq_some_iff.mp H
    obtain ⟨⟨t158, t159⟩, A90, H⟩ := H
    replace H : ((graftagelaw03_lives.f).bind fun t160 => (if t160 = true then (if t156.toList = t158.toList then (some (t157 == t159)) else (some false)) else (some false))) = some r := H
    have A9 := Aside0.mk A90
    clear A90
    replace H := Option.bind_eq_some_iff.mp H
    obtain ⟨t160, A100, H⟩ := H
    replace H : (if t160 = true then (if t156.toList = t158.toList then (some (t157 == t159)) else (some false)) else (some false)) = some r := H
    have A10 := Aside0.mk A100
    clear A100
    by_cases c11 : t160 = true
    ·subst c11
     have H1 : (if t156.toList = t158.toList then (some (t157 == t159)) else (some false)) = some r := by rw [if_pos rfl] at H; exact H
     clear H
     have H := H1
     clear H1
     by_cases c12 : t156.toList = t158.toList
     ·rw [if_pos c12] at H
      have c12b0 : (t156.toList == t158.toList) = true := beq_iff_eq.mpr c12
      have c12b1 : (t156.toList != t158.toList) = false := bne_eq_false_iff_eq.mpr c12
      clear c12
      obtain rfl := Option.some.inj H
      go_wp2_with (first | ((with_reducible refine gate_callee (f := 12) rfl ?_); refine goesL_ (some 20) rfl rfl Try.func12 (by kernel_rfl) rfl #[.string a0, .int .i64 a1] rfl (by (try simp only [List.map_toArray, List.map_cons, List.map_nil]); first | done | rfl | (simp only [List.length_drop, List.length_take]; rfl)) ?_; (with_reducible refine (squeeze_Decompress.calls a0 a1 t156 t157 _ A8.out).mono ?_); rintro e w13 ⟨rfl, hb⟩; refine ⟨_, rfl, ?_⟩; have n0_ := Aside0.mk (below_step (by repeat (first | (with_reducible first | exact HB.out | apply below_alloc | apply pw_below_drewN | apply below_drew1) | exact HB.out)) hb); clear HB; have HB := n0_; clear n0_; (try clear hb); (try clear hb2); (try clear hk); (try clear hi)) | ((with_reducible refine gate_callee (f := 13) rfl ?_); refine goesL_ (some 26) rfl rfl Try.func13 (by kernel_rfl) rfl #[.string a0, .int .i64 a1] rfl (by (try simp only [List.map_toArray, List.map_cons, List.map_nil]); first | done | rfl | (simp only [List.length_drop, List.length_take]; rfl)) ?_; (with_reducible refine (graftageref03_Spread.calls kj2 a0 a1 t158 t159 _ A9.out).mono ?_); rintro e w14 ⟨rfl, hb⟩; refine ⟨_, rfl, ?_⟩; have n0_ := Aside0.mk (below_step (by repeat (first | (with_reducible first | exact HB.out | apply below_alloc | apply pw_below_drewN | apply below_drew1) | exact HB.out)) hb); clear HB; have HB := n0_; clear n0_; (try clear hb); (try clear hb2); (try clear hk); (try clear hi)) | ((with_reducible refine gate_callee (f := 8) rfl ?_); refine goesL_ (some 29) rfl rfl Try.func8 (by kernel_rfl) rfl #[] rfl (by (try simp only [List.map_toArray, List.map_cons, List.map_nil]); first | done | rfl | (simp only [List.length_drop, List.length_take]; rfl)) ?_; (with_reducible refine (graftagelaw03_lives.calls  true _ A10.out).mono ?_); rintro e w15 ⟨rfl, hb⟩; refine ⟨_, rfl, ?_⟩; have n0_ := Aside0.mk (below_step (by repeat (first | (with_reducible first | exact HB.out | apply below_alloc | apply pw_below_drewN | apply below_drew1) | exact HB.out)) hb); clear HB; have HB := n0_; clear n0_; (try clear hb); (try clear hb2); (try clear hk); (try clear hi)))
      go_ret
      exact ⟨by first | rfl | (simp [errW_none, errW_some] <;> rfl) | (simp [*, errW_none, errW_some] <;> rfl), by repeat (first | (with_reducible first | exact HB.out | apply below_alloc | apply pw_below_drewN | apply below_drew1) | exact HB.out)⟩
     ·rw [if_neg c12] at H
      have c12b0 : (t156.toList == t158.toList) = false := beq_eq_false_iff_ne.mpr c12
      have c12b1 : (t156.toList != t158.toList) = true := bne_iff_ne.mpr c12
      exact absurd (H.trans (congrArg some hr)) (by decide)
    ·replace c11 := Bool.eq_false_iff.mpr c11
     subst c11
     have H1 : (some false) = some r := by rw [if_neg (show ¬ (false = true) by decide)] at H; exact H
     clear H
     have H := H1
     clear H1
     exact absurd (H.trans (congrArg some hr)) (by decide)

/-- THE ONE PURE STATEMENT of graftagelaw03_SqueezeSpreads: yours. -/
def graftagelaw03_SqueezeSpreads.Pure : Prop := ∀ (a0 : ByteArray) (a1 : Int), a0.size ≤ 140737488351232 → (Lit.int .i64 a1).wf = true → ∃ k, graftagelaw03_SqueezeSpreads.f k a0 a1 = some true
theorem graftagelaw03_SqueezeSpreads.walk (P : graftagelaw03_SqueezeSpreads.Pure) (a0 : ByteArray) (a1 : Int) (w : World) (w0 : a0.size ≤ 140737488351232) (w1 : (Lit.int .i64 a1).wf = true) :
  Calls Try.prog 4 #[.string a0, .int .i64 a1] w fun e w' => e = .returned (.bool true) ∧ Below w.heap.size w w' := by
 obtain ⟨k, h⟩ := P a0 a1 w0 w1
 refine (graftagelaw03_SqueezeSpreads.calls k a0 a1 true w h rfl).mono ?_
 rintro e w' ⟨rfl, hd⟩
 exact ⟨rfl, hd⟩

end Go.Proofs.Ytmkoajmldbhnbaa.PSq
