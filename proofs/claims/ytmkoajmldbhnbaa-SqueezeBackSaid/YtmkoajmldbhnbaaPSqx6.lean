-- Written by wip/gen/gen.py of this session out of the seat's translation.
import Derived.Test.YtmkoajmldbhnbaaPSqx0
import Derived.Test.YtmkoajmldbhnbaaPSqx2
import Derived.Test.YtmkoajmldbhnbaaPSqx3
import Derived.Test.YtmkoajmldbhnbaaSqDecF
import Derived.Test.YtmkoajmldbhnbaaSqPress
namespace Go.Proofs.Ytmkoajmldbhnbaa.PSq
open Go.Proofs.Ytmkoajmldbhnbaa.Hand Go.RowKit Go.Proofs.YtmkoajmldbhnbaaW.PrintWords Go.Proofs.YtmkoajmldbhnbaaW.PrintLast Go.Proofs.YtmkoajmldbhnbaaW.PrintMore
attribute [local go_sem] max2_int min2_int max_two min_two max_three min_three max_four min_four   -- for this text's walks alone
set_option linter.unusedVariables false
set_option linter.unusedSimpArgs false

/-! ### graftagelaw03_SqueezeBack: function 5 -/
mutual
def graftagelaw03_SqueezeBack.j0 : Nat → ByteArray → Int → ByteArray → Bool → Option (Bool)
 | 0, _, _, _, _ => none
 | k + 1, x0, x1, x7, x62 => if x62 = true then (some false) else (if x1 < 0 then (graftagelaw03_SqueezeBack.j1 k x0 x1 x7 true) else (graftagelaw03_SqueezeBack.j1 k x0 x1 x7 (decide (x1 ≥ (x7.size : Int)))))
def graftagelaw03_SqueezeBack.j1 : Nat → ByteArray → Int → ByteArray → Bool → Option (Bool)
 | 0, _, _, _, _ => none
 | k + 1, x0, x1, x7, x70 => if x70 = true then ((graftagelaw03_lives.f).bind fun t172 => (some t172)) else (if 0 ≤ x1 then (if x1 ≤ (x7.size : Int) then ((squeeze_Decompress.f (x7.extract 0 (x1 : Int).toNat) (x0.size : Int)).bind fun bt173 => ((graftagelaw03_lives.f).bind fun t175 => (if t175 = true then (if bt173.1.toList = ([] : List UInt8) then (some (bt173.2 == 3)) else (some false)) else (some false)))) else (none)) else (none))
end
def graftagelaw03_SqueezeBack.f (k : Nat) (a0 : ByteArray) (a1 : Int) (a2 : Int) : Option (Bool) := if (a0.size : Int) > 3000 then ((graftagelaw03_lives.f).bind fun t161 => (some t161)) else ((squeeze_Compress.f a0).bind fun t162 => ((squeeze_Decompress.f t162 (a0.size : Int)).bind fun bt163 => ((squeeze_Decompress.f t162 (wrap64 ((a0.size : Int) - 1))).bind fun bt165 => ((some (([a2] : List Int) : List Int)).bind fun y167 => (if t162.size + (strOfNums y167).size ≤ 9223372036854775807 then ((squeeze_Decompress.f (t162 ++ (strOfNums y167)) (a0.size : Int)).bind fun bt170 => (if bt163.1.toList = a0.toList then (if bt163.2 = 0 then (if bt165.2 = 4 then (graftagelaw03_SqueezeBack.j0 k a0 a1 t162 (bt170.2 != 2)) else (graftagelaw03_SqueezeBack.j0 k a0 a1 t162 true)) else (graftagelaw03_SqueezeBack.j0 k a0 a1 t162 true)) else (graftagelaw03_SqueezeBack.j0 k a0 a1 t162 true))) else (none))))))
theorem graftagelaw03_SqueezeBack.mono_l : ∀ k, (∀ y0 y1 y2 y3, LeO (graftagelaw03_SqueezeBack.j0 k y0 y1 y2 y3) (graftagelaw03_SqueezeBack.j0 (k + 1) y0 y1 y2 y3)) ∧ (∀ y0 y1 y2 y3, LeO (graftagelaw03_SqueezeBack.j1 k y0 y1 y2 y3) (graftagelaw03_SqueezeBack.j1 (k + 1) y0 y1 y2 y3))
 | 0 => ⟨fun _ _ _ _ r h => by simp [graftagelaw03_SqueezeBack.j0] at h, fun _ _ _ _ r h => by simp [graftagelaw03_SqueezeBack.j1] at h⟩
 | k + 1 => by
  obtain ⟨ih0, ih1⟩ := graftagelaw03_SqueezeBack.mono_l k
  refine ⟨?_, ?_⟩
  ·intro y0 y1 y2 y3
   unfold graftagelaw03_SqueezeBack.j0
   repeat' first
   | (with_reducible exact ih0 _ _ _ _)
   | (with_reducible exact ih1 _ _ _ _)
   | (with_reducible exact LeO.refl _)
   | (with_reducible exact LeO.none _)
   | (with_reducible refine LeO.ite ?_ ?_)
   | (with_reducible refine LeO.bind ?_ (fun _ => ?_))
   | exact ih0 _ _ _ _
   | exact ih1 _ _ _ _
   | exact LeO.none _
   | refine LeO.ite ?_ ?_
   | refine LeO.bind ?_ (fun _ => ?_)
  ·intro y0 y1 y2 y3
   unfold graftagelaw03_SqueezeBack.j1
   repeat' first
   | (with_reducible exact ih0 _ _ _ _)
   | (with_reducible exact ih1 _ _ _ _)
   | (with_reducible exact LeO.refl _)
   | (with_reducible exact LeO.none _)
   | (with_reducible refine LeO.ite ?_ ?_)
   | (with_reducible refine LeO.bind ?_ (fun _ => ?_))
   | exact ih0 _ _ _ _
   | exact ih1 _ _ _ _
   | exact LeO.none _
   | refine LeO.ite ?_ ?_
   | refine LeO.bind ?_ (fun _ => ?_)
theorem graftagelaw03_SqueezeBack.mono : ∀ a0 a1 a2 k, LeO (graftagelaw03_SqueezeBack.f k a0 a1 a2) (graftagelaw03_SqueezeBack.f (k + 1) a0 a1 a2) := by
 intro a0 a1 a2 k
 obtain ⟨ih0, ih1⟩ := graftagelaw03_SqueezeBack.mono_l k
 unfold graftagelaw03_SqueezeBack.f
 repeat' first
   | (with_reducible exact ih0 _ _ _ _)
   | (with_reducible exact ih1 _ _ _ _)
   | (with_reducible exact LeO.refl _)
   | (with_reducible exact LeO.none _)
   | (with_reducible refine LeO.ite ?_ ?_)
   | (with_reducible refine LeO.bind ?_ (fun _ => ?_))
   | exact ih0 _ _ _ _
   | exact ih1 _ _ _ _
   | exact LeO.none _
   | refine LeO.ite ?_ ?_
   | refine LeO.bind ?_ (fun _ => ?_)
set_option maxHeartbeats 8000000 in
set_option maxRecDepth 100000 in
theorem graftagelaw03_SqueezeBack.calls (k : Nat) (a0 : ByteArray) (a1 : Int) (a2 : Int) (r : Bool) (w : World) (h : graftagelaw03_SqueezeBack.f k a0 a1 a2 = some r) (hr : r = true) :
  Calls Try.prog 5 #[.string a0, .int .i64 a1, .int .u8 a2] w fun e w' => e = .returned (.bool r) ∧ Below w.heap.size w w' := by
 have HB := Aside0.mk (Below.refl w.heap.size w)
 have H : (if (a0.size : Int) > 3000 then ((graftagelaw03_lives.f).bind fun t161 => (some t161)) else ((squeeze_Compress.f a0).bind fun t162 => ((squeeze_Decompress.f t162 (a0.size : Int)).bind fun bt163 => ((squeeze_Decompress.f t162 (wrap64 ((a0.size : Int) - 1))).bind fun bt165 => ((some (([a2] : List Int) : List Int)).bind fun y167 => (if t162.size + (strOfNums y167).size ≤ 9223372036854775807 then ((squeeze_Decompress.f (t162 ++ (strOfNums y167)) (a0.size : Int)).bind fun bt170 => (if bt163.1.toList = a0.toList then (if bt163.2 = 0 then (if bt165.2 = 4 then (graftagelaw03_SqueezeBack.j0 k a0 a1 t162 (bt170.2 != 2)) else (graftagelaw03_SqueezeBack.j0 k a0 a1 t162 true)) else (graftagelaw03_SqueezeBack.j0 k a0 a1 t162 true)) else (graftagelaw03_SqueezeBack.j0 k a0 a1 t162 true))) else (none))))))) = some r := h
 clear h
 by_cases c4 : (a0.size : Int) > 3000
 ·rw [if_pos c4] at H
  have c4b0 : decide (3000 < (a0.size : Int)) = true := decide_eq_true c4
  have c4b1 : decide (3000 < a0.size) = true := decide_eq_true (by omega)
  clear c4
  replace H := Option.bind_eq_some_iff.mp H
  obtain ⟨t161, A50, H⟩ := H
  replace H : (some t161) = some r := H
  have A5 := Aside0.mk A50
  clear A50
  obtain rfl := Option.some.inj H
  go_enter Try.func5, Try.ntmps5
  go_wp2_with (first | ((with_reducible refine gate_callee (f := 8) rfl ?_); refine goesL_ (some 19) rfl rfl Try.func8 (by kernel_rfl) rfl #[] rfl (by (try simp only [List.map_toArray, List.map_cons, List.map_nil]); first | done | rfl | (simp only [List.length_drop, List.length_take]; rfl)) ?_; (with_reducible refine (graftagelaw03_lives.calls  t161 _ A5.out).mono ?_); rintro e w6 ⟨rfl, hb⟩; refine ⟨_, rfl, ?_⟩; have n0_ := Aside0.mk (below_step (by repeat (first | (with_reducible first | exact HB.out | apply below_alloc | apply pw_below_drewN | apply below_drew1) | exact HB.out)) hb); clear HB; have HB := n0_; clear n0_; (try clear hb); (try clear hb2); (try clear hk); (try clear hi)))
  go_ret
  exact ⟨by first | rfl | (simp [errW_none, errW_some] <;> rfl) | (simp [*, errW_none, errW_some] <;> rfl), by repeat (first | (with_reducible first | exact HB.out | apply below_alloc | apply pw_below_drewN | apply below_drew1) | exact HB.out)⟩
 ·rw [if_neg c4] at H
  have c4b0 : decide (3000 < (a0.size : Int)) = false := decide_eq_false c4
  have c4b1 : decide (3000 < a0.size) = false := decide_eq_false (by omega)
  clear c4
  replace H := Option.bind_eq_some_iff.mp H
  obtain ⟨t162, A70, H⟩ := H
  replace H : ((squeeze_Decompress.f t162 (a0.size : Int)).bind fun bt163 => ((squeeze_Decompress.f t162 (wrap64 ((a0.size : Int) - 1))).bind fun bt165 => ((some (([a2] : List Int) : List Int)).bind fun y167 => (if t162.size + (strOfNums y167).size ≤ 9223372036854775807 then ((squeeze_Decompress.f (t162 ++ (strOfNums y167)) (a0.size : Int)).bind fun bt170 => (if bt163.1.toList = a0.toList then (if bt163.2 = 0 then (if bt165.2 = 4 then (graftagelaw03_SqueezeBack.j0 k a0 a1 t162 (bt170.2 != 2)) else (graftagelaw03_SqueezeBack.j0 k a0 a1 t162 true)) else (graftagelaw03_SqueezeBack.j0 k a0 a1 t162 true)) else (graftagelaw03_SqueezeBack.j0 k a0 a1 t162 true))) else (none))))) = some r := H
  have A7 := Aside0.mk A70
  clear A70
  replace H := Option.bind_eq_some_iff.mp H
  obtain ⟨⟨t163, t164⟩, A80, H⟩ := H
  replace H : ((squeeze_Decompress.f t162 (wrap64 ((a0.size : Int) - 1))).bind fun bt165 => ((some (([a2] : List Int) : List Int)).bind fun y167 => (if t162.size + (strOfNums y167).size ≤ 9223372036854775807 then ((squeeze_Decompress.f (t162 ++ (strOfNums y167)) (a0.size : Int)).bind fun bt170 => (if t163.toList = a0.toList then (if t164 = 0 then (if bt165.2 = 4 then (graftagelaw03_SqueezeBack.j0 k a0 a1 t162 (bt170.2 != 2)) else (graftagelaw03_SqueezeBack.j0 k a0 a1 t162 true)) else (graftagelaw03_SqueezeBack.j0 k a0 a1 t162 true)) else (graftagelaw03_SqueezeBack.j0 k a0 a1 t162 true))) else (none)))) = some r := H
  have A8 := Aside0.mk A80
  clear A80
  replace H := Option.bind_eq_some_iff.mp H
  obtain ⟨⟨t165, t166⟩, A90, H⟩ := H
  replace H : ((some (([a2] : List Int) : List Int)).bind fun y167 => (if t162.size + (strOfNums y167).size ≤ 9223372036854775807 then ((squeeze_Decompress.f (t162 ++ (strOfNums y167)) (a0.size : Int)).bind fun bt170 => (if t163.toList = a0.toList then (if t164 = 0 then (if t166 = 4 then (graftagelaw03_SqueezeBack.j0 k a0 a1 t162 (bt170.2 != 2)) else (graftagelaw03_SqueezeBack.j0 k a0 a1 t162 true)) else (graftagelaw03_SqueezeBack.j0 k a0 a1 t162 true)) else (graftagelaw03_SqueezeBack.j0 k a0 a1 t162 true))) else (none))) = some r := H
  have A9 := Aside0.mk A90
  clear A90
  obtain ⟨y167, hy167⟩ : ∃ y_ : List Int, y_ = (([a2] : List Int)) := ⟨_, rfl⟩
  replace H : (if t162.size + (strOfNums y167).size ≤ 9223372036854775807 then ((squeeze_Decompress.f (t162 ++ (strOfNums y167)) (a0.size : Int)).bind fun bt170 => (if t163.toList = a0.toList then (if t164 = 0 then (if t166 = 4 then (graftagelaw03_SqueezeBack.j0 k a0 a1 t162 (bt170.2 != 2)) else (graftagelaw03_SqueezeBack.j0 k a0 a1 t162 true)) else (graftagelaw03_SqueezeBack.j0 k a0 a1 t162 true)) else (graftagelaw03_SqueezeBack.j0 k a0 a1 t162 true))) else (none)) = some r := by first | (rw [hy167]; with_reducible exact H) | (have H2_ := (Option.bind_some _ _).symm.trans H; rw [hy167]; with_reducible exact H2_) | (have H2_ := (Option.bind_some _ _).symm.trans H; with_reducible exact H2_) | with_reducible exact H | (rw [hy167]; exact H) | exact H
  have Ny167 := Aside0.mk hy167
  clear hy167
  by_cases c10 : t162.size + (strOfNums y167).size ≤ 9223372036854775807
  ·rw [if_pos c10] at H
   have c10b0 := eq_true c10
   have c10b1 : decide (t162.size + (strOfNums y167).size ≤ 9223372036854775807) = true := decide_eq_true c10
   try have c10b2 : (9223372036854775807 < t162.size + (strOfNums y167).size) = False := eq_false (Nat.not_lt.2 c10)
   replace H := Option.bind_eq_some_iff.mp H
   obtain ⟨⟨t170, t171⟩, A110, H⟩ := H
   replace H : (if t163.toList = a0.toList then (if t164 = 0 then (if t166 = 4 then (graftagelaw03_SqueezeBack.j0 k a0 a1 t162 (t171 != 2)) else (graftagelaw03_SqueezeBack.j0 k a0 a1 t162 true)) else (graftagelaw03_SqueezeBack.j0 k a0 a1 t162 true)) else (graftagelaw03_SqueezeBack.j0 k a0 a1 t162 true)) = some r := H
   have A11 := Aside0.mk A110
   clear A110
   have HC12 := Aside0.mk H
   clear H
   go_enter Try.func5, Try.ntmps5
   go_upto_region 7 with (first | ((with_reducible refine gate_callee (f := 9) rfl ?_); refine goesL_ (some 21) rfl rfl Try.func9 (by kernel_rfl) rfl #[.string a0] rfl (by (try simp only [List.map_toArray, List.map_cons, List.map_nil]); first | done | rfl | (simp only [List.length_drop, List.length_take]; rfl)) ?_; (with_reducible refine (squeeze_Compress.calls a0 t162 _ A7.out).mono ?_); rintro e w13 ⟨rfl, hb⟩; refine ⟨_, rfl, ?_⟩; have n0_ := Aside0.mk (below_step (by repeat (first | (with_reducible first | exact HB.out | apply below_alloc | apply pw_below_drewN | apply below_drew1) | exact HB.out)) hb); clear HB; have HB := n0_; clear n0_; (try clear hb); (try clear hb2); (try clear hk); (try clear hi)) | ((with_reducible refine gate_callee (f := 12) rfl ?_); refine goesL_ (some 26) rfl rfl Try.func12 (by kernel_rfl) rfl #[.string t162, .int .i64 (a0.size : Int)] rfl (by (try simp only [List.map_toArray, List.map_cons, List.map_nil]); first | done | rfl | (simp only [List.length_drop, List.length_take]; rfl)) ?_; (with_reducible refine (squeeze_Decompress.calls t162 (a0.size : Int) t163 t164 _ A8.out).mono ?_); rintro e w14 ⟨rfl, hb⟩; refine ⟨_, rfl, ?_⟩; have n0_ := Aside0.mk (below_step (by repeat (first | (with_reducible first | exact HB.out | apply below_alloc | apply pw_below_drewN | apply below_drew1) | exact HB.out)) hb); clear HB; have HB := n0_; clear n0_; (try clear hb); (try clear hb2); (try clear hk); (try clear hi)) | ((with_reducible refine gate_callee (f := 12) rfl ?_); refine goesL_ (some 34) rfl rfl Try.func12 (by kernel_rfl) rfl #[.string t162, .int .i64 (wrap64 ((a0.size : Int) - 1))] rfl (by (try simp only [List.map_toArray, List.map_cons, List.map_nil]); first | done | rfl | (simp only [List.length_drop, List.length_take]; rfl)) ?_; (with_reducible refine (squeeze_Decompress.calls t162 (wrap64 ((a0.size : Int) - 1)) t165 t166 _ A9.out).mono ?_); rintro e w15 ⟨rfl, hb⟩; refine ⟨_, rfl, ?_⟩; have n0_ := Aside0.mk (below_step (by repeat (first | (with_reducible first | exact HB.out | apply below_alloc | apply pw_below_drewN | apply below_drew1) | exact HB.out)) hb); clear HB; have HB := n0_; clear n0_; (try clear hb); (try clear hb2); (try clear hk); (try clear hi)) | ((with_reducible refine gate_dst (N := 40) rfl ?_); (try (refine gate_guard (by rfl) ?_; dsimp only)); refine Kd.R_lit (Kd.int .u8) _ 5 ?hg (N := 40) ?hd (xs := ([a2] : List Int)) (inner := [.int .u8 a2]) (ok := fun _ => True) (okp := fun _ => True) ?hr ?hp (fun _ hk => hk) trivial (Below.refl _ _) (Nat.le_refl _) (by simp) ?_; (case hd => rfl); (case hg => rfl); (case hr => first | (go_simp; done) | (go_simp; rfl)); (case hp => exact (Reps.one (show Kd.M (Kd.int .u8) _ _ _ a2 [.int .u8 a2] from rfl) (Reps.none _ _))); intro v168 w16 ho17 hb hg_ hnew_; clear hg_ hnew_; (first | rw [← Ny167.out] at ho17 | (simp only [Int.reduceToNat] at ho17; rw [← Ny167.out] at ho17)); have n0_ := Aside0.mk (Kd.R_lower ho17 (below_size (by repeat (first | (with_reducible first | exact HB.out | apply below_alloc | apply pw_below_drewN | apply below_drew1) | exact HB.out)))); have n1_ := Aside0.mk (below_step (by repeat (first | (with_reducible first | exact HB.out | apply below_alloc | apply pw_below_drewN | apply below_drew1) | exact HB.out)) hb); clear HB; have HO169 := n0_; have HB := n1_; clear n0_ n1_; clear hb ho17; have hcv18 := own_string (P := Try.prog) Try.underlying30 Try.underlying5 Try.underlying9 (Kd.own_of_R HO169.out)) | ((with_reducible refine gate_callee (f := 12) rfl ?_); refine goesL_ (some 45) rfl rfl Try.func12 (by kernel_rfl) rfl #[.string (t162 ++ (strOfNums y167)), .int .i64 (a0.size : Int)] rfl (by (try simp only [List.map_toArray, List.map_cons, List.map_nil]); first | done | rfl | (simp only [List.length_drop, List.length_take]; rfl)) ?_; (with_reducible refine (squeeze_Decompress.calls (t162 ++ (strOfNums y167)) (a0.size : Int) t170 t171 _ A11.out).mono ?_); rintro e w19 ⟨rfl, hb⟩; refine ⟨_, rfl, ?_⟩; have n0_ := Aside0.mk (Kd.R_below (by (with_reducible repeat (first | apply Kd.R_alloc | apply Kd.R_drewN | apply Kd.R_drew)); exact HO169.out) hb); have n1_ := Aside0.mk (below_step (by repeat (first | (with_reducible first | exact HB.out | apply below_alloc | apply pw_below_drewN | apply below_drew1) | exact HB.out)) hb); clear HO169; clear HB; have HO169 := n0_; have HB := n1_; clear n0_ n1_; (try clear hb); (try clear hb2); (try clear hk); (try clear hi)))
   (try simp only [Act.put, List.setIfInBounds_toArray, List.set_cons_zero, List.set_cons_succ])
   go_cut [62] (fun v62 wc => ∃ (kq : Nat) (x62_11 : Bool), v62 = .bool x62_11 ∧ Aside0 (graftagelaw03_SqueezeBack.j0 kq a0 a1 t162 x62_11 = some r) ∧ Aside0 (kq ≤ k) ∧ Aside0 (Below w.heap.size w wc))
   case first =>
    have H := HC12.out
    clear HC12
    by_cases c20 : t163.toList = a0.toList
    ·rw [if_pos c20] at H
     have c20b0 : (t163.toList == a0.toList) = true := beq_iff_eq.mpr c20
     have c20b1 : (t163.toList != a0.toList) = false := bne_eq_false_iff_eq.mpr c20
     clear c20
     (first | rw [c20b0] | (simp only [i64_w, i32_w]; rw [c20b0]) | skip)
     by_cases c21 : t164 = 0
     ·rw [if_pos c21] at H
      have c21b0 : (t164 == 0) = true := beq_iff_eq.mpr c21
      have c21b1 : (t164 != 0) = false := bne_eq_false_iff_eq.mpr c21
      clear c21
      by_cases c22 : t166 = 4
      ·rw [if_pos c22] at H
       have c22b0 : (t166 == 4) = true := beq_iff_eq.mpr c22
       have c22b1 : (t166 != 4) = false := bne_eq_false_iff_eq.mpr c22
       clear c22
       have H' := Aside0.mk H
       clear H
       go_wp2
       go_meet
       case rel => exact ⟨_, ((t171 != 2)), (by first | rfl | (simp; done) | (simp [*]; done)), H', ⟨by first | omega | exact Nat.le_refl _⟩, ⟨by repeat (first | (with_reducible first | exact HB.out | apply below_alloc | apply pw_below_drewN | apply below_drew1) | exact HB.out)⟩⟩
      ·rw [if_neg c22] at H
       have c22b0 : (t166 == 4) = false := beq_eq_false_iff_ne.mpr c22
       have c22b1 : (t166 != 4) = true := bne_iff_ne.mpr c22
       have H' := Aside0.mk H
       clear H
       go_wp2
       go_meet
       case rel => exact ⟨_, (true), (by first | rfl | (simp; done) | (simp [*]; done)), H', ⟨by first | omega | exact Nat.le_refl _⟩, ⟨by repeat (first | (with_reducible first | exact HB.out | apply below_alloc | apply pw_below_drewN | apply below_drew1) | exact HB.out)⟩⟩
     ·rw [if_neg c21] at H
      have c21b0 : (t164 == 0) = false := beq_eq_false_iff_ne.mpr c21
      have c21b1 : (t164 != 0) = true := bne_iff_ne.mpr c21
      have H' := Aside0.mk H
      clear H
      go_wp2
      go_meet
      case rel => exact ⟨_, (true), (by first | rfl | (simp; done) | (simp [*]; done)), H', ⟨by first | omega | exact Nat.le_refl _⟩, ⟨by repeat (first | (with_reducible first | exact HB.out | apply below_alloc | apply pw_below_drewN | apply below_drew1) | exact HB.out)⟩⟩
    ·rw [if_neg c20] at H
     have c20b0 : (t163.toList == a0.toList) = false := beq_eq_false_iff_ne.mpr c20
     have c20b1 : (t163.toList != a0.toList) = true := bne_iff_ne.mpr c20
     (first | rw [c20b0] | (simp only [i64_w, i32_w]; rw [c20b0]) | skip)
     have H' := Aside0.mk H
     clear H
     go_wp2
     go_meet
     case rel => exact ⟨_, (true), (by first | rfl | (simp; done) | (simp [*]; done)), H', ⟨by first | omega | exact Nat.le_refl _⟩, ⟨by repeat (first | (with_reducible first | exact HB.out | apply below_alloc | apply pw_below_drewN | apply below_drew1) | exact HB.out)⟩⟩
   case rest =>
    clear HC12
    try clear c1
    try clear hcv1
    try clear c2
    try clear p2
    try clear c4
    try clear c4b0
    try clear c4b1
    try clear c5
    try clear p6
    try clear c8
    try clear c9
    try clear c10
    try clear c10b0
    try clear c10b1
    try clear c10b2
    try clear c12
    try clear hcv18
    try clear c20
    try clear c20b0
    try clear c20b1
    try clear c21
    try clear c21b0
    try clear c21b1
    try clear c22
    try clear c22b0
    try clear c22b1
    obtain ⟨kq, x62_11, rfl, HA, HJ11, HB⟩ := hcut
    cases kq with
    | zero => exact absurd HA.out (by simp [graftagelaw03_SqueezeBack.j0])
    | succ kj11 =>
     have H := HA.out
     clear HA
     simp only [graftagelaw03_SqueezeBack.j0] at H
     by_cases c23 : x62_11 = true
     ·subst c23
      have H1 : (some false) = some r := by rw [if_pos rfl] at H; exact H
      clear H
      have H := H1
      clear H1
      exact absurd (H.trans (congrArg some hr)) (by decide)
     ·replace c23 := Bool.eq_false_iff.mpr c23
      subst c23
      have H1 : (if a1 < 0 then (graftagelaw03_SqueezeBack.j1 kj11 a0 a1 t162 true) else (graftagelaw03_SqueezeBack.j1 kj11 a0 a1 t162 (decide (a1 ≥ (t162.size : Int))))) = some r := by rw [if_neg (show ¬ (false = true) by decide)] at H; exact H
      clear H
      have H := H1
      clear H1
      have HC24 := Aside0.mk H
      clear H
      go_upto_region 9 with (fail)
      go_cut [70] (fun v70 wc => ∃ (kq : Nat) (x70_23 : Bool), v70 = .bool x70_23 ∧ Aside0 (graftagelaw03_SqueezeBack.j1 kq a0 a1 t162 x70_23 = some r) ∧ Aside0 (kq ≤ kj11) ∧ Aside0 (Below w.heap.size w wc))
      case first =>
       have H := HC24.out
       clear HC24
       by_cases c25 : a1 < 0
       ·rw [if_pos c25] at H
        have c25b0 : decide (a1 < 0) = true := decide_eq_true c25
        clear c25
        (first | rw [c25b0] | (simp only [i64_w, i32_w]; rw [c25b0]) | skip)
        have H' := Aside0.mk H
        clear H
        go_wp2
        go_meet
        case rel => exact ⟨_, (true), (by first | rfl | (simp; done) | (simp [*]; done)), H', ⟨by have := HJ11.out; first | omega | exact Nat.le_refl _⟩, ⟨by repeat (first | (with_reducible first | exact HB.out | apply below_alloc | apply pw_below_drewN | apply below_drew1) | exact HB.out)⟩⟩
       ·rw [if_neg c25] at H
        have c25b0 : decide (a1 < 0) = false := decide_eq_false c25
        clear c25
        (first | rw [c25b0] | (simp only [i64_w, i32_w]; rw [c25b0]) | skip)
        have H' := Aside0.mk H
        clear H
        go_wp2
        go_meet
        case rel => exact ⟨_, (decide (a1 ≥ (t162.size : Int))), (by first | rfl | (simp; done) | (simp [*]; done)), H', ⟨by have := HJ11.out; first | omega | exact Nat.le_refl _⟩, ⟨by repeat (first | (with_reducible first | exact HB.out | apply below_alloc | apply pw_below_drewN | apply below_drew1) | exact HB.out)⟩⟩
      case rest =>
       clear HC24
       try clear c1
       try clear hcv1
       try clear c2
       try clear p2
       try clear c4
       try clear c4b0
       try clear c4b1
       try clear c5
       try clear p6
       try clear c8
       try clear c9
       try clear c10
       try clear c10b0
       try clear c10b1
       try clear c10b2
       try clear c12
       try clear hcv18
       try clear c20
       try clear c20b0
       try clear c20b1
       try clear c21
       try clear c21b0
       try clear c21b1
       try clear c22
       try clear c22b0
       try clear c22b1
       try clear c23
       try clear c25
       try clear c25b0
       try clear p2
       try clear p6
       obtain ⟨kq, x70_23, rfl, HA, HJ23, HB⟩ := hcut
       cases kq with
       | zero => exact absurd HA.out (by simp [graftagelaw03_SqueezeBack.j1])
       | succ kj23 =>
        have H := HA.out
        clear HA
        simp only [graftagelaw03_SqueezeBack.j1] at H
        by_cases c26 : x70_23 = true
        ·subst c26
         have H1 : ((graftagelaw03_lives.f).bind fun t172 => (some t172)) = some r := by rw [if_pos rfl] at H; exact H
         clear H
         have H := H1
         clear H1
         replace H := Option.bind_eq_some_iff.mp H
         obtain ⟨t172, A270, H⟩ := H
         replace H : (some t172) = some r := H
         have A27 := Aside0.mk A270
         clear A270
         obtain rfl := Option.some.inj H
         go_wp2_with (first | ((with_reducible refine gate_callee (f := 8) rfl ?_); refine goesL_ (some 71) rfl rfl Try.func8 (by kernel_rfl) rfl #[] rfl (by (try simp only [List.map_toArray, List.map_cons, List.map_nil]); first | done | rfl | (simp only [List.length_drop, List.length_take]; rfl)) ?_; (with_reducible refine (graftagelaw03_lives.calls  t172 _ A27.out).mono ?_); rintro e w28 ⟨rfl, hb⟩; refine ⟨_, rfl, ?_⟩; have n0_ := Aside0.mk (below_step (by repeat (first | (with_reducible first | exact HB.out | apply below_alloc | apply pw_below_drewN | apply below_drew1) | exact HB.out)) hb); clear HB; have HB := n0_; clear n0_; (try clear hb); (try clear hb2); (try clear hk); (try clear hi)))
         go_ret
         exact ⟨by first | rfl | (simp [errW_none, errW_some] <;> rfl) | (simp [*, errW_none, errW_some] <;> rfl), by repeat (first | (with_reducible first | exact HB.out | apply below_alloc | apply pw_below_drewN | apply below_drew1) | exact HB.out)⟩
        ·replace c26 := Bool.eq_false_iff.mpr c26
         subst c26
         have H1 : (if 0 ≤ a1 then (if a1 ≤ (t162.size : Int) then ((squeeze_Decompress.f (t162.extract 0 (a1 : Int).toNat) (a0.size : Int)).bind fun bt173 => ((graftagelaw03_lives.f).bind fun t175 => (if t175 = true then (if bt173.1.toList = ([] : List UInt8) then (some (bt173.2 == 3)) else (some false)) else (some false)))) else (none)) else (none)) = some r := by rw [if_neg (show ¬ (false = true) by decide)] at H; exact H
         clear H
         have H := H1
         clear H1
         by_cases c29 : 0 ≤ a1
         ·rw [if_pos c29] at H
          have c29b0 := eq_true c29
          have c29b1 : decide (0 ≤ a1) = true := decide_eq_true c29
          clear c29
          by_cases c30 : a1 ≤ (t162.size : Int)
          ·rw [if_pos c30] at H
           have c30b0 := eq_true c30
           have c30b1 : decide (a1 ≤ (t162.size : Int)) = true := decide_eq_true c30
           clear c30
           replace H := Option.bind_eq_some_iff.mp H
           obtain ⟨⟨t173, t174⟩, A310, H⟩ := H
           replace H : ((graftagelaw03_lives.f).bind fun t175 => (if t175 = true then (if t173.toList = ([] : List UInt8) then (some (t174 == 3)) else (some false)) else (some false))) = some r := H
           have A31 := Aside0.mk A310
           clear A310
           replace H := Option.bind_eq_some_iff.mp H
           obtain ⟨t175, A320, H⟩ := H
           replace H : (if t175 = true then (if t173.toList = ([] : List UInt8) then (some (t174 == 3)) else (some false)) else (some false)) = some r := H
           have A32 := Aside0.mk A320
           clear A320
           by_cases c33 : t175 = true
           ·subst c33
            have H1 : (if t173.toList = ([] : List UInt8) then (some (t174 == 3)) else (some false)) = some r := by rw [if_pos rfl] at H; exact H
            clear H
            have H := H1
            clear H1
            by_cases c34 : t173.toList = ([] : List UInt8)
            ·rw [if_pos c34] at H
             have c34b0 : (t173.toList == ([] : List UInt8)) = true := beq_iff_eq.mpr c34
             have c34b1 : (t173.toList != ([] : List UInt8)) = false := bne_eq_false_iff_eq.mpr c34
             clear c34
             obtain rfl := Option.some.inj H
             go_wp2_with (first | ((with_reducible refine gate_callee (f := 12) rfl ?_); refine goesL_ (some 78) rfl rfl Try.func12 (by kernel_rfl) rfl #[.string (t162.extract 0 (a1 : Int).toNat), .int .i64 (a0.size : Int)] rfl (by (try simp only [List.map_toArray, List.map_cons, List.map_nil]); first | done | rfl | (simp only [List.length_drop, List.length_take]; rfl)) ?_; (with_reducible refine (squeeze_Decompress.calls (t162.extract 0 (a1 : Int).toNat) (a0.size : Int) t173 t174 _ A31.out).mono ?_); rintro e w35 ⟨rfl, hb⟩; refine ⟨_, rfl, ?_⟩; have n0_ := Aside0.mk (below_step (by repeat (first | (with_reducible first | exact HB.out | apply below_alloc | apply pw_below_drewN | apply below_drew1) | exact HB.out)) hb); clear HB; have HB := n0_; clear n0_; (try clear hb); (try clear hb2); (try clear hk); (try clear hi)) | ((with_reducible refine gate_callee (f := 8) rfl ?_); refine goesL_ (some 81) rfl rfl Try.func8 (by kernel_rfl) rfl #[] rfl (by (try simp only [List.map_toArray, List.map_cons, List.map_nil]); first | done | rfl | (simp only [List.length_drop, List.length_take]; rfl)) ?_; (with_reducible refine (graftagelaw03_lives.calls  true _ A32.out).mono ?_); rintro e w36 ⟨rfl, hb⟩; refine ⟨_, rfl, ?_⟩; have n0_ := Aside0.mk (below_step (by repeat (first | (with_reducible first | exact HB.out | apply below_alloc | apply pw_below_drewN | apply below_drew1) | exact HB.out)) hb); clear HB; have HB := n0_; clear n0_; (try clear hb); (try clear hb2); (try clear hk); (try clear hi)))
             go_ret
             exact ⟨by first | rfl | (simp [errW_none, errW_some] <;> rfl) | (simp [*, errW_none, errW_some] <;> rfl), by repeat (first | (with_reducible first | exact HB.out | apply below_alloc | apply pw_below_drewN | apply below_drew1) | exact HB.out)⟩
            ·rw [if_neg c34] at H
             have c34b0 : (t173.toList == ([] : List UInt8)) = false := beq_eq_false_iff_ne.mpr c34
             have c34b1 : (t173.toList != ([] : List UInt8)) = true := bne_iff_ne.mpr c34
             exact absurd (H.trans (congrArg some hr)) (by decide)
           ·replace c33 := Bool.eq_false_iff.mpr c33
            subst c33
            have H1 : (some false) = some r := by rw [if_neg (show ¬ (false = true) by decide)] at H; exact H
            clear H
            have H := H1
            clear H1
            exact absurd (H.trans (congrArg some hr)) (by decide)
          ·rw [if_neg c30] at H
           exact absurd H (by simp)
         ·rw [if_neg c29] at H
          exact absurd H (by simp)
  ·rw [if_neg c10] at H
   exact absurd H (by simp)

/-- THE ONE PURE STATEMENT of graftagelaw03_SqueezeBack: yours. -/
def graftagelaw03_SqueezeBack.Pure : Prop := ∀ (a0 : ByteArray) (a1 : Int) (a2 : Int), a0.size ≤ 140737488351232 → (Lit.int .i64 a1).wf = true → (Lit.int .u8 a2).wf = true → ∃ k, graftagelaw03_SqueezeBack.f k a0 a1 a2 = some true
theorem graftagelaw03_SqueezeBack.walk (P : graftagelaw03_SqueezeBack.Pure) (a0 : ByteArray) (a1 : Int) (a2 : Int) (w : World) (w0 : a0.size ≤ 140737488351232) (w1 : (Lit.int .i64 a1).wf = true) (w2 : (Lit.int .u8 a2).wf = true) :
  Calls Try.prog 5 #[.string a0, .int .i64 a1, .int .u8 a2] w fun e w' => e = .returned (.bool true) ∧ Below w.heap.size w w' := by
 obtain ⟨k, h⟩ := P a0 a1 a2 w0 w1 w2
 refine (graftagelaw03_SqueezeBack.calls k a0 a1 a2 true w h rfl).mono ?_
 rintro e w' ⟨rfl, hd⟩
 exact ⟨rfl, hd⟩

-- NOT PRINTED: function 6 (graftagelaw03_SqueezeFew)

/-! ### graftageref03_Bound: function 14 -/
def graftageref03_Bound.f (a0 : Int) : Option (Int) := if a0 < 0 then (some 16) else (some (wrap64 ((wrap64 (a0 + (wrap64 (Int.tdiv a0 64)))) + 16)))
set_option maxHeartbeats 8000000 in
set_option maxRecDepth 100000 in
theorem graftageref03_Bound.calls (a0 : Int) (r : Int) (w : World) (h : graftageref03_Bound.f a0 = some r) :
  Calls Try.prog 14 #[.int .i64 a0] w fun e w' => e = .returned (.int .i64 r) ∧ Drawn0 w w' := by
 have H : (if a0 < 0 then (some 16) else (some (wrap64 ((wrap64 (a0 + (wrap64 (Int.tdiv a0 64)))) + 16)))) = some r := h
 clear h
 by_cases c2 : a0 < 0
 ·rw [if_pos c2] at H
  have c2b0 : decide (a0 < 0) = true := decide_eq_true c2
  clear c2
  obtain rfl := Option.some.inj H
  go_enter Try.func14, Try.ntmps14
  go_wp2
  go_ret
  exact ⟨by first | rfl | (simp; done) | (simp [*]; done), by repeat (first | exact Drawn0.refl _ | apply Drawn0.step)⟩
 ·rw [if_neg c2] at H
  have c2b0 : decide (a0 < 0) = false := decide_eq_false c2
  clear c2
  obtain rfl := Option.some.inj H
  go_enter Try.func14, Try.ntmps14
  go_wp2
  go_ret
  exact ⟨by first | rfl | (simp; done) | (simp [*]; done), by repeat (first | exact Drawn0.refl _ | apply Drawn0.step)⟩

/-! ### graftagelaw03_SqueezeBound: function 7 -/
def graftagelaw03_SqueezeBound.f (a0 : Int) : Option (Bool) := if a0 > 1125899906842624 then ((graftagelaw03_lives.f).bind fun t177 => (some t177)) else ((graftagelaw03_lives.f).bind fun t178 => (if t178 = true then ((squeeze_Bound.f a0).bind fun t179 => ((graftageref03_Bound.f a0).bind fun t180 => (some (t179 == t180)))) else (some false)))
set_option maxHeartbeats 8000000 in
set_option maxRecDepth 100000 in
theorem graftagelaw03_SqueezeBound.calls (a0 : Int) (r : Bool) (w : World) (h : graftagelaw03_SqueezeBound.f a0 = some r) (hr : r = true) :
  Calls Try.prog 7 #[.int .i64 a0] w fun e w' => e = .returned (.bool r) ∧ Below w.heap.size w w' := by
 have HB := Aside0.mk (Below.refl w.heap.size w)
 have H : (if a0 > 1125899906842624 then ((graftagelaw03_lives.f).bind fun t177 => (some t177)) else ((graftagelaw03_lives.f).bind fun t178 => (if t178 = true then ((squeeze_Bound.f a0).bind fun t179 => ((graftageref03_Bound.f a0).bind fun t180 => (some (t179 == t180)))) else (some false)))) = some r := h
 clear h
 by_cases c2 : a0 > 1125899906842624
 ·rw [if_pos c2] at H
  have c2b0 : decide (1125899906842624 < a0) = true := decide_eq_true c2
  clear c2
  replace H := Option.bind_eq_some_iff.mp H
  obtain ⟨t177, A30, H⟩ := H
  replace H : (some t177) = some r := H
  have A3 := Aside0.mk A30
  clear A30
  obtain rfl := Option.some.inj H
  go_enter Try.func7, Try.ntmps7
  go_wp2_with (first | ((with_reducible refine gate_callee (f := 8) rfl ?_); refine goesL_ (some 5) rfl rfl Try.func8 (by kernel_rfl) rfl #[] rfl (by (try simp only [List.map_toArray, List.map_cons, List.map_nil]); first | done | rfl | (simp only [List.length_drop, List.length_take]; rfl)) ?_; (with_reducible refine (graftagelaw03_lives.calls  t177 _ A3.out).mono ?_); rintro e w4 ⟨rfl, hb⟩; refine ⟨_, rfl, ?_⟩; have n0_ := Aside0.mk (below_step (by repeat (first | (with_reducible first | exact HB.out | apply below_alloc | apply pw_below_drewN | apply below_drew1) | exact HB.out)) hb); clear HB; have HB := n0_; clear n0_; (try clear hb); (try clear hb2); (try clear hk); (try clear hi)))
  go_ret
  exact ⟨by first | rfl | (simp [errW_none, errW_some] <;> rfl) | (simp [*, errW_none, errW_some] <;> rfl), by repeat (first | (with_reducible first | exact HB.out | apply below_alloc | apply pw_below_drewN | apply below_drew1) | exact HB.out)⟩
 ·rw [if_neg c2] at H
  have c2b0 : decide (1125899906842624 < a0) = false := decide_eq_false c2
  clear c2
  replace H := Option.bind_eq_some_iff.mp H
  obtain ⟨t178, A50, H⟩ := H
  replace H : (if t178 = true then ((squeeze_Bound.f a0).bind fun t179 => ((graftageref03_Bound.f a0).bind fun t180 => (some (t179 == t180)))) else (some false)) = some r := H
  have A5 := Aside0.mk A50
  clear A50
  by_cases c6 : t178 = true
  ·subst c6
   have H1 : ((squeeze_Bound.f a0).bind fun t179 => ((graftageref03_Bound.f a0).bind fun t180 => (some (t179 == t180)))) = some r := by rw [if_pos rfl] at H; exact H
   clear H
   have H := H1
   clear H1
   replace H := Option.bind_eq_some_iff.mp H
   obtain ⟨t179, A70, H⟩ := H
   replace H : ((graftageref03_Bound.f a0).bind fun t180 => (some (t179 == t180))) = some r := H
   have A7 := Aside0.mk A70
   clear A70
   replace H := Option.bind_eq_some_iff.mp H
   obtain ⟨t180, A80, H⟩ := H
   replace H : (some (t179 == t180)) = some r := H
   have A8 := Aside0.mk A80
   clear A80
   obtain rfl := Option.some.inj H
   go_enter Try.func7, Try.ntmps7
   go_wp2_with (first | ((with_reducible refine gate_callee (f := 8) rfl ?_); refine goesL_ (some 6) rfl rfl Try.func8 (by kernel_rfl) rfl #[] rfl (by (try simp only [List.map_toArray, List.map_cons, List.map_nil]); first | done | rfl | (simp only [List.length_drop, List.length_take]; rfl)) ?_; (with_reducible refine (graftagelaw03_lives.calls  true _ A5.out).mono ?_); rintro e w9 ⟨rfl, hb⟩; refine ⟨_, rfl, ?_⟩; have n0_ := Aside0.mk (below_step (by repeat (first | (with_reducible first | exact HB.out | apply below_alloc | apply pw_below_drewN | apply below_drew1) | exact HB.out)) hb); clear HB; have HB := n0_; clear n0_; (try clear hb); (try clear hb2); (try clear hk); (try clear hi)) | (go_at_call 11; (with_reducible refine (squeeze_Bound.calls a0 t179 _ A7.out).mono ?_); rintro e w' ⟨rfl, ⟨nd, rfl⟩⟩) | (go_at_call 14; (with_reducible refine (graftageref03_Bound.calls a0 t180 _ A8.out).mono ?_); rintro e w' ⟨rfl, ⟨nd, rfl⟩⟩))
   go_ret
   exact ⟨by first | rfl | (simp [errW_none, errW_some] <;> rfl) | (simp [*, errW_none, errW_some] <;> rfl), by repeat (first | (with_reducible first | exact HB.out | apply below_alloc | apply pw_below_drewN | apply below_drew1) | exact HB.out)⟩
  ·replace c6 := Bool.eq_false_iff.mpr c6
   subst c6
   have H1 : (some false) = some r := by rw [if_neg (show ¬ (false = true) by decide)] at H; exact H
   clear H
   have H := H1
   clear H1
   exact absurd (H.trans (congrArg some hr)) (by decide)

/-- THE ONE PURE STATEMENT of graftagelaw03_SqueezeBound: yours. -/
def graftagelaw03_SqueezeBound.Pure : Prop := ∀ (a0 : Int), (Lit.int .i64 a0).wf = true → graftagelaw03_SqueezeBound.f a0 = some true
theorem graftagelaw03_SqueezeBound.walk (P : graftagelaw03_SqueezeBound.Pure) (a0 : Int) (w : World) (w0 : (Lit.int .i64 a0).wf = true) :
  Calls Try.prog 7 #[.int .i64 a0] w fun e w' => e = .returned (.bool true) ∧ Below w.heap.size w w' := by
 have h := P a0 w0
 refine (graftagelaw03_SqueezeBound.calls a0 true w h rfl).mono ?_
 rintro e w' ⟨rfl, hd⟩
 exact ⟨rfl, hd⟩

end Go.Proofs.Ytmkoajmldbhnbaa.PSq
