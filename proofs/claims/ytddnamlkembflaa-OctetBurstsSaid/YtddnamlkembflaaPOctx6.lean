-- Written by wip/gen/gen.py of this session out of the seat's translation.
import Derived.Test.YtddnamlkembflaaPOctx0
import Derived.Test.YtddnamlkembflaaPOctx2
import Derived.Test.YtddnamlkembflaaPOctx3
import Derived.Test.YtddnamlkembflaaPOctx5
import Derived.Test.YtddnamlkembflaaFlip
namespace Go.Proofs.Ytddnamlkembflaa.POct
open Go.Proofs.Ytddnamlkembflaa.Hand Go.RowKit Go.Proofs.YtddnamlkembflaaW.PrintWords Go.Proofs.YtddnamlkembflaaW.PrintLast Go.Proofs.YtddnamlkembflaaW.PrintMore
attribute [local go_sem] max2_int min2_int max_two min_two max_three min_three max_four min_four   -- for this text's walks alone
set_option linter.unusedVariables false
set_option linter.unusedSimpArgs false

/-! ### graftagelaw01_OctetSums: function 5 -/
def graftagelaw01_OctetSums.f (k : Nat) (a0 : ByteArray) : Option (Bool) := (octet_Open.f k a0).bind fun bt190 => ((graftageref01_Open.f k a0).bind fun bt192 => ((octet_Seal.f k a0).bind fun t194 => ((octet_Open.f k t194).bind fun bt195 => ((graftagelaw01_lives.f k).bind fun t197 => (if t197 = true then ((octet_Sum.f k a0).bind fun t198 => ((graftageref01_Sum.f k a0).bind fun t199 => (if t198 = t199 then ((octet_Seal.f k a0).bind fun t200 => ((graftageref01_Seal.f k a0).bind fun t201 => (if t200.toList = t201.toList then (if bt190.1.toList = bt192.1.toList then (if (bt190.2 == bt192.2) = true then (if bt195.1.toList = a0.toList then (some bt195.2) else (some false)) else (some false)) else (some false)) else (some false)))) else (some false)))) else (some false))))))
theorem graftagelaw01_OctetSums.mono : ∀ a0 k, LeO (graftagelaw01_OctetSums.f k a0) (graftagelaw01_OctetSums.f (k + 1) a0) := by
 intro a0 k
 unfold graftagelaw01_OctetSums.f
 repeat' first
   | (with_reducible exact graftagelaw01_lives.mono _)
   | (with_reducible exact graftageref01_Open.mono _ _)
   | (with_reducible exact graftageref01_Seal.mono _ _)
   | (with_reducible exact graftageref01_Sum.mono _ _)
   | (with_reducible exact octet_Open.mono _ _)
   | (with_reducible exact octet_Seal.mono _ _)
   | (with_reducible exact octet_Sum.mono _ _)
   | (with_reducible exact LeO.refl _)
   | (with_reducible exact LeO.none _)
   | (with_reducible refine LeO.ite ?_ ?_)
   | (with_reducible refine LeO.bind ?_ (fun _ => ?_))
   | exact graftagelaw01_lives.mono _
   | exact graftageref01_Open.mono _ _
   | exact graftageref01_Seal.mono _ _
   | exact graftageref01_Sum.mono _ _
   | exact octet_Open.mono _ _
   | exact octet_Seal.mono _ _
   | exact octet_Sum.mono _ _
   | exact LeO.none _
   | refine LeO.ite ?_ ?_
   | refine LeO.bind ?_ (fun _ => ?_)
set_option maxHeartbeats 8000000 in
set_option maxRecDepth 100000 in
theorem graftagelaw01_OctetSums.calls (k : Nat) (a0 : ByteArray) (r : Bool) (w : World) (h : graftagelaw01_OctetSums.f k a0 = some r) (hr : r = true) :
  Calls Try.prog 5 #[.string a0] w fun e w' => e = .returned (.bool r) ∧ Below w.heap.size w w' := by
 have HB := Aside0.mk (Below.refl w.heap.size w)
 have H : ((octet_Open.f k a0).bind fun bt190 => ((graftageref01_Open.f k a0).bind fun bt192 => ((octet_Seal.f k a0).bind fun t194 => ((octet_Open.f k t194).bind fun bt195 => ((graftagelaw01_lives.f k).bind fun t197 => (if t197 = true then ((octet_Sum.f k a0).bind fun t198 => ((graftageref01_Sum.f k a0).bind fun t199 => (if t198 = t199 then ((octet_Seal.f k a0).bind fun t200 => ((graftageref01_Seal.f k a0).bind fun t201 => (if t200.toList = t201.toList then (if bt190.1.toList = bt192.1.toList then (if (bt190.2 == bt192.2) = true then (if bt195.1.toList = a0.toList then (some bt195.2) else (some false)) else (some false)) else (some false)) else (some false)))) else (some false)))) else (some false))))))) = some r := h
 clear h
 replace H := Option.bind_eq_some_iff.mp H
 obtain ⟨⟨t190, t191⟩, A20, H⟩ := H
 replace H : ((graftageref01_Open.f k a0).bind fun bt192 => ((octet_Seal.f k a0).bind fun t194 => ((octet_Open.f k t194).bind fun bt195 => ((graftagelaw01_lives.f k).bind fun t197 => (if t197 = true then ((octet_Sum.f k a0).bind fun t198 => ((graftageref01_Sum.f k a0).bind fun t199 => (if t198 = t199 then ((octet_Seal.f k a0).bind fun t200 => ((graftageref01_Seal.f k a0).bind fun t201 => (if t200.toList = t201.toList then (if t190.toList = bt192.1.toList then (if (t191 == bt192.2) = true then (if bt195.1.toList = a0.toList then (some bt195.2) else (some false)) else (some false)) else (some false)) else (some false)))) else (some false)))) else (some false)))))) = some r := H
 have A2 := Aside0.mk A20
 clear A20
 replace H := Option.bind_eq_some_iff.mp H
 obtain ⟨⟨t192, t193⟩, A30, H⟩ := H
 replace H : ((octet_Seal.f k a0).bind fun t194 => ((octet_Open.f k t194).bind fun bt195 => ((graftagelaw01_lives.f k).bind fun t197 => (if t197 = true then ((octet_Sum.f k a0).bind fun t198 => ((graftageref01_Sum.f k a0).bind fun t199 => (if t198 = t199 then ((octet_Seal.f k a0).bind fun t200 => ((graftageref01_Seal.f k a0).bind fun t201 => (if t200.toList = t201.toList then (if t190.toList = t192.toList then (if (t191 == t193) = true then (if bt195.1.toList = a0.toList then (some bt195.2) else (some false)) else (some false)) else (some false)) else (some false)))) else (some false)))) else (some false))))) = some r := H
 have A3 := Aside0.mk A30
 clear A30
 replace H := Option.bind_eq_some_iff.mp H
 obtain ⟨t194, A40, H⟩ := H
 replace H : ((octet_Open.f k t194).bind fun bt195 => ((graftagelaw01_lives.f k).bind fun t197 => (if t197 = true then ((octet_Sum.f k a0).bind fun t198 => ((graftageref01_Sum.f k a0).bind fun t199 => (if t198 = t199 then ((octet_Seal.f k a0).bind fun t200 => ((graftageref01_Seal.f k a0).bind fun t201 => (if t200.toList = t201.toList then (if t190.toList = t192.toList then (if (t191 == t193) = true then (if bt195.1.toList = a0.toList then (some bt195.2) else (some false)) else (some false)) else (some false)) else (some false)))) else (some false)))) else (some false)))) = some r := H
 have A4 := Aside0.mk A40
 clear A40
 replace H := Option.bind_eq_some_iff.mp H
 obtain ⟨⟨t195, t196⟩, A50, H⟩ := H
 replace H : ((graftagelaw01_lives.f k).bind fun t197 => (if t197 = true then ((octet_Sum.f k a0).bind fun t198 => ((graftageref01_Sum.f k a0).bind fun t199 => (if t198 = t199 then ((octet_Seal.f k a0).bind fun t200 => ((graftageref01_Seal.f k a0).bind fun t201 => (if t200.toList = t201.toList then (if t190.toList = t192.toList then (if (t191 == t193) = true then (if t195.toList = a0.toList then (some t196) else (some false)) else (some false)) else (some false)) else (some false)))) else (some false)))) else (some false))) = some r := H
 have A5 := Aside0.mk A50
 clear A50
 replace H := Option.bind_eq_some_iff.mp H
 obtain ⟨t197, A60, H⟩ := H
 replace H : (if t197 = true then ((octet_Sum.f k a0).bind fun t198 => ((graftageref01_Sum.f k a0).bind fun t199 => (if t198 = t199 then ((octet_Seal.f k a0).bind fun t200 => ((graftageref01_Seal.f k a0).bind fun t201 => (if t200.toList = t201.toList then (if t190.toList = t192.toList then (if (t191 == t193) = true then (if t195.toList = a0.toList then (some t196) else (some false)) else (some false)) else (some false)) else (some false)))) else (some false)))) else (some false)) = some r := H
 have A6 := Aside0.mk A60
 clear A60
 by_cases c7 : t197 = true
 ·subst c7
  have H1 : ((octet_Sum.f k a0).bind fun t198 => ((graftageref01_Sum.f k a0).bind fun t199 => (if t198 = t199 then ((octet_Seal.f k a0).bind fun t200 => ((graftageref01_Seal.f k a0).bind fun t201 => (if t200.toList = t201.toList then (if t190.toList = t192.toList then (if (t191 == t193) = true then (if t195.toList = a0.toList then (some t196) else (some false)) else (some false)) else (some false)) else (some false)))) else (some false)))) = some r := by rw [if_pos rfl] at H; exact H
  clear H
  have H := H1
  clear H1
  replace H := Option.bind_eq_some_iff.mp H
  obtain ⟨t198, A80, H⟩ := H
  replace H : ((graftageref01_Sum.f k a0).bind fun t199 => (if t198 = t199 then ((octet_Seal.f k a0).bind fun t200 => ((graftageref01_Seal.f k a0).bind fun t201 => (if t200.toList = t201.toList then (if t190.toList = t192.toList then (if (t191 == t193) = true then (if t195.toList = a0.toList then (some t196) else (some false)) else (some false)) else (some false)) else (some false)))) else (some false))) = some r := H
  have A8 := Aside0.mk A80
  clear A80
  replace H := Option.bind_eq_some_iff.mp H
  obtain ⟨t199, A90, H⟩ := H
  replace H : (if t198 = t199 then ((octet_Seal.f k a0).bind fun t200 => ((graftageref01_Seal.f k a0).bind fun t201 => (if t200.toList = t201.toList then (if t190.toList = t192.toList then (if (t191 == t193) = true then (if t195.toList = a0.toList then (some t196) else (some false)) else (some false)) else (some false)) else (some false)))) else (some false)) = some r := H
  have A9 := Aside0.mk A90
  clear A90
  by_cases c10 : t198 = t199
  ·rw [if_pos c10] at H
   have c10b0 : (t198 == t199) = true := beq_iff_eq.mpr c10
   have c10b1 : (t198 != t199) = false := bne_eq_false_iff_eq.mpr c10
   clear c10
   replace H := Option.bind_eq_some_iff.mp H
   obtain ⟨t200, A110, H⟩ := H
   replace H : ((graftageref01_Seal.f k a0).bind fun t201 => (if t200.toList = t201.toList then (if t190.toList = t192.toList then (if (t191 == t193) = true then (if t195.toList = a0.toList then (some t196) else (some false)) else (some false)) else (some false)) else (some false))) = some r := H
   have A11 := Aside0.mk A110
   clear A110
   replace H := Option.bind_eq_some_iff.mp H
   obtain ⟨t201, A120, H⟩ := H
   replace H : (if t200.toList = t201.toList then (if t190.toList = t192.toList then (if (t191 == t193) = true then (if t195.toList = a0.toList then (some t196) else (some false)) else (some false)) else (some false)) else (some false)) = some r := H
   have A12 := Aside0.mk A120
   clear A120
   by_cases c13 : t200.toList = t201.toList
   ·rw [if_pos c13] at H
    have c13b0 : (t200.toList == t201.toList) = true := beq_iff_eq.mpr c13
    have c13b1 : (t200.toList != t201.toList) = false := bne_eq_false_iff_eq.mpr c13
    clear c13
    by_cases c14 : t190.toList = t192.toList
    ·rw [if_pos c14] at H
     have c14b0 : (t190.toList == t192.toList) = true := beq_iff_eq.mpr c14
     have c14b1 : (t190.toList != t192.toList) = false := bne_eq_false_iff_eq.mpr c14
     clear c14
     by_cases c15 : (t191 == t193) = true
     ·rw [if_pos c15] at H
      have c15b0 : (t191 == t193) = true := c15
      (try (have c15b1 : decide (t191 = t193) = true := by simpa using c15))
      (try (have c15b2 : (t191 == t193) = true := by simpa using c15))
      clear c15
      by_cases c16 : t195.toList = a0.toList
      ·rw [if_pos c16] at H
       have c16b0 : (t195.toList == a0.toList) = true := beq_iff_eq.mpr c16
       have c16b1 : (t195.toList != a0.toList) = false := bne_eq_false_iff_eq.mpr c16
       clear c16
       obtain rfl := Option.some.inj H
       go_enter Try.func5, Try.ntmps5
       go_wp2_with (first | ((with_reducible refine gate_callee (f := 20) rfl ?_); refine goesL_ (some 11) rfl rfl Try.func20 (by kernel_rfl) rfl #[.string a0] rfl (by (try simp only [List.map_toArray, List.map_cons, List.map_nil]); first | done | rfl | (simp only [List.length_drop, List.length_take]; rfl)) ?_; (with_reducible refine (octet_Open.calls k a0 t190 t191 _ A2.out).mono ?_); rintro e w17 ⟨rfl, hb⟩; refine ⟨_, rfl, ?_⟩; have n0_ := Aside0.mk (below_step (by repeat (first | (with_reducible first | exact HB.out | apply below_alloc | apply pw_below_drewN | apply below_drew1) | exact HB.out)) hb); clear HB; have HB := n0_; clear n0_; (try clear hb); (try clear hb2); (try clear hk); (try clear hi)) | ((with_reducible refine gate_callee (f := 21) rfl ?_); refine goesL_ (some 16) rfl rfl Try.func21 (by kernel_rfl) rfl #[.string a0] rfl (by (try simp only [List.map_toArray, List.map_cons, List.map_nil]); first | done | rfl | (simp only [List.length_drop, List.length_take]; rfl)) ?_; (with_reducible refine (graftageref01_Open.calls k a0 t192 t193 _ A3.out).mono ?_); rintro e w18 ⟨rfl, hb⟩; refine ⟨_, rfl, ?_⟩; have n0_ := Aside0.mk (below_step (by repeat (first | (with_reducible first | exact HB.out | apply below_alloc | apply pw_below_drewN | apply below_drew1) | exact HB.out)) hb); clear HB; have HB := n0_; clear n0_; (try clear hb); (try clear hb2); (try clear hk); (try clear hi)) | ((with_reducible refine gate_callee (f := 22) rfl ?_); refine goesL_ (some 21) rfl rfl Try.func22 (by kernel_rfl) rfl #[.string a0] rfl (by (try simp only [List.map_toArray, List.map_cons, List.map_nil]); first | done | rfl | (simp only [List.length_drop, List.length_take]; rfl)) ?_; (with_reducible refine (octet_Seal.calls k a0 t194 _ A4.out).mono ?_); rintro e w19 ⟨rfl, hb⟩; refine ⟨_, rfl, ?_⟩; have n0_ := Aside0.mk (below_step (by repeat (first | (with_reducible first | exact HB.out | apply below_alloc | apply pw_below_drewN | apply below_drew1) | exact HB.out)) hb); clear HB; have HB := n0_; clear n0_; (try clear hb); (try clear hb2); (try clear hk); (try clear hi)) | ((with_reducible refine gate_callee (f := 20) rfl ?_); refine goesL_ (some 22) rfl rfl Try.func20 (by kernel_rfl) rfl #[.string t194] rfl (by (try simp only [List.map_toArray, List.map_cons, List.map_nil]); first | done | rfl | (simp only [List.length_drop, List.length_take]; rfl)) ?_; (with_reducible refine (octet_Open.calls k t194 t195 t196 _ A5.out).mono ?_); rintro e w20 ⟨rfl, hb⟩; refine ⟨_, rfl, ?_⟩; have n0_ := Aside0.mk (below_step (by repeat (first | (with_reducible first | exact HB.out | apply below_alloc | apply pw_below_drewN | apply below_drew1) | exact HB.out)) hb); clear HB; have HB := n0_; clear n0_; (try clear hb); (try clear hb2); (try clear hk); (try clear hi)) | ((with_reducible refine gate_callee (f := 13) rfl ?_); refine goesL_ (some 25) rfl rfl Try.func13 (by kernel_rfl) rfl #[] rfl (by (try simp only [List.map_toArray, List.map_cons, List.map_nil]); first | done | rfl | (simp only [List.length_drop, List.length_take]; rfl)) ?_; (with_reducible refine (graftagelaw01_lives.calls k  true _ A6.out).mono ?_); rintro e w21 ⟨rfl, hb⟩; refine ⟨_, rfl, ?_⟩; have n0_ := Aside0.mk (below_step (by repeat (first | (with_reducible first | exact HB.out | apply below_alloc | apply pw_below_drewN | apply below_drew1) | exact HB.out)) hb); clear HB; have HB := n0_; clear n0_; (try clear hb); (try clear hb2); (try clear hk); (try clear hi)) | (go_at_call 23; (with_reducible refine (octet_Sum.calls k a0 t198 _ A8.out).mono ?_); rintro e w' ⟨rfl, ⟨nd, rfl⟩⟩) | (go_at_call 24; (with_reducible refine (graftageref01_Sum.calls k a0 t199 _ A9.out).mono ?_); rintro e w' ⟨rfl, ⟨nd, rfl⟩⟩) | (go_at_call 22; (with_reducible refine (octet_Seal.calls k a0 t200 _ A11.out).mono ?_); rintro e w22 ⟨rfl, hb⟩; have n0_ := Aside0.mk (below_step (by repeat (first | (with_reducible first | exact HB.out | apply below_alloc | apply pw_below_drewN | apply below_drew1) | exact HB.out)) hb); clear HB; have HB := n0_; clear n0_; (try clear hb); (try clear hb2); (try clear hk); (try clear hi)) | (go_at_call 25; (with_reducible refine (graftageref01_Seal.calls k a0 t201 _ A12.out).mono ?_); rintro e w23 ⟨rfl, hb⟩; have n0_ := Aside0.mk (below_step (by repeat (first | (with_reducible first | exact HB.out | apply below_alloc | apply pw_below_drewN | apply below_drew1) | exact HB.out)) hb); clear HB; have HB := n0_; clear n0_; (try clear hb); (try clear hb2); (try clear hk); (try clear hi)))
       go_ret
       exact ⟨by first | rfl | (simp [errW_none, errW_some] <;> rfl) | (simp [*, errW_none, errW_some] <;> rfl), by repeat (first | (with_reducible first | exact HB.out | apply below_alloc | apply pw_below_drewN | apply below_drew1) | exact HB.out)⟩
      ·rw [if_neg c16] at H
       have c16b0 : (t195.toList == a0.toList) = false := beq_eq_false_iff_ne.mpr c16
       have c16b1 : (t195.toList != a0.toList) = true := bne_iff_ne.mpr c16
       exact absurd (H.trans (congrArg some hr)) (by decide)
     ·rw [if_neg c15] at H
      have c15b0 : (t191 == t193) = false := by simpa using c15
      (try (have c15b1 : decide (t191 = t193) = false := by simpa using c15))
      (try (have c15b2 : (t191 == t193) = false := by simpa using c15))
      (try (have c15b3 : ¬ (t191 = t193) := by simpa using c15))
      clear c15
      exact absurd (H.trans (congrArg some hr)) (by decide)
    ·rw [if_neg c14] at H
     have c14b0 : (t190.toList == t192.toList) = false := beq_eq_false_iff_ne.mpr c14
     have c14b1 : (t190.toList != t192.toList) = true := bne_iff_ne.mpr c14
     exact absurd (H.trans (congrArg some hr)) (by decide)
   ·rw [if_neg c13] at H
    have c13b0 : (t200.toList == t201.toList) = false := beq_eq_false_iff_ne.mpr c13
    have c13b1 : (t200.toList != t201.toList) = true := bne_iff_ne.mpr c13
    exact absurd (H.trans (congrArg some hr)) (by decide)
  ·rw [if_neg c10] at H
   have c10b0 : (t198 == t199) = false := beq_eq_false_iff_ne.mpr c10
   have c10b1 : (t198 != t199) = true := bne_iff_ne.mpr c10
   exact absurd (H.trans (congrArg some hr)) (by decide)
 ·replace c7 := Bool.eq_false_iff.mpr c7
  subst c7
  have H1 : (some false) = some r := by rw [if_neg (show ¬ (false = true) by decide)] at H; exact H
  clear H
  have H := H1
  clear H1
  exact absurd (H.trans (congrArg some hr)) (by decide)

/-- THE ONE PURE STATEMENT of graftagelaw01_OctetSums: yours. -/
def graftagelaw01_OctetSums.Pure : Prop := ∀ (a0 : ByteArray), a0.size ≤ 140737488351232 → ∃ k, graftagelaw01_OctetSums.f k a0 = some true
theorem graftagelaw01_OctetSums.walk (P : graftagelaw01_OctetSums.Pure) (a0 : ByteArray) (w : World) (w0 : a0.size ≤ 140737488351232) :
  Calls Try.prog 5 #[.string a0] w fun e w' => e = .returned (.bool true) ∧ Below w.heap.size w w' := by
 obtain ⟨k, h⟩ := P a0 w0
 refine (graftagelaw01_OctetSums.calls k a0 true w h rfl).mono ?_
 rintro e w' ⟨rfl, hd⟩
 exact ⟨rfl, hd⟩

-- given by hand: function 26 (graftageref01_Flip)

/-! ### graftagelaw01_OctetBursts: function 6 -/
def graftagelaw01_OctetBursts.j0 : Nat → ByteArray → Int → Int → Bool → Option (Bool)
 | 0, _, _, _, _ => none
 | k + 1, x0, x1, x2, x15 => if x15 = true then ((graftagelaw01_lives.f k).bind fun t202 => (some t202)) else ((graftageref01_Flip.f x0 x1 x2).bind fun t203 => (if t203.toList = x0.toList then ((graftagelaw01_lives.f k).bind fun t204 => (some t204)) else ((octet_Sum.f k x0).bind fun t205 => ((octet_Word.f t203 t205).bind fun t206 => ((octet_Open.f k t206).bind fun bt207 => ((graftagelaw01_lives.f k).bind fun t209 => (if t209 = true then ((octet_Sum.f k t203).bind fun t210 => ((octet_Sum.f k x0).bind fun t211 => (if t210 = t211 then (some false) else (some (!bt207.2))))) else (some false))))))))
def graftagelaw01_OctetBursts.f (k : Nat) (a0 : ByteArray) (a1 : Int) (a2 : Int) : Option (Bool) := if a1 < 0 then (graftagelaw01_OctetBursts.j0 k a0 a1 a2 true) else (graftagelaw01_OctetBursts.j0 k a0 a1 a2 (decide (a1 > 1099511627776)))
theorem graftagelaw01_OctetBursts.mono_l : ∀ k, (∀ y0 y1 y2 y3, LeO (graftagelaw01_OctetBursts.j0 k y0 y1 y2 y3) (graftagelaw01_OctetBursts.j0 (k + 1) y0 y1 y2 y3))
 | 0 => fun _ _ _ _ r h => by simp [graftagelaw01_OctetBursts.j0] at h
 | k + 1 => by
  have ih0 := graftagelaw01_OctetBursts.mono_l k
  ·intro y0 y1 y2 y3
   unfold graftagelaw01_OctetBursts.j0
   repeat' first
   | (with_reducible exact ih0 _ _ _ _)
   | (with_reducible exact graftagelaw01_lives.mono _)
   | (with_reducible exact octet_Open.mono _ _)
   | (with_reducible exact octet_Sum.mono _ _)
   | (with_reducible exact LeO.refl _)
   | (with_reducible exact LeO.none _)
   | (with_reducible refine LeO.ite ?_ ?_)
   | (with_reducible refine LeO.bind ?_ (fun _ => ?_))
   | exact ih0 _ _ _ _
   | exact graftagelaw01_lives.mono _
   | exact octet_Open.mono _ _
   | exact octet_Sum.mono _ _
   | exact LeO.none _
   | refine LeO.ite ?_ ?_
   | refine LeO.bind ?_ (fun _ => ?_)
theorem graftagelaw01_OctetBursts.mono : ∀ a0 a1 a2 k, LeO (graftagelaw01_OctetBursts.f k a0 a1 a2) (graftagelaw01_OctetBursts.f (k + 1) a0 a1 a2) := by
 intro a0 a1 a2 k
 have ih0 := graftagelaw01_OctetBursts.mono_l k
 unfold graftagelaw01_OctetBursts.f
 repeat' first
   | (with_reducible exact ih0 _ _ _ _)
   | (with_reducible exact graftagelaw01_lives.mono _)
   | (with_reducible exact octet_Open.mono _ _)
   | (with_reducible exact octet_Sum.mono _ _)
   | (with_reducible exact LeO.refl _)
   | (with_reducible exact LeO.none _)
   | (with_reducible refine LeO.ite ?_ ?_)
   | (with_reducible refine LeO.bind ?_ (fun _ => ?_))
   | exact ih0 _ _ _ _
   | exact graftagelaw01_lives.mono _
   | exact octet_Open.mono _ _
   | exact octet_Sum.mono _ _
   | exact LeO.none _
   | refine LeO.ite ?_ ?_
   | refine LeO.bind ?_ (fun _ => ?_)
set_option maxHeartbeats 8000000 in
set_option maxRecDepth 100000 in
theorem graftagelaw01_OctetBursts.calls (k : Nat) (a0 : ByteArray) (a1 : Int) (a2 : Int) (r : Bool) (w : World) (h : graftagelaw01_OctetBursts.f k a0 a1 a2 = some r) (hr : r = true) :
  Calls Try.prog 6 #[.string a0, .int .i64 a1, .int .u32 a2] w fun e w' => e = .returned (.bool r) ∧ Below w.heap.size w w' := by
 have HB := Aside0.mk (Below.refl w.heap.size w)
 have H : (if a1 < 0 then (graftagelaw01_OctetBursts.j0 k a0 a1 a2 true) else (graftagelaw01_OctetBursts.j0 k a0 a1 a2 (decide (a1 > 1099511627776)))) = some r := h
 clear h
 have HC4 := Aside0.mk H
 clear H
 go_enter Try.func6, Try.ntmps6
 go_upto_region 1 with (fail)
 go_cut [15] (fun v15 wc => ∃ (kq : Nat) (x15_3 : Bool), v15 = .bool x15_3 ∧ Aside0 (graftagelaw01_OctetBursts.j0 kq a0 a1 a2 x15_3 = some r) ∧ Aside0 (kq ≤ k) ∧ Aside0 (Below w.heap.size w wc))
 case first =>
  have H := HC4.out
  clear HC4
  by_cases c5 : a1 < 0
  ·rw [if_pos c5] at H
   have c5b0 : decide (a1 < 0) = true := decide_eq_true c5
   clear c5
   (first | rw [c5b0] | (simp only [i64_w, i32_w]; rw [c5b0]) | skip)
   have H' := Aside0.mk H
   clear H
   go_wp2
   go_meet
   case rel => exact ⟨_, (true), (by first | rfl | (simp; done) | (simp [*]; done)), H', ⟨by first | omega | exact Nat.le_refl _⟩, ⟨by repeat (first | (with_reducible first | exact HB.out | apply below_alloc | apply pw_below_drewN | apply below_drew1) | exact HB.out)⟩⟩
  ·rw [if_neg c5] at H
   have c5b0 : decide (a1 < 0) = false := decide_eq_false c5
   clear c5
   (first | rw [c5b0] | (simp only [i64_w, i32_w]; rw [c5b0]) | skip)
   have H' := Aside0.mk H
   clear H
   go_wp2
   go_meet
   case rel => exact ⟨_, (decide (a1 > 1099511627776)), (by first | rfl | (simp; done) | (simp [*]; done)), H', ⟨by first | omega | exact Nat.le_refl _⟩, ⟨by repeat (first | (with_reducible first | exact HB.out | apply below_alloc | apply pw_below_drewN | apply below_drew1) | exact HB.out)⟩⟩
 case rest =>
  clear HC4
  try clear p2
  try clear c5
  try clear c5b0
  obtain ⟨kq, x15_3, rfl, HA, HJ3, HB⟩ := hcut
  cases kq with
  | zero => exact absurd HA.out (by simp [graftagelaw01_OctetBursts.j0])
  | succ kj3 =>
   have H := HA.out
   clear HA
   simp only [graftagelaw01_OctetBursts.j0] at H
   by_cases c6 : x15_3 = true
   ·subst c6
    have H1 : ((graftagelaw01_lives.f kj3).bind fun t202 => (some t202)) = some r := by rw [if_pos rfl] at H; exact H
    clear H
    have H := H1
    clear H1
    replace H := Option.bind_eq_some_iff.mp H
    obtain ⟨t202, A70, H⟩ := H
    replace H : (some t202) = some r := H
    have A7 := Aside0.mk A70
    clear A70
    obtain rfl := Option.some.inj H
    go_wp2_with (first | ((with_reducible refine gate_callee (f := 13) rfl ?_); refine goesL_ (some 16) rfl rfl Try.func13 (by kernel_rfl) rfl #[] rfl (by (try simp only [List.map_toArray, List.map_cons, List.map_nil]); first | done | rfl | (simp only [List.length_drop, List.length_take]; rfl)) ?_; (with_reducible refine (graftagelaw01_lives.calls kj3  t202 _ A7.out).mono ?_); rintro e w8 ⟨rfl, hb⟩; refine ⟨_, rfl, ?_⟩; have n0_ := Aside0.mk (below_step (by repeat (first | (with_reducible first | exact HB.out | apply below_alloc | apply pw_below_drewN | apply below_drew1) | exact HB.out)) hb); clear HB; have HB := n0_; clear n0_; (try clear hb); (try clear hb2); (try clear hk); (try clear hi)))
    go_ret
    exact ⟨by first | rfl | (simp [errW_none, errW_some] <;> rfl) | (simp [*, errW_none, errW_some] <;> rfl), by repeat (first | (with_reducible first | exact HB.out | apply below_alloc | apply pw_below_drewN | apply below_drew1) | exact HB.out)⟩
   ·replace c6 := Bool.eq_false_iff.mpr c6
    subst c6
    have H1 : ((graftageref01_Flip.f a0 a1 a2).bind fun t203 => (if t203.toList = a0.toList then ((graftagelaw01_lives.f kj3).bind fun t204 => (some t204)) else ((octet_Sum.f kj3 a0).bind fun t205 => ((octet_Word.f t203 t205).bind fun t206 => ((octet_Open.f kj3 t206).bind fun bt207 => ((graftagelaw01_lives.f kj3).bind fun t209 => (if t209 = true then ((octet_Sum.f kj3 t203).bind fun t210 => ((octet_Sum.f kj3 a0).bind fun t211 => (if t210 = t211 then (some false) else (some (!bt207.2))))) else (some false)))))))) = some r := by rw [if_neg (show ¬ (false = true) by decide)] at H; exact H
    clear H
    have H := H1
    clear H1
    replace H := Option.bind_eq_some_iff.mp H
    obtain ⟨t203, A90, H⟩ := H
    replace H : (if t203.toList = a0.toList then ((graftagelaw01_lives.f kj3).bind fun t204 => (some t204)) else ((octet_Sum.f kj3 a0).bind fun t205 => ((octet_Word.f t203 t205).bind fun t206 => ((octet_Open.f kj3 t206).bind fun bt207 => ((graftagelaw01_lives.f kj3).bind fun t209 => (if t209 = true then ((octet_Sum.f kj3 t203).bind fun t210 => ((octet_Sum.f kj3 a0).bind fun t211 => (if t210 = t211 then (some false) else (some (!bt207.2))))) else (some false))))))) = some r := H
    have A9 := Aside0.mk A90
    clear A90
    by_cases c10 : t203.toList = a0.toList
    ·rw [if_pos c10] at H
     have c10b0 : (t203.toList == a0.toList) = true := beq_iff_eq.mpr c10
     have c10b1 : (t203.toList != a0.toList) = false := bne_eq_false_iff_eq.mpr c10
     clear c10
     replace H := Option.bind_eq_some_iff.mp H
     obtain ⟨t204, A110, H⟩ := H
     replace H : (some t204) = some r := H
     have A11 := Aside0.mk A110
     clear A110
     obtain rfl := Option.some.inj H
     go_wp2_with (first | ((with_reducible refine gate_callee (f := 26) rfl ?_); refine goesL_ (some 20) rfl rfl Try.func26 (by kernel_rfl) rfl #[.string a0, .int .i64 a1, .int .u32 a2] rfl (by (try simp only [List.map_toArray, List.map_cons, List.map_nil]); first | done | rfl | (simp only [List.length_drop, List.length_take]; rfl)) ?_; (with_reducible refine (graftageref01_Flip.calls a0 a1 a2 t203 _ A9.out).mono ?_); rintro e w12 ⟨rfl, hb⟩; refine ⟨_, rfl, ?_⟩; have n0_ := Aside0.mk (below_step (by repeat (first | (with_reducible first | exact HB.out | apply below_alloc | apply pw_below_drewN | apply below_drew1) | exact HB.out)) hb); clear HB; have HB := n0_; clear n0_; (try clear hb); (try clear hb2); (try clear hk); (try clear hi)) | ((with_reducible refine gate_callee (f := 13) rfl ?_); refine goesL_ (some 24) rfl rfl Try.func13 (by kernel_rfl) rfl #[] rfl (by (try simp only [List.map_toArray, List.map_cons, List.map_nil]); first | done | rfl | (simp only [List.length_drop, List.length_take]; rfl)) ?_; (with_reducible refine (graftagelaw01_lives.calls kj3  t204 _ A11.out).mono ?_); rintro e w13 ⟨rfl, hb⟩; refine ⟨_, rfl, ?_⟩; have n0_ := Aside0.mk (below_step (by repeat (first | (with_reducible first | exact HB.out | apply below_alloc | apply pw_below_drewN | apply below_drew1) | exact HB.out)) hb); clear HB; have HB := n0_; clear n0_; (try clear hb); (try clear hb2); (try clear hk); (try clear hi)))
     go_ret
     exact ⟨by first | rfl | (simp [errW_none, errW_some] <;> rfl) | (simp [*, errW_none, errW_some] <;> rfl), by repeat (first | (with_reducible first | exact HB.out | apply below_alloc | apply pw_below_drewN | apply below_drew1) | exact HB.out)⟩
    ·rw [if_neg c10] at H
     have c10b0 : (t203.toList == a0.toList) = false := beq_eq_false_iff_ne.mpr c10
     have c10b1 : (t203.toList != a0.toList) = true := bne_iff_ne.mpr c10
     replace H := Option.bind_eq_some_iff.mp H
     obtain ⟨t205, A140, H⟩ := H
     replace H : ((octet_Word.f t203 t205).bind fun t206 => ((octet_Open.f kj3 t206).bind fun bt207 => ((graftagelaw01_lives.f kj3).bind fun t209 => (if t209 = true then ((octet_Sum.f kj3 t203).bind fun t210 => ((octet_Sum.f kj3 a0).bind fun t211 => (if t210 = t211 then (some false) else (some (!bt207.2))))) else (some false))))) = some r := H
     have A14 := Aside0.mk A140
     clear A140
     replace H := Option.bind_eq_some_iff.mp H
     obtain ⟨t206, A150, H⟩ := H
     replace H : ((octet_Open.f kj3 t206).bind fun bt207 => ((graftagelaw01_lives.f kj3).bind fun t209 => (if t209 = true then ((octet_Sum.f kj3 t203).bind fun t210 => ((octet_Sum.f kj3 a0).bind fun t211 => (if t210 = t211 then (some false) else (some (!bt207.2))))) else (some false)))) = some r := H
     have A15 := Aside0.mk A150
     clear A150
     replace H := Option.bind_eq_some_iff.mp H
     obtain ⟨⟨t207, t208⟩, A160, H⟩ := H
     replace H : ((graftagelaw01_lives.f kj3).bind fun t209 => (if t209 = true then ((octet_Sum.f kj3 t203).bind fun t210 => ((octet_Sum.f kj3 a0).bind fun t211 => (if t210 = t211 then (some false) else (some (!t208))))) else (some false))) = some r := H
     have A16 := Aside0.mk A160
     clear A160
     replace H := Option.bind_eq_some_iff.mp H
     obtain ⟨t209, A170, H⟩ := H
     replace H : (if t209 = true then ((octet_Sum.f kj3 t203).bind fun t210 => ((octet_Sum.f kj3 a0).bind fun t211 => (if t210 = t211 then (some false) else (some (!t208))))) else (some false)) = some r := H
     have A17 := Aside0.mk A170
     clear A170
     by_cases c18 : t209 = true
     ·subst c18
      have H1 : ((octet_Sum.f kj3 t203).bind fun t210 => ((octet_Sum.f kj3 a0).bind fun t211 => (if t210 = t211 then (some false) else (some (!t208))))) = some r := by rw [if_pos rfl] at H; exact H
      clear H
      have H := H1
      clear H1
      replace H := Option.bind_eq_some_iff.mp H
      obtain ⟨t210, A190, H⟩ := H
      replace H : ((octet_Sum.f kj3 a0).bind fun t211 => (if t210 = t211 then (some false) else (some (!t208)))) = some r := H
      have A19 := Aside0.mk A190
      clear A190
      replace H := Option.bind_eq_some_iff.mp H
      obtain ⟨t211, A200, H⟩ := H
      replace H : (if t210 = t211 then (some false) else (some (!t208))) = some r := H
      have A20 := Aside0.mk A200
      clear A200
      by_cases c21 : t210 = t211
      ·rw [if_pos c21] at H
       have c21b0 : (t210 == t211) = true := beq_iff_eq.mpr c21
       have c21b1 : (t210 != t211) = false := bne_eq_false_iff_eq.mpr c21
       clear c21
       exact absurd (H.trans (congrArg some hr)) (by decide)
      ·rw [if_neg c21] at H
       have c21b0 : (t210 == t211) = false := beq_eq_false_iff_ne.mpr c21
       have c21b1 : (t210 != t211) = true := bne_iff_ne.mpr c21
       obtain rfl := Option.some.inj H
       go_wp2_with (first | ((with_reducible refine gate_callee (f := 26) rfl ?_); refine goesL_ (some 20) rfl rfl Try.func26 (by kernel_rfl) rfl #[.string a0, .int .i64 a1, .int .u32 a2] rfl (by (try simp only [List.map_toArray, List.map_cons, List.map_nil]); first | done | rfl | (simp only [List.length_drop, List.length_take]; rfl)) ?_; (with_reducible refine (graftageref01_Flip.calls a0 a1 a2 t203 _ A9.out).mono ?_); rintro e w22 ⟨rfl, hb⟩; refine ⟨_, rfl, ?_⟩; have n0_ := Aside0.mk (below_step (by repeat (first | (with_reducible first | exact HB.out | apply below_alloc | apply pw_below_drewN | apply below_drew1) | exact HB.out)) hb); clear HB; have HB := n0_; clear n0_; (try clear hb); (try clear hb2); (try clear hk); (try clear hi)) | ((with_reducible refine gate_callee (f := 23) rfl ?_); refine goesL_ (some 28) rfl rfl Try.func23 (by kernel_rfl) rfl #[.string a0] rfl (by (try simp only [List.map_toArray, List.map_cons, List.map_nil]); first | done | rfl | (simp only [List.length_drop, List.length_take]; rfl)) ?_; (with_reducible refine (octet_Sum.calls kj3 a0 t205 _ A14.out).mono ?_); rintro e w' ⟨rfl, ⟨nd, rfl⟩⟩; refine ⟨_, rfl, ?_⟩) | ((with_reducible refine gate_callee (f := 16) rfl ?_); refine goesL_ (some 29) rfl rfl Try.func16 (by kernel_rfl) rfl #[.string t203, .int .u32 t205] rfl (by (try simp only [List.map_toArray, List.map_cons, List.map_nil]); first | done | rfl | (simp only [List.length_drop, List.length_take]; rfl)) ?_; (with_reducible refine (octet_Word.calls t203 t205 t206 _ A15.out).mono ?_); rintro e w23 ⟨rfl, hb⟩; refine ⟨_, rfl, ?_⟩; have n0_ := Aside0.mk (below_step (by repeat (first | (with_reducible first | exact HB.out | apply below_alloc | apply pw_below_drewN | apply below_drew1) | exact HB.out)) hb); clear HB; have HB := n0_; clear n0_; (try clear hb); (try clear hb2); (try clear hk); (try clear hi)) | ((with_reducible refine gate_callee (f := 20) rfl ?_); refine goesL_ (some 30) rfl rfl Try.func20 (by kernel_rfl) rfl #[.string t206] rfl (by (try simp only [List.map_toArray, List.map_cons, List.map_nil]); first | done | rfl | (simp only [List.length_drop, List.length_take]; rfl)) ?_; (with_reducible refine (octet_Open.calls kj3 t206 t207 t208 _ A16.out).mono ?_); rintro e w24 ⟨rfl, hb⟩; refine ⟨_, rfl, ?_⟩; have n0_ := Aside0.mk (below_step (by repeat (first | (with_reducible first | exact HB.out | apply below_alloc | apply pw_below_drewN | apply below_drew1) | exact HB.out)) hb); clear HB; have HB := n0_; clear n0_; (try clear hb); (try clear hb2); (try clear hk); (try clear hi)) | ((with_reducible refine gate_callee (f := 13) rfl ?_); refine goesL_ (some 33) rfl rfl Try.func13 (by kernel_rfl) rfl #[] rfl (by (try simp only [List.map_toArray, List.map_cons, List.map_nil]); first | done | rfl | (simp only [List.length_drop, List.length_take]; rfl)) ?_; (with_reducible refine (graftagelaw01_lives.calls kj3  true _ A17.out).mono ?_); rintro e w25 ⟨rfl, hb⟩; refine ⟨_, rfl, ?_⟩; have n0_ := Aside0.mk (below_step (by repeat (first | (with_reducible first | exact HB.out | apply below_alloc | apply pw_below_drewN | apply below_drew1) | exact HB.out)) hb); clear HB; have HB := n0_; clear n0_; (try clear hb); (try clear hb2); (try clear hk); (try clear hi)) | (go_at_call 23; (with_reducible refine (octet_Sum.calls kj3 t203 t210 _ A19.out).mono ?_); rintro e w' ⟨rfl, ⟨nd, rfl⟩⟩) | (go_at_call 23; (with_reducible refine (octet_Sum.calls kj3 a0 t211 _ A20.out).mono ?_); rintro e w' ⟨rfl, ⟨nd, rfl⟩⟩))
       go_ret
       exact ⟨by first | rfl | (simp [errW_none, errW_some] <;> rfl) | (simp [*, errW_none, errW_some] <;> rfl), by repeat (first | (with_reducible first | exact HB.out | apply below_alloc | apply pw_below_drewN | apply below_drew1) | exact HB.out)⟩
     ·replace c18 := Bool.eq_false_iff.mpr c18
      subst c18
      have H1 : (some false) = some r := by rw [if_neg (show ¬ (false = true) by decide)] at H; exact H
      clear H
      have H := H1
      clear H1
      exact absurd (H.trans (congrArg some hr)) (by decide)

/-- THE ONE PURE STATEMENT of graftagelaw01_OctetBursts: yours. -/
def graftagelaw01_OctetBursts.Pure : Prop := ∀ (a0 : ByteArray) (a1 : Int) (a2 : Int), a0.size ≤ 140737488351232 → (Lit.int .i64 a1).wf = true → (Lit.int .u32 a2).wf = true → ∃ k, graftagelaw01_OctetBursts.f k a0 a1 a2 = some true
theorem graftagelaw01_OctetBursts.walk (P : graftagelaw01_OctetBursts.Pure) (a0 : ByteArray) (a1 : Int) (a2 : Int) (w : World) (w0 : a0.size ≤ 140737488351232) (w1 : (Lit.int .i64 a1).wf = true) (w2 : (Lit.int .u32 a2).wf = true) :
  Calls Try.prog 6 #[.string a0, .int .i64 a1, .int .u32 a2] w fun e w' => e = .returned (.bool true) ∧ Below w.heap.size w w' := by
 obtain ⟨k, h⟩ := P a0 a1 a2 w0 w1 w2
 refine (graftagelaw01_OctetBursts.calls k a0 a1 a2 true w h rfl).mono ?_
 rintro e w' ⟨rfl, hd⟩
 exact ⟨rfl, hd⟩

end Go.Proofs.Ytddnamlkembflaa.POct
