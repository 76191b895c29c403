-- Written by wip/gen/gen.py of this session out of the seat's translation.
import Derived.Test.YtobiejdagfimdaaPPktx0
import Derived.Test.YtobiejdagfimdaaPPktx3
import Derived.Test.YtobiejdagfimdaaPPktx6
import Derived.Test.YtobiejdagfimdaaPPktx8
import Derived.Test.YtobiejdagfimdaaPPktx11
import Derived.Test.YtobiejdagfimdaaPktHand
namespace Go.Proofs.Ytobiejdagfimdaa.PPkt
open Go.Proofs.Ytobiejdagfimdaa.Hand Go.RowKit Go.Proofs.YtobiejdagfimdaaW.PrintWords Go.Proofs.YtobiejdagfimdaaW.PrintLast Go.Proofs.YtobiejdagfimdaaW.PrintMore
attribute [local go_sem] max2_int min2_int max_two min_two max_three min_three max_four min_four   -- for this text's walks alone
set_option linter.unusedVariables false
set_option linter.unusedSimpArgs false

/-! ### graftagelaw46_PktBack: function 7 -/
mutual
def graftagelaw46_PktBack.j0 : Nat → List (S24) → ByteArray → Int → Bool → Option (Bool)
 | 0, _, _, _, _ => none
 | k + 1, x0, x1, x2, x25 => if x25 = true then ((graftagelaw46_lives.f k).bind fun t293 => (some t293)) else ((pkt_Put.f x0).bind fun bt294 => (if bt294.2 = 0 then ((pkt_All.f k bt294.1).bind fun bt296 => (if bt296.2 = 0 then ((graftageref46_Same.f k x0 bt296.1).bind fun t300 => (if t300 = true then (graftagelaw46_PktBack.j1 k x1 x2) else (some false))) else (some false))) else (graftagelaw46_PktBack.j1 k x1 x2)))
def graftagelaw46_PktBack.j1 : Nat → ByteArray → Int → Option (Bool)
 | 0, _, _ => none
 | k + 1, x1, x2 => (pkt_All.f k x1).bind fun bt301 => (if bt301.2 = 0 then ((pkt_Put.f bt301.1).bind fun bt305 => (if bt305.2 = 0 then (if bt305.1.toList = x1.toList then (graftagelaw46_PktBack.j2 k x1 x2) else (some false)) else (some false))) else (graftagelaw46_PktBack.j2 k x1 x2))
def graftagelaw46_PktBack.j2 : Nat → ByteArray → Int → Option (Bool)
 | 0, _, _ => none
 | k + 1, x1, x2 => (pkt_Cut.f k x1 x2).bind fun t307 => ((pkt_Put.f t307).bind fun bt310 => ((pkt_All.f k bt310.1).bind fun bt312 => ((pkt_Join.f t307).bind fun t316 => (if t316.toList = x1.toList then (if bt310.2 = 0 then (if bt312.2 = 0 then ((graftageref46_Same.f k t307 bt312.1).bind fun t317 => (if t317 = true then ((graftagelaw46_lives.f k).bind fun t318 => (some t318)) else (some false))) else (some false)) else (some false)) else (some false)))))
end
def graftagelaw46_PktBack.f (k : Nat) (l0 : List (S24)) (a1 : ByteArray) (a2 : Int) : Option (Bool) := (graftageref46_Few.f k l0 5000).bind fun t292 => (if t292 = true then (graftagelaw46_PktBack.j0 k l0 a1 a2 (decide ((a1.size : Int) > 3000))) else (graftagelaw46_PktBack.j0 k l0 a1 a2 true))
theorem graftagelaw46_PktBack.mono_l : ∀ k, (∀ y0 y1 y2 y3, LeO (graftagelaw46_PktBack.j0 k y0 y1 y2 y3) (graftagelaw46_PktBack.j0 (k + 1) y0 y1 y2 y3)) ∧ (∀ y0 y1, LeO (graftagelaw46_PktBack.j1 k y0 y1) (graftagelaw46_PktBack.j1 (k + 1) y0 y1)) ∧ (∀ y0 y1, LeO (graftagelaw46_PktBack.j2 k y0 y1) (graftagelaw46_PktBack.j2 (k + 1) y0 y1))
 | 0 => ⟨fun _ _ _ _ r h => by simp [graftagelaw46_PktBack.j0] at h, fun _ _ r h => by simp [graftagelaw46_PktBack.j1] at h, fun _ _ r h => by simp [graftagelaw46_PktBack.j2] at h⟩
 | k + 1 => by
  obtain ⟨ih0, ih1, ih2⟩ := graftagelaw46_PktBack.mono_l k
  refine ⟨?_, ?_, ?_⟩
  ·intro y0 y1 y2 y3
   unfold graftagelaw46_PktBack.j0
   repeat' first
   | (with_reducible exact ih0 _ _ _ _)
   | (with_reducible exact ih1 _ _)
   | (with_reducible exact ih2 _ _)
   | (with_reducible exact graftagelaw46_lives.mono _)
   | (with_reducible exact graftageref46_Few.mono _ _ _)
   | (with_reducible exact graftageref46_Same.mono _ _ _)
   | (with_reducible exact pkt_All.mono _ _)
   | (with_reducible exact pkt_Cut.mono _ _ _)
   | (with_reducible exact LeO.refl _)
   | (with_reducible exact LeO.none _)
   | (with_reducible refine LeO.ite ?_ ?_)
   | (with_reducible refine LeO.bind ?_ (fun _ => ?_))
   | exact ih0 _ _ _ _
   | exact ih1 _ _
   | exact ih2 _ _
   | exact graftagelaw46_lives.mono _
   | exact graftageref46_Few.mono _ _ _
   | exact graftageref46_Same.mono _ _ _
   | exact pkt_All.mono _ _
   | exact pkt_Cut.mono _ _ _
   | exact LeO.none _
   | refine LeO.ite ?_ ?_
   | refine LeO.bind ?_ (fun _ => ?_)
  ·intro y0 y1
   unfold graftagelaw46_PktBack.j1
   repeat' first
   | (with_reducible exact ih0 _ _ _ _)
   | (with_reducible exact ih1 _ _)
   | (with_reducible exact ih2 _ _)
   | (with_reducible exact graftagelaw46_lives.mono _)
   | (with_reducible exact graftageref46_Few.mono _ _ _)
   | (with_reducible exact graftageref46_Same.mono _ _ _)
   | (with_reducible exact pkt_All.mono _ _)
   | (with_reducible exact pkt_Cut.mono _ _ _)
   | (with_reducible exact LeO.refl _)
   | (with_reducible exact LeO.none _)
   | (with_reducible refine LeO.ite ?_ ?_)
   | (with_reducible refine LeO.bind ?_ (fun _ => ?_))
   | exact ih0 _ _ _ _
   | exact ih1 _ _
   | exact ih2 _ _
   | exact graftagelaw46_lives.mono _
   | exact graftageref46_Few.mono _ _ _
   | exact graftageref46_Same.mono _ _ _
   | exact pkt_All.mono _ _
   | exact pkt_Cut.mono _ _ _
   | exact LeO.none _
   | refine LeO.ite ?_ ?_
   | refine LeO.bind ?_ (fun _ => ?_)
  ·intro y0 y1
   unfold graftagelaw46_PktBack.j2
   repeat' first
   | (with_reducible exact ih0 _ _ _ _)
   | (with_reducible exact ih1 _ _)
   | (with_reducible exact ih2 _ _)
   | (with_reducible exact graftagelaw46_lives.mono _)
   | (with_reducible exact graftageref46_Few.mono _ _ _)
   | (with_reducible exact graftageref46_Same.mono _ _ _)
   | (with_reducible exact pkt_All.mono _ _)
   | (with_reducible exact pkt_Cut.mono _ _ _)
   | (with_reducible exact LeO.refl _)
   | (with_reducible exact LeO.none _)
   | (with_reducible refine LeO.ite ?_ ?_)
   | (with_reducible refine LeO.bind ?_ (fun _ => ?_))
   | exact ih0 _ _ _ _
   | exact ih1 _ _
   | exact ih2 _ _
   | exact graftagelaw46_lives.mono _
   | exact graftageref46_Few.mono _ _ _
   | exact graftageref46_Same.mono _ _ _
   | exact pkt_All.mono _ _
   | exact pkt_Cut.mono _ _ _
   | exact LeO.none _
   | refine LeO.ite ?_ ?_
   | refine LeO.bind ?_ (fun _ => ?_)
theorem graftagelaw46_PktBack.mono : ∀ a0 a1 a2 k, LeO (graftagelaw46_PktBack.f k a0 a1 a2) (graftagelaw46_PktBack.f (k + 1) a0 a1 a2) := by
 intro a0 a1 a2 k
 obtain ⟨ih0, ih1, ih2⟩ := graftagelaw46_PktBack.mono_l k
 unfold graftagelaw46_PktBack.f
 repeat' first
   | (with_reducible exact ih0 _ _ _ _)
   | (with_reducible exact ih1 _ _)
   | (with_reducible exact ih2 _ _)
   | (with_reducible exact graftagelaw46_lives.mono _)
   | (with_reducible exact graftageref46_Few.mono _ _ _)
   | (with_reducible exact graftageref46_Same.mono _ _ _)
   | (with_reducible exact pkt_All.mono _ _)
   | (with_reducible exact pkt_Cut.mono _ _ _)
   | (with_reducible exact LeO.refl _)
   | (with_reducible exact LeO.none _)
   | (with_reducible refine LeO.ite ?_ ?_)
   | (with_reducible refine LeO.bind ?_ (fun _ => ?_))
   | exact ih0 _ _ _ _
   | exact ih1 _ _
   | exact ih2 _ _
   | exact graftagelaw46_lives.mono _
   | exact graftageref46_Few.mono _ _ _
   | exact graftageref46_Same.mono _ _ _
   | exact pkt_All.mono _ _
   | exact pkt_Cut.mono _ _ _
   | exact LeO.none _
   | refine LeO.ite ?_ ?_
   | refine LeO.bind ?_ (fun _ => ?_)
set_option maxHeartbeats 8000000 in
set_option maxRecDepth 100000 in
theorem graftagelaw46_PktBack.calls (k : Nat) (A0 : Option Addr) (c0 : Nat) (l0 : List (S24)) (a1 : ByteArray) (a2 : Int) (r : Bool) (w : World) (hr0 : Kd.C k24 w A0 l0.length l0) (hc0 : l0.length ≤ c0) (h : graftagelaw46_PktBack.f k l0 a1 a2 = some r) (hr : r = true) :
  Calls Try.prog 7 #[.slice A0 l0.length c0, .string a1, .int .i64 a2] w fun e w' => e = .returned (.bool r) ∧ Below w.heap.size w w' := by
 have HR0 := Aside0.mk hr0
 have HC0 := Aside0.mk hc0
 clear hr0 hc0
 have HB := Aside0.mk (Below.refl w.heap.size w)
 have H : ((graftageref46_Few.f k l0 5000).bind fun t292 => (if t292 = true then (graftagelaw46_PktBack.j0 k l0 a1 a2 (decide ((a1.size : Int) > 3000))) else (graftagelaw46_PktBack.j0 k l0 a1 a2 true))) = some r := h
 clear h
 have HC4 := Aside0.mk H
 clear H
 go_enter Try.func7, Try.ntmps7
 go_upto_region 1 with (fail)
 go_cut [25] (fun v25 wc => ∃ (kq : Nat) (x25_3 : Bool), v25 = .bool x25_3 ∧ Aside0 (graftagelaw46_PktBack.j0 kq l0 a1 a2 x25_3 = some r) ∧ Aside0 (kq ≤ k) ∧ Aside0 (Below w.heap.size w wc))
 case first =>
  have H := HC4.out
  clear HC4
  replace H := Option.bind_eq_some_iff.mp H
  obtain ⟨t292, A50, H⟩ := H
  replace H : (if t292 = true then (graftagelaw46_PktBack.j0 k l0 a1 a2 (decide ((a1.size : Int) > 3000))) else (graftagelaw46_PktBack.j0 k l0 a1 a2 true)) = some r := H
  have A5 := Aside0.mk A50
  clear A50
  by_cases c6 : t292 = true
  ·subst c6
   have H1 : (graftagelaw46_PktBack.j0 k l0 a1 a2 (decide ((a1.size : Int) > 3000))) = some r := by rw [if_pos rfl] at H; exact H
   clear H
   have H := H1
   clear H1
   have H' := Aside0.mk H
   clear H
   go_wp2_with (first | ((with_reducible refine gate_callee (f := 14) rfl ?_); refine goesL_ (some 19) rfl rfl Try.func14 (by kernel_rfl) rfl #[.slice A0 l0.length c0, .int .i64 5000] rfl (by (try simp only [List.map_toArray, List.map_cons, List.map_nil]); first | done | rfl | (simp only [List.length_drop, List.length_take]; rfl)) ?_; (with_reducible refine (graftageref46_Few.calls k _ _ l0 5000 true _ ?side1 ?side2 A5.out).mono ?_); (case side1 => repeat (first | exact (Kd.C_below HR0.out HB.out) | (with_reducible refine Kd.C_alloc ?_ _) | (with_reducible refine Kd.C_drewN ?_ _) | (with_reducible refine Kd.C_drew ?_))); (case side2 => exact HC0.out); rintro e w' ⟨rfl, ⟨nd, rfl⟩⟩; refine ⟨_, rfl, ?_⟩))
   go_meet
   case rel => exact ⟨_, (decide ((a1.size : Int) > 3000)), (by first | rfl | (simp; done) | (simp [*]; done)), H', ⟨by first | omega | exact Nat.le_refl _⟩, ⟨by repeat (first | (with_reducible first | exact HB.out | apply below_alloc | apply pw_below_drewN | apply below_drew1) | exact HB.out)⟩⟩
  ·replace c6 := Bool.eq_false_iff.mpr c6
   subst c6
   have H1 : (graftagelaw46_PktBack.j0 k l0 a1 a2 true) = some r := by rw [if_neg (show ¬ (false = true) by decide)] at H; exact H
   clear H
   have H := H1
   clear H1
   have H' := Aside0.mk H
   clear H
   go_wp2_with (first | ((with_reducible refine gate_callee (f := 14) rfl ?_); refine goesL_ (some 19) rfl rfl Try.func14 (by kernel_rfl) rfl #[.slice A0 l0.length c0, .int .i64 5000] rfl (by (try simp only [List.map_toArray, List.map_cons, List.map_nil]); first | done | rfl | (simp only [List.length_drop, List.length_take]; rfl)) ?_; (with_reducible refine (graftageref46_Few.calls k _ _ l0 5000 false _ ?side1 ?side2 A5.out).mono ?_); (case side1 => repeat (first | exact (Kd.C_below HR0.out HB.out) | (with_reducible refine Kd.C_alloc ?_ _) | (with_reducible refine Kd.C_drewN ?_ _) | (with_reducible refine Kd.C_drew ?_))); (case side2 => exact HC0.out); rintro e w' ⟨rfl, ⟨nd, rfl⟩⟩; refine ⟨_, rfl, ?_⟩))
   go_meet
   case rel => exact ⟨_, (true), (by first | rfl | (simp; done) | (simp [*]; done)), H', ⟨by first | omega | exact Nat.le_refl _⟩, ⟨by repeat (first | (with_reducible first | exact HB.out | apply below_alloc | apply pw_below_drewN | apply below_drew1) | exact HB.out)⟩⟩
 case rest =>
  clear HC4
  try clear c1
  try clear p2
  try clear c6
  obtain ⟨kq, x25_3, rfl, HA, HJ3, HB⟩ := hcut
  cases kq with
  | zero => exact absurd HA.out (by simp [graftagelaw46_PktBack.j0])
  | succ kj3 =>
   have H := HA.out
   clear HA
   simp only [graftagelaw46_PktBack.j0] at H
   by_cases c7 : x25_3 = true
   ·subst c7
    have H1 : ((graftagelaw46_lives.f kj3).bind fun t293 => (some t293)) = some r := by rw [if_pos rfl] at H; exact H
    clear H
    have H := H1
    clear H1
    replace H := Option.bind_eq_some_iff.mp H
    obtain ⟨t293, A80, H⟩ := H
    replace H : (some t293) = some r := H
    have A8 := Aside0.mk A80
    clear A80
    obtain rfl := Option.some.inj H
    go_wp2_with (first | ((with_reducible refine gate_callee (f := 8) rfl ?_); refine goesL_ (some 26) rfl rfl Try.func8 (by kernel_rfl) rfl #[] rfl (by (try simp only [List.map_toArray, List.map_cons, List.map_nil]); first | done | rfl | (simp only [List.length_drop, List.length_take]; rfl)) ?_; (with_reducible refine (graftagelaw46_lives.calls kj3  t293 _ A8.out).mono ?_); rintro e w9 ⟨rfl, hb⟩; refine ⟨_, rfl, ?_⟩; have n0_ := Aside0.mk (below_step (by repeat (first | (with_reducible first | exact HB.out | apply below_alloc | apply pw_below_drewN | apply below_drew1) | exact HB.out)) hb); clear HB; have HB := n0_; clear n0_; (try clear hb); (try clear hb2); (try clear hk); (try clear hi)))
    go_ret
    exact ⟨by first | rfl | (simp [errW_none, errW_some] <;> rfl) | (simp [*, errW_none, errW_some] <;> rfl), by repeat (first | (with_reducible first | exact HB.out | apply below_alloc | apply pw_below_drewN | apply below_drew1) | exact HB.out)⟩
   ·replace c7 := Bool.eq_false_iff.mpr c7
    subst c7
    have H1 : ((pkt_Put.f l0).bind fun bt294 => (if bt294.2 = 0 then ((pkt_All.f kj3 bt294.1).bind fun bt296 => (if bt296.2 = 0 then ((graftageref46_Same.f kj3 l0 bt296.1).bind fun t300 => (if t300 = true then (graftagelaw46_PktBack.j1 kj3 a1 a2) else (some false))) else (some false))) else (graftagelaw46_PktBack.j1 kj3 a1 a2))) = some r := by rw [if_neg (show ¬ (false = true) by decide)] at H; exact H
    clear H
    have H := H1
    clear H1
    replace H := Option.bind_eq_some_iff.mp H
    obtain ⟨⟨t294, t295⟩, A100, H⟩ := H
    replace H : (if t295 = 0 then ((pkt_All.f kj3 t294).bind fun bt296 => (if bt296.2 = 0 then ((graftageref46_Same.f kj3 l0 bt296.1).bind fun t300 => (if t300 = true then (graftagelaw46_PktBack.j1 kj3 a1 a2) else (some false))) else (some false))) else (graftagelaw46_PktBack.j1 kj3 a1 a2)) = some r := H
    have A10 := Aside0.mk A100
    clear A100
    have HC11 := Aside0.mk H
    clear H
    go_upto_if 33 with (first | ((with_reducible refine gate_callee (f := 15) rfl ?_); refine goesL_ (some 29) rfl rfl Try.func15 (by kernel_rfl) rfl #[.slice A0 l0.length c0] rfl (by (try simp only [List.map_toArray, List.map_cons, List.map_nil]); first | done | rfl | (simp only [List.length_drop, List.length_take]; rfl)) ?_; (with_reducible refine (pkt_Put.calls _ _ l0 t294 t295 _ ?side1 ?side2 A10.out).mono ?_); (case side1 => repeat (first | exact (Kd.C_below HR0.out HB.out) | (with_reducible refine Kd.C_alloc ?_ _) | (with_reducible refine Kd.C_drewN ?_ _) | (with_reducible refine Kd.C_drew ?_))); (case side2 => exact HC0.out); rintro e w12 ⟨rfl, hb⟩; refine ⟨_, rfl, ?_⟩; have n0_ := Aside0.mk (below_step (by repeat (first | (with_reducible first | exact HB.out | apply below_alloc | apply pw_below_drewN | apply below_drew1) | exact HB.out)) hb); clear HB; have HB := n0_; clear n0_; (try clear hb); (try clear hb2); (try clear hk); (try clear hi)))
    (try simp only [Act.put, List.setIfInBounds_toArray, List.set_cons_zero, List.set_cons_succ])
    go_cut [] (fun wc => ∃ (kq : Nat), Aside0 (graftagelaw46_PktBack.j1 kq a1 a2 = some r) ∧ Aside0 (kq ≤ kj3) ∧ Aside0 (Below w.heap.size w wc))
    case first =>
     have H := HC11.out
     clear HC11
     by_cases c13 : t295 = 0
     ·rw [if_pos c13] at H
      have c13b0 : (t295 == 0) = true := beq_iff_eq.mpr c13
      have c13b1 : (t295 != 0) = false := bne_eq_false_iff_eq.mpr c13
      clear c13
      (first | rw [c13b0] | (simp only [i64_w, i32_w]; rw [c13b0]) | skip)
      replace H := Option.bind_eq_some_iff.mp H
      obtain ⟨⟨t296, t297⟩, A140, H⟩ := H
      replace H : (if t297 = 0 then ((graftageref46_Same.f kj3 l0 t296).bind fun t300 => (if t300 = true then (graftagelaw46_PktBack.j1 kj3 a1 a2) else (some false))) else (some false)) = some r := H
      have A14 := Aside0.mk A140
      clear A140
      by_cases c15 : t297 = 0
      ·rw [if_pos c15] at H
       have c15b0 : (t297 == 0) = true := beq_iff_eq.mpr c15
       have c15b1 : (t297 != 0) = false := bne_eq_false_iff_eq.mpr c15
       clear c15
       replace H := Option.bind_eq_some_iff.mp H
       obtain ⟨t300, A160, H⟩ := H
       replace H : (if t300 = true then (graftagelaw46_PktBack.j1 kj3 a1 a2) else (some false)) = some r := H
       have A16 := Aside0.mk A160
       clear A160
       by_cases c17 : t300 = true
       ·subst c17
        have H1 : (graftagelaw46_PktBack.j1 kj3 a1 a2) = some r := by rw [if_pos rfl] at H; exact H
        clear H
        have H := H1
        clear H1
        have H' := Aside0.mk H
        clear H
        go_wp2_with (first | ((with_reducible refine gate_callee (f := 11) rfl ?_); refine goesL_ (some 36) rfl rfl Try.func11 (by kernel_rfl) rfl #[.string t294] rfl (by (try simp only [List.map_toArray, List.map_cons, List.map_nil]); first | done | rfl | (simp only [List.length_drop, List.length_take]; rfl)) ?_; (with_reducible refine (pkt_All.calls kj3 t294 t296 t297 _ A14.out).mono ?_); rintro e w18 ⟨v298, rfl, ho0, hb⟩; refine ⟨_, rfl, ?_⟩; have n0_ := Aside0.mk (Kd.R_lower ho0 (below_size (by repeat (first | (with_reducible first | exact HB.out | apply below_alloc | apply pw_below_drewN | apply below_drew1) | exact HB.out)))); have n1_ := Aside0.mk (below_step (by repeat (first | (with_reducible first | exact HB.out | apply below_alloc | apply pw_below_drewN | apply below_drew1) | exact HB.out)) hb); clear HB; have HO299 := n0_; have HB := n1_; clear n0_ n1_; (try clear hb); (try clear hb2); (try clear hk); (try clear hi); (try clear ho0); obtain ⟨Ao19, co19, eo19⟩ := Kd.R_slice HO299.out; subst eo19) | (go_at_call 13; (with_reducible refine (graftageref46_Same.calls kj3 _ _ l0 _ _ t296 true _ ?side1 ?side2 ?side3 ?side4 A16.out).mono ?_); (case side1 => repeat (first | exact (Kd.C_below HR0.out HB.out) | (with_reducible refine Kd.C_alloc ?_ _) | (with_reducible refine Kd.C_drewN ?_ _) | (with_reducible refine Kd.C_drew ?_))); (case side2 => exact HC0.out); (case side3 => repeat (first | exact (Kd.R_reads' HO299.out).2.2 | (with_reducible refine Kd.C_alloc ?_ _) | (with_reducible refine Kd.C_drewN ?_ _) | (with_reducible refine Kd.C_drew ?_))); (case side4 => exact (Kd.R_reads' HO299.out).2.1); rintro e w' ⟨rfl, ⟨nd, rfl⟩⟩))
        go_meet
        case rel => exact ⟨_, H', ⟨by have := HJ3.out; first | omega | exact Nat.le_refl _⟩, ⟨by repeat (first | (with_reducible first | exact HB.out | apply below_alloc | apply pw_below_drewN | apply below_drew1) | exact HB.out)⟩⟩
       ·replace c17 := Bool.eq_false_iff.mpr c17
        subst c17
        have H1 : (some false) = some r := by rw [if_neg (show ¬ (false = true) by decide)] at H; exact H
        clear H
        have H := H1
        clear H1
        exact absurd (H.trans (congrArg some hr)) (by decide)
      ·rw [if_neg c15] at H
       have c15b0 : (t297 == 0) = false := beq_eq_false_iff_ne.mpr c15
       have c15b1 : (t297 != 0) = true := bne_iff_ne.mpr c15
       exact absurd (H.trans (congrArg some hr)) (by decide)
     ·rw [if_neg c13] at H
      have c13b0 : (t295 == 0) = false := beq_eq_false_iff_ne.mpr c13
      have c13b1 : (t295 != 0) = true := bne_iff_ne.mpr c13
      (first | rw [c13b0] | (simp only [i64_w, i32_w]; rw [c13b0]) | skip)
      have H' := Aside0.mk H
      clear H
      go_wp2
      go_meet
      case rel => exact ⟨_, H', ⟨by have := HJ3.out; first | omega | exact Nat.le_refl _⟩, ⟨by repeat (first | (with_reducible first | exact HB.out | apply below_alloc | apply pw_below_drewN | apply below_drew1) | exact HB.out)⟩⟩
    case rest =>
     clear HC11
     try clear c1
     try clear p2
     try clear c6
     try clear c7
     try clear c8
     try clear c11
     try clear c13
     try clear c13b0
     try clear c13b1
     try clear c14
     try clear c15
     try clear c15b0
     try clear c15b1
     try clear c17
     try clear p2
     obtain ⟨kq, HA, HJ10, HB⟩ := hcut
     cases kq with
     | zero => exact absurd HA.out (by simp [graftagelaw46_PktBack.j1])
     | succ kj10 =>
      have H := HA.out
      clear HA
      simp only [graftagelaw46_PktBack.j1] at H
      replace H := Option.bind_eq_some_iff.mp H
      obtain ⟨⟨t301, t302⟩, A200, H⟩ := H
      replace H : (if t302 = 0 then ((pkt_Put.f t301).bind fun bt305 => (if bt305.2 = 0 then (if bt305.1.toList = a1.toList then (graftagelaw46_PktBack.j2 kj10 a1 a2) else (some false)) else (some false))) else (graftagelaw46_PktBack.j2 kj10 a1 a2)) = some r := H
      have A20 := Aside0.mk A200
      clear A200
      have HC21 := Aside0.mk H
      clear H
      go_upto_if 53 with (first | ((with_reducible refine gate_callee (f := 11) rfl ?_); refine goesL_ (some 49) rfl rfl Try.func11 (by kernel_rfl) rfl #[.string a1] rfl (by (try simp only [List.map_toArray, List.map_cons, List.map_nil]); first | done | rfl | (simp only [List.length_drop, List.length_take]; rfl)) ?_; (with_reducible refine (pkt_All.calls kj10 a1 t301 t302 _ A20.out).mono ?_); rintro e w22 ⟨v303, rfl, ho0, hb⟩; refine ⟨_, rfl, ?_⟩; have n0_ := Aside0.mk (Kd.R_lower ho0 (below_size (by repeat (first | (with_reducible first | exact HB.out | apply below_alloc | apply pw_below_drewN | apply below_drew1) | exact HB.out)))); have n1_ := Aside0.mk (below_step (by repeat (first | (with_reducible first | exact HB.out | apply below_alloc | apply pw_below_drewN | apply below_drew1) | exact HB.out)) hb); clear HB; have HO304 := n0_; have HB := n1_; clear n0_ n1_; (try clear hb); (try clear hb2); (try clear hk); (try clear hi); (try clear ho0)))
      (try simp only [Act.put, List.setIfInBounds_toArray, List.set_cons_zero, List.set_cons_succ])
      go_cut [] (fun wc => ∃ (kq : Nat), Aside0 (graftagelaw46_PktBack.j2 kq a1 a2 = some r) ∧ Aside0 (kq ≤ kj10) ∧ Aside0 (Below w.heap.size w wc))
      case first =>
       have H := HC21.out
       clear HC21
       by_cases c23 : t302 = 0
       ·rw [if_pos c23] at H
        have c23b0 : (t302 == 0) = true := beq_iff_eq.mpr c23
        have c23b1 : (t302 != 0) = false := bne_eq_false_iff_eq.mpr c23
        clear c23
        (first | rw [c23b0] | (simp only [i64_w, i32_w]; rw [c23b0]) | skip)
        replace H := Option.bind_eq_some_iff.mp H
        obtain ⟨⟨t305, t306⟩, A240, H⟩ := H
        replace H : (if t306 = 0 then (if t305.toList = a1.toList then (graftagelaw46_PktBack.j2 kj10 a1 a2) else (some false)) else (some false)) = some r := H
        have A24 := Aside0.mk A240
        clear A240
        by_cases c25 : t306 = 0
        ·rw [if_pos c25] at H
         have c25b0 : (t306 == 0) = true := beq_iff_eq.mpr c25
         have c25b1 : (t306 != 0) = false := bne_eq_false_iff_eq.mpr c25
         clear c25
         by_cases c26 : t305.toList = a1.toList
         ·rw [if_pos c26] at H
          have c26b0 : (t305.toList == a1.toList) = true := beq_iff_eq.mpr c26
          have c26b1 : (t305.toList != a1.toList) = false := bne_eq_false_iff_eq.mpr c26
          clear c26
          have H' := Aside0.mk H
          clear H
          obtain ⟨Ao27, co27, eo27⟩ := Kd.R_slice HO304.out
          subst eo27
          go_wp2_with (first | ((with_reducible refine gate_callee (f := 15) rfl ?_); refine goesL_ (some 56) rfl rfl Try.func15 (by kernel_rfl) rfl #[.slice Ao27 t301.length co27] rfl (by (try simp only [List.map_toArray, List.map_cons, List.map_nil]); first | done | rfl | (simp only [List.length_drop, List.length_take]; rfl)) ?_; (with_reducible refine (pkt_Put.calls _ _ t301 t305 t306 _ ?side1 ?side2 A24.out).mono ?_); (case side1 => repeat (first | exact (Kd.R_reads' HO304.out).2.2 | (with_reducible refine Kd.C_alloc ?_ _) | (with_reducible refine Kd.C_drewN ?_ _) | (with_reducible refine Kd.C_drew ?_))); (case side2 => exact (Kd.R_reads' HO304.out).2.1); rintro e w28 ⟨rfl, hb⟩; refine ⟨_, rfl, ?_⟩; have n0_ := Aside0.mk (Kd.R_below (by (with_reducible repeat (first | apply Kd.R_alloc | apply Kd.R_drewN | apply Kd.R_drew)); exact HO304.out) hb); have n1_ := Aside0.mk (below_step (by repeat (first | (with_reducible first | exact HB.out | apply below_alloc | apply pw_below_drewN | apply below_drew1) | exact HB.out)) hb); clear HO304; clear HB; have HO304 := n0_; have HB := n1_; clear n0_ n1_; (try clear hb); (try clear hb2); (try clear hk); (try clear hi)))
          go_meet
          case rel => exact ⟨_, H', ⟨by have := HJ3.out; have := HJ10.out; first | omega | exact Nat.le_refl _⟩, ⟨by repeat (first | (with_reducible first | exact HB.out | apply below_alloc | apply pw_below_drewN | apply below_drew1) | exact HB.out)⟩⟩
         ·rw [if_neg c26] at H
          have c26b0 : (t305.toList == a1.toList) = false := beq_eq_false_iff_ne.mpr c26
          have c26b1 : (t305.toList != a1.toList) = true := bne_iff_ne.mpr c26
          exact absurd (H.trans (congrArg some hr)) (by decide)
        ·rw [if_neg c25] at H
         have c25b0 : (t306 == 0) = false := beq_eq_false_iff_ne.mpr c25
         have c25b1 : (t306 != 0) = true := bne_iff_ne.mpr c25
         exact absurd (H.trans (congrArg some hr)) (by decide)
       ·rw [if_neg c23] at H
        have c23b0 : (t302 == 0) = false := beq_eq_false_iff_ne.mpr c23
        have c23b1 : (t302 != 0) = true := bne_iff_ne.mpr c23
        (first | rw [c23b0] | (simp only [i64_w, i32_w]; rw [c23b0]) | skip)
        have H' := Aside0.mk H
        clear H
        go_wp2
        go_meet
        case rel => exact ⟨_, H', ⟨by have := HJ3.out; have := HJ10.out; first | omega | exact Nat.le_refl _⟩, ⟨by repeat (first | (with_reducible first | exact HB.out | apply below_alloc | apply pw_below_drewN | apply below_drew1) | exact HB.out)⟩⟩
      case rest =>
       clear HC21
       try clear c1
       try clear c2
       try clear p2
       try clear c6
       try clear c7
       try clear c8
       try clear c11
       try clear c13
       try clear c13b0
       try clear c13b1
       try clear c14
       try clear c15
       try clear c15b0
       try clear c15b1
       try clear c17
       try clear c23
       try clear c23b0
       try clear c23b1
       try clear c25
       try clear c25b0
       try clear c25b1
       try clear c26
       try clear c26b0
       try clear c26b1
       try clear p2
       obtain ⟨kq, HA, HJ20, HB⟩ := hcut
       cases kq with
       | zero => exact absurd HA.out (by simp [graftagelaw46_PktBack.j2])
       | succ kj20 =>
        have H := HA.out
        clear HA
        simp only [graftagelaw46_PktBack.j2] at H
        replace H := Option.bind_eq_some_iff.mp H
        obtain ⟨t307, A290, H⟩ := H
        replace H : ((pkt_Put.f t307).bind fun bt310 => ((pkt_All.f kj20 bt310.1).bind fun bt312 => ((pkt_Join.f t307).bind fun t316 => (if t316.toList = a1.toList then (if bt310.2 = 0 then (if bt312.2 = 0 then ((graftageref46_Same.f kj20 t307 bt312.1).bind fun t317 => (if t317 = true then ((graftagelaw46_lives.f kj20).bind fun t318 => (some t318)) else (some false))) else (some false)) else (some false)) else (some false))))) = some r := H
        have A29 := Aside0.mk A290
        clear A290
        replace H := Option.bind_eq_some_iff.mp H
        obtain ⟨⟨t310, t311⟩, A300, H⟩ := H
        replace H : ((pkt_All.f kj20 t310).bind fun bt312 => ((pkt_Join.f t307).bind fun t316 => (if t316.toList = a1.toList then (if t311 = 0 then (if bt312.2 = 0 then ((graftageref46_Same.f kj20 t307 bt312.1).bind fun t317 => (if t317 = true then ((graftagelaw46_lives.f kj20).bind fun t318 => (some t318)) else (some false))) else (some false)) else (some false)) else (some false)))) = some r := H
        have A30 := Aside0.mk A300
        clear A300
        replace H := Option.bind_eq_some_iff.mp H
        obtain ⟨⟨t312, t313⟩, A310, H⟩ := H
        replace H : ((pkt_Join.f t307).bind fun t316 => (if t316.toList = a1.toList then (if t311 = 0 then (if t313 = 0 then ((graftageref46_Same.f kj20 t307 t312).bind fun t317 => (if t317 = true then ((graftagelaw46_lives.f kj20).bind fun t318 => (some t318)) else (some false))) else (some false)) else (some false)) else (some false))) = some r := H
        have A31 := Aside0.mk A310
        clear A310
        replace H := Option.bind_eq_some_iff.mp H
        obtain ⟨t316, A320, H⟩ := H
        replace H : (if t316.toList = a1.toList then (if t311 = 0 then (if t313 = 0 then ((graftageref46_Same.f kj20 t307 t312).bind fun t317 => (if t317 = true then ((graftagelaw46_lives.f kj20).bind fun t318 => (some t318)) else (some false))) else (some false)) else (some false)) else (some false)) = some r := H
        have A32 := Aside0.mk A320
        clear A320
        by_cases c33 : t316.toList = a1.toList
        ·rw [if_pos c33] at H
         have c33b0 : (t316.toList == a1.toList) = true := beq_iff_eq.mpr c33
         have c33b1 : (t316.toList != a1.toList) = false := bne_eq_false_iff_eq.mpr c33
         clear c33
         by_cases c34 : t311 = 0
         ·rw [if_pos c34] at H
          have c34b0 : (t311 == 0) = true := beq_iff_eq.mpr c34
          have c34b1 : (t311 != 0) = false := bne_eq_false_iff_eq.mpr c34
          clear c34
          by_cases c35 : t313 = 0
          ·rw [if_pos c35] at H
           have c35b0 : (t313 == 0) = true := beq_iff_eq.mpr c35
           have c35b1 : (t313 != 0) = false := bne_eq_false_iff_eq.mpr c35
           clear c35
           replace H := Option.bind_eq_some_iff.mp H
           obtain ⟨t317, A360, H⟩ := H
           replace H : (if t317 = true then ((graftagelaw46_lives.f kj20).bind fun t318 => (some t318)) else (some false)) = some r := H
           have A36 := Aside0.mk A360
           clear A360
           by_cases c37 : t317 = true
           ·subst c37
            have H1 : ((graftagelaw46_lives.f kj20).bind fun t318 => (some t318)) = some r := by rw [if_pos rfl] at H; exact H
            clear H
            have H := H1
            clear H1
            replace H := Option.bind_eq_some_iff.mp H
            obtain ⟨t318, A380, H⟩ := H
            replace H : (some t318) = some r := H
            have A38 := Aside0.mk A380
            clear A380
            obtain rfl := Option.some.inj H
            go_wp2_with (first | ((with_reducible refine gate_callee (f := 22) rfl ?_); refine goesL_ (some 68) rfl rfl Try.func22 (by kernel_rfl) rfl #[.string a1, .int .i64 a2] rfl (by (try simp only [List.map_toArray, List.map_cons, List.map_nil]); first | done | rfl | (simp only [List.length_drop, List.length_take]; rfl)) ?_; (with_reducible refine (pkt_Cut.calls kj20 a1 a2 t307 _ A29.out).mono ?_); rintro e w39 ⟨v308, rfl, ho0, hb⟩; refine ⟨_, rfl, ?_⟩; have n0_ := Aside0.mk (Kd.R_lower ho0 (below_size (by repeat (first | (with_reducible first | exact HB.out | apply below_alloc | apply pw_below_drewN | apply below_drew1) | exact HB.out)))); have n1_ := Aside0.mk (below_step (by repeat (first | (with_reducible first | exact HB.out | apply below_alloc | apply pw_below_drewN | apply below_drew1) | exact HB.out)) hb); clear HB; have HO309 := n0_; have HB := n1_; clear n0_ n1_; (try clear hb); (try clear hb2); (try clear hk); (try clear hi); (try clear ho0); obtain ⟨Ao40, co40, eo40⟩ := Kd.R_slice HO309.out; subst eo40) | ((with_reducible refine gate_callee (f := 15) rfl ?_); refine goesL_ (some 71) rfl rfl Try.func15 (by kernel_rfl) rfl #[.slice Ao40 t307.length co40] rfl (by (try simp only [List.map_toArray, List.map_cons, List.map_nil]); first | done | rfl | (simp only [List.length_drop, List.length_take]; rfl)) ?_; (with_reducible refine (pkt_Put.calls _ _ t307 t310 t311 _ ?side1 ?side2 A30.out).mono ?_); (case side1 => repeat (first | exact (Kd.R_reads' HO309.out).2.2 | (with_reducible refine Kd.C_alloc ?_ _) | (with_reducible refine Kd.C_drewN ?_ _) | (with_reducible refine Kd.C_drew ?_))); (case side2 => exact (Kd.R_reads' HO309.out).2.1); rintro e w41 ⟨rfl, hb⟩; refine ⟨_, rfl, ?_⟩; have n0_ := Aside0.mk (Kd.R_below (by (with_reducible repeat (first | apply Kd.R_alloc | apply Kd.R_drewN | apply Kd.R_drew)); exact HO309.out) hb); have n1_ := Aside0.mk (below_step (by repeat (first | (with_reducible first | exact HB.out | apply below_alloc | apply pw_below_drewN | apply below_drew1) | exact HB.out)) hb); clear HO309; clear HB; have HO309 := n0_; have HB := n1_; clear n0_ n1_; (try clear hb); (try clear hb2); (try clear hk); (try clear hi)) | ((with_reducible refine gate_callee (f := 11) rfl ?_); refine goesL_ (some 76) rfl rfl Try.func11 (by kernel_rfl) rfl #[.string t310] rfl (by (try simp only [List.map_toArray, List.map_cons, List.map_nil]); first | done | rfl | (simp only [List.length_drop, List.length_take]; rfl)) ?_; (with_reducible refine (pkt_All.calls kj20 t310 t312 t313 _ A31.out).mono ?_); rintro e w42 ⟨v314, rfl, ho0, hb⟩; refine ⟨_, rfl, ?_⟩; have n0_ := Aside0.mk (Kd.R_elder' (by (with_reducible repeat (first | apply Kd.R_alloc | apply Kd.R_drewN | apply Kd.R_drew)); exact HO309.out) (Kd.R_base ho0) hb); have n1_ := Aside0.mk (Kd.R_lower (Kd.R_new' ho0 (Kd.R_lt (by (with_reducible repeat (first | apply Kd.R_alloc | apply Kd.R_drewN | apply Kd.R_drew)); exact HO309.out))) (below_size (by repeat (first | (with_reducible first | exact HB.out | apply below_alloc | apply pw_below_drewN | apply below_drew1) | exact HB.out)))); have n2_ := Aside0.mk (below_step (by repeat (first | (with_reducible first | exact HB.out | apply below_alloc | apply pw_below_drewN | apply below_drew1) | exact HB.out)) hb); clear HO309; clear HB; have HO309 := n0_; have HO315 := n1_; have HB := n2_; clear n0_ n1_ n2_; (try clear hb); (try clear hb2); (try clear hk); (try clear hi); (try clear ho0)) | ((with_reducible refine gate_callee (f := 20) rfl ?_); refine goesL_ (some 80) rfl rfl Try.func20 (by kernel_rfl) rfl #[.slice Ao40 t307.length co40] rfl (by (try simp only [List.map_toArray, List.map_cons, List.map_nil]); first | done | rfl | (simp only [List.length_drop, List.length_take]; rfl)) ?_; (with_reducible refine (pkt_Join.calls _ _ t307 t316 _ ?side1 ?side2 A32.out).mono ?_); (case side1 => repeat (first | exact (Kd.R_reads' HO309.out).2.2 | (with_reducible refine Kd.C_alloc ?_ _) | (with_reducible refine Kd.C_drewN ?_ _) | (with_reducible refine Kd.C_drew ?_))); (case side2 => exact (Kd.R_reads' HO309.out).2.1); rintro e w43 ⟨rfl, hb⟩; refine ⟨_, rfl, ?_⟩; have n0_ := Aside0.mk (Kd.R_below (by (with_reducible repeat (first | apply Kd.R_alloc | apply Kd.R_drewN | apply Kd.R_drew)); exact HO309.out) hb); have n1_ := Aside0.mk (Kd.R_below (by (with_reducible repeat (first | apply Kd.R_alloc | apply Kd.R_drewN | apply Kd.R_drew)); exact HO315.out) hb); have n2_ := Aside0.mk (below_step (by repeat (first | (with_reducible first | exact HB.out | apply below_alloc | apply pw_below_drewN | apply below_drew1) | exact HB.out)) hb); clear HO309; clear HO315; clear HB; have HO309 := n0_; have HO315 := n1_; have HB := n2_; clear n0_ n1_ n2_; (try clear hb); (try clear hb2); (try clear hk); (try clear hi); obtain ⟨Ao44, co44, eo44⟩ := Kd.R_slice HO315.out; subst eo44) | (go_at_call 13; (with_reducible refine (graftageref46_Same.calls kj20 _ _ t307 _ _ t312 true _ ?side1 ?side2 ?side3 ?side4 A36.out).mono ?_); (case side1 => repeat (first | exact (Kd.R_reads' HO309.out).2.2 | (with_reducible refine Kd.C_alloc ?_ _) | (with_reducible refine Kd.C_drewN ?_ _) | (with_reducible refine Kd.C_drew ?_))); (case side2 => exact (Kd.R_reads' HO309.out).2.1); (case side3 => repeat (first | exact (Kd.R_reads' HO315.out).2.2 | (with_reducible refine Kd.C_alloc ?_ _) | (with_reducible refine Kd.C_drewN ?_ _) | (with_reducible refine Kd.C_drew ?_))); (case side4 => exact (Kd.R_reads' HO315.out).2.1); rintro e w' ⟨rfl, ⟨nd, rfl⟩⟩) | (go_at_call 8; (with_reducible refine (graftagelaw46_lives.calls kj20  t318 _ A38.out).mono ?_); rintro e w45 ⟨rfl, hb⟩; have n0_ := Aside0.mk (Kd.R_below (by (with_reducible repeat (first | apply Kd.R_alloc | apply Kd.R_drewN | apply Kd.R_drew)); exact HO309.out) hb); have n1_ := Aside0.mk (Kd.R_below (by (with_reducible repeat (first | apply Kd.R_alloc | apply Kd.R_drewN | apply Kd.R_drew)); exact HO315.out) hb); have n2_ := Aside0.mk (below_step (by repeat (first | (with_reducible first | exact HB.out | apply below_alloc | apply pw_below_drewN | apply below_drew1) | exact HB.out)) hb); clear HO309; clear HO315; clear HB; have HO309 := n0_; have HO315 := n1_; have HB := n2_; clear n0_ n1_ n2_; (try clear hb); (try clear hb2); (try clear hk); (try clear hi)))
            go_ret
            exact ⟨by first | rfl | (simp [errW_none, errW_some] <;> rfl) | (simp [*, errW_none, errW_some] <;> rfl), by repeat (first | (with_reducible first | exact HB.out | apply below_alloc | apply pw_below_drewN | apply below_drew1) | exact HB.out)⟩
           ·replace c37 := Bool.eq_false_iff.mpr c37
            subst c37
            have H1 : (some false) = some r := by rw [if_neg (show ¬ (false = true) by decide)] at H; exact H
            clear H
            have H := H1
            clear H1
            exact absurd (H.trans (congrArg some hr)) (by decide)
          ·rw [if_neg c35] at H
           have c35b0 : (t313 == 0) = false := beq_eq_false_iff_ne.mpr c35
           have c35b1 : (t313 != 0) = true := bne_iff_ne.mpr c35
           exact absurd (H.trans (congrArg some hr)) (by decide)
         ·rw [if_neg c34] at H
          have c34b0 : (t311 == 0) = false := beq_eq_false_iff_ne.mpr c34
          have c34b1 : (t311 != 0) = true := bne_iff_ne.mpr c34
          exact absurd (H.trans (congrArg some hr)) (by decide)
        ·rw [if_neg c33] at H
         have c33b0 : (t316.toList == a1.toList) = false := beq_eq_false_iff_ne.mpr c33
         have c33b1 : (t316.toList != a1.toList) = true := bne_iff_ne.mpr c33
         exact absurd (H.trans (congrArg some hr)) (by decide)

end Go.Proofs.Ytobiejdagfimdaa.PPkt
