-- Written by wip/gen/gen.py of this session out of the seat's translation.
import Derived.Test.YtobiejdagfimdaaPPktx0
import Derived.Test.YtobiejdagfimdaaPPktx3
import Derived.Test.YtobiejdagfimdaaPPktx6
import Derived.Test.YtobiejdagfimdaaPPktx8
import Derived.Test.YtobiejdagfimdaaPPktx9
import Derived.Test.YtobiejdagfimdaaPPktx10
import Derived.Test.YtobiejdagfimdaaPktHand
namespace Go.Proofs.Ytobiejdagfimdaa.PPkt
open Go.Proofs.Ytobiejdagfimdaa.Hand Go.RowKit Go.Proofs.YtobiejdagfimdaaW.PrintWords Go.Proofs.YtobiejdagfimdaaW.PrintLast Go.Proofs.YtobiejdagfimdaaW.PrintMore
attribute [local go_sem] max2_int min2_int max_two min_two max_three min_three max_four min_four   -- for this text's walks alone
set_option linter.unusedVariables false
set_option linter.unusedSimpArgs false

-- given by hand: function 20 (pkt_Join)

/-! ### graftageref46_Join: function 21 -/
def graftageref46_Join.l0 : Nat → List (S24) → List Int → Int → Int → Option (ByteArray)
 | 0, _, _, _, _ => none
 | k + 1, x0, x3, x6, x7 => if x7 < x6 then (if 0 ≤ x7 then (if x7 < (x0.length : Int) then (if ((rd_T24 x0 x7).f0) = 1 then (if x3.length + ((rd_T24 x0 x7).f1).size < 140737488355328 then (graftageref46_Join.l0 k x0 (x3 ++ bytesOf ((rd_T24 x0 x7).f1)) x6 (wrap64 (x7 + 1))) else (none)) else (graftageref46_Join.l0 k x0 x3 x6 (wrap64 (x7 + 1)))) else (none)) else (none)) else (some (strOfNums x3))
def graftageref46_Join.f (k : Nat) (l0 : List (S24)) : Option (ByteArray) := graftageref46_Join.l0 k l0 ([] : List Int) (l0.length : Int) 0
theorem graftageref46_Join.mono_l : ∀ k, (∀ y0 y1 y2 y3, LeO (graftageref46_Join.l0 k y0 y1 y2 y3) (graftageref46_Join.l0 (k + 1) y0 y1 y2 y3))
 | 0 => fun _ _ _ _ r h => by simp [graftageref46_Join.l0] at h
 | k + 1 => by
  have ih0 := graftageref46_Join.mono_l k
  ·intro y0 y1 y2 y3
   unfold graftageref46_Join.l0
   repeat' first
   | (with_reducible exact ih0 _ _ _ _)
   | (with_reducible exact LeO.refl _)
   | (with_reducible exact LeO.none _)
   | (with_reducible refine LeO.ite ?_ ?_)
   | (with_reducible refine LeO.bind ?_ (fun _ => ?_))
   | exact ih0 _ _ _ _
   | exact LeO.none _
   | refine LeO.ite ?_ ?_
   | refine LeO.bind ?_ (fun _ => ?_)
theorem graftageref46_Join.mono : ∀ a0 k, LeO (graftageref46_Join.f k a0) (graftageref46_Join.f (k + 1) a0) := by
 intro a0 k
 have ih0 := graftageref46_Join.mono_l k
 unfold graftageref46_Join.f
 repeat' first
   | (with_reducible exact ih0 _ _ _ _)
   | (with_reducible exact LeO.refl _)
   | (with_reducible exact LeO.none _)
   | (with_reducible refine LeO.ite ?_ ?_)
   | (with_reducible refine LeO.bind ?_ (fun _ => ?_))
   | exact ih0 _ _ _ _
   | exact LeO.none _
   | refine LeO.ite ?_ ?_
   | refine LeO.bind ?_ (fun _ => ?_)
set_option maxHeartbeats 8000000 in
set_option maxRecDepth 100000 in
theorem graftageref46_Join.calls (k : Nat) (A0 : Option Addr) (c0 : Nat) (l0 : List (S24)) (r : ByteArray) (w : World) (hr0 : Kd.C k24 w A0 l0.length l0) (hc0 : l0.length ≤ c0) (h : graftageref46_Join.f k l0 = some r) :
  Calls Try.prog 21 #[.slice A0 l0.length c0] w fun e w' => e = .returned (.string r) ∧ Below w.heap.size w w' := by
 have HR0 := Aside0.mk hr0
 have HC0 := Aside0.mk hc0
 clear hr0 hc0
 have HB := Aside0.mk (Below.refl w.heap.size w)
 have H : (graftageref46_Join.l0 k l0 ([] : List Int) (l0.length : Int) 0) = some r := h
 clear h
 have H' := Aside0.mk H
 clear H
 go_enter Try.func21, Try.ntmps21
 go_wp2
 go_loopg [3, 7] k (fun kq v3 v7 w' => ∃ (x3_1 : List Int) (x7_1 : Int), v7 = .int .i64 x7_1 ∧ Aside0 (graftageref46_Join.l0 kq l0 x3_1 (l0.length : Int) x7_1 = some r) ∧ Aside0 (kq ≤ k) ∧ Aside0 (Kd.R (Kd.int .u8) 5 w' w.heap.size (fun _ => True) v3 x3_1) ∧ Aside0 (Below w.heap.size w w'))
 case atStart => exact ⟨(([] : List Int)), (0), (by first | rfl | (simp; done) | (simp [*]; done)), H', ⟨Nat.le_refl _⟩, ⟨by first | exact Kd.R_nil _ _ _ _ _ | exact Kd.N_nil _ _ _ _ _ | exact Kd.V_nil _ _ _ _ _ | exact Kd.Q_nil _ _ _ _ _ | exact Kd.S_nil _ _ _ _ _⟩, ⟨by repeat (first | (with_reducible first | exact HB.out | apply below_alloc | apply pw_below_drewN | apply below_drew1) | exact HB.out)⟩⟩
 case round =>
  clear H'
  obtain ⟨x3_1, x7_1, rfl, HA, HK1, HO_3, HB⟩ := hrel
  cases gk with
  | zero => exact absurd HA.out (by simp [graftageref46_Join.l0])
  | succ k1 =>
   have H := HA.out
   clear HA
   simp only [graftageref46_Join.l0] at H
   by_cases c2 : x7_1 < (l0.length : Int)
   ·rw [if_pos c2] at H
    have c2b0 : decide (x7_1 < (l0.length : Int)) = true := decide_eq_true c2
    clear c2
    by_cases c3 : 0 ≤ x7_1
    ·rw [if_pos c3] at H
     have c3b0 : decide (0 ≤ x7_1) = true := decide_eq_true c3
     clear c3
     by_cases c4 : x7_1 < (l0.length : Int)
     ·rw [if_pos c4] at H
      have c4b0 : decide (x7_1 < (l0.length : Int)) = true := decide_eq_true c4
      clear c4
      by_cases c5 : ((rd_T24 l0 x7_1).f0) = 1
      ·rw [if_pos c5] at H
       have c5b0 : (((rd_T24 l0 x7_1).f0) == 1) = true := beq_iff_eq.mpr c5
       have c5b1 : (((rd_T24 l0 x7_1).f0) != 1) = false := bne_eq_false_iff_eq.mpr c5
       clear c5
       by_cases c6 : x3_1.length + ((rd_T24 l0 x7_1).f1).size < 140737488355328
       ·rw [if_pos c6] at H
        have LMc6 := Aside0.mk c6
        clear c6
        obtain ⟨y256, hy256⟩ : ∃ y_ : List Int, y_ = (x3_1 ++ bytesOf ((rd_T24 l0 x7_1).f1)) := ⟨_, rfl⟩
        replace H : (graftageref46_Join.l0 k1 l0 y256 (l0.length : Int) (wrap64 (x7_1 + 1))) = some r := by first | (rw [hy256]; with_reducible exact H) | (have H2_ := (Option.bind_some _ _).symm.trans H; rw [hy256]; with_reducible exact H2_) | (have H2_ := (Option.bind_some _ _).symm.trans H; with_reducible exact H2_) | with_reducible exact H | (rw [hy256]; exact H) | exact H
        have Ny256 := Aside0.mk hy256
        clear hy256
        have H' := Aside0.mk H
        clear H
        have p254 : 0 ≤ (x7_1 : Int) := of_decide_eq_true (by first | (with_reducible assumption) | assumption)
        have q254 : x7_1 < (l0.length : Int) := of_decide_eq_true (by first | (with_reducible assumption) | assumption)
        obtain ⟨ad254, e254, hx254_0, hx254_1⟩ := at_T24 HR0.out x7_1 p254 q254
        cases e254
        replace hx254_0 := (HB.out.cell (World.block_lt_of_cell? w _ hx254_0)).trans hx254_0
        replace hx254_1 := (HB.out.cell (World.block_lt_of_cell? w _ hx254_1)).trans hx254_1
        replace p254 := eq_true p254
        replace q254 := eq_true q254
        have p255 : 0 ≤ (x7_1 : Int) := of_decide_eq_true (by first | (with_reducible assumption) | assumption)
        have q255 : x7_1 < (l0.length : Int) := of_decide_eq_true (by first | (with_reducible assumption) | assumption)
        obtain ⟨ad255, e255, hx255_0, hx255_1⟩ := at_T24 HR0.out x7_1 p255 q255
        obtain rfl : ad254 = ad255 := (by injection e255)
        replace hx255_0 := (HB.out.cell (World.block_lt_of_cell? w _ hx255_0)).trans hx255_0
        replace hx255_1 := (HB.out.cell (World.block_lt_of_cell? w _ hx255_1)).trans hx255_1
        replace p255 := eq_true p255
        replace q255 := eq_true q255
        go_wp2_with (first | (at_builtin; refine print_append_str (w0 := w) w.heap.size rfl (.tmp 16) _ 49 9 5 rfl Try.underlying49 Try.underlying9 info5 u3 x3_1 ((rd_T24 l0 x7_1).f1) rfl rfl ?aO ?aB ?aS ?aL ?_; (case aB => exact (by repeat (first | (with_reducible first | exact HB.out | apply below_alloc | apply pw_below_drewN | apply below_drew1) | exact HB.out))); (case aO => exact (Kd.own_of_R (by (with_reducible repeat (first | apply Kd.R_alloc | apply Kd.R_drewN | apply Kd.R_drew)); exact HO_3.out))); (case aS => exact (below_size (by repeat (first | (with_reducible first | exact HB.out | apply below_alloc | apply pw_below_drewN | apply below_drew1) | exact HB.out)))); (case aL => have := LMc6.out; omega); intro v257 w7 ho0 hb hg; have ho := Kd.R_of_own (h1 := fun _ => rfl) (ok := fun _ => True) ho0 (fun _ _ => trivial); clear ho0; have hat := True.intro; rw [← Ny256.out] at ho; change Kd.R (Kd.int .u8) 5 w7 w.heap.size (fun _ => True) v257 y256 at ho; have n0_ := Aside0.mk (hb); have n1_ := Aside0.mk (ho); clear HB; clear HO_3; have HB := n0_; have HO258 := n1_; clear n0_ n1_; clear ho hb hg hat))
        go_roundg k1
        case measure => have := HK1.out; omega
        case rel => exact ⟨(y256), (wrap64 (x7_1 + 1)), (by first | rfl | (simp; done) | (simp [*]; done)), H', ⟨by have := HK1.out; omega⟩, ⟨by (with_reducible repeat (first | apply Kd.R_alloc | apply Kd.R_drewN | apply Kd.R_drew)); exact HO258.out⟩, ⟨by repeat (first | (with_reducible first | exact HB.out | apply below_alloc | apply pw_below_drewN | apply below_drew1) | exact HB.out)⟩⟩
       ·rw [if_neg c6] at H
        exact absurd H (by simp)
      ·rw [if_neg c5] at H
       have c5b0 : (((rd_T24 l0 x7_1).f0) == 1) = false := beq_eq_false_iff_ne.mpr c5
       have c5b1 : (((rd_T24 l0 x7_1).f0) != 1) = true := bne_iff_ne.mpr c5
       have H' := Aside0.mk H
       clear H
       have p254 : 0 ≤ (x7_1 : Int) := of_decide_eq_true (by first | (with_reducible assumption) | assumption)
       have q254 : x7_1 < (l0.length : Int) := of_decide_eq_true (by first | (with_reducible assumption) | assumption)
       obtain ⟨ad254, e254, hx254_0, hx254_1⟩ := at_T24 HR0.out x7_1 p254 q254
       cases e254
       replace hx254_0 := (HB.out.cell (World.block_lt_of_cell? w _ hx254_0)).trans hx254_0
       replace hx254_1 := (HB.out.cell (World.block_lt_of_cell? w _ hx254_1)).trans hx254_1
       replace p254 := eq_true p254
       replace q254 := eq_true q254
       go_wp2
       go_roundg k1
       case measure => have := HK1.out; omega
       case rel => exact ⟨(x3_1), (wrap64 (x7_1 + 1)), (by first | rfl | (simp; done) | (simp [*]; done)), H', ⟨by have := HK1.out; omega⟩, ⟨by (with_reducible repeat (first | apply Kd.R_alloc | apply Kd.R_drewN | apply Kd.R_drew)); exact HO_3.out⟩, ⟨by repeat (first | (with_reducible first | exact HB.out | apply below_alloc | apply pw_below_drewN | apply below_drew1) | exact HB.out)⟩⟩
     ·rw [if_neg c4] at H
      exact absurd H (by simp)
    ·rw [if_neg c3] at H
     exact absurd H (by simp)
   ·rw [if_neg c2] at H
    have c2b0 : decide (x7_1 < (l0.length : Int)) = false := decide_eq_false c2
    clear c2
    obtain rfl := Option.some.inj H
    have hcv8 := own_string (P := Try.prog) Try.underlying49 Try.underlying5 Try.underlying9 (Kd.own_of_R HO_3.out)
    go_wp2
    go_ret
    exact ⟨by first | rfl | (simp [errW_none, errW_some] <;> rfl) | (simp [*, errW_none, errW_some] <;> rfl), by repeat (first | (with_reducible first | exact HB.out | apply below_alloc | apply pw_below_drewN | apply below_drew1) | exact HB.out)⟩

/-! ### graftagelaw46_PktPuts: function 5 -/
def graftagelaw46_PktPuts.f (k : Nat) (l0 : List (S24)) : Option (Bool) := (graftageref46_Few.f k l0 200000).bind fun t259 => (if t259 = true then ((pkt_Put.f l0).bind fun bt261 => ((graftageref46_Put.f k l0).bind fun bt263 => ((pkt_Lines.f k l0).bind fun bt265 => ((graftageref46_Lines.f k l0).bind fun bt269 => (if bt261.1.toList = bt263.1.toList then (if bt261.2 = bt263.2 then ((graftageref05_Same.f k bt265.1 bt269.1).bind fun t273 => (if t273 = true then (if (bt265.2 == bt269.2) = true then ((pkt_Join.f l0).bind fun t274 => ((graftageref46_Join.f k l0).bind fun t275 => (if t274.toList = t275.toList then ((graftagelaw46_lives.f k).bind fun t276 => (some t276)) else (some false)))) else (some false)) else (some false))) else (some false)) else (some false)))))) else ((graftagelaw46_lives.f k).bind fun t260 => (some t260)))
theorem graftagelaw46_PktPuts.mono : ∀ a0 k, LeO (graftagelaw46_PktPuts.f k a0) (graftagelaw46_PktPuts.f (k + 1) a0) := by
 intro a0 k
 unfold graftagelaw46_PktPuts.f
 repeat' first
   | (with_reducible exact graftagelaw46_lives.mono _)
   | (with_reducible exact graftageref05_Same.mono _ _ _)
   | (with_reducible exact graftageref46_Few.mono _ _ _)
   | (with_reducible exact graftageref46_Join.mono _ _)
   | (with_reducible exact graftageref46_Lines.mono _ _)
   | (with_reducible exact graftageref46_Put.mono _ _)
   | (with_reducible exact pkt_Lines.mono _ _)
   | (with_reducible exact LeO.refl _)
   | (with_reducible exact LeO.none _)
   | (with_reducible refine LeO.ite ?_ ?_)
   | (with_reducible refine LeO.bind ?_ (fun _ => ?_))
   | exact graftagelaw46_lives.mono _
   | exact graftageref05_Same.mono _ _ _
   | exact graftageref46_Few.mono _ _ _
   | exact graftageref46_Join.mono _ _
   | exact graftageref46_Lines.mono _ _
   | exact graftageref46_Put.mono _ _
   | exact pkt_Lines.mono _ _
   | exact LeO.none _
   | refine LeO.ite ?_ ?_
   | refine LeO.bind ?_ (fun _ => ?_)
set_option maxHeartbeats 8000000 in
set_option maxRecDepth 100000 in
theorem graftagelaw46_PktPuts.calls (k : Nat) (A0 : Option Addr) (c0 : Nat) (l0 : List (S24)) (r : Bool) (w : World) (hr0 : Kd.C k24 w A0 l0.length l0) (hc0 : l0.length ≤ c0) (h : graftagelaw46_PktPuts.f k l0 = some r) (hr : r = true) :
  Calls Try.prog 5 #[.slice A0 l0.length c0] w fun e w' => e = .returned (.bool r) ∧ Below w.heap.size w w' := by
 have HR0 := Aside0.mk hr0
 have HC0 := Aside0.mk hc0
 clear hr0 hc0
 have HB := Aside0.mk (Below.refl w.heap.size w)
 have H : ((graftageref46_Few.f k l0 200000).bind fun t259 => (if t259 = true then ((pkt_Put.f l0).bind fun bt261 => ((graftageref46_Put.f k l0).bind fun bt263 => ((pkt_Lines.f k l0).bind fun bt265 => ((graftageref46_Lines.f k l0).bind fun bt269 => (if bt261.1.toList = bt263.1.toList then (if bt261.2 = bt263.2 then ((graftageref05_Same.f k bt265.1 bt269.1).bind fun t273 => (if t273 = true then (if (bt265.2 == bt269.2) = true then ((pkt_Join.f l0).bind fun t274 => ((graftageref46_Join.f k l0).bind fun t275 => (if t274.toList = t275.toList then ((graftagelaw46_lives.f k).bind fun t276 => (some t276)) else (some false)))) else (some false)) else (some false))) else (some false)) else (some false)))))) else ((graftagelaw46_lives.f k).bind fun t260 => (some t260)))) = some r := h
 clear h
 replace H := Option.bind_eq_some_iff.mp H
 obtain ⟨t259, A20, H⟩ := H
 replace H : (if t259 = true then ((pkt_Put.f l0).bind fun bt261 => ((graftageref46_Put.f k l0).bind fun bt263 => ((pkt_Lines.f k l0).bind fun bt265 => ((graftageref46_Lines.f k l0).bind fun bt269 => (if bt261.1.toList = bt263.1.toList then (if bt261.2 = bt263.2 then ((graftageref05_Same.f k bt265.1 bt269.1).bind fun t273 => (if t273 = true then (if (bt265.2 == bt269.2) = true then ((pkt_Join.f l0).bind fun t274 => ((graftageref46_Join.f k l0).bind fun t275 => (if t274.toList = t275.toList then ((graftagelaw46_lives.f k).bind fun t276 => (some t276)) else (some false)))) else (some false)) else (some false))) else (some false)) else (some false)))))) else ((graftagelaw46_lives.f k).bind fun t260 => (some t260))) = some r := H
 have A2 := Aside0.mk A20
 clear A20
 by_cases c3 : t259 = true
 ·subst c3
  have H1 : ((pkt_Put.f l0).bind fun bt261 => ((graftageref46_Put.f k l0).bind fun bt263 => ((pkt_Lines.f k l0).bind fun bt265 => ((graftageref46_Lines.f k l0).bind fun bt269 => (if bt261.1.toList = bt263.1.toList then (if bt261.2 = bt263.2 then ((graftageref05_Same.f k bt265.1 bt269.1).bind fun t273 => (if t273 = true then (if (bt265.2 == bt269.2) = true then ((pkt_Join.f l0).bind fun t274 => ((graftageref46_Join.f k l0).bind fun t275 => (if t274.toList = t275.toList then ((graftagelaw46_lives.f k).bind fun t276 => (some t276)) else (some false)))) else (some false)) else (some false))) else (some false)) else (some false)))))) = some r := by rw [if_pos rfl] at H; exact H
  clear H
  have H := H1
  clear H1
  replace H := Option.bind_eq_some_iff.mp H
  obtain ⟨⟨t261, t262⟩, A40, H⟩ := H
  replace H : ((graftageref46_Put.f k l0).bind fun bt263 => ((pkt_Lines.f k l0).bind fun bt265 => ((graftageref46_Lines.f k l0).bind fun bt269 => (if t261.toList = bt263.1.toList then (if t262 = bt263.2 then ((graftageref05_Same.f k bt265.1 bt269.1).bind fun t273 => (if t273 = true then (if (bt265.2 == bt269.2) = true then ((pkt_Join.f l0).bind fun t274 => ((graftageref46_Join.f k l0).bind fun t275 => (if t274.toList = t275.toList then ((graftagelaw46_lives.f k).bind fun t276 => (some t276)) else (some false)))) else (some false)) else (some false))) else (some false)) else (some false))))) = some r := H
  have A4 := Aside0.mk A40
  clear A40
  replace H := Option.bind_eq_some_iff.mp H
  obtain ⟨⟨t263, t264⟩, A50, H⟩ := H
  replace H : ((pkt_Lines.f k l0).bind fun bt265 => ((graftageref46_Lines.f k l0).bind fun bt269 => (if t261.toList = t263.toList then (if t262 = t264 then ((graftageref05_Same.f k bt265.1 bt269.1).bind fun t273 => (if t273 = true then (if (bt265.2 == bt269.2) = true then ((pkt_Join.f l0).bind fun t274 => ((graftageref46_Join.f k l0).bind fun t275 => (if t274.toList = t275.toList then ((graftagelaw46_lives.f k).bind fun t276 => (some t276)) else (some false)))) else (some false)) else (some false))) else (some false)) else (some false)))) = some r := H
  have A5 := Aside0.mk A50
  clear A50
  replace H := Option.bind_eq_some_iff.mp H
  obtain ⟨⟨t265, t266⟩, A60, H⟩ := H
  replace H : ((graftageref46_Lines.f k l0).bind fun bt269 => (if t261.toList = t263.toList then (if t262 = t264 then ((graftageref05_Same.f k t265 bt269.1).bind fun t273 => (if t273 = true then (if (t266 == bt269.2) = true then ((pkt_Join.f l0).bind fun t274 => ((graftageref46_Join.f k l0).bind fun t275 => (if t274.toList = t275.toList then ((graftagelaw46_lives.f k).bind fun t276 => (some t276)) else (some false)))) else (some false)) else (some false))) else (some false)) else (some false))) = some r := H
  have A6 := Aside0.mk A60
  clear A60
  replace H := Option.bind_eq_some_iff.mp H
  obtain ⟨⟨t269, t270⟩, A70, H⟩ := H
  replace H : (if t261.toList = t263.toList then (if t262 = t264 then ((graftageref05_Same.f k t265 t269).bind fun t273 => (if t273 = true then (if (t266 == t270) = true then ((pkt_Join.f l0).bind fun t274 => ((graftageref46_Join.f k l0).bind fun t275 => (if t274.toList = t275.toList then ((graftagelaw46_lives.f k).bind fun t276 => (some t276)) else (some false)))) else (some false)) else (some false))) else (some false)) else (some false)) = some r := H
  have A7 := Aside0.mk A70
  clear A70
  by_cases c8 : t261.toList = t263.toList
  ·rw [if_pos c8] at H
   have c8b0 : (t261.toList == t263.toList) = true := beq_iff_eq.mpr c8
   have c8b1 : (t261.toList != t263.toList) = false := bne_eq_false_iff_eq.mpr c8
   clear c8
   by_cases c9 : t262 = t264
   ·rw [if_pos c9] at H
    have c9b0 : (t262 == t264) = true := beq_iff_eq.mpr c9
    have c9b1 : (t262 != t264) = false := bne_eq_false_iff_eq.mpr c9
    clear c9
    replace H := Option.bind_eq_some_iff.mp H
    obtain ⟨t273, A100, H⟩ := H
    replace H : (if t273 = true then (if (t266 == t270) = true then ((pkt_Join.f l0).bind fun t274 => ((graftageref46_Join.f k l0).bind fun t275 => (if t274.toList = t275.toList then ((graftagelaw46_lives.f k).bind fun t276 => (some t276)) else (some false)))) else (some false)) else (some false)) = some r := H
    have A10 := Aside0.mk A100
    clear A100
    by_cases c11 : t273 = true
    ·subst c11
     have H1 : (if (t266 == t270) = true then ((pkt_Join.f l0).bind fun t274 => ((graftageref46_Join.f k l0).bind fun t275 => (if t274.toList = t275.toList then ((graftagelaw46_lives.f k).bind fun t276 => (some t276)) else (some false)))) else (some false)) = some r := by rw [if_pos rfl] at H; exact H
     clear H
     have H := H1
     clear H1
     by_cases c12 : (t266 == t270) = true
     ·rw [if_pos c12] at H
      have c12b0 : (t266 == t270) = true := c12
      (try (have c12b1 : decide (t266 = t270) = true := by simpa using c12))
      (try (have c12b2 : (t266 == t270) = true := by simpa using c12))
      clear c12
      replace H := Option.bind_eq_some_iff.mp H
      obtain ⟨t274, A130, H⟩ := H
      replace H : ((graftageref46_Join.f k l0).bind fun t275 => (if t274.toList = t275.toList then ((graftagelaw46_lives.f k).bind fun t276 => (some t276)) else (some false))) = some r := H
      have A13 := Aside0.mk A130
      clear A130
      replace H := Option.bind_eq_some_iff.mp H
      obtain ⟨t275, A140, H⟩ := H
      replace H : (if t274.toList = t275.toList then ((graftagelaw46_lives.f k).bind fun t276 => (some t276)) else (some false)) = some r := H
      have A14 := Aside0.mk A140
      clear A140
      by_cases c15 : t274.toList = t275.toList
      ·rw [if_pos c15] at H
       have c15b0 : (t274.toList == t275.toList) = true := beq_iff_eq.mpr c15
       have c15b1 : (t274.toList != t275.toList) = false := bne_eq_false_iff_eq.mpr c15
       clear c15
       replace H := Option.bind_eq_some_iff.mp H
       obtain ⟨t276, A160, H⟩ := H
       replace H : (some t276) = some r := H
       have A16 := Aside0.mk A160
       clear A160
       obtain rfl := Option.some.inj H
       go_enter Try.func5, Try.ntmps5
       go_wp2_with (first | ((with_reducible refine gate_callee (f := 14) rfl ?_); refine goesL_ (some 12) rfl rfl Try.func14 (by kernel_rfl) rfl #[.slice A0 l0.length c0, .int .i64 200000] rfl (by (try simp only [List.map_toArray, List.map_cons, List.map_nil]); first | done | rfl | (simp only [List.length_drop, List.length_take]; rfl)) ?_; (with_reducible refine (graftageref46_Few.calls k _ _ l0 200000 true _ ?side1 ?side2 A2.out).mono ?_); (case side1 => repeat (first | exact HR0.out | (with_reducible refine Kd.C_alloc ?_ _) | (with_reducible refine Kd.C_drewN ?_ _) | (with_reducible refine Kd.C_drew ?_))); (case side2 => exact HC0.out); rintro e w' ⟨rfl, ⟨nd, rfl⟩⟩; refine ⟨_, rfl, ?_⟩) | ((with_reducible refine gate_callee (f := 15) rfl ?_); refine goesL_ (some 17) rfl rfl Try.func15 (by kernel_rfl) rfl #[.slice A0 l0.length c0] rfl (by (try simp only [List.map_toArray, List.map_cons, List.map_nil]); first | done | rfl | (simp only [List.length_drop, List.length_take]; rfl)) ?_; (with_reducible refine (pkt_Put.calls _ _ l0 t261 t262 _ ?side1 ?side2 A4.out).mono ?_); (case side1 => repeat (first | exact HR0.out | (with_reducible refine Kd.C_alloc ?_ _) | (with_reducible refine Kd.C_drewN ?_ _) | (with_reducible refine Kd.C_drew ?_))); (case side2 => exact HC0.out); rintro e w17 ⟨rfl, hb⟩; refine ⟨_, rfl, ?_⟩; have n0_ := Aside0.mk (below_step (by repeat (first | (with_reducible first | exact HB.out | apply below_alloc | apply pw_below_drewN | apply below_drew1) | exact HB.out)) hb); clear HB; have HB := n0_; clear n0_; (try clear hb); (try clear hb2); (try clear hk); (try clear hi)) | ((with_reducible refine gate_callee (f := 16) rfl ?_); refine goesL_ (some 22) rfl rfl Try.func16 (by kernel_rfl) rfl #[.slice A0 l0.length c0] rfl (by (try simp only [List.map_toArray, List.map_cons, List.map_nil]); first | done | rfl | (simp only [List.length_drop, List.length_take]; rfl)) ?_; (with_reducible refine (graftageref46_Put.calls k _ _ l0 t263 t264 _ ?side1 ?side2 A5.out).mono ?_); (case side1 => repeat (first | exact (Kd.C_below HR0.out HB.out) | (with_reducible refine Kd.C_alloc ?_ _) | (with_reducible refine Kd.C_drewN ?_ _) | (with_reducible refine Kd.C_drew ?_))); (case side2 => exact HC0.out); rintro e w18 ⟨rfl, hb⟩; refine ⟨_, rfl, ?_⟩; have n0_ := Aside0.mk (below_step (by repeat (first | (with_reducible first | exact HB.out | apply below_alloc | apply pw_below_drewN | apply below_drew1) | exact HB.out)) hb); clear HB; have HB := n0_; clear n0_; (try clear hb); (try clear hb2); (try clear hk); (try clear hi)) | ((with_reducible refine gate_callee (f := 17) rfl ?_); refine goesL_ (some 27) rfl rfl Try.func17 (by kernel_rfl) rfl #[.slice A0 l0.length c0] rfl (by (try simp only [List.map_toArray, List.map_cons, List.map_nil]); first | done | rfl | (simp only [List.length_drop, List.length_take]; rfl)) ?_; (with_reducible refine (pkt_Lines.calls k _ _ l0 t265 t266 _ ?side1 ?side2 A6.out).mono ?_); (case side1 => repeat (first | exact (Kd.C_below HR0.out HB.out) | (with_reducible refine Kd.C_alloc ?_ _) | (with_reducible refine Kd.C_drewN ?_ _) | (with_reducible refine Kd.C_drew ?_))); (case side2 => exact HC0.out); rintro e w19 ⟨v267, rfl, ho0, hb⟩; refine ⟨_, rfl, ?_⟩; have n0_ := Aside0.mk (Kd.R_lower ho0 (below_size (by repeat (first | (with_reducible first | exact HB.out | apply below_alloc | apply pw_below_drewN | apply below_drew1) | exact HB.out)))); have n1_ := Aside0.mk (below_step (by repeat (first | (with_reducible first | exact HB.out | apply below_alloc | apply pw_below_drewN | apply below_drew1) | exact HB.out)) hb); clear HB; have HO268 := n0_; have HB := n1_; clear n0_ n1_; (try clear hb); (try clear hb2); (try clear hk); (try clear hi); (try clear ho0)) | ((with_reducible refine gate_callee (f := 18) rfl ?_); refine goesL_ (some 32) rfl rfl Try.func18 (by kernel_rfl) rfl #[.slice A0 l0.length c0] rfl (by (try simp only [List.map_toArray, List.map_cons, List.map_nil]); first | done | rfl | (simp only [List.length_drop, List.length_take]; rfl)) ?_; (with_reducible refine (graftageref46_Lines.calls k _ _ l0 t269 t270 _ ?side1 ?side2 A7.out).mono ?_); (case side1 => repeat (first | exact (Kd.C_below HR0.out HB.out) | (with_reducible refine Kd.C_alloc ?_ _) | (with_reducible refine Kd.C_drewN ?_ _) | (with_reducible refine Kd.C_drew ?_))); (case side2 => exact HC0.out); rintro e w20 ⟨v271, rfl, ho0, hb⟩; refine ⟨_, rfl, ?_⟩; have n0_ := Aside0.mk (Kd.R_elder' (by (with_reducible repeat (first | apply Kd.R_alloc | apply Kd.R_drewN | apply Kd.R_drew)); exact HO268.out) (Kd.R_base ho0) hb); have n1_ := Aside0.mk (Kd.R_lower (Kd.R_new' ho0 (Kd.R_lt (by (with_reducible repeat (first | apply Kd.R_alloc | apply Kd.R_drewN | apply Kd.R_drew)); exact HO268.out))) (below_size (by repeat (first | (with_reducible first | exact HB.out | apply below_alloc | apply pw_below_drewN | apply below_drew1) | exact HB.out)))); have n2_ := Aside0.mk (below_step (by repeat (first | (with_reducible first | exact HB.out | apply below_alloc | apply pw_below_drewN | apply below_drew1) | exact HB.out)) hb); clear HO268; clear HB; have HO268 := n0_; have HO272 := n1_; have HB := n2_; clear n0_ n1_ n2_; (try clear hb); (try clear hb2); (try clear hk); (try clear hi); (try clear ho0); obtain ⟨Ao21, co21, eo21⟩ := Kd.R_slice HO268.out; subst eo21; obtain ⟨Ao22, co22, eo22⟩ := Kd.R_slice HO272.out; subst eo22) | (go_at_call 19; (with_reducible refine (graftageref05_Same.calls k _ _ t265 _ _ t269 true _ ?side1 ?side2 ?side3 ?side4 A10.out).mono ?_); (case side1 => repeat (first | exact (Kd.R_reads' HO268.out).2.2 | (with_reducible refine Kd.C_alloc ?_ _) | (with_reducible refine Kd.C_drewN ?_ _) | (with_reducible refine Kd.C_drew ?_))); (case side2 => exact (Kd.R_reads' HO268.out).2.1); (case side3 => repeat (first | exact (Kd.R_reads' HO272.out).2.2 | (with_reducible refine Kd.C_alloc ?_ _) | (with_reducible refine Kd.C_drewN ?_ _) | (with_reducible refine Kd.C_drew ?_))); (case side4 => exact (Kd.R_reads' HO272.out).2.1); rintro e w' ⟨rfl, ⟨nd, rfl⟩⟩) | (go_at_call 20; (with_reducible refine (pkt_Join.calls _ _ l0 t274 _ ?side1 ?side2 A13.out).mono ?_); (case side1 => repeat (first | exact (Kd.C_below HR0.out (by repeat (first | (with_reducible first | exact HB.out | apply below_alloc | apply pw_below_drewN | apply below_drew1) | exact HB.out))) | (with_reducible refine Kd.C_alloc ?_ _) | (with_reducible refine Kd.C_drewN ?_ _) | (with_reducible refine Kd.C_drew ?_))); (case side2 => exact HC0.out); rintro e w23 ⟨rfl, hb⟩; have n0_ := Aside0.mk (Kd.R_below (by (with_reducible repeat (first | apply Kd.R_alloc | apply Kd.R_drewN | apply Kd.R_drew)); exact HO268.out) hb); have n1_ := Aside0.mk (Kd.R_below (by (with_reducible repeat (first | apply Kd.R_alloc | apply Kd.R_drewN | apply Kd.R_drew)); exact HO272.out) hb); have n2_ := Aside0.mk (below_step (by repeat (first | (with_reducible first | exact HB.out | apply below_alloc | apply pw_below_drewN | apply below_drew1) | exact HB.out)) hb); clear HO268; clear HO272; clear HB; have HO268 := n0_; have HO272 := n1_; have HB := n2_; clear n0_ n1_ n2_; (try clear hb); (try clear hb2); (try clear hk); (try clear hi)) | (go_at_call 21; (with_reducible refine (graftageref46_Join.calls k _ _ l0 t275 _ ?side1 ?side2 A14.out).mono ?_); (case side1 => repeat (first | exact (Kd.C_below HR0.out HB.out) | (with_reducible refine Kd.C_alloc ?_ _) | (with_reducible refine Kd.C_drewN ?_ _) | (with_reducible refine Kd.C_drew ?_))); (case side2 => exact HC0.out); rintro e w24 ⟨rfl, hb⟩; have n0_ := Aside0.mk (Kd.R_below (by (with_reducible repeat (first | apply Kd.R_alloc | apply Kd.R_drewN | apply Kd.R_drew)); exact HO268.out) hb); have n1_ := Aside0.mk (Kd.R_below (by (with_reducible repeat (first | apply Kd.R_alloc | apply Kd.R_drewN | apply Kd.R_drew)); exact HO272.out) hb); have n2_ := Aside0.mk (below_step (by repeat (first | (with_reducible first | exact HB.out | apply below_alloc | apply pw_below_drewN | apply below_drew1) | exact HB.out)) hb); clear HO268; clear HO272; clear HB; have HO268 := n0_; have HO272 := n1_; have HB := n2_; clear n0_ n1_ n2_; (try clear hb); (try clear hb2); (try clear hk); (try clear hi)) | (go_at_call 8; (with_reducible refine (graftagelaw46_lives.calls k  t276 _ A16.out).mono ?_); rintro e w25 ⟨rfl, hb⟩; have n0_ := Aside0.mk (Kd.R_below (by (with_reducible repeat (first | apply Kd.R_alloc | apply Kd.R_drewN | apply Kd.R_drew)); exact HO268.out) hb); have n1_ := Aside0.mk (Kd.R_below (by (with_reducible repeat (first | apply Kd.R_alloc | apply Kd.R_drewN | apply Kd.R_drew)); exact HO272.out) hb); have n2_ := Aside0.mk (below_step (by repeat (first | (with_reducible first | exact HB.out | apply below_alloc | apply pw_below_drewN | apply below_drew1) | exact HB.out)) hb); clear HO268; clear HO272; clear HB; have HO268 := n0_; have HO272 := n1_; have HB := n2_; clear n0_ n1_ n2_; (try clear hb); (try clear hb2); (try clear hk); (try clear hi)))
       go_ret
       exact ⟨by first | rfl | (simp [errW_none, errW_some] <;> rfl) | (simp [*, errW_none, errW_some] <;> rfl), by repeat (first | (with_reducible first | exact HB.out | apply below_alloc | apply pw_below_drewN | apply below_drew1) | exact HB.out)⟩
      ·rw [if_neg c15] at H
       have c15b0 : (t274.toList == t275.toList) = false := beq_eq_false_iff_ne.mpr c15
       have c15b1 : (t274.toList != t275.toList) = true := bne_iff_ne.mpr c15
       exact absurd (H.trans (congrArg some hr)) (by decide)
     ·rw [if_neg c12] at H
      have c12b0 : (t266 == t270) = false := by simpa using c12
      (try (have c12b1 : decide (t266 = t270) = false := by simpa using c12))
      (try (have c12b2 : (t266 == t270) = false := by simpa using c12))
      (try (have c12b3 : ¬ (t266 = t270) := by simpa using c12))
      clear c12
      exact absurd (H.trans (congrArg some hr)) (by decide)
    ·replace c11 := Bool.eq_false_iff.mpr c11
     subst c11
     have H1 : (some false) = some r := by rw [if_neg (show ¬ (false = true) by decide)] at H; exact H
     clear H
     have H := H1
     clear H1
     exact absurd (H.trans (congrArg some hr)) (by decide)
   ·rw [if_neg c9] at H
    have c9b0 : (t262 == t264) = false := beq_eq_false_iff_ne.mpr c9
    have c9b1 : (t262 != t264) = true := bne_iff_ne.mpr c9
    exact absurd (H.trans (congrArg some hr)) (by decide)
  ·rw [if_neg c8] at H
   have c8b0 : (t261.toList == t263.toList) = false := beq_eq_false_iff_ne.mpr c8
   have c8b1 : (t261.toList != t263.toList) = true := bne_iff_ne.mpr c8
   exact absurd (H.trans (congrArg some hr)) (by decide)
 ·replace c3 := Bool.eq_false_iff.mpr c3
  subst c3
  have H1 : ((graftagelaw46_lives.f k).bind fun t260 => (some t260)) = some r := by rw [if_neg (show ¬ (false = true) by decide)] at H; exact H
  clear H
  have H := H1
  clear H1
  replace H := Option.bind_eq_some_iff.mp H
  obtain ⟨t260, A260, H⟩ := H
  replace H : (some t260) = some r := H
  have A26 := Aside0.mk A260
  clear A260
  obtain rfl := Option.some.inj H
  go_enter Try.func5, Try.ntmps5
  go_wp2_with (first | ((with_reducible refine gate_callee (f := 14) rfl ?_); refine goesL_ (some 12) rfl rfl Try.func14 (by kernel_rfl) rfl #[.slice A0 l0.length c0, .int .i64 200000] rfl (by (try simp only [List.map_toArray, List.map_cons, List.map_nil]); first | done | rfl | (simp only [List.length_drop, List.length_take]; rfl)) ?_; (with_reducible refine (graftageref46_Few.calls k _ _ l0 200000 false _ ?side1 ?side2 A2.out).mono ?_); (case side1 => repeat (first | exact HR0.out | (with_reducible refine Kd.C_alloc ?_ _) | (with_reducible refine Kd.C_drewN ?_ _) | (with_reducible refine Kd.C_drew ?_))); (case side2 => exact HC0.out); rintro e w' ⟨rfl, ⟨nd, rfl⟩⟩; refine ⟨_, rfl, ?_⟩) | ((with_reducible refine gate_callee (f := 8) rfl ?_); refine goesL_ (some 14) rfl rfl Try.func8 (by kernel_rfl) rfl #[] rfl (by (try simp only [List.map_toArray, List.map_cons, List.map_nil]); first | done | rfl | (simp only [List.length_drop, List.length_take]; rfl)) ?_; (with_reducible refine (graftagelaw46_lives.calls k  t260 _ A26.out).mono ?_); rintro e w27 ⟨rfl, hb⟩; refine ⟨_, rfl, ?_⟩; have n0_ := Aside0.mk (below_step (by repeat (first | (with_reducible first | exact HB.out | apply below_alloc | apply pw_below_drewN | apply below_drew1) | exact HB.out)) hb); clear HB; have HB := n0_; clear n0_; (try clear hb); (try clear hb2); (try clear hk); (try clear hi)))
  go_ret
  exact ⟨by first | rfl | (simp [errW_none, errW_some] <;> rfl) | (simp [*, errW_none, errW_some] <;> rfl), by repeat (first | (with_reducible first | exact HB.out | apply below_alloc | apply pw_below_drewN | apply below_drew1) | exact HB.out)⟩

/-! ### pkt_Cut: function 22 -/
def pkt_Cut.l0 : Nat → ByteArray → Int → List (S24) → Option ((List (S24)))
 | 0, _, _, _ => none
 | k + 1, x0, x1, x5 => if x0.toList = ([] : List UInt8) then (some x5) else (if 0 ≤ (mn x1 (x0.size : Int)) then (if (mn x1 (x0.size : Int)) ≤ (x0.size : Int) then (if x5.length < 5864062014805 then (pkt_Cut.l0 k (x0.extract ((mn x1 (x0.size : Int)) : Int).toNat x0.size) x1 (x5 ++ [(⟨1, x0.extract 0 ((mn x1 (x0.size : Int)) : Int).toNat⟩ : S24)])) else (none)) else (none)) else (none))
def pkt_Cut.f (k : Nat) (a0 : ByteArray) (a1 : Int) : Option ((List (S24))) := pkt_Cut.l0 k a0 (mx 1 (mn a1 65516)) ([] : List (S24))
theorem pkt_Cut.mono_l : ∀ k, (∀ y0 y1 y2, LeO (pkt_Cut.l0 k y0 y1 y2) (pkt_Cut.l0 (k + 1) y0 y1 y2))
 | 0 => fun _ _ _ r h => by simp [pkt_Cut.l0] at h
 | k + 1 => by
  have ih0 := pkt_Cut.mono_l k
  ·intro y0 y1 y2
   unfold pkt_Cut.l0
   repeat' first
   | (with_reducible exact ih0 _ _ _)
   | (with_reducible exact LeO.refl _)
   | (with_reducible exact LeO.none _)
   | (with_reducible refine LeO.ite ?_ ?_)
   | (with_reducible refine LeO.bind ?_ (fun _ => ?_))
   | exact ih0 _ _ _
   | exact LeO.none _
   | refine LeO.ite ?_ ?_
   | refine LeO.bind ?_ (fun _ => ?_)
theorem pkt_Cut.mono : ∀ a0 a1 k, LeO (pkt_Cut.f k a0 a1) (pkt_Cut.f (k + 1) a0 a1) := by
 intro a0 a1 k
 have ih0 := pkt_Cut.mono_l k
 unfold pkt_Cut.f
 repeat' first
   | (with_reducible exact ih0 _ _ _)
   | (with_reducible exact LeO.refl _)
   | (with_reducible exact LeO.none _)
   | (with_reducible refine LeO.ite ?_ ?_)
   | (with_reducible refine LeO.bind ?_ (fun _ => ?_))
   | exact ih0 _ _ _
   | exact LeO.none _
   | refine LeO.ite ?_ ?_
   | refine LeO.bind ?_ (fun _ => ?_)
set_option maxHeartbeats 8000000 in
set_option maxRecDepth 100000 in
theorem pkt_Cut.calls (k : Nat) (a0 : ByteArray) (a1 : Int) (r : List (S24)) (w : World) (h : pkt_Cut.f k a0 a1 = some r) :
  Calls Try.prog 22 #[.string a0, .int .i64 a1] w fun e w' => ∃ v0_ : Value, e = .returned (v0_) ∧ Kd.R k24 24 w' w.heap.size (fun _ => True) v0_ r ∧ Below w.heap.size w w' := by
 have hu24 := Try.underlying24
 have HB := Aside0.mk (Below.refl w.heap.size w)
 have H : (pkt_Cut.l0 k a0 (mx 1 (mn a1 65516)) ([] : List (S24))) = some r := h
 clear h
 obtain ⟨ji3, hji3⟩ : ∃ j_ : Int, (mn a1 65516) = j_ := ⟨_, rfl⟩
 replace H : (pkt_Cut.l0 k a0 (mx 1 (ji3)) ([] : List (S24))) = some r := by first | (rw [hji3] at H; exact H) | (simp only [hji3] at H ⊢; exact H)
 (try (have hji3h : ji3 ≤ 65516 := by (rw [← hji3]; unfold mn; (repeat' split) <;> omega)))
 (try (have hji3g : ji3 ≤ 64 := by omega))
 have hji3_ : (if 65516 < a1 then 65516 else a1) = ji3 := hji3
 obtain ⟨ji4, hji4⟩ : ∃ j_ : Int, (mx 1 (ji3)) = j_ := ⟨_, rfl⟩
 replace H : (pkt_Cut.l0 k a0 ji4 ([] : List (S24))) = some r := by first | (rw [hji4] at H; exact H) | (simp only [hji4] at H ⊢; exact H)
 have hji4_ : (if 1 < (ji3) then (ji3) else 1) = ji4 := hji4
 have H' := Aside0.mk H
 clear H
 go_enter Try.func22, Try.ntmps22
 go_wp2
 go_loopg [0, 5] k (fun kq v0 v5 w' => ∃ (x0_1 : ByteArray) (x5_1 : List (S24)), v0 = .string x0_1 ∧ Aside0 (pkt_Cut.l0 kq x0_1 ji4 x5_1 = some r) ∧ Aside0 (kq ≤ k) ∧ Aside0 (Kd.R k24 24 w' w.heap.size (fun _ => True) v5 x5_1) ∧ Aside0 (Below w.heap.size w w'))
 case atStart => exact ⟨(a0), (([] : List (S24))), (by first | rfl | (simp; done) | (simp [*]; done)), H', ⟨Nat.le_refl _⟩, ⟨by first | exact Kd.R_nil _ _ _ _ _ | exact Kd.N_nil _ _ _ _ _ | exact Kd.V_nil _ _ _ _ _ | exact Kd.Q_nil _ _ _ _ _ | exact Kd.S_nil _ _ _ _ _⟩, ⟨by repeat (first | (with_reducible first | exact HB.out | apply below_alloc | apply pw_below_drewN | apply below_drew1) | exact HB.out)⟩⟩
 case round =>
  clear H'
  try clear c2
  try clear p2
  obtain ⟨x0_1, x5_1, rfl, HA, HK1, HO_5, HB⟩ := hrel
  cases gk with
  | zero => exact absurd HA.out (by simp [pkt_Cut.l0])
  | succ k1 =>
   have H := HA.out
   clear HA
   simp only [pkt_Cut.l0] at H
   by_cases c5 : x0_1.toList = ([] : List UInt8)
   ·rw [if_pos c5] at H
    have c5b0 : (x0_1.toList == ([] : List UInt8)) = true := beq_iff_eq.mpr c5
    have c5b1 : (x0_1.toList != ([] : List UInt8)) = false := bne_eq_false_iff_eq.mpr c5
    clear c5
    obtain rfl := Option.some.inj H
    go_wp2
    go_ret
    exact ⟨_, by first | rfl | (simp [errW_none, errW_some] <;> rfl) | (simp only [← hji3, ← hji4]; first | rfl | (simp [errW_none, errW_some] <;> rfl)) | (simp [*, errW_none, errW_some] <;> rfl), by (with_reducible repeat (first | apply Kd.R_alloc | apply Kd.R_drewN | apply Kd.R_drew)); exact HO_5.out, by repeat (first | (with_reducible first | exact HB.out | apply below_alloc | apply pw_below_drewN | apply below_drew1) | exact HB.out)⟩
   ·rw [if_neg c5] at H
    have c5b0 : (x0_1.toList == ([] : List UInt8)) = false := beq_eq_false_iff_ne.mpr c5
    have c5b1 : (x0_1.toList != ([] : List UInt8)) = true := bne_iff_ne.mpr c5
    obtain ⟨ji6, hji6⟩ : ∃ j_ : Int, (mn ji4 (x0_1.size : Int)) = j_ := ⟨_, rfl⟩
    replace H : (if 0 ≤ (ji6) then (if (ji6) ≤ (x0_1.size : Int) then (if x5_1.length < 5864062014805 then (pkt_Cut.l0 k1 (x0_1.extract ((ji6) : Int).toNat x0_1.size) ji4 (x5_1 ++ [(⟨1, x0_1.extract 0 ((ji6) : Int).toNat⟩ : S24)])) else (none)) else (none)) else (none)) = some r := by first | (rw [hji6] at H; exact H) | (simp only [hji6] at H ⊢; exact H)
    have hji6_ : (if (x0_1.size : Int) < ji4 then (x0_1.size : Int) else ji4) = ji6 := hji6
    by_cases c7 : 0 ≤ (ji6)
    ·rw [if_pos c7] at H
     have c7b0 := eq_true c7
     have c7b1 : decide (0 ≤ (ji6)) = true := decide_eq_true c7
     clear c7
     by_cases c8 : (ji6) ≤ (x0_1.size : Int)
     ·rw [if_pos c8] at H
      have c8b0 := eq_true c8
      have c8b1 : decide ((ji6) ≤ (x0_1.size : Int)) = true := decide_eq_true c8
      clear c8
      by_cases c9 : x5_1.length < 5864062014805
      ·rw [if_pos c9] at H
       have LMc9 := Aside0.mk c9
       clear c9
       obtain ⟨y277, hy277⟩ : ∃ y_ : List (S24), y_ = (x5_1 ++ [(⟨1, x0_1.extract 0 ((ji6) : Int).toNat⟩ : S24)]) := ⟨_, rfl⟩
       replace H : (pkt_Cut.l0 k1 (x0_1.extract ((ji6) : Int).toNat x0_1.size) ji4 y277) = some r := by first | (rw [hy277]; with_reducible exact H) | (have H2_ := (Option.bind_some _ _).symm.trans H; rw [hy277]; with_reducible exact H2_) | (have H2_ := (Option.bind_some _ _).symm.trans H; with_reducible exact H2_) | with_reducible exact H | (rw [hy277]; exact H) | exact H
       have Ny277 := Aside0.mk hy277
       clear hy277
       have c10b0 := eq_true (of_decide_eq_true (by first | (with_reducible assumption) | assumption) : 0 ≤ (ji6))
       have c11b0 := eq_true (of_decide_eq_true (by first | (with_reducible assumption) | assumption) : (ji6) ≤ (x0_1.size : Int))
       have H' := Aside0.mk H
       clear H
       go_wp2_with (first | ((with_reducible refine gate_builtin (b := .append) (xs := #[.tmp 16, .tmp 21]) rfl ?_); at_builtin; refine Kd.R_append k24 (w0 := w) w.heap.size rfl (.tmp 16) (.tmp 21) 28 24 (.agg #[(.int .i64 0), (.string ⟨#[]⟩)]) 24 rfl Try.underlying28 info24 rfl (by decide) (by omega) u5 x5_1 (⟨1, x0_1.extract 0 ((ji6) : Int).toNat⟩ : S24) [.int .i64 1, .string (x0_1.extract 0 ((ji6) : Int).toNat)] (fun _ => True) (fun _ => False) rfl rfl ?aP (fun _ hk => hk.elim) ?aF ?aO ?aB ?aS ?aL ?_; (case aP => exact k24_mkM _ _ _ (⟨1, x0_1.extract 0 ((ji6) : Int).toNat⟩ : S24)); (case aB => exact (by repeat (first | (with_reducible first | exact HB.out | apply below_alloc | apply pw_below_drewN | apply below_drew1) | exact HB.out))); (case aF => exact (fun _ _ => trivial)); (case aO => exact (by (with_reducible repeat (first | apply Kd.R_alloc | apply Kd.R_drewN | apply Kd.R_drew)); exact HO_5.out)); (case aS => exact (below_size (by repeat (first | (with_reducible first | exact HB.out | apply below_alloc | apply pw_below_drewN | apply below_drew1) | exact HB.out)))); (case aL => have := LMc9.out; omega); intro v278 w12 ho hb hg hat; rw [← Ny277.out] at ho; have n0_ := Aside0.mk (hb); have n1_ := Aside0.mk (ho); clear HB; clear HO_5; have HB := n0_; have HO279 := n1_; clear n0_ n1_; clear ho hb hg hat))
       go_roundg k1
       case measure => have := HK1.out; omega
       case rel => exact ⟨(x0_1.extract ((ji6) : Int).toNat x0_1.size), (y277), (by first | rfl | (simp; done) | (simp only [← hji6] <;> (first | rfl | simp)) | (simp [*]; done)), H', ⟨by have := HK1.out; omega⟩, ⟨by (with_reducible repeat (first | apply Kd.R_alloc | apply Kd.R_drewN | apply Kd.R_drew)); exact HO279.out⟩, ⟨by repeat (first | (with_reducible first | exact HB.out | apply below_alloc | apply pw_below_drewN | apply below_drew1) | exact HB.out)⟩⟩
      ·rw [if_neg c9] at H
       exact absurd H (by simp)
     ·rw [if_neg c8] at H
      exact absurd H (by simp)
    ·rw [if_neg c7] at H
     exact absurd H (by simp)

/-! ### graftageref46_Cut: function 23 -/
def graftageref46_Cut.l0 : Nat → ByteArray → Int → List (S24) → Option ((List (S24)))
 | 0, _, _, _ => none
 | k + 1, x0, x1, x5 => if x0.toList = ([] : List UInt8) then (some x5) else (if 0 ≤ (mn x1 (x0.size : Int)) then (if (mn x1 (x0.size : Int)) ≤ (x0.size : Int) then (if x5.length < 5864062014805 then (graftageref46_Cut.l0 k (x0.extract ((mn x1 (x0.size : Int)) : Int).toNat x0.size) x1 (x5 ++ [(⟨1, x0.extract 0 ((mn x1 (x0.size : Int)) : Int).toNat⟩ : S24)])) else (none)) else (none)) else (none))
def graftageref46_Cut.f (k : Nat) (a0 : ByteArray) (a1 : Int) : Option ((List (S24))) := graftageref46_Cut.l0 k a0 (mn (mx a1 1) 65516) ([] : List (S24))
theorem graftageref46_Cut.mono_l : ∀ k, (∀ y0 y1 y2, LeO (graftageref46_Cut.l0 k y0 y1 y2) (graftageref46_Cut.l0 (k + 1) y0 y1 y2))
 | 0 => fun _ _ _ r h => by simp [graftageref46_Cut.l0] at h
 | k + 1 => by
  have ih0 := graftageref46_Cut.mono_l k
  ·intro y0 y1 y2
   unfold graftageref46_Cut.l0
   repeat' first
   | (with_reducible exact ih0 _ _ _)
   | (with_reducible exact LeO.refl _)
   | (with_reducible exact LeO.none _)
   | (with_reducible refine LeO.ite ?_ ?_)
   | (with_reducible refine LeO.bind ?_ (fun _ => ?_))
   | exact ih0 _ _ _
   | exact LeO.none _
   | refine LeO.ite ?_ ?_
   | refine LeO.bind ?_ (fun _ => ?_)
theorem graftageref46_Cut.mono : ∀ a0 a1 k, LeO (graftageref46_Cut.f k a0 a1) (graftageref46_Cut.f (k + 1) a0 a1) := by
 intro a0 a1 k
 have ih0 := graftageref46_Cut.mono_l k
 unfold graftageref46_Cut.f
 repeat' first
   | (with_reducible exact ih0 _ _ _)
   | (with_reducible exact LeO.refl _)
   | (with_reducible exact LeO.none _)
   | (with_reducible refine LeO.ite ?_ ?_)
   | (with_reducible refine LeO.bind ?_ (fun _ => ?_))
   | exact ih0 _ _ _
   | exact LeO.none _
   | refine LeO.ite ?_ ?_
   | refine LeO.bind ?_ (fun _ => ?_)
set_option maxHeartbeats 8000000 in
set_option maxRecDepth 100000 in
theorem graftageref46_Cut.calls (k : Nat) (a0 : ByteArray) (a1 : Int) (r : List (S24)) (w : World) (h : graftageref46_Cut.f k a0 a1 = some r) :
  Calls Try.prog 23 #[.string a0, .int .i64 a1] w fun e w' => ∃ v0_ : Value, e = .returned (v0_) ∧ Kd.R k24 24 w' w.heap.size (fun _ => True) v0_ r ∧ Below w.heap.size w w' := by
 have hu24 := Try.underlying24
 have HB := Aside0.mk (Below.refl w.heap.size w)
 have H : (graftageref46_Cut.l0 k a0 (mn (mx a1 1) 65516) ([] : List (S24))) = some r := h
 clear h
 obtain ⟨ji3, hji3⟩ : ∃ j_ : Int, (mx a1 1) = j_ := ⟨_, rfl⟩
 replace H : (graftageref46_Cut.l0 k a0 (mn (ji3) 65516) ([] : List (S24))) = some r := by first | (rw [hji3] at H; exact H) | (simp only [hji3] at H ⊢; exact H)
 (try (have hji3l : 1 ≤ ji3 := by (rw [← hji3]; unfold mx; (repeat' split) <;> omega)))
 (try (have hji3m : 0 ≤ ji3 := by omega))
 have hji3_ : (if a1 < 1 then 1 else a1) = ji3 := hji3
 obtain ⟨ji4, hji4⟩ : ∃ j_ : Int, (mn (ji3) 65516) = j_ := ⟨_, rfl⟩
 replace H : (graftageref46_Cut.l0 k a0 ji4 ([] : List (S24))) = some r := by first | (rw [hji4] at H; exact H) | (simp only [hji4] at H ⊢; exact H)
 have hji4_ : (if 65516 < (ji3) then 65516 else (ji3)) = ji4 := hji4
 have H' := Aside0.mk H
 clear H
 go_enter Try.func23, Try.ntmps23
 go_wp2
 go_loopg [0, 5] k (fun kq v0 v5 w' => ∃ (x0_1 : ByteArray) (x5_1 : List (S24)), v0 = .string x0_1 ∧ Aside0 (graftageref46_Cut.l0 kq x0_1 ji4 x5_1 = some r) ∧ Aside0 (kq ≤ k) ∧ Aside0 (Kd.R k24 24 w' w.heap.size (fun _ => True) v5 x5_1) ∧ Aside0 (Below w.heap.size w w'))
 case atStart => exact ⟨(a0), (([] : List (S24))), (by first | rfl | (simp; done) | (simp [*]; done)), H', ⟨Nat.le_refl _⟩, ⟨by first | exact Kd.R_nil _ _ _ _ _ | exact Kd.N_nil _ _ _ _ _ | exact Kd.V_nil _ _ _ _ _ | exact Kd.Q_nil _ _ _ _ _ | exact Kd.S_nil _ _ _ _ _⟩, ⟨by repeat (first | (with_reducible first | exact HB.out | apply below_alloc | apply pw_below_drewN | apply below_drew1) | exact HB.out)⟩⟩
 case round =>
  clear H'
  try clear c2
  try clear p2
  obtain ⟨x0_1, x5_1, rfl, HA, HK1, HO_5, HB⟩ := hrel
  cases gk with
  | zero => exact absurd HA.out (by simp [graftageref46_Cut.l0])
  | succ k1 =>
   have H := HA.out
   clear HA
   simp only [graftageref46_Cut.l0] at H
   by_cases c5 : x0_1.toList = ([] : List UInt8)
   ·rw [if_pos c5] at H
    have c5b0 : (x0_1.toList == ([] : List UInt8)) = true := beq_iff_eq.mpr c5
    have c5b1 : (x0_1.toList != ([] : List UInt8)) = false := bne_eq_false_iff_eq.mpr c5
    clear c5
    obtain rfl := Option.some.inj H
    go_wp2
    go_ret
    exact ⟨_, by first | rfl | (simp [errW_none, errW_some] <;> rfl) | (simp only [← hji3, ← hji4]; first | rfl | (simp [errW_none, errW_some] <;> rfl)) | (simp [*, errW_none, errW_some] <;> rfl), by (with_reducible repeat (first | apply Kd.R_alloc | apply Kd.R_drewN | apply Kd.R_drew)); exact HO_5.out, by repeat (first | (with_reducible first | exact HB.out | apply below_alloc | apply pw_below_drewN | apply below_drew1) | exact HB.out)⟩
   ·rw [if_neg c5] at H
    have c5b0 : (x0_1.toList == ([] : List UInt8)) = false := beq_eq_false_iff_ne.mpr c5
    have c5b1 : (x0_1.toList != ([] : List UInt8)) = true := bne_iff_ne.mpr c5
    obtain ⟨ji6, hji6⟩ : ∃ j_ : Int, (mn ji4 (x0_1.size : Int)) = j_ := ⟨_, rfl⟩
    replace H : (if 0 ≤ (ji6) then (if (ji6) ≤ (x0_1.size : Int) then (if x5_1.length < 5864062014805 then (graftageref46_Cut.l0 k1 (x0_1.extract ((ji6) : Int).toNat x0_1.size) ji4 (x5_1 ++ [(⟨1, x0_1.extract 0 ((ji6) : Int).toNat⟩ : S24)])) else (none)) else (none)) else (none)) = some r := by first | (rw [hji6] at H; exact H) | (simp only [hji6] at H ⊢; exact H)
    have hji6_ : (if (x0_1.size : Int) < ji4 then (x0_1.size : Int) else ji4) = ji6 := hji6
    by_cases c7 : 0 ≤ (ji6)
    ·rw [if_pos c7] at H
     have c7b0 := eq_true c7
     have c7b1 : decide (0 ≤ (ji6)) = true := decide_eq_true c7
     clear c7
     by_cases c8 : (ji6) ≤ (x0_1.size : Int)
     ·rw [if_pos c8] at H
      have c8b0 := eq_true c8
      have c8b1 : decide ((ji6) ≤ (x0_1.size : Int)) = true := decide_eq_true c8
      clear c8
      by_cases c9 : x5_1.length < 5864062014805
      ·rw [if_pos c9] at H
       have LMc9 := Aside0.mk c9
       clear c9
       obtain ⟨y280, hy280⟩ : ∃ y_ : List (S24), y_ = (x5_1 ++ [(⟨1, x0_1.extract 0 ((ji6) : Int).toNat⟩ : S24)]) := ⟨_, rfl⟩
       replace H : (graftageref46_Cut.l0 k1 (x0_1.extract ((ji6) : Int).toNat x0_1.size) ji4 y280) = some r := by first | (rw [hy280]; with_reducible exact H) | (have H2_ := (Option.bind_some _ _).symm.trans H; rw [hy280]; with_reducible exact H2_) | (have H2_ := (Option.bind_some _ _).symm.trans H; with_reducible exact H2_) | with_reducible exact H | (rw [hy280]; exact H) | exact H
       have Ny280 := Aside0.mk hy280
       clear hy280
       have c10b0 := eq_true (of_decide_eq_true (by first | (with_reducible assumption) | assumption) : 0 ≤ (ji6))
       have c11b0 := eq_true (of_decide_eq_true (by first | (with_reducible assumption) | assumption) : (ji6) ≤ (x0_1.size : Int))
       have H' := Aside0.mk H
       clear H
       go_wp2_with (first | ((with_reducible refine gate_builtin (b := .append) (xs := #[.tmp 16, .tmp 21]) rfl ?_); at_builtin; refine Kd.R_append k24 (w0 := w) w.heap.size rfl (.tmp 16) (.tmp 21) 28 24 (.agg #[(.int .i64 0), (.string ⟨#[]⟩)]) 24 rfl Try.underlying28 info24 rfl (by decide) (by omega) u5 x5_1 (⟨1, x0_1.extract 0 ((ji6) : Int).toNat⟩ : S24) [.int .i64 1, .string (x0_1.extract 0 ((ji6) : Int).toNat)] (fun _ => True) (fun _ => False) rfl rfl ?aP (fun _ hk => hk.elim) ?aF ?aO ?aB ?aS ?aL ?_; (case aP => exact k24_mkM _ _ _ (⟨1, x0_1.extract 0 ((ji6) : Int).toNat⟩ : S24)); (case aB => exact (by repeat (first | (with_reducible first | exact HB.out | apply below_alloc | apply pw_below_drewN | apply below_drew1) | exact HB.out))); (case aF => exact (fun _ _ => trivial)); (case aO => exact (by (with_reducible repeat (first | apply Kd.R_alloc | apply Kd.R_drewN | apply Kd.R_drew)); exact HO_5.out)); (case aS => exact (below_size (by repeat (first | (with_reducible first | exact HB.out | apply below_alloc | apply pw_below_drewN | apply below_drew1) | exact HB.out)))); (case aL => have := LMc9.out; omega); intro v281 w12 ho hb hg hat; rw [← Ny280.out] at ho; have n0_ := Aside0.mk (hb); have n1_ := Aside0.mk (ho); clear HB; clear HO_5; have HB := n0_; have HO282 := n1_; clear n0_ n1_; clear ho hb hg hat))
       go_roundg k1
       case measure => have := HK1.out; omega
       case rel => exact ⟨(x0_1.extract ((ji6) : Int).toNat x0_1.size), (y280), (by first | rfl | (simp; done) | (simp only [← hji6] <;> (first | rfl | simp)) | (simp [*]; done)), H', ⟨by have := HK1.out; omega⟩, ⟨by (with_reducible repeat (first | apply Kd.R_alloc | apply Kd.R_drewN | apply Kd.R_drew)); exact HO282.out⟩, ⟨by repeat (first | (with_reducible first | exact HB.out | apply below_alloc | apply pw_below_drewN | apply below_drew1) | exact HB.out)⟩⟩
      ·rw [if_neg c9] at H
       exact absurd H (by simp)
     ·rw [if_neg c8] at H
      exact absurd H (by simp)
    ·rw [if_neg c7] at H
     exact absurd H (by simp)

/-! ### graftagelaw46_PktCuts: function 6 -/
def graftagelaw46_PktCuts.j0 : Nat → ByteArray → Int → Bool → Option (Bool)
 | 0, _, _, _ => none
 | k + 1, x0, x1, x27 => if x27 = true then ((graftagelaw46_lives.f k).bind fun t283 => (some t283)) else ((pkt_Cut.f k x0 x1).bind fun t284 => ((graftageref46_Cut.f k x0 x1).bind fun t287 => ((graftageref46_Same.f k t284 t287).bind fun t290 => (if t290 = true then ((graftagelaw46_lives.f k).bind fun t291 => (some t291)) else (some false)))))
def graftagelaw46_PktCuts.f (k : Nat) (a0 : ByteArray) (a1 : Int) : Option (Bool) := if (a0.size : Int) > 100000 then (graftagelaw46_PktCuts.j0 k a0 a1 true) else (if a1 > 0 then (if a1 = 0 then (none) else (if (wrap64 ((a0.size : Int) / a1)) > 2000 then (graftagelaw46_PktCuts.j0 k a0 a1 true) else (if a1 < 1 then (graftagelaw46_PktCuts.j0 k a0 a1 (decide ((a0.size : Int) > 2000))) else (graftagelaw46_PktCuts.j0 k a0 a1 false)))) else (if a1 < 1 then (graftagelaw46_PktCuts.j0 k a0 a1 (decide ((a0.size : Int) > 2000))) else (graftagelaw46_PktCuts.j0 k a0 a1 false)))
theorem graftagelaw46_PktCuts.mono_l : ∀ k, (∀ y0 y1 y2, LeO (graftagelaw46_PktCuts.j0 k y0 y1 y2) (graftagelaw46_PktCuts.j0 (k + 1) y0 y1 y2))
 | 0 => fun _ _ _ r h => by simp [graftagelaw46_PktCuts.j0] at h
 | k + 1 => by
  have ih0 := graftagelaw46_PktCuts.mono_l k
  ·intro y0 y1 y2
   unfold graftagelaw46_PktCuts.j0
   repeat' first
   | (with_reducible exact ih0 _ _ _)
   | (with_reducible exact graftagelaw46_lives.mono _)
   | (with_reducible exact graftageref46_Cut.mono _ _ _)
   | (with_reducible exact graftageref46_Same.mono _ _ _)
   | (with_reducible exact pkt_Cut.mono _ _ _)
   | (with_reducible exact LeO.refl _)
   | (with_reducible exact LeO.none _)
   | (with_reducible refine LeO.ite ?_ ?_)
   | (with_reducible refine LeO.bind ?_ (fun _ => ?_))
   | exact ih0 _ _ _
   | exact graftagelaw46_lives.mono _
   | exact graftageref46_Cut.mono _ _ _
   | exact graftageref46_Same.mono _ _ _
   | exact pkt_Cut.mono _ _ _
   | exact LeO.none _
   | refine LeO.ite ?_ ?_
   | refine LeO.bind ?_ (fun _ => ?_)
theorem graftagelaw46_PktCuts.mono : ∀ a0 a1 k, LeO (graftagelaw46_PktCuts.f k a0 a1) (graftagelaw46_PktCuts.f (k + 1) a0 a1) := by
 intro a0 a1 k
 have ih0 := graftagelaw46_PktCuts.mono_l k
 unfold graftagelaw46_PktCuts.f
 repeat' first
   | (with_reducible exact ih0 _ _ _)
   | (with_reducible exact graftagelaw46_lives.mono _)
   | (with_reducible exact graftageref46_Cut.mono _ _ _)
   | (with_reducible exact graftageref46_Same.mono _ _ _)
   | (with_reducible exact pkt_Cut.mono _ _ _)
   | (with_reducible exact LeO.refl _)
   | (with_reducible exact LeO.none _)
   | (with_reducible refine LeO.ite ?_ ?_)
   | (with_reducible refine LeO.bind ?_ (fun _ => ?_))
   | exact ih0 _ _ _
   | exact graftagelaw46_lives.mono _
   | exact graftageref46_Cut.mono _ _ _
   | exact graftageref46_Same.mono _ _ _
   | exact pkt_Cut.mono _ _ _
   | exact LeO.none _
   | refine LeO.ite ?_ ?_
   | refine LeO.bind ?_ (fun _ => ?_)
set_option maxHeartbeats 8000000 in
set_option maxRecDepth 100000 in
theorem graftagelaw46_PktCuts.calls (k : Nat) (a0 : ByteArray) (a1 : Int) (r : Bool) (w : World) (h : graftagelaw46_PktCuts.f k a0 a1 = some r) (hr : r = true) :
  Calls Try.prog 6 #[.string a0, .int .i64 a1] w fun e w' => e = .returned (.bool r) ∧ Below w.heap.size w w' := by
 have HB := Aside0.mk (Below.refl w.heap.size w)
 have H : (if (a0.size : Int) > 100000 then (graftagelaw46_PktCuts.j0 k a0 a1 true) else (if a1 > 0 then (if a1 = 0 then (none) else (if (wrap64 ((a0.size : Int) / a1)) > 2000 then (graftagelaw46_PktCuts.j0 k a0 a1 true) else (if a1 < 1 then (graftagelaw46_PktCuts.j0 k a0 a1 (decide ((a0.size : Int) > 2000))) else (graftagelaw46_PktCuts.j0 k a0 a1 false)))) else (if a1 < 1 then (graftagelaw46_PktCuts.j0 k a0 a1 (decide ((a0.size : Int) > 2000))) else (graftagelaw46_PktCuts.j0 k a0 a1 false)))) = some r := h
 clear h
 have HC3 := Aside0.mk H
 clear H
 go_enter Try.func6, Try.ntmps6
 go_upto_region 1 with (fail)
 go_cut [27] (fun v27 wc => ∃ (kq : Nat) (x27_2 : Bool), v27 = .bool x27_2 ∧ Aside0 (graftagelaw46_PktCuts.j0 kq a0 a1 x27_2 = some r) ∧ Aside0 (kq ≤ k) ∧ Aside0 (Below w.heap.size w wc))
 case first =>
  have H := HC3.out
  clear HC3
  by_cases c4 : (a0.size : Int) > 100000
  ·rw [if_pos c4] at H
   have c4b0 : decide (100000 < (a0.size : Int)) = true := decide_eq_true c4
   have c4b1 : decide (100000 < a0.size) = true := decide_eq_true (by omega)
   clear c4
   (first | rw [c4b0] | (simp only [i64_w, i32_w]; rw [c4b0]) | skip)
   have H' := Aside0.mk H
   clear H
   go_wp2
   go_meet
   case rel => exact ⟨_, (true), (by first | rfl | (simp; done) | (simp [*]; done)), H', ⟨by first | omega | exact Nat.le_refl _⟩, ⟨by repeat (first | (with_reducible first | exact HB.out | apply below_alloc | apply pw_below_drewN | apply below_drew1) | exact HB.out)⟩⟩
  ·rw [if_neg c4] at H
   have c4b0 : decide (100000 < (a0.size : Int)) = false := decide_eq_false c4
   have c4b1 : decide (100000 < a0.size) = false := decide_eq_false (by omega)
   clear c4
   (first | rw [c4b0] | (simp only [i64_w, i32_w]; rw [c4b0]) | skip)
   by_cases c5 : a1 > 0
   ·rw [if_pos c5] at H
    have c5b0 : decide (0 < a1) = true := decide_eq_true c5
    clear c5
    by_cases c6 : a1 = 0
    ·rw [if_pos c6] at H
     exact absurd H (by simp)
    ·rw [if_neg c6] at H
     have c6b0 : (a1 == 0) = false := beq_eq_false_iff_ne.mpr c6
     have c6b1 : (a1 != 0) = true := bne_iff_ne.mpr c6
     by_cases c7 : (wrap64 ((a0.size : Int) / a1)) > 2000
     ·rw [if_pos c7] at H
      have c7b0 : decide (2000 < (wrap64 ((a0.size : Int) / a1))) = true := decide_eq_true c7
      clear c7
      have H' := Aside0.mk H
      clear H
      go_wp2
      go_meet
      case rel => exact ⟨_, (true), (by first | rfl | (simp; done) | (simp [*]; done)), H', ⟨by first | omega | exact Nat.le_refl _⟩, ⟨by repeat (first | (with_reducible first | exact HB.out | apply below_alloc | apply pw_below_drewN | apply below_drew1) | exact HB.out)⟩⟩
     ·rw [if_neg c7] at H
      have c7b0 : decide (2000 < (wrap64 ((a0.size : Int) / a1))) = false := decide_eq_false c7
      clear c7
      by_cases c8 : a1 < 1
      ·rw [if_pos c8] at H
       have c8b0 : decide (a1 < 1) = true := decide_eq_true c8
       clear c8
       have H' := Aside0.mk H
       clear H
       go_wp2
       go_meet
       case rel => exact ⟨_, (decide ((a0.size : Int) > 2000)), (by first | rfl | (simp; done) | (simp [*]; done)), H', ⟨by first | omega | exact Nat.le_refl _⟩, ⟨by repeat (first | (with_reducible first | exact HB.out | apply below_alloc | apply pw_below_drewN | apply below_drew1) | exact HB.out)⟩⟩
      ·rw [if_neg c8] at H
       have c8b0 : decide (a1 < 1) = false := decide_eq_false c8
       clear c8
       have H' := Aside0.mk H
       clear H
       go_wp2
       go_meet
       case rel => exact ⟨_, (false), (by first | rfl | (simp; done) | (simp [*]; done)), H', ⟨by first | omega | exact Nat.le_refl _⟩, ⟨by repeat (first | (with_reducible first | exact HB.out | apply below_alloc | apply pw_below_drewN | apply below_drew1) | exact HB.out)⟩⟩
   ·rw [if_neg c5] at H
    have c5b0 : decide (0 < a1) = false := decide_eq_false c5
    clear c5
    by_cases c9 : a1 < 1
    ·rw [if_pos c9] at H
     have c9b0 : decide (a1 < 1) = true := decide_eq_true c9
     clear c9
     have H' := Aside0.mk H
     clear H
     go_wp2
     go_meet
     case rel => exact ⟨_, (decide ((a0.size : Int) > 2000)), (by first | rfl | (simp; done) | (simp [*]; done)), H', ⟨by first | omega | exact Nat.le_refl _⟩, ⟨by repeat (first | (with_reducible first | exact HB.out | apply below_alloc | apply pw_below_drewN | apply below_drew1) | exact HB.out)⟩⟩
    ·rw [if_neg c9] at H
     have c9b0 : decide (a1 < 1) = false := decide_eq_false c9
     clear c9
     have H' := Aside0.mk H
     clear H
     go_wp2
     go_meet
     case rel => exact ⟨_, (false), (by first | rfl | (simp; done) | (simp [*]; done)), H', ⟨by first | omega | exact Nat.le_refl _⟩, ⟨by repeat (first | (with_reducible first | exact HB.out | apply below_alloc | apply pw_below_drewN | apply below_drew1) | exact HB.out)⟩⟩
 case rest =>
  clear HC3
  try clear p2
  try clear c4
  try clear c4b0
  try clear c4b1
  try clear c5
  try clear c5b0
  try clear c6
  try clear c6b0
  try clear c6b1
  try clear p6
  try clear c7
  try clear c7b0
  try clear c8
  try clear c8b0
  try clear c9
  try clear c9b0
  obtain ⟨kq, x27_2, rfl, HA, HJ2, HB⟩ := hcut
  cases kq with
  | zero => exact absurd HA.out (by simp [graftagelaw46_PktCuts.j0])
  | succ kj2 =>
   have H := HA.out
   clear HA
   simp only [graftagelaw46_PktCuts.j0] at H
   by_cases c10 : x27_2 = true
   ·subst c10
    have H1 : ((graftagelaw46_lives.f kj2).bind fun t283 => (some t283)) = some r := by rw [if_pos rfl] at H; exact H
    clear H
    have H := H1
    clear H1
    replace H := Option.bind_eq_some_iff.mp H
    obtain ⟨t283, A110, H⟩ := H
    replace H : (some t283) = some r := H
    have A11 := Aside0.mk A110
    clear A110
    obtain rfl := Option.some.inj H
    go_wp2_with (first | ((with_reducible refine gate_callee (f := 8) rfl ?_); refine goesL_ (some 28) rfl rfl Try.func8 (by kernel_rfl) rfl #[] rfl (by (try simp only [List.map_toArray, List.map_cons, List.map_nil]); first | done | rfl | (simp only [List.length_drop, List.length_take]; rfl)) ?_; (with_reducible refine (graftagelaw46_lives.calls kj2  t283 _ A11.out).mono ?_); rintro e w12 ⟨rfl, hb⟩; refine ⟨_, rfl, ?_⟩; have n0_ := Aside0.mk (below_step (by repeat (first | (with_reducible first | exact HB.out | apply below_alloc | apply pw_below_drewN | apply below_drew1) | exact HB.out)) hb); clear HB; have HB := n0_; clear n0_; (try clear hb); (try clear hb2); (try clear hk); (try clear hi)))
    go_ret
    exact ⟨by first | rfl | (simp [errW_none, errW_some] <;> rfl) | (simp [*, errW_none, errW_some] <;> rfl), by repeat (first | (with_reducible first | exact HB.out | apply below_alloc | apply pw_below_drewN | apply below_drew1) | exact HB.out)⟩
   ·replace c10 := Bool.eq_false_iff.mpr c10
    subst c10
    have H1 : ((pkt_Cut.f kj2 a0 a1).bind fun t284 => ((graftageref46_Cut.f kj2 a0 a1).bind fun t287 => ((graftageref46_Same.f kj2 t284 t287).bind fun t290 => (if t290 = true then ((graftagelaw46_lives.f kj2).bind fun t291 => (some t291)) else (some false))))) = some r := by rw [if_neg (show ¬ (false = true) by decide)] at H; exact H
    clear H
    have H := H1
    clear H1
    replace H := Option.bind_eq_some_iff.mp H
    obtain ⟨t284, A130, H⟩ := H
    replace H : ((graftageref46_Cut.f kj2 a0 a1).bind fun t287 => ((graftageref46_Same.f kj2 t284 t287).bind fun t290 => (if t290 = true then ((graftagelaw46_lives.f kj2).bind fun t291 => (some t291)) else (some false)))) = some r := H
    have A13 := Aside0.mk A130
    clear A130
    replace H := Option.bind_eq_some_iff.mp H
    obtain ⟨t287, A140, H⟩ := H
    replace H : ((graftageref46_Same.f kj2 t284 t287).bind fun t290 => (if t290 = true then ((graftagelaw46_lives.f kj2).bind fun t291 => (some t291)) else (some false))) = some r := H
    have A14 := Aside0.mk A140
    clear A140
    replace H := Option.bind_eq_some_iff.mp H
    obtain ⟨t290, A150, H⟩ := H
    replace H : (if t290 = true then ((graftagelaw46_lives.f kj2).bind fun t291 => (some t291)) else (some false)) = some r := H
    have A15 := Aside0.mk A150
    clear A150
    by_cases c16 : t290 = true
    ·subst c16
     have H1 : ((graftagelaw46_lives.f kj2).bind fun t291 => (some t291)) = some r := by rw [if_pos rfl] at H; exact H
     clear H
     have H := H1
     clear H1
     replace H := Option.bind_eq_some_iff.mp H
     obtain ⟨t291, A170, H⟩ := H
     replace H : (some t291) = some r := H
     have A17 := Aside0.mk A170
     clear A170
     obtain rfl := Option.some.inj H
     go_wp2_with (first | ((with_reducible refine gate_callee (f := 22) rfl ?_); refine goesL_ (some 31) rfl rfl Try.func22 (by kernel_rfl) rfl #[.string a0, .int .i64 a1] rfl (by (try simp only [List.map_toArray, List.map_cons, List.map_nil]); first | done | rfl | (simp only [List.length_drop, List.length_take]; rfl)) ?_; (with_reducible refine (pkt_Cut.calls kj2 a0 a1 t284 _ A13.out).mono ?_); rintro e w18 ⟨v285, rfl, ho0, hb⟩; refine ⟨_, rfl, ?_⟩; have n0_ := Aside0.mk (Kd.R_lower ho0 (below_size (by repeat (first | (with_reducible first | exact HB.out | apply below_alloc | apply pw_below_drewN | apply below_drew1) | exact HB.out)))); have n1_ := Aside0.mk (below_step (by repeat (first | (with_reducible first | exact HB.out | apply below_alloc | apply pw_below_drewN | apply below_drew1) | exact HB.out)) hb); clear HB; have HO286 := n0_; have HB := n1_; clear n0_ n1_; (try clear hb); (try clear hb2); (try clear hk); (try clear hi); (try clear ho0)) | ((with_reducible refine gate_callee (f := 23) rfl ?_); refine goesL_ (some 34) rfl rfl Try.func23 (by kernel_rfl) rfl #[.string a0, .int .i64 a1] rfl (by (try simp only [List.map_toArray, List.map_cons, List.map_nil]); first | done | rfl | (simp only [List.length_drop, List.length_take]; rfl)) ?_; (with_reducible refine (graftageref46_Cut.calls kj2 a0 a1 t287 _ A14.out).mono ?_); rintro e w19 ⟨v288, rfl, ho0, hb⟩; refine ⟨_, rfl, ?_⟩; have n0_ := Aside0.mk (Kd.R_elder' (by (with_reducible repeat (first | apply Kd.R_alloc | apply Kd.R_drewN | apply Kd.R_drew)); exact HO286.out) (Kd.R_base ho0) hb); have n1_ := Aside0.mk (Kd.R_lower (Kd.R_new' ho0 (Kd.R_lt (by (with_reducible repeat (first | apply Kd.R_alloc | apply Kd.R_drewN | apply Kd.R_drew)); exact HO286.out))) (below_size (by repeat (first | (with_reducible first | exact HB.out | apply below_alloc | apply pw_below_drewN | apply below_drew1) | exact HB.out)))); have n2_ := Aside0.mk (below_step (by repeat (first | (with_reducible first | exact HB.out | apply below_alloc | apply pw_below_drewN | apply below_drew1) | exact HB.out)) hb); clear HO286; clear HB; have HO286 := n0_; have HO289 := n1_; have HB := n2_; clear n0_ n1_ n2_; (try clear hb); (try clear hb2); (try clear hk); (try clear hi); (try clear ho0); obtain ⟨Ao20, co20, eo20⟩ := Kd.R_slice HO286.out; subst eo20; obtain ⟨Ao21, co21, eo21⟩ := Kd.R_slice HO289.out; subst eo21) | ((with_reducible refine gate_callee (f := 13) rfl ?_); refine goesL_ (some 35) rfl rfl Try.func13 (by kernel_rfl) rfl #[.slice Ao20 t284.length co20, .slice Ao21 t287.length co21] rfl (by (try simp only [List.map_toArray, List.map_cons, List.map_nil]); first | done | rfl | (simp only [List.length_drop, List.length_take]; rfl)) ?_; (with_reducible refine (graftageref46_Same.calls kj2 _ _ t284 _ _ t287 true _ ?side1 ?side2 ?side3 ?side4 A15.out).mono ?_); (case side1 => repeat (first | exact (Kd.R_reads' HO286.out).2.2 | (with_reducible refine Kd.C_alloc ?_ _) | (with_reducible refine Kd.C_drewN ?_ _) | (with_reducible refine Kd.C_drew ?_))); (case side2 => exact (Kd.R_reads' HO286.out).2.1); (case side3 => repeat (first | exact (Kd.R_reads' HO289.out).2.2 | (with_reducible refine Kd.C_alloc ?_ _) | (with_reducible refine Kd.C_drewN ?_ _) | (with_reducible refine Kd.C_drew ?_))); (case side4 => exact (Kd.R_reads' HO289.out).2.1); rintro e w' ⟨rfl, ⟨nd, rfl⟩⟩; refine ⟨_, rfl, ?_⟩) | (go_at_call 8; (with_reducible refine (graftagelaw46_lives.calls kj2  t291 _ A17.out).mono ?_); rintro e w22 ⟨rfl, hb⟩; have n0_ := Aside0.mk (Kd.R_below (by (with_reducible repeat (first | apply Kd.R_alloc | apply Kd.R_drewN | apply Kd.R_drew)); exact HO286.out) hb); have n1_ := Aside0.mk (Kd.R_below (by (with_reducible repeat (first | apply Kd.R_alloc | apply Kd.R_drewN | apply Kd.R_drew)); exact HO289.out) hb); have n2_ := Aside0.mk (below_step (by repeat (first | (with_reducible first | exact HB.out | apply below_alloc | apply pw_below_drewN | apply below_drew1) | exact HB.out)) hb); clear HO286; clear HO289; clear HB; have HO286 := n0_; have HO289 := n1_; have HB := n2_; clear n0_ n1_ n2_; (try clear hb); (try clear hb2); (try clear hk); (try clear hi)))
     go_ret
     exact ⟨by first | rfl | (simp [errW_none, errW_some] <;> rfl) | (simp [*, errW_none, errW_some] <;> rfl), by repeat (first | (with_reducible first | exact HB.out | apply below_alloc | apply pw_below_drewN | apply below_drew1) | exact HB.out)⟩
    ·replace c16 := Bool.eq_false_iff.mpr c16
     subst c16
     have H1 : (some false) = some r := by rw [if_neg (show ¬ (false = true) by decide)] at H; exact H
     clear H
     have H := H1
     clear H1
     exact absurd (H.trans (congrArg some hr)) (by decide)

/-- THE ONE PURE STATEMENT of graftagelaw46_PktCuts: yours. -/
def graftagelaw46_PktCuts.Pure : Prop := ∀ (a0 : ByteArray) (a1 : Int), a0.size ≤ 140737488351232 → (Lit.int .i64 a1).wf = true → ∃ k, graftagelaw46_PktCuts.f k a0 a1 = some true
theorem graftagelaw46_PktCuts.walk (P : graftagelaw46_PktCuts.Pure) (a0 : ByteArray) (a1 : Int) (w : World) (w0 : a0.size ≤ 140737488351232) (w1 : (Lit.int .i64 a1).wf = true) :
  Calls Try.prog 6 #[.string a0, .int .i64 a1] w fun e w' => e = .returned (.bool true) ∧ Below w.heap.size w w' := by
 obtain ⟨k, h⟩ := P a0 a1 w0 w1
 refine (graftagelaw46_PktCuts.calls k a0 a1 true w h rfl).mono ?_
 rintro e w' ⟨rfl, hd⟩
 exact ⟨rfl, hd⟩

end Go.Proofs.Ytobiejdagfimdaa.PPkt
