/- The law ScriptLines: what its proof takes, part 3 of 5 (packed by wip/gen/pack.py: each section was a text of its own). -/
import Derived.Test.YtcmemgahgenpdaaDoorZLines0
import Derived.Test.YtcmemgahgenpdaaDoorZLines1
import Derived.Lib.IndexMore
import Derived.Lib.IndexBytes
section
namespace Go.Proofs.YtcmemgahgenpdaaDoor.PSc
open Go.Proofs.YtcmemgahgenpdaaDoor.Hand Go.RowKit Go.Proofs.YtcmemgahgenpdaaDoorW.PrintWords Go.Proofs.YtcmemgahgenpdaaDoorW.PrintLast Go.Proofs.YtcmemgahgenpdaaDoorW.PrintMore
attribute [local go_sem] max2_int min2_int max_two min_two max_three min_three max_four min_four
set_option linter.unusedVariables false
set_option linter.unusedSimpArgs false
mutual
noncomputable def script_All.l0 : Nat → ByteArray → List (S24) → Int → Option ((List (S24)) × Int × Int)
 | 0, _, _, _ => none
 | k + 1, x0, x5, x6 => if x0.toList = ([] : List UInt8) then (some (x5, 0, 0)) else ((strings_Cut.f x0 (⟨#[10]⟩ : ByteArray)).bind fun bt203 => (if bt203.1.toList = ([] : List UInt8) then (script_All.j1 k bt203.2.1 x5 x6 bt203.1 true) else (if 0 < (bt203.1.size : Int) then (script_All.j1 k bt203.2.1 x5 x6 bt203.1 ((bt bt203.1 0) == 35)) else (none))))
noncomputable def script_All.j1 : Nat → ByteArray → List (S24) → Int → ByteArray → Bool → Option ((List (S24)) × Int × Int)
 | 0, _, _, _, _, _ => none
 | k + 1, x0, x5, x6, x7, x29 => if x29 = true then (script_All.l0 k x0 x5 (wrap64 (x6 + 1))) else ((script_Read.f x7).bind fun bt206 => (if bt206.2.2.2.2.2 = 0 then (if x5.length < 2199023255552 then (script_All.l0 k x0 (x5 ++ [(⟨bt206.1, bt206.2.1, bt206.2.2.1, bt206.2.2.2.1, bt206.2.2.2.2.1⟩ : S24)]) (wrap64 (x6 + 1))) else (none)) else (some (([] : List (S24)), x6, bt206.2.2.2.2.2))))
end
noncomputable def script_All.f (k : Nat) (a0 : ByteArray) : Option ((List (S24)) × Int × Int) := script_All.l0 k a0 ([] : List (S24)) 0
set_option maxHeartbeats 8000000 in
set_option maxRecDepth 100000 in
theorem script_All.calls (k : Nat) (a0 : ByteArray) (r1 : List (S24)) (r2 : Int) (r3 : Int) (w : World) (hWd : Wds w) (h : script_All.f k a0 = some (r1, r2, r3)) :
  Calls Tryd.prog 17 #[.string a0] w fun e w' => ∃ v0_ : Value, e = .returned (.tuple #[v0_, .int .i64 r2, .int .i64 r3]) ∧ Kd.S k24 24 w' w.heap.size (fun _ => True) v0_ r1 ∧ Below w.heap.size w w' := by
 have hu24 := Tryd.underlying24
 have HB := Aside0.mk (Below.refl w.heap.size w)
 have H : (script_All.l0 k a0 ([] : List (S24)) 0) = some (r1, r2, r3) := h
 clear h
 have H' := Aside0.mk H
 clear H
 go_enter Tryd.func17, Tryd.ntmps17
 go_wp2
 try (refine scope_strip (fun _ _ _ h_ => h_) ?_; go_wp2)
 try (go_step3; go_wp2)
 go_loopg [0, 5, 6] k (fun kq v0 v5 v6 w' => ∃ (x0_1 : ByteArray) (x5_1 : List (S24)) (x6_1 : Int), v0 = .string x0_1 ∧ v6 = .int .i64 x6_1 ∧ Aside0 (script_All.l0 kq x0_1 x5_1 x6_1 = some (r1, r2, r3)) ∧ Aside0 (kq ≤ k) ∧ Aside0 (Kd.S k24 24 w' w.heap.size (fun _ => True) v5 x5_1) ∧ Aside0 (Below w.heap.size w w'))
 case atStart => exact ⟨(a0), (([] : List (S24))), (0), (by first | rfl | (simp; done) | (simp [*]; done)), (by first | rfl | (simp; done) | (simp [*]; done)), H', ⟨Nat.le_refl _⟩, ⟨by first | exact Kd.S_nil _ _ _ _ _ | exact Kd.N_nil _ _ _ _ _ | exact Kd.V_nil _ _ _ _ _ | exact Kd.Q_nil _ _ _ _ _ | exact Kd.R_nil _ _ _ _ _⟩, ⟨by repeat (first | (with_reducible first | exact HB.out | apply below_alloc | apply pw_below_drewN | apply below_drew1) | exact HB.out)⟩⟩
 case round =>
  clear H'
  try clear c1
  obtain ⟨x0_1, x5_1, x6_1, rfl, rfl, HA, HK1, HO_5, HB⟩ := hrel
  cases gk with
  | zero => exact absurd HA.out (by simp [script_All.l0])
  | succ k1 =>
   have H := HA.out
   clear HA
   simp only [script_All.l0] at H
   by_cases c2 : x0_1.toList = ([] : List UInt8)
   ·rw [if_pos c2] at H
    have c2b0 : (x0_1.toList == ([] : List UInt8)) = true := beq_iff_eq.mpr c2
    have c2b1 : (x0_1.toList != ([] : List UInt8)) = false := bne_eq_false_iff_eq.mpr c2
    clear c2
    simp only [Option.some.injEq, Prod.mk.injEq] at H
    obtain ⟨rfl, rfl, rfl⟩ := H
    go_wp2
    try (refine scope_strip (fun _ _ _ h_ => h_) ?_; go_wp2)
    try (go_step3; go_wp2)
    go_ret3
    exact ⟨_, by first | rfl | (simp [errW_none, errW_some] <;> rfl) | (simp [*, errW_none, errW_some] <;> rfl), by (with_reducible repeat (first | apply Kd.S_alloc | apply Kd.S_drewN | apply Kd.S_drew)); exact HO_5.out, by repeat (first | (with_reducible first | exact HB.out | apply below_alloc | apply pw_below_drewN | apply below_drew1) | exact HB.out)⟩
   ·rw [if_neg c2] at H
    have c2b0 : (x0_1.toList == ([] : List UInt8)) = false := beq_eq_false_iff_ne.mpr c2
    have c2b1 : (x0_1.toList != ([] : List UInt8)) = true := bne_iff_ne.mpr c2
    replace H := Option.bind_eq_some_iff.mp H
    obtain ⟨⟨t203, t204, t205⟩, A30, H⟩ := H
    replace H : (if t203.toList = ([] : List UInt8) then (script_All.j1 k1 t204 x5_1 x6_1 t203 true) else (if 0 < (t203.size : Int) then (script_All.j1 k1 t204 x5_1 x6_1 t203 ((bt t203 0) == 35)) else (none))) = some (r1, r2, r3) := H
    have A3 := Aside0.mk A30
    clear A30
    have HC4 := Aside0.mk H
    clear H
    go_upto_region 7 with (first | ((with_reducible refine gate_callee (f := 37) rfl ?_); refine goesL_ (some 18) rfl rfl Tryd.func37 (by kernel_rfl) rfl #[.string x0_1, .string (⟨#[10]⟩ : ByteArray)] rfl (by (try simp only [List.map_toArray, List.map_cons, List.map_nil]); first | done | rfl | (simp only [List.length_drop, List.length_take]; rfl)) ?_; (with_reducible refine (strings_Cut.calls x0_1 (⟨#[10]⟩ : ByteArray) t203 t204 t205 _ A3.out).mono ?_); rintro e w5 ⟨rfl, hb⟩; refine ⟨_, rfl, ?_⟩; have n0_ := Aside0.mk (Kd.S_below (by (with_reducible repeat (first | apply Kd.S_alloc | apply Kd.S_drewN | apply Kd.S_drew)); exact HO_5.out) hb); have n1_ := Aside0.mk (below_step (by repeat (first | (with_reducible first | exact HB.out | apply below_alloc | apply pw_below_drewN | apply below_drew1) | exact HB.out)) hb); clear HO_5; clear HB; have HO_5 := n0_; have HB := n1_; clear n0_ n1_; (try clear hb); (try clear hb2); (try clear hk); (try clear hi)))
    (try simp only [Act.put, List.setIfInBounds_toArray, List.set_cons_zero, List.set_cons_succ])
    go_cut [29] (fun v29 wc => ∃ (kq : Nat) (x29_3 : Bool), v29 = .bool x29_3 ∧ Aside0 (script_All.j1 kq t204 x5_1 x6_1 t203 x29_3 = some (r1, r2, r3)) ∧ Aside0 (kq ≤ k1) ∧ Aside0 (Kd.S k24 24 wc w.heap.size (fun _ => True) u5 x5_1) ∧ Aside0 (Below w.heap.size w wc))
    case first =>
     have H := HC4.out
     clear HC4
     by_cases c6 : t203.toList = ([] : List UInt8)
     ·rw [if_pos c6] at H
      have c6b0 : (t203.toList == ([] : List UInt8)) = true := beq_iff_eq.mpr c6
      have c6b1 : (t203.toList != ([] : List UInt8)) = false := bne_eq_false_iff_eq.mpr c6
      clear c6
      (first | rw [c6b0] | (simp only [i64_w, i32_w]; rw [c6b0]) | skip)
      have H' := Aside0.mk H
      clear H
      go_wp2
      try (refine scope_strip (fun _ _ _ h_ => h_) ?_; go_wp2)
      try (go_step3; go_wp2)
      go_meet
      case rel => exact ⟨_, (true), (by first | rfl | (simp; done) | (simp [*]; done)), H', ⟨by have := HK1.out; first | omega | exact Nat.le_refl _⟩, ⟨by (with_reducible repeat (first | apply Kd.S_alloc | apply Kd.S_drewN | apply Kd.S_drew)); exact HO_5.out⟩, ⟨by repeat (first | (with_reducible first | exact HB.out | apply below_alloc | apply pw_below_drewN | apply below_drew1) | exact HB.out)⟩⟩
     ·rw [if_neg c6] at H
      have c6b0 : (t203.toList == ([] : List UInt8)) = false := beq_eq_false_iff_ne.mpr c6
      have c6b1 : (t203.toList != ([] : List UInt8)) = true := bne_iff_ne.mpr c6
      (first | rw [c6b0] | (simp only [i64_w, i32_w]; rw [c6b0]) | skip)
      by_cases c7 : 0 < (t203.size : Int)
      ·rw [if_pos c7] at H
       have c7b0 : decide (0 < (t203.size : Int)) = true := decide_eq_true c7
       have c7b1 : decide (0 < t203.size) = true := decide_eq_true (by omega)
       clear c7
       have H' := Aside0.mk H
       clear H
       have p8 : 0 ≤ (0 : Int) := (by omega)
       have q8 : 0 < t203.size := (by have : (0 : Int) < (t203.size : Int) := of_decide_eq_true (by first | (with_reducible assumption) | assumption); omega)
       have hx8 : ∀ h : 0 < t203.size, ((t203[0]'h).toNat : Int) = bt t203 0 := bt_at t203 0
       clear p8
       have qi8 : (0 < (t203.size : Int)) = True := eq_true (of_decide_eq_true (by first | (with_reducible assumption) | assumption))
       replace q8 := eq_true q8
       go_wp2
       try (refine scope_strip (fun _ _ _ h_ => h_) ?_; go_wp2)
       try (go_step3; go_wp2)
       go_meet
       case rel => exact ⟨_, (((bt t203 0) == 35)), (by first | rfl | (simp; done) | (simp [*]; done)), H', ⟨by have := HK1.out; first | omega | exact Nat.le_refl _⟩, ⟨by (with_reducible repeat (first | apply Kd.S_alloc | apply Kd.S_drewN | apply Kd.S_drew)); exact HO_5.out⟩, ⟨by repeat (first | (with_reducible first | exact HB.out | apply below_alloc | apply pw_below_drewN | apply below_drew1) | exact HB.out)⟩⟩
      ·rw [if_neg c7] at H
       exact absurd H (by simp)
    case rest =>
     clear HC4
     try clear c1
     try clear c2
     try clear c2b0
     try clear c2b1
     try clear p2
     try clear c3
     try clear c6
     try clear c6b0
     try clear c6b1
     try clear c7
     try clear c7b0
     try clear c7b1
     try clear p8
     try clear q8
     try clear hx8
     try clear qi8
     try clear p8
     try clear q8
     obtain ⟨kq, x29_3, rfl, HA, HJ3, HO_5, HB⟩ := hcut
     cases kq with
     | zero => exact absurd HA.out (by simp [script_All.j1])
     | succ kj3 =>
      have H := HA.out
      clear HA
      simp only [script_All.j1] at H
      by_cases c9 : x29_3 = true
      ·subst c9
       have H1 : (script_All.l0 kj3 t204 x5_1 (wrap64 (x6_1 + 1))) = some (r1, r2, r3) := by rw [if_pos rfl] at H; exact H
       clear H
       have H := H1
       clear H1
       have H' := Aside0.mk H
       clear H
       go_wp2
       try (refine scope_strip (fun _ _ _ h_ => h_) ?_; go_wp2)
       try (go_step3; go_wp2)
       go_roundg kj3
       case measure => have := HK1.out; have := HJ3.out; omega
       case rel => exact ⟨(t204), (x5_1), (wrap64 (x6_1 + 1)), (by first | rfl | (simp; done) | (simp [*]; done)), (by first | rfl | (simp; done) | (simp [*]; done)), H', ⟨by have := HK1.out; have := HJ3.out; omega⟩, ⟨by (with_reducible repeat (first | apply Kd.S_alloc | apply Kd.S_drewN | apply Kd.S_drew)); exact HO_5.out⟩, ⟨by repeat (first | (with_reducible first | exact HB.out | apply below_alloc | apply pw_below_drewN | apply below_drew1) | exact HB.out)⟩⟩
      ·replace c9 := Bool.eq_false_iff.mpr c9
       subst c9
       have H1 : ((script_Read.f t203).bind fun bt206 => (if bt206.2.2.2.2.2 = 0 then (if x5_1.length < 2199023255552 then (script_All.l0 kj3 t204 (x5_1 ++ [(⟨bt206.1, bt206.2.1, bt206.2.2.1, bt206.2.2.2.1, bt206.2.2.2.2.1⟩ : S24)]) (wrap64 (x6_1 + 1))) else (none)) else (some (([] : List (S24)), x6_1, bt206.2.2.2.2.2)))) = some (r1, r2, r3) := by rw [if_neg (show ¬ (false = true) by decide)] at H; exact H
       clear H
       have H := H1
       clear H1
       replace H := Option.bind_eq_some_iff.mp H
       obtain ⟨⟨t206, t207, t210, t211, t212, t213⟩, A100, H⟩ := H
       replace H : (if t213 = 0 then (if x5_1.length < 2199023255552 then (script_All.l0 kj3 t204 (x5_1 ++ [(⟨t206, t207, t210, t211, t212⟩ : S24)]) (wrap64 (x6_1 + 1))) else (none)) else (some (([] : List (S24)), x6_1, t213))) = some (r1, r2, r3) := H
       have A10 := Aside0.mk A100
       clear A100
       by_cases c11 : t213 = 0
       ·rw [if_pos c11] at H
        have c11b0 : (t213 == 0) = true := beq_iff_eq.mpr c11
        have c11b1 : (t213 != 0) = false := bne_eq_false_iff_eq.mpr c11
        clear c11
        by_cases c12 : x5_1.length < 2199023255552
        ·rw [if_pos c12] at H
         have LMc12 := Aside0.mk c12
         clear c12
         obtain ⟨y215, hy215⟩ : ∃ y_ : List (S24), y_ = (x5_1 ++ [(⟨t206, t207, t210, t211, t212⟩ : S24)]) := ⟨_, rfl⟩
         replace H : (script_All.l0 kj3 t204 y215 (wrap64 (x6_1 + 1))) = some (r1, r2, r3) := by first | (rw [hy215]; with_reducible exact H) | (have H2_ := (Option.bind_some _ _).symm.trans H; rw [hy215]; with_reducible exact H2_) | (have H2_ := (Option.bind_some _ _).symm.trans H; with_reducible exact H2_) | with_reducible exact H | (rw [hy215]; exact H) | exact H
         have Ny215 := Aside0.mk hy215
         clear hy215
         have H' := Aside0.mk H
         clear H
         go_wp2_with (first | ((with_reducible refine gate_callee (f := 10) rfl ?_); refine goesL_ (some 32) rfl rfl Tryd.func10 (by kernel_rfl) rfl #[.string t203] rfl (by (try simp only [List.map_toArray, List.map_cons, List.map_nil]); first | done | rfl | (simp only [List.length_drop, List.length_take]; rfl)) ?_; (with_reducible refine (script_Read.calls t203 t206 t207 t210 t211 t212 t213 _ (hWd.below (by repeat (first | (with_reducible first | exact HB.out | apply below_alloc | apply pw_below_drewN | apply below_drew1 | refine below_set ?_ GE214.out) | exact HB.out))) A10.out).mono ?_); rintro e w13 ⟨v208, rfl, ho0, hb⟩; refine ⟨_, rfl, ?_⟩; have n0_ := Aside0.mk (Kd.S_elder' (by (with_reducible repeat (first | apply Kd.S_alloc | apply Kd.S_drewN | apply Kd.S_drew)); exact HO_5.out) (Kd.R_base ho0) hb); have n1_ := Aside0.mk (Kd.R_lower ho0 (below_size (by repeat (first | (with_reducible first | exact HB.out | apply below_alloc | apply pw_below_drewN | apply below_drew1) | exact HB.out)))); have n2_ := Aside0.mk (below_step (by repeat (first | (with_reducible first | exact HB.out | apply below_alloc | apply pw_below_drewN | apply below_drew1) | exact HB.out)) hb); clear HO_5; clear HB; have HO_5 := n0_; have HO209 := n1_; have HB := n2_; clear n0_ n1_ n2_; (try clear hb); (try clear hb2); (try clear hk); (try clear hi); (try clear ho0)) | ((with_reducible refine gate_dst (N := 10) rfl ?_); refine box_event ?hg (N := 10) ?hd (cs := #[.int .i64 0, .slice none 0 0, .int .i64 0, .bool false, .string (⟨#[]⟩ : ByteArray)]) (t := 24) ?hr ?_; (case hd => rfl); (case hg => rfl); (case hr => first | (go_simp; done) | (go_simp; rfl)); intro gb214 hg w14 hbox hb; have n0_ := Aside0.mk (Kd.S_below (Kd.S_elderB (by (with_reducible repeat (first | apply Kd.S_alloc | apply Kd.S_drewN | apply Kd.S_drew)); exact HO_5.out) gb214 (Nat.le_of_eq hg.symm)) hb); have n1_ := Aside0.mk (Kd.R_below (by (with_reducible repeat (first | apply Kd.R_alloc | apply Kd.R_drewN | apply Kd.R_drew)); exact HO209.out) hb); have n2_ := Aside0.mk (below_step (by repeat (first | (with_reducible first | exact HB.out | apply below_alloc | apply pw_below_drewN | apply below_drew1) | exact HB.out)) hb); have n3_ := Aside0.mk (hbox); have n4_ := Aside0.mk ((by rw [hg]; exact (below_size (by repeat (first | (with_reducible first | exact HB.out | apply below_alloc | apply pw_below_drewN | apply below_drew1) | exact HB.out))) : w.heap.size ≤ gb214)); have n5_ := Aside0.mk ((by rw [hg]; exact (below_size (by repeat (first | (with_reducible first | exact HB.out | apply below_alloc | apply pw_below_drewN | apply below_drew1) | exact HB.out))) : w.heap.size ≤ gb214)); clear HO_5; clear HO209; clear HB; have HO_5 := n0_; have HO209 := n1_; have HB := n2_; have BK214 := n3_; have GW214 := n4_; have GE214 := n5_; clear n0_ n1_ n2_ n3_ n4_ n5_; clear hb hbox hg; have hcz15_0 : w14.cell? ⟨gb214, 0, none⟩ = some (.int .i64 0) := (blk_cell BK214.out 0).trans rfl; have hcz15_1 : w14.cell? ⟨gb214, 1, none⟩ = some (.slice none 0 0) := (blk_cell BK214.out 1).trans rfl; have hcz15_2 : w14.cell? ⟨gb214, 2, none⟩ = some (.int .i64 0) := (blk_cell BK214.out 2).trans rfl; have hcz15_3 : w14.cell? ⟨gb214, 3, none⟩ = some (.bool false) := (blk_cell BK214.out 3).trans rfl; have hcz15_4 : w14.cell? ⟨gb214, 4, none⟩ = some (.string (⟨#[]⟩ : ByteArray)) := (blk_cell BK214.out 4).trans rfl; have hfz15_0 := blk_frozen BK214.out 0; have hfz15_1 := blk_frozen BK214.out 1; have hfz15_2 := blk_frozen BK214.out 2; have hfz15_3 := blk_frozen BK214.out 3; have hfz15_4 := blk_frozen BK214.out 4; obtain ⟨Ao16, co16, eo16⟩ := Kd.R_slice HO209.out; subst eo16) | ((with_reducible refine gate_store (t := 24) (p := 10) rfl ?_); refine store_event (t := 24) (p := 10) (v := ?vo_w17) (w1 := (((((w14.setCell ⟨gb214, 0, none⟩ (.int .i64 t206)).setCell ⟨gb214, 1, none⟩ (.slice Ao16 t207.length co16)).setCell ⟨gb214, 2, none⟩ (.int .i64 t210)).setCell ⟨gb214, 3, none⟩ (.bool t211)).setCell ⟨gb214, 4, none⟩ (.string t212))) ?hg ?ho ?hn ?hr ?_; (case ho => rfl); (case hg => rfl); (case hn => rfl); (case hr => first | (go_simp; done) | (go_simp; rfl)); intro w17 hw; have n0_ : Aside0 (Kd.S k24 24 w17 w.heap.size (fun k_ => some k_ ≠ (.slice Ao16 t207.length co16 : Value).ownBlock ∧ k_ ≠ gb214) u5 x5_1) := ⟨(by rw [hw]; exact (by (with_reducible repeat (first | apply Kd.S_alloc | apply Kd.S_drewN | apply Kd.S_drew)); exact Kd.S_mono (Kd.S_far (p := ⟨gb214, 4, none⟩) (Kd.S_far (p := ⟨gb214, 3, none⟩) (Kd.S_far (p := ⟨gb214, 2, none⟩) (Kd.S_far (p := ⟨gb214, 1, none⟩) (Kd.S_far (p := ⟨gb214, 0, none⟩) (Kd.S_mono HO_5.out (fun k_ hk => (⟨hk, hk.2⟩ : _ ∧ k_ ≠ gb214))) (fun _ hk => hk.2) (.int .i64 t206)) (fun _ hk => hk.2) (.slice Ao16 t207.length co16)) (fun _ hk => hk.2) (.int .i64 t210)) (fun _ hk => hk.2) (.bool t211)) (fun _ hk => hk.2) (.string t212)) (fun _ hk => ⟨hk.1.1.2, hk.1.2⟩)))⟩; have n1_ : Aside0 (Kd.R Kd.string 9 w17 w.heap.size (fun _ => True) (.slice Ao16 t207.length co16) t207) := ⟨(by rw [hw]; exact (by (with_reducible repeat (first | apply Kd.R_alloc | apply Kd.R_drewN | apply Kd.R_drew)); exact Kd.R_mono (Kd.R_far (p := ⟨gb214, 4, none⟩) (Kd.R_far (p := ⟨gb214, 3, none⟩) (Kd.R_far (p := ⟨gb214, 2, none⟩) (Kd.R_far (p := ⟨gb214, 1, none⟩) (Kd.R_far (p := ⟨gb214, 0, none⟩) (Kd.R_types HO209.out BK214.out (by decide)) (fun _ hk => hk.2) (.int .i64 t206)) (fun _ hk => hk.2) (.slice Ao16 t207.length co16)) (fun _ hk => hk.2) (.int .i64 t210)) (fun _ hk => hk.2) (.bool t211)) (fun _ hk => hk.2) (.string t212)) (fun _ hk => trivial)))⟩; have n2_ : Aside0 (w17.heap[gb214]? = some (.cells #[.int .i64 t206, .slice Ao16 t207.length co16, .int .i64 t210, .bool t211, .string t212] 24 (0, 0))) := ⟨(by rw [hw]; exact (by (with_reducible repeat (first | refine blk_drewN ?_ _ | refine blk_drew ?_ | refine blk_alloc ?_ _)); refine blk_put (cs := #[.int .i64 t206, .slice Ao16 t207.length co16, .int .i64 t210, .bool t211, .string (⟨#[]⟩ : ByteArray)]) ?_ 4 _ rfl; (with_reducible repeat (first | refine blk_drewN ?_ _ | refine blk_drew ?_ | refine blk_alloc ?_ _)); refine blk_put (cs := #[.int .i64 t206, .slice Ao16 t207.length co16, .int .i64 t210, .bool false, .string (⟨#[]⟩ : ByteArray)]) ?_ 3 _ rfl; (with_reducible repeat (first | refine blk_drewN ?_ _ | refine blk_drew ?_ | refine blk_alloc ?_ _)); refine blk_put (cs := #[.int .i64 t206, .slice Ao16 t207.length co16, .int .i64 0, .bool false, .string (⟨#[]⟩ : ByteArray)]) ?_ 2 _ rfl; (with_reducible repeat (first | refine blk_drewN ?_ _ | refine blk_drew ?_ | refine blk_alloc ?_ _)); refine blk_put (cs := #[.int .i64 t206, .slice none 0 0, .int .i64 0, .bool false, .string (⟨#[]⟩ : ByteArray)]) ?_ 1 _ rfl; (with_reducible repeat (first | refine blk_drewN ?_ _ | refine blk_drew ?_ | refine blk_alloc ?_ _)); refine blk_put (cs := #[.int .i64 0, .slice none 0 0, .int .i64 0, .bool false, .string (⟨#[]⟩ : ByteArray)]) ?_ 0 _ rfl; (with_reducible repeat (first | refine blk_drewN ?_ _ | refine blk_drew ?_ | refine blk_alloc ?_ _)); exact BK214.out))⟩; have n3_ : Aside0 (Below w.heap.size w w17) := ⟨(by rw [hw]; exact (by repeat (first | (with_reducible first | exact HB.out | apply below_alloc | apply pw_below_drewN | apply below_drew1 | refine below_set ?_ GE214.out) | exact HB.out)))⟩; clear hw; clear HO_5; clear HO209; clear BK214; clear HB; have HO_5 := n0_; have HO209 := n1_; have BK214 := n2_; have HB := n3_; clear n0_ n1_ n2_ n3_; have hcz18_0 : w17.cell? ⟨gb214, 0, none⟩ = some (.int .i64 t206) := (blk_cell BK214.out 0).trans rfl; have hcz18_1 : w17.cell? ⟨gb214, 1, none⟩ = some (.slice Ao16 t207.length co16) := (blk_cell BK214.out 1).trans rfl; have hcz18_2 : w17.cell? ⟨gb214, 2, none⟩ = some (.int .i64 t210) := (blk_cell BK214.out 2).trans rfl; have hcz18_3 : w17.cell? ⟨gb214, 3, none⟩ = some (.bool t211) := (blk_cell BK214.out 3).trans rfl; have hcz18_4 : w17.cell? ⟨gb214, 4, none⟩ = some (.string t212) := (blk_cell BK214.out 4).trans rfl; have hfz18_0 := blk_frozen BK214.out 0; have hfz18_1 := blk_frozen BK214.out 1; have hfz18_2 := blk_frozen BK214.out 2; have hfz18_3 := blk_frozen BK214.out 3; have hfz18_4 := blk_frozen BK214.out 4) | ((with_reducible refine gate_builtin (b := .append) (xs := #[.tmp 39, .tmp 41]) rfl ?_); at_builtin; refine Kd.S_append k24 (w0 := w) w.heap.size rfl (.tmp 39) (.tmp 41) 40 24 (.agg #[(.int .i64 0), (.slice none 0 0), (.int .i64 0), (.bool false), (.string ⟨#[]⟩)]) 64 rfl Tryd.underlying40 info24 rfl (by decide) (by omega) u5 x5_1 (⟨t206, t207, t210, t211, t212⟩ : S24) [.int .i64 t206, .slice Ao16 t207.length co16, .int .i64 t210, .bool t211, .string t212] (fun k_ => k_ ≠ gb214) (fun k_ => some k_ = (.slice Ao16 t207.length co16 : Value).ownBlock) rfl rfl ?aP (fun k_ hk_ => ((Kd.R_mono (ok' := fun k_ => ((fun k_ => k_ ≠ gb214)) k_ ∧ some k_ ≠ (u5 : Value).ownBlock) (Kd.R_types (Kd.R_apart' (HO209.out) (Kd.S_typed HO_5.out) (by decide)) BK214.out (by decide)) (fun k_ hk => ⟨hk.2, hk.1.2⟩))).1 k_ hk_.symm) ?aF ?aO ?aB ?aS ?aL ?_; (case aP => exact k24_mkM _ _ _ (⟨t206, t207, t210, t211, t212⟩ : S24) (Kd.R_mono (Kd.R_tight rfl (Kd.R_mono (ok' := fun k_ => ((fun k_ => k_ ≠ gb214)) k_ ∧ some k_ ≠ (u5 : Value).ownBlock) (Kd.R_types (Kd.R_apart' (HO209.out) (Kd.S_typed HO_5.out) (by decide)) BK214.out (by decide)) (fun k_ hk => ⟨hk.2, hk.1.2⟩))) (fun _ h_ => h_))); (case aB => exact (by repeat (first | (with_reducible first | exact HB.out | apply below_alloc | apply pw_below_drewN | apply below_drew1 | refine below_set ?_ GE214.out) | exact HB.out))); (case aF => exact (fun k_ hk => Kd.freshB (g := gb214) (o := .cells #[.int .i64 t206, .slice Ao16 t207.length co16, .int .i64 t210, .bool t211, .string t212] 24 (0, 0)) (by (with_reducible repeat (first | refine blk_drewN ?_ _ | refine blk_drew ?_ | refine blk_alloc ?_ _)); exact BK214.out) k_ hk)); (case aO => exact (by (with_reducible repeat (first | apply Kd.S_alloc | apply Kd.S_drewN | apply Kd.S_drew)); exact Kd.S_mono HO_5.out (fun k_ hk => ⟨hk.2, fun e_ => hk.1 e_⟩))); (case aS => exact (below_size (by repeat (first | (with_reducible first | exact HB.out | apply below_alloc | apply pw_below_drewN | apply below_drew1 | refine below_set ?_ GE214.out) | exact HB.out)))); (case aL => have := LMc12.out; omega); intro v216 w19 ho hb hg hat; rw [← Ny215.out] at ho; have n0_ := Aside0.mk (blk_grown (g := gb214) (o := .cells #[.int .i64 t206, .slice Ao16 t207.length co16, .int .i64 t210, .bool t211, .string t212] 24 (0, 0)) (by (with_reducible repeat (first | refine blk_drewN ?_ _ | refine blk_drew ?_ | refine blk_alloc ?_ _)); exact BK214.out) hg (Kd.S_away HO_5.out (fun _ hk => hk.2))); have n1_ := Aside0.mk (hb); have n2_ := Aside0.mk (ho); clear BK214; clear HB; clear HO_5; clear HO209; have BK214 := n0_; have HB := n1_; have HO217 := n2_; clear n0_ n1_ n2_; clear ho hb hg hat))
         try (refine scope_strip (fun _ _ _ h_ => h_) ?_; go_wp2)
         try (go_step3; go_wp2)
         go_roundg kj3
         case measure => have := HK1.out; have := HJ3.out; omega
         case rel => exact ⟨(t204), (y215), (wrap64 (x6_1 + 1)), (by first | rfl | (simp; done) | (simp [*]; done)), (by first | rfl | (simp; done) | (simp [*]; done)), H', ⟨by have := HK1.out; have := HJ3.out; omega⟩, ⟨by (with_reducible repeat (first | apply Kd.S_alloc | apply Kd.S_drewN | apply Kd.S_drew)); exact Kd.S_mono HO217.out (fun _ hk => trivial)⟩, ⟨by repeat (first | (with_reducible first | exact HB.out | apply below_alloc | apply pw_below_drewN | apply below_drew1 | refine below_set ?_ GE214.out) | exact HB.out)⟩⟩
        ·rw [if_neg c12] at H
         exact absurd H (by simp)
       ·rw [if_neg c11] at H
        have c11b0 : (t213 == 0) = false := beq_eq_false_iff_ne.mpr c11
        have c11b1 : (t213 != 0) = true := bne_iff_ne.mpr c11
        simp only [Option.some.injEq, Prod.mk.injEq] at H
        obtain ⟨rfl, rfl, rfl⟩ := H
        go_wp2_with (first | ((with_reducible refine gate_callee (f := 10) rfl ?_); refine goesL_ (some 32) rfl rfl Tryd.func10 (by kernel_rfl) rfl #[.string t203] rfl (by (try simp only [List.map_toArray, List.map_cons, List.map_nil]); first | done | rfl | (simp only [List.length_drop, List.length_take]; rfl)) ?_; (with_reducible refine (script_Read.calls t203 t206 t207 t210 t211 t212 t213 _ (hWd.below (by repeat (first | (with_reducible first | exact HB.out | apply below_alloc | apply pw_below_drewN | apply below_drew1 | refine below_set ?_ GE214.out) | exact HB.out))) A10.out).mono ?_); rintro e w20 ⟨v208, rfl, ho0, hb⟩; refine ⟨_, rfl, ?_⟩; have n0_ := Aside0.mk (Kd.S_elder' (by (with_reducible repeat (first | apply Kd.S_alloc | apply Kd.S_drewN | apply Kd.S_drew)); exact HO_5.out) (Kd.R_base ho0) hb); have n1_ := Aside0.mk (Kd.R_lower ho0 (below_size (by repeat (first | (with_reducible first | exact HB.out | apply below_alloc | apply pw_below_drewN | apply below_drew1) | exact HB.out)))); have n2_ := Aside0.mk (below_step (by repeat (first | (with_reducible first | exact HB.out | apply below_alloc | apply pw_below_drewN | apply below_drew1) | exact HB.out)) hb); clear HO_5; clear HB; have HO_5 := n0_; have HO209 := n1_; have HB := n2_; clear n0_ n1_ n2_; (try clear hb); (try clear hb2); (try clear hk); (try clear hi); (try clear ho0)) | ((with_reducible refine gate_dst (N := 10) rfl ?_); refine box_event ?hg (N := 10) ?hd (cs := #[.int .i64 0, .slice none 0 0, .int .i64 0, .bool false, .string (⟨#[]⟩ : ByteArray)]) (t := 24) ?hr ?_; (case hd => rfl); (case hg => rfl); (case hr => first | (go_simp; done) | (go_simp; rfl)); intro gb214 hg w21 hbox hb; have n0_ := Aside0.mk (Kd.S_below (Kd.S_elderB (by (with_reducible repeat (first | apply Kd.S_alloc | apply Kd.S_drewN | apply Kd.S_drew)); exact HO_5.out) gb214 (Nat.le_of_eq hg.symm)) hb); have n1_ := Aside0.mk (Kd.R_below (by (with_reducible repeat (first | apply Kd.R_alloc | apply Kd.R_drewN | apply Kd.R_drew)); exact HO209.out) hb); have n2_ := Aside0.mk (below_step (by repeat (first | (with_reducible first | exact HB.out | apply below_alloc | apply pw_below_drewN | apply below_drew1) | exact HB.out)) hb); have n3_ := Aside0.mk (hbox); have n4_ := Aside0.mk ((by rw [hg]; exact (below_size (by repeat (first | (with_reducible first | exact HB.out | apply below_alloc | apply pw_below_drewN | apply below_drew1) | exact HB.out))) : w.heap.size ≤ gb214)); have n5_ := Aside0.mk ((by rw [hg]; exact (below_size (by repeat (first | (with_reducible first | exact HB.out | apply below_alloc | apply pw_below_drewN | apply below_drew1) | exact HB.out))) : w.heap.size ≤ gb214)); clear HO_5; clear HO209; clear HB; have HO_5 := n0_; have HO209 := n1_; have HB := n2_; have BK214 := n3_; have GW214 := n4_; have GE214 := n5_; clear n0_ n1_ n2_ n3_ n4_ n5_; clear hb hbox hg; have hcz22_0 : w21.cell? ⟨gb214, 0, none⟩ = some (.int .i64 0) := (blk_cell BK214.out 0).trans rfl; have hcz22_1 : w21.cell? ⟨gb214, 1, none⟩ = some (.slice none 0 0) := (blk_cell BK214.out 1).trans rfl; have hcz22_2 : w21.cell? ⟨gb214, 2, none⟩ = some (.int .i64 0) := (blk_cell BK214.out 2).trans rfl; have hcz22_3 : w21.cell? ⟨gb214, 3, none⟩ = some (.bool false) := (blk_cell BK214.out 3).trans rfl; have hcz22_4 : w21.cell? ⟨gb214, 4, none⟩ = some (.string (⟨#[]⟩ : ByteArray)) := (blk_cell BK214.out 4).trans rfl; have hfz22_0 := blk_frozen BK214.out 0; have hfz22_1 := blk_frozen BK214.out 1; have hfz22_2 := blk_frozen BK214.out 2; have hfz22_3 := blk_frozen BK214.out 3; have hfz22_4 := blk_frozen BK214.out 4; obtain ⟨Ao23, co23, eo23⟩ := Kd.R_slice HO209.out; subst eo23))
        try (refine scope_strip (fun _ _ _ h_ => h_) ?_; go_wp2)
        try (go_step3; go_wp2)
        go_ret3
        exact ⟨_, by first | rfl | (simp [errW_none, errW_some] <;> rfl) | (simp [*, errW_none, errW_some] <;> rfl), by first | exact Kd.S_nil _ _ _ _ _ | exact Kd.N_nil _ _ _ _ _ | exact Kd.V_nil _ _ _ _ _ | exact Kd.Q_nil _ _ _ _ _ | exact Kd.R_nil _ _ _ _ _, by repeat (first | (with_reducible first | exact HB.out | apply below_alloc | apply pw_below_drewN | apply below_drew1 | refine below_set ?_ GE214.out) | exact HB.out)⟩
def graftageref17_SameTexts.l0 : Nat → List ByteArray → List ByteArray → Int → Option (Bool)
 | 0, _, _, _ => none
 | k + 1, x0, x1, x5 => if x5 < (x0.length : Int) then (if 0 ≤ x5 then (if x5 < (x1.length : Int) then (if (rdOf ByteArray.empty x0 x5).toList = (rdOf ByteArray.empty x1 x5).toList then (graftageref17_SameTexts.l0 k x0 x1 (wrap64 (x5 + 1))) else (some false)) else (none)) else (none)) else (some true)
def graftageref17_SameTexts.f (k : Nat) (l0 : List ByteArray) (l1 : List ByteArray) : Option (Bool) := if (l0.length : Int) = (l1.length : Int) then (graftageref17_SameTexts.l0 k l0 l1 0) else (some false)
set_option maxHeartbeats 8000000 in
set_option maxRecDepth 100000 in
theorem graftageref17_SameTexts.calls (k : Nat) (A0 : Option Addr) (c0 : Nat) (l0 : List ByteArray) (A1 : Option Addr) (c1 : Nat) (l1 : List ByteArray) (r : Bool) (w : World) (hr0 : Kd.C Kd.string w A0 l0.length l0) (hc0 : l0.length ≤ c0) (hr1 : Kd.C Kd.string w A1 l1.length l1) (hc1 : l1.length ≤ c1) (h : graftageref17_SameTexts.f k l0 l1 = some r) :
  Calls Tryd.prog 18 #[.slice A0 l0.length c0, .slice A1 l1.length c1] w fun e w' => e = .returned (.bool r) ∧ Drawn0 w w' := by
 have HR0 := Aside0.mk hr0
 have HC0 := Aside0.mk hc0
 clear hr0 hc0
 have HR1 := Aside0.mk hr1
 have HC1 := Aside0.mk hc1
 clear hr1 hc1
 have H : (if (l0.length : Int) = (l1.length : Int) then (graftageref17_SameTexts.l0 k l0 l1 0) else (some false)) = some r := h
 clear h
 by_cases c3 : (l0.length : Int) = (l1.length : Int)
 ·rw [if_pos c3] at H
  have c3b0 : ((l0.length : Int) == (l1.length : Int)) = true := beq_iff_eq.mpr c3
  have c3b1 : ((l0.length : Int) != (l1.length : Int)) = false := bne_eq_false_iff_eq.mpr c3
  have c3b2 : (l0.length == l1.length) = true := by first | simpa using c3 | (simp at c3 ⊢; omega)
  clear c3
  have H' := Aside0.mk H
  clear H
  go_enter Tryd.func18, Tryd.ntmps18
  go_wp2
  repeat (go_quiet (fail); try go_wp2)
  go_loopg [5] k (fun kq v5 w' => ∃ (x5_1 : Int), v5 = .int .i64 x5_1 ∧ Aside0 (graftageref17_SameTexts.l0 kq l0 l1 x5_1 = some r) ∧ Aside0 (kq ≤ k) ∧ Drawn0 w w')
  case atStart => exact ⟨(0), (by first | rfl | (simp; done) | (simp [*]; done)), H', ⟨Nat.le_refl _⟩, by repeat (first | exact Drawn0.refl _ | apply Drawn0.step)⟩
  case round =>
   clear H'
   try clear c1
   try clear p2
   try clear c3
   try clear c3b0
   try clear c3b1
   try clear c3b2
   obtain ⟨x5_1, rfl, HA, HK1, ⟨m1, rfl⟩⟩ := hrel
   cases gk with
   | zero => exact absurd HA.out (by simp [graftageref17_SameTexts.l0])
   | succ k1 =>
    have H := HA.out
    clear HA
    simp only [graftageref17_SameTexts.l0] at H
    by_cases c4 : x5_1 < (l0.length : Int)
    ·rw [if_pos c4] at H
     have c4b0 : decide (x5_1 < (l0.length : Int)) = true := decide_eq_true c4
     clear c4
     by_cases c5 : 0 ≤ x5_1
     ·rw [if_pos c5] at H
      have c5b0 : decide (0 ≤ x5_1) = true := decide_eq_true c5
      clear c5
      by_cases c6 : x5_1 < (l1.length : Int)
      ·rw [if_pos c6] at H
       have c6b0 : decide (x5_1 < (l1.length : Int)) = true := decide_eq_true c6
       clear c6
       by_cases c7 : (rdOf ByteArray.empty l0 x5_1).toList = (rdOf ByteArray.empty l1 x5_1).toList
       ·rw [if_pos c7] at H
        have c7b0 : ((rdOf ByteArray.empty l0 x5_1).toList == (rdOf ByteArray.empty l1 x5_1).toList) = true := beq_iff_eq.mpr c7
        have c7b1 : ((rdOf ByteArray.empty l0 x5_1).toList != (rdOf ByteArray.empty l1 x5_1).toList) = false := bne_eq_false_iff_eq.mpr c7
        clear c7
        have H' := Aside0.mk H
        clear H
        have p218 : 0 ≤ (x5_1 : Int) := of_decide_eq_true (by first | (with_reducible assumption) | assumption)
        have q218 : x5_1 < (l0.length : Int) := of_decide_eq_true (by first | (with_reducible assumption) | assumption)
        obtain ⟨ad218, e218, hx218_0⟩ := Kd.at_string HR0.out x5_1 p218 q218
        cases e218
        replace p218 := eq_true p218
        replace q218 := eq_true q218
        have p219 : 0 ≤ (x5_1 : Int) := of_decide_eq_true (by first | (with_reducible assumption) | assumption)
        have q219 : x5_1 < (l1.length : Int) := of_decide_eq_true (by first | (with_reducible assumption) | assumption)
        obtain ⟨ad219, e219, hx219_0⟩ := Kd.at_string HR1.out x5_1 p219 q219
        cases e219
        replace p219 := eq_true p219
        replace q219 := eq_true q219
        go_wp2
        repeat (go_quiet (fail); try go_wp2)
        go_roundg k1
        case measure => have := HK1.out; omega
        case rel => exact ⟨(wrap64 (x5_1 + 1)), (by first | rfl | (simp; done) | (simp [*]; done)), H', ⟨by have := HK1.out; omega⟩, by repeat (first | exact Drawn0.refl _ | apply Drawn0.step)⟩
       ·rw [if_neg c7] at H
        have c7b0 : ((rdOf ByteArray.empty l0 x5_1).toList == (rdOf ByteArray.empty l1 x5_1).toList) = false := beq_eq_false_iff_ne.mpr c7
        have c7b1 : ((rdOf ByteArray.empty l0 x5_1).toList != (rdOf ByteArray.empty l1 x5_1).toList) = true := bne_iff_ne.mpr c7
        obtain rfl := Option.some.inj H
        have p218 : 0 ≤ (x5_1 : Int) := of_decide_eq_true (by first | (with_reducible assumption) | assumption)
        have q218 : x5_1 < (l0.length : Int) := of_decide_eq_true (by first | (with_reducible assumption) | assumption)
        obtain ⟨ad218, e218, hx218_0⟩ := Kd.at_string HR0.out x5_1 p218 q218
        cases e218
        replace p218 := eq_true p218
        replace q218 := eq_true q218
        have p219 : 0 ≤ (x5_1 : Int) := of_decide_eq_true (by first | (with_reducible assumption) | assumption)
        have q219 : x5_1 < (l1.length : Int) := of_decide_eq_true (by first | (with_reducible assumption) | assumption)
        obtain ⟨ad219, e219, hx219_0⟩ := Kd.at_string HR1.out x5_1 p219 q219
        cases e219
        replace p219 := eq_true p219
        replace q219 := eq_true q219
        go_wp2
        repeat (go_quiet (fail); try go_wp2)
        go_ret
        exact ⟨by first | rfl | (simp; done) | (simp [*]; done), by repeat (first | exact Drawn0.refl _ | apply Drawn0.step)⟩
      ·rw [if_neg c6] at H
       exact absurd H (by simp)
     ·rw [if_neg c5] at H
      exact absurd H (by simp)
    ·rw [if_neg c4] at H
     have c4b0 : decide (x5_1 < (l0.length : Int)) = false := decide_eq_false c4
     clear c4
     obtain rfl := Option.some.inj H
     go_wp2
     repeat (go_quiet (fail); try go_wp2)
     go_ret
     exact ⟨by first | rfl | (simp; done) | (simp [*]; done), by repeat (first | exact Drawn0.refl _ | apply Drawn0.step)⟩
 ·rw [if_neg c3] at H
  have c3b0 : ((l0.length : Int) == (l1.length : Int)) = false := beq_eq_false_iff_ne.mpr c3
  have c3b1 : ((l0.length : Int) != (l1.length : Int)) = true := bne_iff_ne.mpr c3
  have c3b2 : (l0.length == l1.length) = false := by first | simpa using c3 | (simp at c3 ⊢; omega)
  obtain rfl := Option.some.inj H
  go_enter Tryd.func18, Tryd.ntmps18
  go_wp2
  repeat (go_quiet (fail); try go_wp2)
  go_ret
  exact ⟨by first | rfl | (simp; done) | (simp [*]; done), by repeat (first | exact Drawn0.refl _ | apply Drawn0.step)⟩
end Go.Proofs.YtcmemgahgenpdaaDoor.PSc
end
section
namespace Go.Proofs.YtcmemgahgenpdaaDoor.PSc
open Go.Proofs.YtcmemgahgenpdaaDoor.Hand Go.RowKit Go.Proofs.YtcmemgahgenpdaaDoorW.PrintWords Go.Proofs.YtcmemgahgenpdaaDoorW.PrintLast Go.Proofs.YtcmemgahgenpdaaDoorW.PrintMore
attribute [local go_sem] max2_int min2_int max_two min_two max_three min_three max_four min_four
set_option linter.unusedVariables false
set_option linter.unusedSimpArgs false
theorem more_ {P : Program} {md : Region.Mode} {ops : Array Oper} {Q : Exit → Act → World → Prop} {S S' : World → Prop} (hi : ∀ w, S' w → S w) : ∀ (fuel : Nat) (l : Array Bool) (a : Act) (w : World), S' w →
  wpAnyLast P md ops Q S' [] fuel l a w → wpAnyLast P md ops Q S [] fuel l a w
 | 0, _, _, _, _, h => h
 | fuel + 1, l, a, w, hS, h => ⟨h.1, fun i hr => wpOp_mono (fun a' w' h' => ⟨fun _ _ => hi _ (h'.1 (by simp) hS), more_ hi fuel _ a' w' (h'.1 (by simp) hS) h'.2⟩) (h.2 i hr)⟩
mutual
def graftageref56_Line.j0 : Nat → Bool → Int → List ByteArray → Int → Bool → ByteArray → Option (ByteArray × Int)
 | 0, _, _, _, _, _, _ => none
 | k + 1, x15, x261000, x261001, x261002, x261003, x261004 => if x15 = true then (some ((⟨#[]⟩ : ByteArray), 560)) else (if x261002 < (-1099511627776) then (graftageref56_Line.j1 k true x261000 x261001 x261002 x261003 x261004) else (graftageref56_Line.j1 k (decide (x261002 > 1099511627776)) x261000 x261001 x261002 x261003 x261004))
def graftageref56_Line.j1 : Nat → Bool → Int → List ByteArray → Int → Bool → ByteArray → Option (ByteArray × Int)
 | 0, _, _, _, _, _, _ => none
 | k + 1, x23, x261000, x261001, x261002, x261003, x261004 => if x23 = true then (some ((⟨#[]⟩ : ByteArray), 1)) else ((graftageref56_words.f).bind fun t264 => (if 0 ≤ x261000 then (if x261000 < (t264.length : Int) then (if (rdOf ByteArray.empty t264 x261000).size + 1 ≤ 9223372036854775807 then ((graftageref14_Digits.f k x261002).bind fun t268 => (if ((rdOf ByteArray.empty t264 x261000) ++ (⟨#[32]⟩ : ByteArray)).size + t268.size ≤ 9223372036854775807 then (if x261003 = true then (if (((rdOf ByteArray.empty t264 x261000) ++ (⟨#[32]⟩ : ByteArray)) ++ t268).size + 3 ≤ 9223372036854775807 then (graftageref56_Line.j2 k ((((rdOf ByteArray.empty t264 x261000) ++ (⟨#[32]⟩ : ByteArray)) ++ t268) ++ (⟨#[32, 49, 32]⟩ : ByteArray)) x261000 x261001 x261002 x261003 x261004) else (none)) else (if (((rdOf ByteArray.empty t264 x261000) ++ (⟨#[32]⟩ : ByteArray)) ++ t268).size + 3 ≤ 9223372036854775807 then (graftageref56_Line.j2 k ((((rdOf ByteArray.empty t264 x261000) ++ (⟨#[32]⟩ : ByteArray)) ++ t268) ++ (⟨#[32, 48, 32]⟩ : ByteArray)) x261000 x261001 x261002 x261003 x261004) else (none))) else (none))) else (none)) else (none)) else (none)))
def graftageref56_Line.j2 : Nat → ByteArray → Int → List ByteArray → Int → Bool → ByteArray → Option (ByteArray × Int)
 | 0, _, _, _, _, _, _ => none
 | k + 1, x4, x261000, x261001, x261002, x261003, x261004 => (graftageref56_Word.f k x261004).bind fun t269 => (if x4.size + t269.size ≤ 9223372036854775807 then (graftageref56_Line.l0 k (x4 ++ t269) 0 x261000 x261001 x261002 x261003 x261004) else (none))
def graftageref56_Line.l0 : Nat → ByteArray → Int → Int → List ByteArray → Int → Bool → ByteArray → Option (ByteArray × Int)
 | 0, _, _, _, _, _, _, _ => none
 | k + 1, x4, x5, x261000, x261001, x261002, x261003, x261004 => if x5 < (x261001.length : Int) then (if (x4.size : Int) ≤ 1048576 then (if x4.size + 1 ≤ 9223372036854775807 then (if 0 ≤ x5 then ((graftageref56_Word.f k (rdOf ByteArray.empty x261001 x5)).bind fun t271 => (if (x4 ++ (⟨#[32]⟩ : ByteArray)).size + t271.size ≤ 9223372036854775807 then (graftageref56_Line.l0 k ((x4 ++ (⟨#[32]⟩ : ByteArray)) ++ t271) (wrap64 (x5 + 1)) x261000 x261001 x261002 x261003 x261004) else (none))) else (none)) else (none)) else (if (x4.size : Int) > 1048576 then (some ((⟨#[]⟩ : ByteArray), 4)) else (some (x4, 0)))) else (if (x4.size : Int) > 1048576 then (some ((⟨#[]⟩ : ByteArray), 4)) else (some (x4, 0)))
end
def graftageref56_Line.f (k : Nat) (a0_0 : Int) (l0_1 : List ByteArray) (a0_2 : Int) (a0_3 : Bool) (a0_4 : ByteArray) : Option (ByteArray × Int) := if a0_0 < 1 then (graftageref56_Line.j0 k true a0_0 l0_1 a0_2 a0_3 a0_4) else ((graftageref56_words.f).bind fun t261 => (graftageref56_Line.j0 k (decide (a0_0 ≥ (t261.length : Int))) a0_0 l0_1 a0_2 a0_3 a0_4))
def graftageref56_Line.T1 : Bool × List (List Nat × List Nat) := (true, [([], []), ([0], [0]), ([1], [1]), ([2], [2]), ([3], [3]), ([4, 3], [3, 4]), ([3, 3], [3]), ([6, 3], [3, 6]), ([5, 7, 3], [3, 5, 7]), ([3, 8], [3, 8])])
def graftageref56_Line.B1 : List Nat := [0, 1, 3, 7, 15, 31, 15, 79, 255, 511]
theorem graftageref56_Line.tab1 : rtab .any (opsOf Tryd.f9 1) = graftageref56_Line.T1 := by kernel_rfl
theorem graftageref56_Line.bits1 : waitsOk graftageref56_Line.T1.2 graftageref56_Line.B1 = true := by kernel_rfl
def graftageref56_Line.T5 : Bool × List (List Nat × List Nat) := (true, [([], []), ([], []), ([1], [1]), ([0, 2], [0, 2]), ([3], [3]), ([4], [4]), ([], []), ([6], [6]), ([7, 0], [7]), ([5, 8], [5, 8]), ([9, 8, 0, 1, 2, 3, 4, 5, 6, 7, 8, 9], [9])])
def graftageref56_Line.B5 : List Nat := [0, 0, 2, 7, 15, 31, 0, 64, 193, 511, 1023]
theorem graftageref56_Line.tab5 : rtab .any (opsOf Tryd.f9 5) = graftageref56_Line.T5 := by kernel_rfl
theorem graftageref56_Line.bits5 : waitsOk graftageref56_Line.T5.2 graftageref56_Line.B5 = true := by kernel_rfl
set_option maxHeartbeats 8000000 in
set_option maxRecDepth 100000 in
theorem graftageref56_Line.calls (k : Nat) (a0_0 : Int) (A0_1 : Option Addr) (c0_1 : Nat) (l0_1 : List ByteArray) (a0_2 : Int) (a0_3 : Bool) (a0_4 : ByteArray) (r1 : ByteArray) (r2 : Int) (w : World) (hr0_1 : Kd.C Kd.string w A0_1 l0_1.length l0_1) (hc0_1 : l0_1.length ≤ c0_1) (h : graftageref56_Line.f k a0_0 l0_1 a0_2 a0_3 a0_4 = some (r1, r2)) :
  Calls Tryd.prog 9 #[.agg #[.int .i64 a0_0, .slice A0_1 l0_1.length c0_1, .int .i64 a0_2, .bool a0_3, .string a0_4]] w fun e w' => e = .returned (.tuple #[.string r1, .int .i64 r2]) ∧ Below w.heap.size w w' := by
 have hu24 := Tryd.underlying24
 have HR0_1 := Aside0.mk hr0_1
 have HC0_1 := Aside0.mk hc0_1
 clear hr0_1 hc0_1
 have HB := Aside0.mk (Below.refl w.heap.size w)
 have H : (if a0_0 < 1 then (graftageref56_Line.j0 k true a0_0 l0_1 a0_2 a0_3 a0_4) else ((graftageref56_words.f).bind fun t261 => (graftageref56_Line.j0 k (decide (a0_0 ≥ (t261.length : Int))) a0_0 l0_1 a0_2 a0_3 a0_4))) = some (r1, r2) := h
 clear h
 have HC2 := Aside0.mk H
 clear H
 go_enter Tryd.func9, Tryd.ntmps9
 go_upto_region 1 with (first | ((with_reducible refine gate_dst (N := 1) rfl ?_); (try (refine gate_guard (by rfl) ?_; dsimp only)); refine box_event ?hg (N := 1) ?hd (cs := #[.int .i64 a0_0, .slice A0_1 l0_1.length c0_1, .int .i64 a0_2, .bool a0_3, .string a0_4]) (t := 24) ?hr ?_; (case hd => rfl); (case hg => rfl); (case hr => first | (go_simp; done) | (go_simp; rfl)); intro gb260 hg w3 hbox hb; have n0_ := Aside0.mk (below_step (by repeat (first | (with_reducible first | exact HB.out | apply below_alloc | apply pw_below_drewN | apply below_drew1) | exact HB.out)) hb); have n1_ := Aside0.mk (hbox); have n2_ := Aside0.mk ((by rw [hg]; exact (below_size (by repeat (first | (with_reducible first | exact HB.out | apply below_alloc | apply pw_below_drewN | apply below_drew1) | exact HB.out))) : w.heap.size ≤ gb260)); have n3_ := Aside0.mk ((by rw [hg]; exact (below_size (by repeat (first | (with_reducible first | exact HB.out | apply below_alloc | apply pw_below_drewN | apply below_drew1) | exact HB.out))) : w.heap.size ≤ gb260)); clear HB; have HB := n0_; have BK260 := n1_; have GW260 := n2_; have GE260 := n3_; clear n0_ n1_ n2_ n3_; clear hb hbox hg))
 (try simp only [Act.put, List.setIfInBounds_toArray, List.set_cons_zero, List.set_cons_succ])
 go_cut [15] (fun v15 wc => ∃ (kq : Nat) (x15_1 : Bool), v15 = .bool x15_1 ∧ Aside0 (graftageref56_Line.j0 kq x15_1 a0_0 l0_1 a0_2 a0_3 a0_4 = some (r1, r2)) ∧ Aside0 (kq ≤ k) ∧ Aside0 (wc.heap[gb260]? = some (.cells #[.int .i64 a0_0, (.slice A0_1 l0_1.length c0_1), .int .i64 a0_2, .bool a0_3, .string a0_4] 24 (0, 0))) ∧ Aside0 (Below w.heap.size w wc))
 case first =>
  have H := HC2.out
  clear HC2
  by_cases c4 : a0_0 < 1
  ·rw [if_pos c4] at H
   have c4b0 : decide (a0_0 < 1) = true := decide_eq_true c4
   clear c4
   (first | rw [c4b0] | (simp only [i64_w, i32_w]; rw [c4b0]) | skip)
   have H' := Aside0.mk H
   clear H
   try go_wp2
   have n0_ := Aside0.mk (blk_drew BK260.out)
   have n1_ := Aside0.mk (below_drew1 HB.out)
   clear BK260
   clear HB
   have BK260 := n0_
   have HB := n1_
   clear n0_ n1_
   refine start_ (n := 10) (S := fun w' => w'.cell? ⟨gb260, 0, none⟩ = some (.int .i64 a0_0) ∧ w'.cell? ⟨gb260, 1, none⟩ = some (.slice A0_1 l0_1.length c0_1) ∧ w'.cell? ⟨gb260, 2, none⟩ = some (.int .i64 a0_2) ∧ w'.cell? ⟨gb260, 3, none⟩ = some (.bool a0_3) ∧ w'.cell? ⟨gb260, 4, none⟩ = some (.string a0_4)) (ds := []) #[false, false, false, false, false, false, false, false, false, false] (by kernel_rfl) rfl rfl ⟨(blk_cell BK260.out 0).trans rfl, (blk_cell BK260.out 1).trans rfl, (blk_cell BK260.out 2).trans rfl, (blk_cell BK260.out 3).trans rfl, (blk_cell BK260.out 4).trans rfl⟩ (fun hHeld => ?_); refine with_tabW graftageref56_Line.tab1 graftageref56_Line.bits1 (fun HT_ HW_ => ?_)
   generalize w3.drew = w5 at BK260 HB hHeld ⊢
   refine pure_ (i := 0) (N := some 6) (v := ?_) (a' := ?_) #[true, false, false, false, false, false, false, false, false, false] rfl rfl (any_of HT_.out (by kernel_rfl)) (fun _ _ _ h => h) (Or.inl ⟨by rfl, ?_⟩) ?_ ?_
   rotate_left
   ·intro w'
    go_simp
    with_reducible rfl
   rotate_left
   ·simp only [Act.put, List.setIfInBounds_toArray, List.set_cons_zero, List.set_cons_succ, i64_w, i32_w]
    rfl
   refine take_ (i := 1) (N := some 7) (v := ?_) (a' := ?_) #[true, true, false, false, false, false, false, false, false, false] rfl rfl (take_ofW HT_.out HW_.out (by kernel_rfl)) (fun _ _ _ h => h) (Or.inl ⟨by rfl, ?_⟩) hHeld ?_ ?_
   rotate_left
   ·rintro w' ⟨s0, s1, s2, s3, s4⟩
    go_simp
    with_reducible rfl
   rotate_left
   ·simp only [Act.put, List.setIfInBounds_toArray, List.set_cons_zero, List.set_cons_succ, i64_w, i32_w]
    rfl
   refine pure_ (i := 2) (N := some 8) (v := ?_) (a' := ?_) #[true, true, true, false, false, false, false, false, false, false] rfl rfl (any_of HT_.out (by kernel_rfl)) (fun _ _ _ h => h) (Or.inl ⟨by rfl, ?_⟩) ?_ ?_
   rotate_left
   ·intro w'
    go_simp
    with_reducible rfl
   rotate_left
   ·simp only [Act.put, List.setIfInBounds_toArray, List.set_cons_zero, List.set_cons_succ, i64_w, i32_w]
    rfl
   refine pure_ (i := 3) (N := some 9) (v := ?_) (a' := ?_) #[true, true, true, true, false, false, false, false, false, false] rfl rfl (any_of HT_.out (by kernel_rfl)) (fun _ _ _ h => h) (Or.inl ⟨by rfl, ?_⟩) ?_ ?_
   rotate_left
   ·intro w'
    go_simp
    with_reducible rfl
   rotate_left
   ·simp only [Act.put, List.setIfInBounds_toArray, List.set_cons_zero, List.set_cons_succ, i64_w, i32_w]
    rfl
   refine pure_ (i := 4) (N := some 10) (v := undef) (a' := ?_) #[true, true, true, true, true, false, false, false, false, false] rfl rfl (any_of HT_.out (by kernel_rfl)) (fun _ _ _ h => h) (Or.inr ⟨by rfl, rfl⟩) ?_ ?_
   rotate_left
   ·simp only [Act.put, List.setIfInBounds_toArray, List.set_cons_zero, List.set_cons_succ, i64_w, i32_w]
    rfl
   refine pure_ (i := 5) (N := some 11) (v := undef) (a' := ?_) #[true, true, true, true, true, true, false, false, false, false] rfl rfl (any_of HT_.out (by kernel_rfl)) (fun _ _ _ h => h) (Or.inr ⟨by rfl, rfl⟩) ?_ ?_
   rotate_left
   ·simp only [Act.put, List.setIfInBounds_toArray, List.set_cons_zero, List.set_cons_succ, i64_w, i32_w]
    rfl
   refine pure_ (i := 6) (N := some 12) (v := undef) (a' := ?_) #[true, true, true, true, true, true, true, false, false, false] rfl rfl (any_of HT_.out (by kernel_rfl)) (fun _ _ _ h => h) (Or.inr ⟨by rfl, rfl⟩) ?_ ?_
   rotate_left
   ·simp only [Act.put, List.setIfInBounds_toArray, List.set_cons_zero, List.set_cons_succ, i64_w, i32_w]
    rfl
   refine pure_ (i := 7) (N := some 13) (v := undef) (a' := ?_) #[true, true, true, true, true, true, true, true, false, false] rfl rfl (any_of HT_.out (by kernel_rfl)) (fun _ _ _ h => h) (Or.inr ⟨by rfl, rfl⟩) ?_ ?_
   rotate_left
   ·simp only [Act.put, List.setIfInBounds_toArray, List.set_cons_zero, List.set_cons_succ, i64_w, i32_w]
    rfl
   refine pure_ (i := 8) (N := some 14) (v := undef) (a' := ?_) #[true, true, true, true, true, true, true, true, true, false] rfl rfl (any_of HT_.out (by kernel_rfl)) (fun _ _ _ h => h) (Or.inr ⟨by rfl, rfl⟩) ?_ ?_
   rotate_left
   ·simp only [Act.put, List.setIfInBounds_toArray, List.set_cons_zero, List.set_cons_succ, i64_w, i32_w]
    rfl
   refine pure_ (i := 9) (N := some 15) (v := ?_) (a' := ?_) #[true, true, true, true, true, true, true, true, true, true] rfl rfl (any_of HT_.out (by kernel_rfl)) (fun _ _ _ h => h) (Or.inl ⟨by rfl, ?_⟩) ?_ ?_
   rotate_left
   ·intro w'
    go_simp
    with_reducible rfl
   rotate_left
   ·simp only [Act.put, List.setIfInBounds_toArray, List.set_cons_zero, List.set_cons_succ, i64_w, i32_w]
    rfl
   refine done_ (done_of HT_.out (by kernel_rfl)) ?_
   try go_wp2
   go_meet
   case rel => exact ⟨_, (true), (by first | rfl | (simp; done) | (simp [*]; done)), H', ⟨by first | omega | exact Nat.le_refl _⟩, ⟨by (with_reducible repeat (first | refine blk_drewN ?_ _ | refine blk_drew ?_ | refine blk_alloc ?_ _)); exact BK260.out⟩, ⟨by repeat (first | (with_reducible first | exact HB.out | apply below_alloc | apply pw_below_drewN | apply below_drew1 | refine below_set ?_ GE260.out) | exact HB.out)⟩⟩
  ·rw [if_neg c4] at H
   have c4b0 : decide (a0_0 < 1) = false := decide_eq_false c4
   clear c4
   (first | rw [c4b0] | (simp only [i64_w, i32_w]; rw [c4b0]) | skip)
   replace H := Option.bind_eq_some_iff.mp H
   obtain ⟨t261, A60, H⟩ := H
   replace H : (graftageref56_Line.j0 k (decide (a0_0 ≥ (t261.length : Int))) a0_0 l0_1 a0_2 a0_3 a0_4) = some (r1, r2) := H
   have A6 := Aside0.mk A60
   clear A60
   have H' := Aside0.mk H
   clear H
   try go_wp2
   have n0_ := Aside0.mk (blk_drew BK260.out)
   have n1_ := Aside0.mk (below_drew1 HB.out)
   clear BK260
   clear HB
   have BK260 := n0_
   have HB := n1_
   clear n0_ n1_
   refine start_ (n := 10) (S := fun w' => w'.cell? ⟨gb260, 0, none⟩ = some (.int .i64 a0_0) ∧ w'.cell? ⟨gb260, 1, none⟩ = some (.slice A0_1 l0_1.length c0_1) ∧ w'.cell? ⟨gb260, 2, none⟩ = some (.int .i64 a0_2) ∧ w'.cell? ⟨gb260, 3, none⟩ = some (.bool a0_3) ∧ w'.cell? ⟨gb260, 4, none⟩ = some (.string a0_4)) (ds := []) #[false, false, false, false, false, false, false, false, false, false] (by kernel_rfl) rfl rfl ⟨(blk_cell BK260.out 0).trans rfl, (blk_cell BK260.out 1).trans rfl, (blk_cell BK260.out 2).trans rfl, (blk_cell BK260.out 3).trans rfl, (blk_cell BK260.out 4).trans rfl⟩ (fun hHeld => ?_); refine with_tabW graftageref56_Line.tab1 graftageref56_Line.bits1 (fun HT_ HW_ => ?_)
   generalize w3.drew = w7 at BK260 HB hHeld ⊢
   refine pure_ (i := 0) (N := some 6) (v := ?_) (a' := ?_) #[true, false, false, false, false, false, false, false, false, false] rfl rfl (any_of HT_.out (by kernel_rfl)) (fun _ _ _ h => h) (Or.inl ⟨by rfl, ?_⟩) ?_ ?_
   rotate_left
   ·intro w'
    go_simp
    with_reducible rfl
   rotate_left
   ·simp only [Act.put, List.setIfInBounds_toArray, List.set_cons_zero, List.set_cons_succ, i64_w, i32_w]
    rfl
   refine take_ (i := 1) (N := some 7) (v := ?_) (a' := ?_) #[true, true, false, false, false, false, false, false, false, false] rfl rfl (take_ofW HT_.out HW_.out (by kernel_rfl)) (fun _ _ _ h => h) (Or.inl ⟨by rfl, ?_⟩) hHeld ?_ ?_
   rotate_left
   ·rintro w' ⟨s0, s1, s2, s3, s4⟩
    go_simp
    with_reducible rfl
   rotate_left
   ·simp only [Act.put, List.setIfInBounds_toArray, List.set_cons_zero, List.set_cons_succ, i64_w, i32_w]
    rfl
   refine pure_ (i := 2) (N := some 8) (v := ?_) (a' := ?_) #[true, true, true, false, false, false, false, false, false, false] rfl rfl (any_of HT_.out (by kernel_rfl)) (fun _ _ _ h => h) (Or.inl ⟨by rfl, ?_⟩) ?_ ?_
   rotate_left
   ·intro w'
    go_simp
    with_reducible rfl
   rotate_left
   ·simp only [Act.put, List.setIfInBounds_toArray, List.set_cons_zero, List.set_cons_succ, i64_w, i32_w]
    rfl
   refine pure_ (i := 3) (N := some 9) (v := ?_) (a' := ?_) #[true, true, true, true, false, false, false, false, false, false] rfl rfl (any_of HT_.out (by kernel_rfl)) (fun _ _ _ h => h) (Or.inl ⟨by rfl, ?_⟩) ?_ ?_
   rotate_left
   ·intro w'
    go_simp
    with_reducible rfl
   rotate_left
   ·simp only [Act.put, List.setIfInBounds_toArray, List.set_cons_zero, List.set_cons_succ, i64_w, i32_w]
    rfl
   refine pure_ (i := 4) (N := some 10) (v := ?_) (a' := ?_) #[true, true, true, true, true, false, false, false, false, false] rfl rfl (any_of HT_.out (by kernel_rfl)) (fun _ _ _ h => h) (Or.inl ⟨by rfl, ?_⟩) ?_ ?_
   rotate_left
   ·intro w'
    go_simp
    with_reducible rfl
   rotate_left
   ·simp only [Act.put, List.setIfInBounds_toArray, List.set_cons_zero, List.set_cons_succ, i64_w, i32_w]
    rfl
   refine take_ (i := 5) (N := some 11) (v := ?_) (a' := ?_) #[true, true, true, true, true, true, false, false, false, false] rfl rfl (take_ofW HT_.out HW_.out (by kernel_rfl)) (fun _ _ _ h => h) (Or.inl ⟨by rfl, ?_⟩) hHeld ?_ ?_
   rotate_left
   ·rintro w' ⟨s0, s1, s2, s3, s4⟩
    go_simp
    with_reducible rfl
   rotate_left
   ·simp only [Act.put, List.setIfInBounds_toArray, List.set_cons_zero, List.set_cons_succ, i64_w, i32_w]
    rfl
   refine one_ (i := 6) (N := some 12) #[true, true, true, true, true, true, true, false, false, false] rfl rfl (one_of HT_.out (by kernel_rfl)) (by decide) (fun K hK => ?_)
   refine goes_ Tryd.func24 (by kernel_rfl) rfl #[] (by rfl) rfl rfl (by (try simp only [List.map_toArray, List.map_cons, List.map_nil]); first | done | rfl | (simp only [List.length_drop, List.length_take]; rfl)) ?_
   with_reducible refine (graftageref56_words.calls  t261 _ A6.out).mono ?_
   rintro e w8 ⟨v262, rfl, ho0, hb⟩
   refine ⟨_, rfl, ?_⟩
   have n0_ := Aside0.mk (Kd.R_lower ho0 (below_size (by repeat (first | (with_reducible first | exact HB.out | apply below_alloc | apply pw_below_drewN | apply below_drew1 | refine below_set ?_ GE260.out) | exact HB.out))))
   have n1_ := Aside0.mk (blk_below (g := gb260) (o := .cells #[.int .i64 a0_0, .slice A0_1 l0_1.length c0_1, .int .i64 a0_2, .bool a0_3, .string a0_4] 24 (0, 0)) (by (with_reducible repeat (first | refine blk_drewN ?_ _ | refine blk_drew ?_ | refine blk_alloc ?_ _)); exact BK260.out) hb)
   have n2_ := Aside0.mk (below_step (by repeat (first | (with_reducible first | exact HB.out | apply below_alloc | apply pw_below_drewN | apply below_drew1 | refine below_set ?_ GE260.out) | exact HB.out)) hb)
   clear BK260
   clear HB
   have HO263 := n0_
   have BK260 := n1_
   have HB := n2_
   clear n0_ n1_ n2_
   (try clear hb)
   (try clear hb2)
   (try clear hk)
   (try clear hi)
   (try clear ho0)
   obtain ⟨Ao9, co9, eo9⟩ := Kd.R_slice HO263.out
   (first | subst eo9 | (injection eo9 with f1_ f2_ f3_; have f4_ := f1_.symm; have f5_ := f3_.symm; clear f1_ f2_ f3_; subst f4_; subst f5_))
   refine hK.out _ _ ⟨(blk_cell BK260.out 0).trans rfl, (blk_cell BK260.out 1).trans rfl, (blk_cell BK260.out 2).trans rfl, (blk_cell BK260.out 3).trans rfl, (blk_cell BK260.out 4).trans rfl⟩ (fun hHeld => ?_)
   clear hK K
   refine norm_ (a' := ?_) ?_ ?_
   rotate_left
   ·show Act.put _ (some 12) _ = _
    simp only [Act.put, List.setIfInBounds_toArray, List.set_cons_zero, List.set_cons_succ, i64_w, i32_w]
    rfl
   refine pure_ (i := 7) (N := some 13) (v := ?_) (a' := ?_) #[true, true, true, true, true, true, true, true, false, false] rfl rfl (any_of HT_.out (by kernel_rfl)) (fun _ _ _ h => h) (Or.inl ⟨by rfl, ?_⟩) ?_ ?_
   rotate_left
   ·intro w'
    go_simp
    with_reducible rfl
   rotate_left
   ·simp only [Act.put, List.setIfInBounds_toArray, List.set_cons_zero, List.set_cons_succ, i64_w, i32_w]
    rfl
   refine pure_ (i := 8) (N := some 14) (v := ?_) (a' := ?_) #[true, true, true, true, true, true, true, true, true, false] rfl rfl (any_of HT_.out (by kernel_rfl)) (fun _ _ _ h => h) (Or.inl ⟨by rfl, ?_⟩) ?_ ?_
   rotate_left
   ·intro w'
    go_simp
    with_reducible rfl
   rotate_left
   ·simp only [Act.put, List.setIfInBounds_toArray, List.set_cons_zero, List.set_cons_succ, i64_w, i32_w]
    rfl
   refine pure_ (i := 9) (N := some 15) (v := ?_) (a' := ?_) #[true, true, true, true, true, true, true, true, true, true] rfl rfl (any_of HT_.out (by kernel_rfl)) (fun _ _ _ h => h) (Or.inl ⟨by rfl, ?_⟩) ?_ ?_
   rotate_left
   ·intro w'
    go_simp
    with_reducible rfl
   rotate_left
   ·simp only [Act.put, List.setIfInBounds_toArray, List.set_cons_zero, List.set_cons_succ, i64_w, i32_w]
    rfl
   refine done_ (done_of HT_.out (by kernel_rfl)) ?_
   try go_wp2
   go_meet
   case rel => exact ⟨_, (decide (a0_0 ≥ (t261.length : Int))), (by first | rfl | (simp; done) | (simp [*]; done)), H', ⟨by first | omega | exact Nat.le_refl _⟩, ⟨by (with_reducible repeat (first | refine blk_drewN ?_ _ | refine blk_drew ?_ | refine blk_alloc ?_ _)); exact BK260.out⟩, ⟨by repeat (first | (with_reducible first | exact HB.out | apply below_alloc | apply pw_below_drewN | apply below_drew1 | refine below_set ?_ GE260.out) | exact HB.out)⟩⟩
 case rest =>
  clear HC2
  try clear c2
  try clear p2
  try clear c4
  try clear c4b0
  try clear c9
  obtain ⟨kq, x15_1, rfl, HA, HJ1, BK260, HB⟩ := hcut
  cases kq with
  | zero => exact absurd HA.out (by simp [graftageref56_Line.j0])
  | succ kj1 =>
   have H := HA.out
   clear HA
   simp only [graftageref56_Line.j0] at H
   by_cases c10 : x15_1 = true
   ·subst c10
    have H1 : (some ((⟨#[]⟩ : ByteArray), 560)) = some (r1, r2) := by rw [if_pos rfl] at H; exact H
    clear H
    have H := H1
    clear H1
    simp only [Option.some.injEq, Prod.mk.injEq] at H
    obtain ⟨rfl, rfl⟩ := H
    go_wp2
    go_ret2
    exact ⟨by first | rfl | (simp [errW_none, errW_some] <;> rfl) | (simp [*, errW_none, errW_some] <;> rfl), by repeat (first | (with_reducible first | exact HB.out | apply below_alloc | apply pw_below_drewN | apply below_drew1 | refine below_set ?_ GE260.out) | exact HB.out)⟩
   ·replace c10 := Bool.eq_false_iff.mpr c10
    subst c10
    have H1 : (if a0_2 < (-1099511627776) then (graftageref56_Line.j1 kj1 true a0_0 l0_1 a0_2 a0_3 a0_4) else (graftageref56_Line.j1 kj1 (decide (a0_2 > 1099511627776)) a0_0 l0_1 a0_2 a0_3 a0_4)) = some (r1, r2) := by rw [if_neg (show ¬ (false = true) by decide)] at H; exact H
    clear H
    have H := H1
    clear H1
    have HC11 := Aside0.mk H
    clear H
    go_upto_region 3 with (fail)
    go_cut [23] (fun v23 wc => ∃ (kq : Nat) (x23_10 : Bool), v23 = .bool x23_10 ∧ Aside0 (graftageref56_Line.j1 kq x23_10 a0_0 l0_1 a0_2 a0_3 a0_4 = some (r1, r2)) ∧ Aside0 (kq ≤ kj1) ∧ Aside0 (wc.heap[gb260]? = some (.cells #[.int .i64 a0_0, (.slice A0_1 l0_1.length c0_1), .int .i64 a0_2, .bool a0_3, .string a0_4] 24 (0, 0))) ∧ Aside0 (Below w.heap.size w wc))
    case first =>
     have H := HC11.out
     clear HC11
     by_cases c12 : a0_2 < (-1099511627776)
     ·rw [if_pos c12] at H
      have c12b0 : decide (a0_2 < (-1099511627776)) = true := decide_eq_true c12
      clear c12
      (first | rw [c12b0] | (simp only [i64_w, i32_w]; rw [c12b0]) | skip)
      have H' := Aside0.mk H
      clear H
      have hcz13_0 : wc.cell? ⟨gb260, 0, none⟩ = some (.int .i64 a0_0) := (blk_cell BK260.out 0).trans rfl
      have hcz13_1 : wc.cell? ⟨gb260, 1, none⟩ = some (.slice A0_1 l0_1.length c0_1) := (blk_cell BK260.out 1).trans rfl
      have hcz13_2 : wc.cell? ⟨gb260, 2, none⟩ = some (.int .i64 a0_2) := (blk_cell BK260.out 2).trans rfl
      have hcz13_3 : wc.cell? ⟨gb260, 3, none⟩ = some (.bool a0_3) := (blk_cell BK260.out 3).trans rfl
      have hcz13_4 : wc.cell? ⟨gb260, 4, none⟩ = some (.string a0_4) := (blk_cell BK260.out 4).trans rfl
      have hfz13_0 := blk_frozen BK260.out 0
      have hfz13_1 := blk_frozen BK260.out 1
      have hfz13_2 := blk_frozen BK260.out 2
      have hfz13_3 := blk_frozen BK260.out 3
      have hfz13_4 := blk_frozen BK260.out 4
      go_wp2
      go_meet
      case rel => exact ⟨_, (true), (by first | rfl | (simp; done) | (simp [*]; done)), H', ⟨by have := HJ1.out; first | omega | exact Nat.le_refl _⟩, ⟨by (with_reducible repeat (first | refine blk_drewN ?_ _ | refine blk_drew ?_ | refine blk_alloc ?_ _)); exact BK260.out⟩, ⟨by repeat (first | (with_reducible first | exact HB.out | apply below_alloc | apply pw_below_drewN | apply below_drew1 | refine below_set ?_ GE260.out) | exact HB.out)⟩⟩
     ·rw [if_neg c12] at H
      have c12b0 : decide (a0_2 < (-1099511627776)) = false := decide_eq_false c12
      clear c12
      (first | rw [c12b0] | (simp only [i64_w, i32_w]; rw [c12b0]) | skip)
      have H' := Aside0.mk H
      clear H
      have hcz14_0 : wc.cell? ⟨gb260, 0, none⟩ = some (.int .i64 a0_0) := (blk_cell BK260.out 0).trans rfl
      have hcz14_1 : wc.cell? ⟨gb260, 1, none⟩ = some (.slice A0_1 l0_1.length c0_1) := (blk_cell BK260.out 1).trans rfl
      have hcz14_2 : wc.cell? ⟨gb260, 2, none⟩ = some (.int .i64 a0_2) := (blk_cell BK260.out 2).trans rfl
      have hcz14_3 : wc.cell? ⟨gb260, 3, none⟩ = some (.bool a0_3) := (blk_cell BK260.out 3).trans rfl
      have hcz14_4 : wc.cell? ⟨gb260, 4, none⟩ = some (.string a0_4) := (blk_cell BK260.out 4).trans rfl
      have hfz14_0 := blk_frozen BK260.out 0
      have hfz14_1 := blk_frozen BK260.out 1
      have hfz14_2 := blk_frozen BK260.out 2
      have hfz14_3 := blk_frozen BK260.out 3
      have hfz14_4 := blk_frozen BK260.out 4
      go_wp2
      go_meet
      case rel => exact ⟨_, (decide (a0_2 > 1099511627776)), (by first | rfl | (simp; done) | (simp [*]; done)), H', ⟨by have := HJ1.out; first | omega | exact Nat.le_refl _⟩, ⟨by (with_reducible repeat (first | refine blk_drewN ?_ _ | refine blk_drew ?_ | refine blk_alloc ?_ _)); exact BK260.out⟩, ⟨by repeat (first | (with_reducible first | exact HB.out | apply below_alloc | apply pw_below_drewN | apply below_drew1 | refine below_set ?_ GE260.out) | exact HB.out)⟩⟩
    case rest =>
     clear HC11
     try clear c1
     try clear c2
     try clear p2
     try clear c4
     try clear c4b0
     try clear c9
     try clear c10
     try clear c12
     try clear c12b0
     try clear hcz13_0
     try clear hcz13_1
     try clear hcz13_2
     try clear hcz13_3
     try clear hcz13_4
     try clear hcz14_0
     try clear hcz14_1
     try clear hcz14_2
     try clear hcz14_3
     try clear hcz14_4
     try clear hfz13_0
     try clear hfz13_1
     try clear hfz13_2
     try clear hfz13_3
     try clear hfz13_4
     try clear hfz14_0
     try clear hfz14_1
     try clear hfz14_2
     try clear hfz14_3
     try clear hfz14_4
     try clear p2
     obtain ⟨kq, x23_10, rfl, HA, HJ10, BK260, HB⟩ := hcut
     cases kq with
     | zero => exact absurd HA.out (by simp [graftageref56_Line.j1])
     | succ kj10 =>
      have H := HA.out
      clear HA
      simp only [graftageref56_Line.j1] at H
      by_cases c15 : x23_10 = true
      ·subst c15
       have H1 : (some ((⟨#[]⟩ : ByteArray), 1)) = some (r1, r2) := by rw [if_pos rfl] at H; exact H
       clear H
       have H := H1
       clear H1
       simp only [Option.some.injEq, Prod.mk.injEq] at H
       obtain ⟨rfl, rfl⟩ := H
       go_wp2
       go_ret2
       exact ⟨by first | rfl | (simp [errW_none, errW_some] <;> rfl) | (simp [*, errW_none, errW_some] <;> rfl), by repeat (first | (with_reducible first | exact HB.out | apply below_alloc | apply pw_below_drewN | apply below_drew1 | refine below_set ?_ GE260.out) | exact HB.out)⟩
      ·replace c15 := Bool.eq_false_iff.mpr c15
       subst c15
       have H1 : ((graftageref56_words.f).bind fun t264 => (if 0 ≤ a0_0 then (if a0_0 < (t264.length : Int) then (if (rdOf ByteArray.empty t264 a0_0).size + 1 ≤ 9223372036854775807 then ((graftageref14_Digits.f kj10 a0_2).bind fun t268 => (if ((rdOf ByteArray.empty t264 a0_0) ++ (⟨#[32]⟩ : ByteArray)).size + t268.size ≤ 9223372036854775807 then (if a0_3 = true then (if (((rdOf ByteArray.empty t264 a0_0) ++ (⟨#[32]⟩ : ByteArray)) ++ t268).size + 3 ≤ 9223372036854775807 then (graftageref56_Line.j2 kj10 ((((rdOf ByteArray.empty t264 a0_0) ++ (⟨#[32]⟩ : ByteArray)) ++ t268) ++ (⟨#[32, 49, 32]⟩ : ByteArray)) a0_0 l0_1 a0_2 a0_3 a0_4) else (none)) else (if (((rdOf ByteArray.empty t264 a0_0) ++ (⟨#[32]⟩ : ByteArray)) ++ t268).size + 3 ≤ 9223372036854775807 then (graftageref56_Line.j2 kj10 ((((rdOf ByteArray.empty t264 a0_0) ++ (⟨#[32]⟩ : ByteArray)) ++ t268) ++ (⟨#[32, 48, 32]⟩ : ByteArray)) a0_0 l0_1 a0_2 a0_3 a0_4) else (none))) else (none))) else (none)) else (none)) else (none))) = some (r1, r2) := by rw [if_neg (show ¬ (false = true) by decide)] at H; exact H
       clear H
       have H := H1
       clear H1
       replace H := Option.bind_eq_some_iff.mp H
       obtain ⟨t264, A160, H⟩ := H
       replace H : (if 0 ≤ a0_0 then (if a0_0 < (t264.length : Int) then (if (rdOf ByteArray.empty t264 a0_0).size + 1 ≤ 9223372036854775807 then ((graftageref14_Digits.f kj10 a0_2).bind fun t268 => (if ((rdOf ByteArray.empty t264 a0_0) ++ (⟨#[32]⟩ : ByteArray)).size + t268.size ≤ 9223372036854775807 then (if a0_3 = true then (if (((rdOf ByteArray.empty t264 a0_0) ++ (⟨#[32]⟩ : ByteArray)) ++ t268).size + 3 ≤ 9223372036854775807 then (graftageref56_Line.j2 kj10 ((((rdOf ByteArray.empty t264 a0_0) ++ (⟨#[32]⟩ : ByteArray)) ++ t268) ++ (⟨#[32, 49, 32]⟩ : ByteArray)) a0_0 l0_1 a0_2 a0_3 a0_4) else (none)) else (if (((rdOf ByteArray.empty t264 a0_0) ++ (⟨#[32]⟩ : ByteArray)) ++ t268).size + 3 ≤ 9223372036854775807 then (graftageref56_Line.j2 kj10 ((((rdOf ByteArray.empty t264 a0_0) ++ (⟨#[32]⟩ : ByteArray)) ++ t268) ++ (⟨#[32, 48, 32]⟩ : ByteArray)) a0_0 l0_1 a0_2 a0_3 a0_4) else (none))) else (none))) else (none)) else (none)) else (none)) = some (r1, r2) := H
       have A16 := Aside0.mk A160
       clear A160
       by_cases c17 : 0 ≤ a0_0
       ·rw [if_pos c17] at H
        have c17b0 : decide (0 ≤ a0_0) = true := decide_eq_true c17
        clear c17
        by_cases c18 : a0_0 < (t264.length : Int)
        ·rw [if_pos c18] at H
         have c18b0 : decide (a0_0 < (t264.length : Int)) = true := decide_eq_true c18
         clear c18
         by_cases c19 : (rdOf ByteArray.empty t264 a0_0).size + 1 ≤ 9223372036854775807
         ·rw [if_pos c19] at H
          have c19b0 := eq_true c19
          have c19b1 : decide ((rdOf ByteArray.empty t264 a0_0).size + 1 ≤ 9223372036854775807) = true := decide_eq_true c19
          try have c19b2 : (9223372036854775807 < (rdOf ByteArray.empty t264 a0_0).size + 1) = False := eq_false (Nat.not_lt.2 c19)
          replace H := Option.bind_eq_some_iff.mp H
          obtain ⟨t268, A200, H⟩ := H
          replace H : (if ((rdOf ByteArray.empty t264 a0_0) ++ (⟨#[32]⟩ : ByteArray)).size + t268.size ≤ 9223372036854775807 then (if a0_3 = true then (if (((rdOf ByteArray.empty t264 a0_0) ++ (⟨#[32]⟩ : ByteArray)) ++ t268).size + 3 ≤ 9223372036854775807 then (graftageref56_Line.j2 kj10 ((((rdOf ByteArray.empty t264 a0_0) ++ (⟨#[32]⟩ : ByteArray)) ++ t268) ++ (⟨#[32, 49, 32]⟩ : ByteArray)) a0_0 l0_1 a0_2 a0_3 a0_4) else (none)) else (if (((rdOf ByteArray.empty t264 a0_0) ++ (⟨#[32]⟩ : ByteArray)) ++ t268).size + 3 ≤ 9223372036854775807 then (graftageref56_Line.j2 kj10 ((((rdOf ByteArray.empty t264 a0_0) ++ (⟨#[32]⟩ : ByteArray)) ++ t268) ++ (⟨#[32, 48, 32]⟩ : ByteArray)) a0_0 l0_1 a0_2 a0_3 a0_4) else (none))) else (none)) = some (r1, r2) := H
          have A20 := Aside0.mk A200
          clear A200
          by_cases c21 : ((rdOf ByteArray.empty t264 a0_0) ++ (⟨#[32]⟩ : ByteArray)).size + t268.size ≤ 9223372036854775807
          ·rw [if_pos c21] at H
           have c21b0 := eq_true c21
           have c21b1 : decide (((rdOf ByteArray.empty t264 a0_0) ++ (⟨#[32]⟩ : ByteArray)).size + t268.size ≤ 9223372036854775807) = true := decide_eq_true c21
           try have c21b2 : (9223372036854775807 < ((rdOf ByteArray.empty t264 a0_0) ++ (⟨#[32]⟩ : ByteArray)).size + t268.size) = False := eq_false (Nat.not_lt.2 c21)
           try (have c21b3 := c21b2; simp only [ByteArray.size_append] at c21b3)
           try (have c21b4 := c21b2; simp only [ByteArray.size_append, show (⟨#[32]⟩ : ByteArray).size = 1 from rfl, show (⟨#[10]⟩ : ByteArray).size = 1 from rfl] at c21b4)
           have HC22 := Aside0.mk H
           clear H
           try go_wp2
           have n0_ := Aside0.mk (blk_drew BK260.out)
           have n1_ := Aside0.mk (below_drew1 HB.out)
           clear BK260
           clear HB
           have BK260 := n0_
           have HB := n1_
           clear n0_ n1_
           refine start_ (n := 11) (S := fun w' => w'.cell? ⟨gb260, 0, none⟩ = some (.int .i64 a0_0) ∧ w'.cell? ⟨gb260, 1, none⟩ = some (.slice A0_1 l0_1.length c0_1) ∧ w'.cell? ⟨gb260, 2, none⟩ = some (.int .i64 a0_2) ∧ w'.cell? ⟨gb260, 3, none⟩ = some (.bool a0_3) ∧ w'.cell? ⟨gb260, 4, none⟩ = some (.string a0_4) ∧ True) (ds := []) #[false, false, false, false, false, false, false, false, false, false, false] (by kernel_rfl) rfl rfl ⟨(blk_cell BK260.out 0).trans rfl, (blk_cell BK260.out 1).trans rfl, (blk_cell BK260.out 2).trans rfl, (blk_cell BK260.out 3).trans rfl, (blk_cell BK260.out 4).trans rfl, trivial⟩ (fun hHeld => ?_); refine with_tabW graftageref56_Line.tab5 graftageref56_Line.bits5 (fun HT_ HW_ => ?_)
           generalize wc.drew = w23 at BK260 HB hHeld ⊢
           refine pure_ (i := 1) (N := some 25) (v := ?_) (a' := ?_) #[false, true, false, false, false, false, false, false, false, false, false] rfl rfl (any_of HT_.out (by kernel_rfl)) (fun _ _ _ h => h) (Or.inl ⟨by rfl, ?_⟩) ?_ ?_
           rotate_left
           ·intro w'
            go_simp
            with_reducible rfl
           rotate_left
           ·simp only [Act.put, List.setIfInBounds_toArray, List.set_cons_zero, List.set_cons_succ, i64_w, i32_w]
            rfl
           refine pure_ (i := 6) (N := some 30) (v := ?_) (a' := ?_) #[false, true, false, false, false, false, true, false, false, false, false] rfl rfl (any_of HT_.out (by kernel_rfl)) (fun _ _ _ h => h) (Or.inl ⟨by rfl, ?_⟩) ?_ ?_
           rotate_left
           ·intro w'
            go_simp
            with_reducible rfl
           rotate_left
           ·simp only [Act.put, List.setIfInBounds_toArray, List.set_cons_zero, List.set_cons_succ, i64_w, i32_w]
            rfl
           refine take_ (i := 2) (N := some 26) (v := ?_) (a' := ?_) #[false, true, true, false, false, false, true, false, false, false, false] rfl rfl (take_ofW HT_.out HW_.out (by kernel_rfl)) (fun _ _ _ h => h) (Or.inl ⟨by rfl, ?_⟩) hHeld ?_ ?_
           rotate_left
           ·rintro w' ⟨s0, s1, s2, s3, s4, s5⟩
            go_simp
            with_reducible rfl
           rotate_left
           ·simp only [Act.put, List.setIfInBounds_toArray, List.set_cons_zero, List.set_cons_succ, i64_w, i32_w]
            rfl
           refine take_ (i := 7) (N := some 31) (v := ?_) (a' := ?_) #[false, true, true, false, false, false, true, true, false, false, false] rfl rfl (take_ofW HT_.out HW_.out (by kernel_rfl)) (fun _ _ _ h => h) (Or.inl ⟨by rfl, ?_⟩) hHeld ?_ ?_
           rotate_left
           ·rintro w' ⟨s0, s1, s2, s3, s4, s5⟩
            go_simp
            with_reducible rfl
           rotate_left
           ·simp only [Act.put, List.setIfInBounds_toArray, List.set_cons_zero, List.set_cons_succ, i64_w, i32_w]
            rfl
           refine one_ (i := 0) (N := some 24) #[true, true, true, false, false, false, true, true, false, false, false] rfl rfl (one_of HT_.out (by kernel_rfl)) (by decide) (fun K hK => ?_)
           refine goes_ Tryd.func24 (by kernel_rfl) rfl #[] (by rfl) rfl rfl (by (try simp only [List.map_toArray, List.map_cons, List.map_nil]); first | done | rfl | (simp only [List.length_drop, List.length_take]; rfl)) ?_
           with_reducible refine (graftageref56_words.calls  t264 _ A16.out).mono ?_
           rintro e w24 ⟨v265, rfl, ho0, hb⟩
           have HS5_ := True.intro
           refine ⟨_, rfl, ?_⟩
           have n0_ := Aside0.mk (Kd.R_lower ho0 (below_size (by repeat (first | (with_reducible first | exact HB.out | apply below_alloc | apply pw_below_drewN | apply below_drew1 | refine below_set ?_ GE260.out) | exact HB.out))))
           have n1_ := Aside0.mk (blk_below (g := gb260) (o := .cells #[.int .i64 a0_0, .slice A0_1 l0_1.length c0_1, .int .i64 a0_2, .bool a0_3, .string a0_4] 24 (0, 0)) (by (with_reducible repeat (first | refine blk_drewN ?_ _ | refine blk_drew ?_ | refine blk_alloc ?_ _)); exact BK260.out) hb)
           have n2_ := Aside0.mk (below_step (by repeat (first | (with_reducible first | exact HB.out | apply below_alloc | apply pw_below_drewN | apply below_drew1 | refine below_set ?_ GE260.out) | exact HB.out)) hb)
           clear BK260
           clear HB
           have HO266 := n0_
           have BK260 := n1_
           have HB := n2_
           clear n0_ n1_ n2_
           (try clear hb)
           (try clear hb2)
           (try clear hk)
           (try clear hi)
           (try clear ho0)
           obtain ⟨Ao25, co25, eo25⟩ := Kd.R_slice HO266.out
           (first | subst eo25 | (injection eo25 with f1_ f2_ f3_; have f4_ := f1_.symm; have f5_ := f3_.symm; clear f1_ f2_ f3_; subst f4_; subst f5_))
           have p267 : 0 ≤ (a0_0 : Int) := of_decide_eq_true (by first | (with_reducible assumption) | assumption)
           have q267 : a0_0 < (t264.length : Int) := of_decide_eq_true (by first | (with_reducible assumption) | assumption)
           obtain ⟨ad267, e267, hx267_0⟩ := Kd.at_string (Kd.R_reads' HO266.out).2.2 a0_0 p267 q267
           cases e267
           replace p267 := eq_true p267
           replace q267 := eq_true q267
           refine hK.out _ _ ⟨(blk_cell BK260.out 0).trans rfl, (blk_cell BK260.out 1).trans rfl, (blk_cell BK260.out 2).trans rfl, (blk_cell BK260.out 3).trans rfl, (blk_cell BK260.out 4).trans rfl, HS5_⟩ (fun hHeld => ?_)
           clear hK K
           have hHeld2 : (fun w' : World => w'.cell? ⟨gb260, 0, none⟩ = some (.int .i64 a0_0) ∧ w'.cell? ⟨gb260, 1, none⟩ = some (.slice A0_1 l0_1.length c0_1) ∧ w'.cell? ⟨gb260, 2, none⟩ = some (.int .i64 a0_2) ∧ w'.cell? ⟨gb260, 3, none⟩ = some (.bool a0_3) ∧ w'.cell? ⟨gb260, 4, none⟩ = some (.string a0_4) ∧ w'.cell? (ad267.add (a0_0).toNat) = some (.string (rdOf ByteArray.empty t264 a0_0))) _ := ⟨(blk_cell BK260.out 0).trans rfl, (blk_cell BK260.out 1).trans rfl, (blk_cell BK260.out 2).trans rfl, (blk_cell BK260.out 3).trans rfl, (blk_cell BK260.out 4).trans rfl, hx267_0⟩
           refine more_ (S' := fun w' : World => w'.cell? ⟨gb260, 0, none⟩ = some (.int .i64 a0_0) ∧ w'.cell? ⟨gb260, 1, none⟩ = some (.slice A0_1 l0_1.length c0_1) ∧ w'.cell? ⟨gb260, 2, none⟩ = some (.int .i64 a0_2) ∧ w'.cell? ⟨gb260, 3, none⟩ = some (.bool a0_3) ∧ w'.cell? ⟨gb260, 4, none⟩ = some (.string a0_4) ∧ w'.cell? (ad267.add (a0_0).toNat) = some (.string (rdOf ByteArray.empty t264 a0_0))) (fun _ h => ⟨h.1, h.2.1, h.2.2.1, h.2.2.2.1, h.2.2.2.2.1, trivial⟩) _ _ _ _ hHeld2 ?_
           clear hHeld
           have hHeld := hHeld2
           clear hHeld2
           refine norm_ (a' := ?_) ?_ ?_
           rotate_left
           ·show Act.put _ (some 24) _ = _
            simp only [Act.put, List.setIfInBounds_toArray, List.set_cons_zero, List.set_cons_succ, i64_w, i32_w]
            rfl
           refine pure_ (i := 3) (N := some 27) (v := ?_) (a' := ?_) #[true, true, true, true, false, false, true, true, false, false, false] rfl rfl (any_of HT_.out (by kernel_rfl)) (fun _ _ _ h => h) (Or.inl ⟨by rfl, ?_⟩) ?_ ?_
           rotate_left
           ·intro w'
            go_simp
            with_reducible rfl
           rotate_left
           ·simp only [Act.put, List.setIfInBounds_toArray, List.set_cons_zero, List.set_cons_succ, i64_w, i32_w]
            rfl
           refine take_ (i := 4) (N := some 28) (v := ?_) (a' := ?_) #[true, true, true, true, true, false, true, true, false, false, false] rfl rfl (take_ofW HT_.out HW_.out (by kernel_rfl)) (fun _ _ _ h => h) (Or.inl ⟨by rfl, ?_⟩) hHeld ?_ ?_
           rotate_left
           ·rintro w' ⟨s0, s1, s2, s3, s4, s5⟩
            go_simp
            with_reducible rfl
           rotate_left
           ·simp only [Act.put, List.setIfInBounds_toArray, List.set_cons_zero, List.set_cons_succ, i64_w, i32_w]
            rfl
           refine pure_ (i := 5) (N := some 29) (v := ?_) (a' := ?_) #[true, true, true, true, true, true, true, true, false, false, false] rfl rfl (any_of HT_.out (by kernel_rfl)) (fun _ _ _ h => h) (Or.inl ⟨by rfl, ?_⟩) ?_ ?_
           rotate_left
           ·intro w'
            go_simp
            with_reducible rfl
           rotate_left
           ·simp only [Act.put, List.setIfInBounds_toArray, List.set_cons_zero, List.set_cons_succ, i64_w, i32_w]
            rfl
           refine one_ (i := 8) (N := some 32) #[true, true, true, true, true, true, true, true, true, false, false] rfl rfl (one_of HT_.out (by kernel_rfl)) (by decide) (fun K hK => ?_)
           refine goes_ Tryd.func25 (by kernel_rfl) rfl #[.int .i64 a0_2] (by rfl) rfl rfl (by (try simp only [List.map_toArray, List.map_cons, List.map_nil]); first | done | rfl | (simp only [List.length_drop, List.length_take]; rfl)) ?_
           with_reducible refine (graftageref14_Digits.calls kj10 a0_2 t268 _ A20.out).mono ?_
           rintro e w26 ⟨rfl, hb⟩
           have HS5_ := (hb.cell (World.block_lt_of_cell? _ _ (hHeld.2.2.2.2.2))).trans (hHeld.2.2.2.2.2)
           refine ⟨_, rfl, ?_⟩
           have n0_ := Aside0.mk (Kd.R_below (by (with_reducible repeat (first | apply Kd.R_alloc | apply Kd.R_drewN | apply Kd.R_drew)); exact HO266.out) hb)
           have n1_ := Aside0.mk (blk_below (g := gb260) (o := .cells #[.int .i64 a0_0, .slice A0_1 l0_1.length c0_1, .int .i64 a0_2, .bool a0_3, .string a0_4] 24 (0, 0)) (by (with_reducible repeat (first | refine blk_drewN ?_ _ | refine blk_drew ?_ | refine blk_alloc ?_ _)); exact BK260.out) hb)
           have n2_ := Aside0.mk (below_step (by repeat (first | (with_reducible first | exact HB.out | apply below_alloc | apply pw_below_drewN | apply below_drew1 | refine below_set ?_ GE260.out) | exact HB.out)) hb)
           clear HO266
           clear BK260
           clear HB
           have HO266 := n0_
           have BK260 := n1_
           have HB := n2_
           clear n0_ n1_ n2_
           (try clear hb)
           (try clear hb2)
           (try clear hk)
           (try clear hi)
           refine hK.out _ _ ⟨(blk_cell BK260.out 0).trans rfl, (blk_cell BK260.out 1).trans rfl, (blk_cell BK260.out 2).trans rfl, (blk_cell BK260.out 3).trans rfl, (blk_cell BK260.out 4).trans rfl, HS5_⟩ (fun hHeld => ?_)
           clear hK K
           refine norm_ (a' := ?_) ?_ ?_
           rotate_left
           ·show Act.put _ (some 32) _ = _
            simp only [Act.put, List.setIfInBounds_toArray, List.set_cons_zero, List.set_cons_succ, i64_w, i32_w]
            rfl
           refine pure_ (i := 9) (N := some 33) (v := ?_) (a' := ?_) #[true, true, true, true, true, true, true, true, true, true, false] rfl rfl (any_of HT_.out (by kernel_rfl)) (fun _ _ _ h => h) (Or.inl ⟨by rfl, ?_⟩) ?_ ?_
           rotate_left
           ·intro w'
            go_simp
            with_reducible rfl
           rotate_left
           ·simp only [Act.put, List.setIfInBounds_toArray, List.set_cons_zero, List.set_cons_succ, i64_w, i32_w]
            rfl
           refine pure_ (i := 10) (N := some 4) (v := ?_) (a' := ?_) #[true, true, true, true, true, true, true, true, true, true, true] rfl rfl (any_of HT_.out (by kernel_rfl)) (fun _ _ _ h => h) (Or.inl ⟨by rfl, ?_⟩) ?_ ?_
           rotate_left
           ·intro w'
            go_simp
            with_reducible rfl
           rotate_left
           ·simp only [Act.put, List.setIfInBounds_toArray, List.set_cons_zero, List.set_cons_succ, i64_w, i32_w]
            rfl
           refine done_ (done_of HT_.out (by kernel_rfl)) ?_
           have hcz27_0 : w26.cell? ⟨gb260, 0, none⟩ = some (.int .i64 a0_0) := (blk_cell BK260.out 0).trans rfl
           have hcz27_1 : w26.cell? ⟨gb260, 1, none⟩ = some (.slice A0_1 l0_1.length c0_1) := (blk_cell BK260.out 1).trans rfl
           have hcz27_2 : w26.cell? ⟨gb260, 2, none⟩ = some (.int .i64 a0_2) := (blk_cell BK260.out 2).trans rfl
           have hcz27_3 : w26.cell? ⟨gb260, 3, none⟩ = some (.bool a0_3) := (blk_cell BK260.out 3).trans rfl
           have hcz27_4 : w26.cell? ⟨gb260, 4, none⟩ = some (.string a0_4) := (blk_cell BK260.out 4).trans rfl
           have hfz27_0 := blk_frozen BK260.out 0
           have hfz27_1 := blk_frozen BK260.out 1
           have hfz27_2 := blk_frozen BK260.out 2
           have hfz27_3 := blk_frozen BK260.out 3
           have hfz27_4 := blk_frozen BK260.out 4
           go_upto_if 35 with (fail)
           go_cut [4] (fun v4 wc => ∃ (kq : Nat) (x4_21 : ByteArray), v4 = .string x4_21 ∧ Aside0 (graftageref56_Line.j2 kq x4_21 a0_0 l0_1 a0_2 a0_3 a0_4 = some (r1, r2)) ∧ Aside0 (kq ≤ kj10) ∧ Aside0 (wc.heap[gb260]? = some (.cells #[.int .i64 a0_0, (.slice A0_1 l0_1.length c0_1), .int .i64 a0_2, .bool a0_3, .string a0_4] 24 (0, 0))) ∧ Aside0 (Below w.heap.size w wc))
           case first =>
            have H := HC22.out
            clear HC22
            by_cases c28 : a0_3 = true
            ·subst c28
             have H1 : (if (((rdOf ByteArray.empty t264 a0_0) ++ (⟨#[32]⟩ : ByteArray)) ++ t268).size + 3 ≤ 9223372036854775807 then (graftageref56_Line.j2 kj10 ((((rdOf ByteArray.empty t264 a0_0) ++ (⟨#[32]⟩ : ByteArray)) ++ t268) ++ (⟨#[32, 49, 32]⟩ : ByteArray)) a0_0 l0_1 a0_2 true a0_4) else (none)) = some (r1, r2) := by rw [if_pos rfl] at H; exact H
             clear H
             have H := H1
             clear H1
             by_cases c29 : (((rdOf ByteArray.empty t264 a0_0) ++ (⟨#[32]⟩ : ByteArray)) ++ t268).size + 3 ≤ 9223372036854775807
             ·rw [if_pos c29] at H
              have c29b0 := eq_true c29
              have c29b1 : decide ((((rdOf ByteArray.empty t264 a0_0) ++ (⟨#[32]⟩ : ByteArray)) ++ t268).size + 3 ≤ 9223372036854775807) = true := decide_eq_true c29
              try have c29b2 : (9223372036854775807 < (((rdOf ByteArray.empty t264 a0_0) ++ (⟨#[32]⟩ : ByteArray)) ++ t268).size + 3) = False := eq_false (Nat.not_lt.2 c29)
              try (have c29b3 := c29b2; simp only [ByteArray.size_append] at c29b3)
              try (have c29b4 := c29b2; simp only [ByteArray.size_append, show (⟨#[32]⟩ : ByteArray).size = 1 from rfl, show (⟨#[10]⟩ : ByteArray).size = 1 from rfl] at c29b4)
              have H' := Aside0.mk H
              clear H
              go_wp2
              go_meet
              case rel => exact ⟨_, ((((rdOf ByteArray.empty t264 a0_0) ++ (⟨#[32]⟩ : ByteArray)) ++ t268) ++ (⟨#[32, 49, 32]⟩ : ByteArray)), (by first | rfl | (simp; done) | (simp [*]; done)), H', ⟨by have := HJ1.out; have := HJ10.out; first | omega | exact Nat.le_refl _⟩, ⟨by (with_reducible repeat (first | refine blk_drewN ?_ _ | refine blk_drew ?_ | refine blk_alloc ?_ _)); exact BK260.out⟩, ⟨by repeat (first | (with_reducible first | exact HB.out | apply below_alloc | apply pw_below_drewN | apply below_drew1 | refine below_set ?_ GE260.out) | exact HB.out)⟩⟩
             ·rw [if_neg c29] at H
              exact absurd H (by simp)
            ·replace c28 := Bool.eq_false_iff.mpr c28
             subst c28
             have H1 : (if (((rdOf ByteArray.empty t264 a0_0) ++ (⟨#[32]⟩ : ByteArray)) ++ t268).size + 3 ≤ 9223372036854775807 then (graftageref56_Line.j2 kj10 ((((rdOf ByteArray.empty t264 a0_0) ++ (⟨#[32]⟩ : ByteArray)) ++ t268) ++ (⟨#[32, 48, 32]⟩ : ByteArray)) a0_0 l0_1 a0_2 false a0_4) else (none)) = some (r1, r2) := by rw [if_neg (show ¬ (false = true) by decide)] at H; exact H
             clear H
             have H := H1
             clear H1
             by_cases c30 : (((rdOf ByteArray.empty t264 a0_0) ++ (⟨#[32]⟩ : ByteArray)) ++ t268).size + 3 ≤ 9223372036854775807
             ·rw [if_pos c30] at H
              have c30b0 := eq_true c30
              have c30b1 : decide ((((rdOf ByteArray.empty t264 a0_0) ++ (⟨#[32]⟩ : ByteArray)) ++ t268).size + 3 ≤ 9223372036854775807) = true := decide_eq_true c30
              try have c30b2 : (9223372036854775807 < (((rdOf ByteArray.empty t264 a0_0) ++ (⟨#[32]⟩ : ByteArray)) ++ t268).size + 3) = False := eq_false (Nat.not_lt.2 c30)
              try (have c30b3 := c30b2; simp only [ByteArray.size_append] at c30b3)
              try (have c30b4 := c30b2; simp only [ByteArray.size_append, show (⟨#[32]⟩ : ByteArray).size = 1 from rfl, show (⟨#[10]⟩ : ByteArray).size = 1 from rfl] at c30b4)
              have H' := Aside0.mk H
              clear H
              go_wp2
              go_meet
              case rel => exact ⟨_, ((((rdOf ByteArray.empty t264 a0_0) ++ (⟨#[32]⟩ : ByteArray)) ++ t268) ++ (⟨#[32, 48, 32]⟩ : ByteArray)), (by first | rfl | (simp; done) | (simp [*]; done)), H', ⟨by have := HJ1.out; have := HJ10.out; first | omega | exact Nat.le_refl _⟩, ⟨by (with_reducible repeat (first | refine blk_drewN ?_ _ | refine blk_drew ?_ | refine blk_alloc ?_ _)); exact BK260.out⟩, ⟨by repeat (first | (with_reducible first | exact HB.out | apply below_alloc | apply pw_below_drewN | apply below_drew1 | refine below_set ?_ GE260.out) | exact HB.out)⟩⟩
             ·rw [if_neg c30] at H
              exact absurd H (by simp)
           case rest =>
            clear HC22
            try clear c1
            try clear c2
            try clear p2
            try clear q2
            try clear hx2
            try clear c3
            try clear c4
            try clear c4b0
            try clear c9
            try clear c10
            try clear c12
            try clear c12b0
            try clear c15
            try clear c17
            try clear c17b0
            try clear c18
            try clear c18b0
            try clear c19
            try clear c19b0
            try clear c19b1
            try clear c19b2
            try clear c21
            try clear c21b0
            try clear c21b1
            try clear c21b2
            try clear c24
            try clear c25
            try clear p26
            try clear q26
            try clear hx26
            try clear c28
            try clear c29
            try clear c29b0
            try clear c29b1
            try clear c29b2
            try clear c30
            try clear c30b0
            try clear c30b1
            try clear c30b2
            try clear hcz13_0
            try clear hcz13_1
            try clear hcz13_2
            try clear hcz13_3
            try clear hcz13_4
            try clear hcz14_0
            try clear hcz14_1
            try clear hcz14_2
            try clear hcz14_3
            try clear hcz14_4
            try clear hcz27_0
            try clear hcz27_1
            try clear hcz27_2
            try clear hcz27_3
            try clear hcz27_4
            try clear hfz13_0
            try clear hfz13_1
            try clear hfz13_2
            try clear hfz13_3
            try clear hfz13_4
            try clear hfz14_0
            try clear hfz14_1
            try clear hfz14_2
            try clear hfz14_3
            try clear hfz14_4
            try clear hfz27_0
            try clear hfz27_1
            try clear hfz27_2
            try clear hfz27_3
            try clear hfz27_4
            try clear hx267_0
            try clear p2
            try clear p267
            try clear q267
            obtain ⟨kq, x4_21, rfl, HA, HJ21, BK260, HB⟩ := hcut
            cases kq with
            | zero => exact absurd HA.out (by simp [graftageref56_Line.j2])
            | succ kj21 =>
             have H := HA.out
             clear HA
             simp only [graftageref56_Line.j2] at H
             replace H := Option.bind_eq_some_iff.mp H
             obtain ⟨t269, A310, H⟩ := H
             replace H : (if x4_21.size + t269.size ≤ 9223372036854775807 then (graftageref56_Line.l0 kj21 (x4_21 ++ t269) 0 a0_0 l0_1 a0_2 a0_3 a0_4) else (none)) = some (r1, r2) := H
             have A31 := Aside0.mk A310
             clear A310
             by_cases c32 : x4_21.size + t269.size ≤ 9223372036854775807
             ·rw [if_pos c32] at H
              have c32b0 := eq_true c32
              have c32b1 : decide (x4_21.size + t269.size ≤ 9223372036854775807) = true := decide_eq_true c32
              try have c32b2 : (9223372036854775807 < x4_21.size + t269.size) = False := eq_false (Nat.not_lt.2 c32)
              have H' := Aside0.mk H
              clear H
              have hcz33_0 : wc.cell? ⟨gb260, 0, none⟩ = some (.int .i64 a0_0) := (blk_cell BK260.out 0).trans rfl
              have hcz33_1 : wc.cell? ⟨gb260, 1, none⟩ = some (.slice A0_1 l0_1.length c0_1) := (blk_cell BK260.out 1).trans rfl
              have hcz33_2 : wc.cell? ⟨gb260, 2, none⟩ = some (.int .i64 a0_2) := (blk_cell BK260.out 2).trans rfl
              have hcz33_3 : wc.cell? ⟨gb260, 3, none⟩ = some (.bool a0_3) := (blk_cell BK260.out 3).trans rfl
              have hcz33_4 : wc.cell? ⟨gb260, 4, none⟩ = some (.string a0_4) := (blk_cell BK260.out 4).trans rfl
              have hfz33_0 := blk_frozen BK260.out 0
              have hfz33_1 := blk_frozen BK260.out 1
              have hfz33_2 := blk_frozen BK260.out 2
              have hfz33_3 := blk_frozen BK260.out 3
              have hfz33_4 := blk_frozen BK260.out 4
              go_wp2_with (first | ((with_reducible refine gate_callee (f := 26) rfl ?_); refine goesL_ (some 43) rfl rfl Tryd.func26 (by kernel_rfl) rfl #[.string a0_4] rfl (by (try simp only [List.map_toArray, List.map_cons, List.map_nil]); first | done | rfl | (simp only [List.length_drop, List.length_take]; rfl)) ?_; (with_reducible refine (graftageref56_Word.calls kj21 a0_4 t269 _ A31.out).mono ?_); rintro e w34 ⟨rfl, hb⟩; refine ⟨_, rfl, ?_⟩; have n0_ := Aside0.mk (blk_below (g := gb260) (o := .cells #[.int .i64 a0_0, .slice A0_1 l0_1.length c0_1, .int .i64 a0_2, .bool a0_3, .string a0_4] 24 (0, 0)) (by (with_reducible repeat (first | refine blk_drewN ?_ _ | refine blk_drew ?_ | refine blk_alloc ?_ _)); exact BK260.out) hb); have n1_ := Aside0.mk (below_step (by repeat (first | (with_reducible first | exact HB.out | apply below_alloc | apply pw_below_drewN | apply below_drew1 | refine below_set ?_ GE260.out) | exact HB.out)) hb); clear BK260; clear HB; have BK260 := n0_; have HB := n1_; clear n0_ n1_; (try clear hb); (try clear hb2); (try clear hk); (try clear hi)))
              go_loopg [4, 5] kj21 (fun kq v4 v5 w' => ∃ (x4_4 : ByteArray) (x5_4 : Int), v4 = .string x4_4 ∧ v5 = .int .i64 x5_4 ∧ Aside0 (graftageref56_Line.l0 kq x4_4 x5_4 a0_0 l0_1 a0_2 a0_3 a0_4 = some (r1, r2)) ∧ Aside0 (kq ≤ kj21) ∧ Aside0 (w'.heap[gb260]? = some (.cells #[.int .i64 a0_0, (.slice A0_1 l0_1.length c0_1), .int .i64 a0_2, .bool a0_3, .string a0_4] 24 (0, 0))) ∧ Aside0 (Below w.heap.size w w'))
              case atStart => exact ⟨(x4_21 ++ t269), (0), (by first | rfl | (simp; done) | (simp [*]; done)), (by first | rfl | (simp; done) | (simp [*]; done)), H', ⟨Nat.le_refl _⟩, ⟨by (with_reducible repeat (first | refine blk_drewN ?_ _ | refine blk_drew ?_ | refine blk_alloc ?_ _)); exact BK260.out⟩, ⟨by repeat (first | (with_reducible first | exact HB.out | apply below_alloc | apply pw_below_drewN | apply below_drew1 | refine below_set ?_ GE260.out) | exact HB.out)⟩⟩
              case round =>
               clear H'
               try clear c1
               try clear c2
               try clear p2
               try clear q2
               try clear hx2
               try clear c3
               try clear c4
               try clear c4b0
               try clear c9
               try clear c10
               try clear c12
               try clear c12b0
               try clear c15
               try clear c17
               try clear c17b0
               try clear c18
               try clear c18b0
               try clear c19
               try clear c19b0
               try clear c19b1
               try clear c19b2
               try clear c21
               try clear c21b0
               try clear c21b1
               try clear c21b2
               try clear c24
               try clear c25
               try clear c26
               try clear p26
               try clear q26
               try clear hx26
               try clear c28
               try clear c29
               try clear c29b0
               try clear c29b1
               try clear c29b2
               try clear c30
               try clear c30b0
               try clear c30b1
               try clear c30b2
               try clear c32
               try clear c32b0
               try clear c32b1
               try clear c32b2
               try clear hcz13_0
               try clear hcz13_1
               try clear hcz13_2
               try clear hcz13_3
               try clear hcz13_4
               try clear hcz14_0
               try clear hcz14_1
               try clear hcz14_2
               try clear hcz14_3
               try clear hcz14_4
               try clear hcz27_0
               try clear hcz27_1
               try clear hcz27_2
               try clear hcz27_3
               try clear hcz27_4
               try clear hcz33_0
               try clear hcz33_1
               try clear hcz33_2
               try clear hcz33_3
               try clear hcz33_4
               try clear hfz13_0
               try clear hfz13_1
               try clear hfz13_2
               try clear hfz13_3
               try clear hfz13_4
               try clear hfz14_0
               try clear hfz14_1
               try clear hfz14_2
               try clear hfz14_3
               try clear hfz14_4
               try clear hfz27_0
               try clear hfz27_1
               try clear hfz27_2
               try clear hfz27_3
               try clear hfz27_4
               try clear hfz33_0
               try clear hfz33_1
               try clear hfz33_2
               try clear hfz33_3
               try clear hfz33_4
               try clear hx267_0
               try clear p2
               try clear p26
               try clear p267
               try clear q2
               try clear q26
               try clear q267
               obtain ⟨x4_4, x5_4, rfl, rfl, HA, HK4, BK260, HB⟩ := hrel
               cases gk with
               | zero => exact absurd HA.out (by simp [graftageref56_Line.l0])
               | succ k4 =>
                have H := HA.out
                clear HA
                simp only [graftageref56_Line.l0] at H
                by_cases c35 : x5_4 < (l0_1.length : Int)
                ·rw [if_pos c35] at H
                 have c35b0 : decide (x5_4 < (l0_1.length : Int)) = true := decide_eq_true c35
                 clear c35
                 by_cases c36 : (x4_4.size : Int) ≤ 1048576
                 ·rw [if_pos c36] at H
                  have c36b0 : decide ((x4_4.size : Int) ≤ 1048576) = true := decide_eq_true c36
                  have c36b1 : decide (x4_4.size ≤ 1048576) = true := decide_eq_true (by omega)
                  clear c36
                  by_cases c37 : x4_4.size + 1 ≤ 9223372036854775807
                  ·rw [if_pos c37] at H
                   have c37b0 := eq_true c37
                   have c37b1 : decide (x4_4.size + 1 ≤ 9223372036854775807) = true := decide_eq_true c37
                   try have c37b2 : (9223372036854775807 < x4_4.size + 1) = False := eq_false (Nat.not_lt.2 c37)
                   by_cases c38 : 0 ≤ x5_4
                   ·rw [if_pos c38] at H
                    have c38b0 : decide (0 ≤ x5_4) = true := decide_eq_true c38
                    clear c38
                    replace H := Option.bind_eq_some_iff.mp H
                    obtain ⟨t271, A390, H⟩ := H
                    replace H : (if (x4_4 ++ (⟨#[32]⟩ : ByteArray)).size + t271.size ≤ 9223372036854775807 then (graftageref56_Line.l0 k4 ((x4_4 ++ (⟨#[32]⟩ : ByteArray)) ++ t271) (wrap64 (x5_4 + 1)) a0_0 l0_1 a0_2 a0_3 a0_4) else (none)) = some (r1, r2) := H
                    have A39 := Aside0.mk A390
                    clear A390
                    by_cases c40 : (x4_4 ++ (⟨#[32]⟩ : ByteArray)).size + t271.size ≤ 9223372036854775807
                    ·rw [if_pos c40] at H
                     have c40b0 := eq_true c40
                     have c40b1 : decide ((x4_4 ++ (⟨#[32]⟩ : ByteArray)).size + t271.size ≤ 9223372036854775807) = true := decide_eq_true c40
                     try have c40b2 : (9223372036854775807 < (x4_4 ++ (⟨#[32]⟩ : ByteArray)).size + t271.size) = False := eq_false (Nat.not_lt.2 c40)
                     try (have c40b3 := c40b2; simp only [ByteArray.size_append] at c40b3)
                     try (have c40b4 := c40b2; simp only [ByteArray.size_append, show (⟨#[32]⟩ : ByteArray).size = 1 from rfl, show (⟨#[10]⟩ : ByteArray).size = 1 from rfl] at c40b4)
                     have H' := Aside0.mk H
                     clear H
                     have hcz41_0 : wr.cell? ⟨gb260, 0, none⟩ = some (.int .i64 a0_0) := (blk_cell BK260.out 0).trans rfl
                     have hcz41_1 : wr.cell? ⟨gb260, 1, none⟩ = some (.slice A0_1 l0_1.length c0_1) := (blk_cell BK260.out 1).trans rfl
                     have hcz41_2 : wr.cell? ⟨gb260, 2, none⟩ = some (.int .i64 a0_2) := (blk_cell BK260.out 2).trans rfl
                     have hcz41_3 : wr.cell? ⟨gb260, 3, none⟩ = some (.bool a0_3) := (blk_cell BK260.out 3).trans rfl
                     have hcz41_4 : wr.cell? ⟨gb260, 4, none⟩ = some (.string a0_4) := (blk_cell BK260.out 4).trans rfl
                     have hfz41_0 := blk_frozen BK260.out 0
                     have hfz41_1 := blk_frozen BK260.out 1
                     have hfz41_2 := blk_frozen BK260.out 2
                     have hfz41_3 := blk_frozen BK260.out 3
                     have hfz41_4 := blk_frozen BK260.out 4
                     have p270 : 0 ≤ (x5_4 : Int) := of_decide_eq_true (by first | (with_reducible assumption) | assumption)
                     have q270 : x5_4 < (l0_1.length : Int) := of_decide_eq_true (by first | (with_reducible assumption) | assumption)
                     obtain ⟨ad270, e270, hx270_0⟩ := Kd.at_string HR0_1.out x5_4 p270 q270
                     cases e270
                     replace hx270_0 := (HB.out.cell (World.block_lt_of_cell? w _ hx270_0)).trans hx270_0
                     replace p270 := eq_true p270
                     replace q270 := eq_true q270
                     go_wp2_with (first | ((with_reducible refine gate_callee (f := 26) rfl ?_); refine goesL_ (some 64) rfl rfl Tryd.func26 (by kernel_rfl) rfl #[.string (rdOf ByteArray.empty l0_1 x5_4)] rfl (by (try simp only [List.map_toArray, List.map_cons, List.map_nil]); first | done | rfl | (simp only [List.length_drop, List.length_take]; rfl)) ?_; (with_reducible refine (graftageref56_Word.calls k4 (rdOf ByteArray.empty l0_1 x5_4) t271 _ A39.out).mono ?_); rintro e w42 ⟨rfl, hb⟩; refine ⟨_, rfl, ?_⟩; have n0_ := Aside0.mk (blk_below (g := gb260) (o := .cells #[.int .i64 a0_0, .slice (some ad270) l0_1.length c0_1, .int .i64 a0_2, .bool a0_3, .string a0_4] 24 (0, 0)) (by (with_reducible repeat (first | refine blk_drewN ?_ _ | refine blk_drew ?_ | refine blk_alloc ?_ _)); exact BK260.out) hb); have n1_ := Aside0.mk (below_step (by repeat (first | (with_reducible first | exact HB.out | apply below_alloc | apply pw_below_drewN | apply below_drew1 | refine below_set ?_ GE260.out) | exact HB.out)) hb); clear BK260; clear HB; have BK260 := n0_; have HB := n1_; clear n0_ n1_; (try clear hb); (try clear hb2); (try clear hk); (try clear hi)))
                     go_roundg k4
                     case measure => have := HJ1.out; have := HJ10.out; have := HJ21.out; have := HK4.out; omega
                     case rel => exact ⟨((x4_4 ++ (⟨#[32]⟩ : ByteArray)) ++ t271), (wrap64 (x5_4 + 1)), (by first | rfl | (simp; done) | (simp [*]; done)), (by first | rfl | (simp; done) | (simp [*]; done)), H', ⟨by have := HJ1.out; have := HJ10.out; have := HJ21.out; have := HK4.out; omega⟩, ⟨by (with_reducible repeat (first | refine blk_drewN ?_ _ | refine blk_drew ?_ | refine blk_alloc ?_ _)); exact BK260.out⟩, ⟨by repeat (first | (with_reducible first | exact HB.out | apply below_alloc | apply pw_below_drewN | apply below_drew1 | refine below_set ?_ GE260.out) | exact HB.out)⟩⟩
                    ·rw [if_neg c40] at H
                     exact absurd H (by simp)
                   ·rw [if_neg c38] at H
                    exact absurd H (by simp)
                  ·rw [if_neg c37] at H
                   exact absurd H (by simp)
                 ·rw [if_neg c36] at H
                  have c36b0 : decide ((x4_4.size : Int) ≤ 1048576) = false := decide_eq_false c36
                  have c36b1 : decide (x4_4.size ≤ 1048576) = false := decide_eq_false (by omega)
                  clear c36
                  by_cases c43 : (x4_4.size : Int) > 1048576
                  ·rw [if_pos c43] at H
                   have c43b0 : decide (1048576 < (x4_4.size : Int)) = true := decide_eq_true c43
                   have c43b1 : decide (1048576 < x4_4.size) = true := decide_eq_true (by omega)
                   clear c43
                   simp only [Option.some.injEq, Prod.mk.injEq] at H
                   obtain ⟨rfl, rfl⟩ := H
                   have hcz44_0 : wr.cell? ⟨gb260, 0, none⟩ = some (.int .i64 a0_0) := (blk_cell BK260.out 0).trans rfl
                   have hcz44_1 : wr.cell? ⟨gb260, 1, none⟩ = some (.slice A0_1 l0_1.length c0_1) := (blk_cell BK260.out 1).trans rfl
                   have hcz44_2 : wr.cell? ⟨gb260, 2, none⟩ = some (.int .i64 a0_2) := (blk_cell BK260.out 2).trans rfl
                   have hcz44_3 : wr.cell? ⟨gb260, 3, none⟩ = some (.bool a0_3) := (blk_cell BK260.out 3).trans rfl
                   have hcz44_4 : wr.cell? ⟨gb260, 4, none⟩ = some (.string a0_4) := (blk_cell BK260.out 4).trans rfl
                   have hfz44_0 := blk_frozen BK260.out 0
                   have hfz44_1 := blk_frozen BK260.out 1
                   have hfz44_2 := blk_frozen BK260.out 2
                   have hfz44_3 := blk_frozen BK260.out 3
                   have hfz44_4 := blk_frozen BK260.out 4
                   go_wp2
                   go_ret2
                   exact ⟨by first | rfl | (simp [errW_none, errW_some] <;> rfl) | (simp [*, errW_none, errW_some] <;> rfl), by repeat (first | (with_reducible first | exact HB.out | apply below_alloc | apply pw_below_drewN | apply below_drew1 | refine below_set ?_ GE260.out) | exact HB.out)⟩
                  ·rw [if_neg c43] at H
                   have c43b0 : decide (1048576 < (x4_4.size : Int)) = false := decide_eq_false c43
                   have c43b1 : decide (1048576 < x4_4.size) = false := decide_eq_false (by omega)
                   clear c43
                   simp only [Option.some.injEq, Prod.mk.injEq] at H
                   obtain ⟨rfl, rfl⟩ := H
                   have hcz45_0 : wr.cell? ⟨gb260, 0, none⟩ = some (.int .i64 a0_0) := (blk_cell BK260.out 0).trans rfl
                   have hcz45_1 : wr.cell? ⟨gb260, 1, none⟩ = some (.slice A0_1 l0_1.length c0_1) := (blk_cell BK260.out 1).trans rfl
                   have hcz45_2 : wr.cell? ⟨gb260, 2, none⟩ = some (.int .i64 a0_2) := (blk_cell BK260.out 2).trans rfl
                   have hcz45_3 : wr.cell? ⟨gb260, 3, none⟩ = some (.bool a0_3) := (blk_cell BK260.out 3).trans rfl
                   have hcz45_4 : wr.cell? ⟨gb260, 4, none⟩ = some (.string a0_4) := (blk_cell BK260.out 4).trans rfl
                   have hfz45_0 := blk_frozen BK260.out 0
                   have hfz45_1 := blk_frozen BK260.out 1
                   have hfz45_2 := blk_frozen BK260.out 2
                   have hfz45_3 := blk_frozen BK260.out 3
                   have hfz45_4 := blk_frozen BK260.out 4
                   go_wp2
                   go_ret2
                   exact ⟨by first | rfl | (simp [errW_none, errW_some] <;> rfl) | (simp [*, errW_none, errW_some] <;> rfl), by repeat (first | (with_reducible first | exact HB.out | apply below_alloc | apply pw_below_drewN | apply below_drew1 | refine below_set ?_ GE260.out) | exact HB.out)⟩
                ·rw [if_neg c35] at H
                 have c35b0 : decide (x5_4 < (l0_1.length : Int)) = false := decide_eq_false c35
                 clear c35
                 by_cases c46 : (x4_4.size : Int) > 1048576
                 ·rw [if_pos c46] at H
                  have c46b0 : decide (1048576 < (x4_4.size : Int)) = true := decide_eq_true c46
                  have c46b1 : decide (1048576 < x4_4.size) = true := decide_eq_true (by omega)
                  clear c46
                  simp only [Option.some.injEq, Prod.mk.injEq] at H
                  obtain ⟨rfl, rfl⟩ := H
                  have hcz47_0 : wr.cell? ⟨gb260, 0, none⟩ = some (.int .i64 a0_0) := (blk_cell BK260.out 0).trans rfl
                  have hcz47_1 : wr.cell? ⟨gb260, 1, none⟩ = some (.slice A0_1 l0_1.length c0_1) := (blk_cell BK260.out 1).trans rfl
                  have hcz47_2 : wr.cell? ⟨gb260, 2, none⟩ = some (.int .i64 a0_2) := (blk_cell BK260.out 2).trans rfl
                  have hcz47_3 : wr.cell? ⟨gb260, 3, none⟩ = some (.bool a0_3) := (blk_cell BK260.out 3).trans rfl
                  have hcz47_4 : wr.cell? ⟨gb260, 4, none⟩ = some (.string a0_4) := (blk_cell BK260.out 4).trans rfl
                  have hfz47_0 := blk_frozen BK260.out 0
                  have hfz47_1 := blk_frozen BK260.out 1
                  have hfz47_2 := blk_frozen BK260.out 2
                  have hfz47_3 := blk_frozen BK260.out 3
                  have hfz47_4 := blk_frozen BK260.out 4
                  go_wp2
                  go_ret2
                  exact ⟨by first | rfl | (simp [errW_none, errW_some] <;> rfl) | (simp [*, errW_none, errW_some] <;> rfl), by repeat (first | (with_reducible first | exact HB.out | apply below_alloc | apply pw_below_drewN | apply below_drew1 | refine below_set ?_ GE260.out) | exact HB.out)⟩
                 ·rw [if_neg c46] at H
                  have c46b0 : decide (1048576 < (x4_4.size : Int)) = false := decide_eq_false c46
                  have c46b1 : decide (1048576 < x4_4.size) = false := decide_eq_false (by omega)
                  clear c46
                  simp only [Option.some.injEq, Prod.mk.injEq] at H
                  obtain ⟨rfl, rfl⟩ := H
                  have hcz48_0 : wr.cell? ⟨gb260, 0, none⟩ = some (.int .i64 a0_0) := (blk_cell BK260.out 0).trans rfl
                  have hcz48_1 : wr.cell? ⟨gb260, 1, none⟩ = some (.slice A0_1 l0_1.length c0_1) := (blk_cell BK260.out 1).trans rfl
                  have hcz48_2 : wr.cell? ⟨gb260, 2, none⟩ = some (.int .i64 a0_2) := (blk_cell BK260.out 2).trans rfl
                  have hcz48_3 : wr.cell? ⟨gb260, 3, none⟩ = some (.bool a0_3) := (blk_cell BK260.out 3).trans rfl
                  have hcz48_4 : wr.cell? ⟨gb260, 4, none⟩ = some (.string a0_4) := (blk_cell BK260.out 4).trans rfl
                  have hfz48_0 := blk_frozen BK260.out 0
                  have hfz48_1 := blk_frozen BK260.out 1
                  have hfz48_2 := blk_frozen BK260.out 2
                  have hfz48_3 := blk_frozen BK260.out 3
                  have hfz48_4 := blk_frozen BK260.out 4
                  go_wp2
                  go_ret2
                  exact ⟨by first | rfl | (simp [errW_none, errW_some] <;> rfl) | (simp [*, errW_none, errW_some] <;> rfl), by repeat (first | (with_reducible first | exact HB.out | apply below_alloc | apply pw_below_drewN | apply below_drew1 | refine below_set ?_ GE260.out) | exact HB.out)⟩
             ·rw [if_neg c32] at H
              exact absurd H (by simp)
          ·rw [if_neg c21] at H
           exact absurd H (by simp)
         ·rw [if_neg c19] at H
          exact absurd H (by simp)
        ·rw [if_neg c18] at H
         exact absurd H (by simp)
       ·rw [if_neg c17] at H
        exact absurd H (by simp)
end Go.Proofs.YtcmemgahgenpdaaDoor.PSc
end
section
namespace Go.Proofs.YtcmemgahgenpdaaDoor.Hand
open Go.RowKit Go.Proofs.YtcmemgahgenpdaaDoorW.PrintWords Go.Proofs.YtcmemgahgenpdaaDoorW.PrintLast Go.Proofs.YtcmemgahgenpdaaDoorW.PrintMore
set_option linter.unusedVariables false
theorem one_of {a1 : ByteArray} (h : a1.size = 1) : a1 = ⟨#[a1.data.toList.getD 0 0]⟩ := by
  obtain ⟨⟨l⟩⟩ := a1
  match l, h with
  | [c], _ => rfl
end Go.Proofs.YtcmemgahgenpdaaDoor.Hand
end
section
namespace Go.Proofs.YtcmemgahgenpdaaDoor.PSc
open Go.Proofs.YtcmemgahgenpdaaDoor.Hand Go.RowKit Go.Proofs.YtcmemgahgenpdaaDoorW.PrintWords Go.Proofs.YtcmemgahgenpdaaDoorW.PrintLast Go.Proofs.YtcmemgahgenpdaaDoorW.PrintMore
attribute [local go_sem] max2_int min2_int max_two min_two max_three min_three max_four min_four
set_option linter.unusedVariables false
set_option linter.unusedSimpArgs false
def script_Text.l0 : Nat → List ByteArray → List ByteArray → Int → Int → Int → List ByteArray → List ByteArray → Int → ByteArray → Option (ByteArray)
 | 0, _, _, _, _, _, _, _, _, _ => none
 | k + 1, x3, x28, x29, x30, x179000, x179001, x179002, x179003, x179004 => if x30 < x29 then (if 0 ≤ x30 then (if x30 < (x28.length : Int) then ((script_word.f (rdOf ByteArray.empty x28 x30)).bind fun t193 => (if x3.length < 8796093022208 then (script_Text.l0 k (x3 ++ [t193]) x28 x29 (wrap64 (x30 + 1)) x179000 x179001 x179002 x179003 x179004) else (none))) else (none)) else (none)) else ((script_word.f x179004).bind fun t197 => (if x3.length < 8796093022208 then ((script_joined.f (x3 ++ [t197])).bind fun t201 => (some t201)) else (none)))
def script_Text.f (k : Nat) (a0_0 : Int) (l0_1 : List ByteArray) (l0_2 : List ByteArray) (a0_3 : Int) (a0_4 : ByteArray) : Option (ByteArray) := (strconv_Itoa_20.f a0_0).bind fun t179 => ((strconv_Itoa_20.f a0_3).bind fun t180 => ((strconv_Itoa_20.f (l0_1.length : Int)).bind fun t181 => ((some (([t179, t180, t181] : List ByteArray) : List ByteArray)).bind fun y182 => (if y182.length + l0_1.length < 8796093022208 then ((some (y182 ++ l0_1 : List ByteArray)).bind fun y185 => ((strconv_Itoa_20.f (l0_2.length : Int)).bind fun t188 => (if y185.length < 8796093022208 then (script_Text.l0 k (y185 ++ [t188]) l0_2 (l0_2.length : Int) 0 a0_0 l0_1 l0_2 a0_3 a0_4) else (none)))) else (none)))))
def script_Text.T1 : Bool × List (List Nat × List Nat) := (true, [([], []), ([0], [0]), ([1], [1]), ([], []), ([3], [3]), ([4, 2], [4]), ([], []), ([6], [6]), ([7], [7]), ([8, 5], [8]), ([2, 5, 9], [2, 5, 9]), ([10, 9, 0, 1, 2, 3, 4, 5, 6, 7, 8, 9, 10], [10])])
def script_Text.B1 : List Nat := [0, 1, 3, 0, 8, 31, 0, 64, 192, 511, 1023, 2047]
theorem script_Text.tab1 : rtab .any (opsOf Tryd.f13 1) = script_Text.T1 := by kernel_rfl
theorem script_Text.bits1 : waitsOk script_Text.T1.2 script_Text.B1 = true := by kernel_rfl
def script_Text.T2 : Bool × List (List Nat × List Nat) := (true, [([], []), ([], []), ([1], [1]), ([0, 2], [0, 2]), ([], []), ([4], [4]), ([5], [5]), ([6, 3], [6]), ([7], [7]), ([3, 8, 7], [3, 8]), ([9, 9, 0, 1, 2, 3, 4, 5, 6, 7, 8, 9], [0, 9])])
def script_Text.B2 : List Nat := [0, 0, 2, 7, 0, 16, 48, 127, 255, 511, 1023]
theorem script_Text.tab2 : rtab .any (opsOf Tryd.f13 2) = script_Text.T2 := by kernel_rfl
theorem script_Text.bits2 : waitsOk script_Text.T2.2 script_Text.B2 = true := by kernel_rfl
set_option maxHeartbeats 8000000 in
set_option maxRecDepth 100000 in
theorem script_Text.calls (k : Nat) (a0_0 : Int) (A0_1 : Option Addr) (c0_1 : Nat) (l0_1 : List ByteArray) (A0_2 : Option Addr) (c0_2 : Nat) (l0_2 : List ByteArray) (a0_3 : Int) (a0_4 : ByteArray) (r : ByteArray) (w : World) (hr0_1 : Kd.C Kd.string w A0_1 l0_1.length l0_1) (hc0_1 : l0_1.length ≤ c0_1) (hr0_2 : Kd.C Kd.string w A0_2 l0_2.length l0_2) (hc0_2 : l0_2.length ≤ c0_2) (hWd : Wds w) (h : script_Text.f k a0_0 l0_1 l0_2 a0_3 a0_4 = some r) :
  Calls Tryd.prog 13 #[.agg #[.int .i64 a0_0, .slice A0_1 l0_1.length c0_1, .slice A0_2 l0_2.length c0_2, .int .i64 a0_3, .string a0_4]] w fun e w' => e = .returned (.string r) ∧ Below w.heap.size w w' := by
 have hu36 := Tryd.underlying36
 have HR0_1 := Aside0.mk hr0_1
 have HC0_1 := Aside0.mk hc0_1
 clear hr0_1 hc0_1
 have HR0_2 := Aside0.mk hr0_2
 have HC0_2 := Aside0.mk hc0_2
 clear hr0_2 hc0_2
 have HB := Aside0.mk (Below.refl w.heap.size w)
 have H : ((strconv_Itoa_20.f a0_0).bind fun t179 => ((strconv_Itoa_20.f a0_3).bind fun t180 => ((strconv_Itoa_20.f (l0_1.length : Int)).bind fun t181 => ((some (([t179, t180, t181] : List ByteArray) : List ByteArray)).bind fun y182 => (if y182.length + l0_1.length < 8796093022208 then ((some (y182 ++ l0_1 : List ByteArray)).bind fun y185 => ((strconv_Itoa_20.f (l0_2.length : Int)).bind fun t188 => (if y185.length < 8796093022208 then (script_Text.l0 k (y185 ++ [t188]) l0_2 (l0_2.length : Int) 0 a0_0 l0_1 l0_2 a0_3 a0_4) else (none)))) else (none)))))) = some r := h
 clear h
 replace H := Option.bind_eq_some_iff.mp H
 obtain ⟨t179, A20, H⟩ := H
 replace H : ((strconv_Itoa_20.f a0_3).bind fun t180 => ((strconv_Itoa_20.f (l0_1.length : Int)).bind fun t181 => ((some (([t179, t180, t181] : List ByteArray) : List ByteArray)).bind fun y182 => (if y182.length + l0_1.length < 8796093022208 then ((some (y182 ++ l0_1 : List ByteArray)).bind fun y185 => ((strconv_Itoa_20.f (l0_2.length : Int)).bind fun t188 => (if y185.length < 8796093022208 then (script_Text.l0 k (y185 ++ [t188]) l0_2 (l0_2.length : Int) 0 a0_0 l0_1 l0_2 a0_3 a0_4) else (none)))) else (none))))) = some r := H
 have A2 := Aside0.mk A20
 clear A20
 replace H := Option.bind_eq_some_iff.mp H
 obtain ⟨t180, A30, H⟩ := H
 replace H : ((strconv_Itoa_20.f (l0_1.length : Int)).bind fun t181 => ((some (([t179, t180, t181] : List ByteArray) : List ByteArray)).bind fun y182 => (if y182.length + l0_1.length < 8796093022208 then ((some (y182 ++ l0_1 : List ByteArray)).bind fun y185 => ((strconv_Itoa_20.f (l0_2.length : Int)).bind fun t188 => (if y185.length < 8796093022208 then (script_Text.l0 k (y185 ++ [t188]) l0_2 (l0_2.length : Int) 0 a0_0 l0_1 l0_2 a0_3 a0_4) else (none)))) else (none)))) = some r := H
 have A3 := Aside0.mk A30
 clear A30
 replace H := Option.bind_eq_some_iff.mp H
 obtain ⟨t181, A40, H⟩ := H
 replace H : ((some (([t179, t180, t181] : List ByteArray) : List ByteArray)).bind fun y182 => (if y182.length + l0_1.length < 8796093022208 then ((some (y182 ++ l0_1 : List ByteArray)).bind fun y185 => ((strconv_Itoa_20.f (l0_2.length : Int)).bind fun t188 => (if y185.length < 8796093022208 then (script_Text.l0 k (y185 ++ [t188]) l0_2 (l0_2.length : Int) 0 a0_0 l0_1 l0_2 a0_3 a0_4) else (none)))) else (none))) = some r := H
 have A4 := Aside0.mk A40
 clear A40
 obtain ⟨y182, hy182⟩ : ∃ y_ : List ByteArray, y_ = (([t179, t180, t181] : List ByteArray)) := ⟨_, rfl⟩
 replace H : (if y182.length + l0_1.length < 8796093022208 then ((some (y182 ++ l0_1 : List ByteArray)).bind fun y185 => ((strconv_Itoa_20.f (l0_2.length : Int)).bind fun t188 => (if y185.length < 8796093022208 then (script_Text.l0 k (y185 ++ [t188]) l0_2 (l0_2.length : Int) 0 a0_0 l0_1 l0_2 a0_3 a0_4) else (none)))) else (none)) = some r := by first | (rw [hy182]; with_reducible exact H) | (have H2_ := (Option.bind_some _ _).symm.trans H; rw [hy182]; with_reducible exact H2_) | (have H2_ := (Option.bind_some _ _).symm.trans H; with_reducible exact H2_) | with_reducible exact H | (rw [hy182]; exact H) | exact H
 have Ny182 := Aside0.mk hy182
 clear hy182
 by_cases c5 : y182.length + l0_1.length < 8796093022208
 ·rw [if_pos c5] at H
  have LMc5 := Aside0.mk c5
  clear c5
  obtain ⟨y185, hy185⟩ : ∃ y_ : List ByteArray, y_ = (y182 ++ l0_1) := ⟨_, rfl⟩
  replace H : ((strconv_Itoa_20.f (l0_2.length : Int)).bind fun t188 => (if y185.length < 8796093022208 then (script_Text.l0 k (y185 ++ [t188]) l0_2 (l0_2.length : Int) 0 a0_0 l0_1 l0_2 a0_3 a0_4) else (none))) = some r := by first | (rw [hy185]; with_reducible exact H) | (have H2_ := (Option.bind_some _ _).symm.trans H; rw [hy185]; with_reducible exact H2_) | (have H2_ := (Option.bind_some _ _).symm.trans H; with_reducible exact H2_) | with_reducible exact H | (rw [hy185]; exact H) | exact H
  have Ny185 := Aside0.mk hy185
  clear hy185
  replace H := Option.bind_eq_some_iff.mp H
  obtain ⟨t188, A60, H⟩ := H
  replace H : (if y185.length < 8796093022208 then (script_Text.l0 k (y185 ++ [t188]) l0_2 (l0_2.length : Int) 0 a0_0 l0_1 l0_2 a0_3 a0_4) else (none)) = some r := H
  have A6 := Aside0.mk A60
  clear A60
  by_cases c7 : y185.length < 8796093022208
  ·rw [if_pos c7] at H
   have LMc7 := Aside0.mk c7
   clear c7
   obtain ⟨y189, hy189⟩ : ∃ y_ : List ByteArray, y_ = (y185 ++ [t188]) := ⟨_, rfl⟩
   replace H : (script_Text.l0 k y189 l0_2 (l0_2.length : Int) 0 a0_0 l0_1 l0_2 a0_3 a0_4) = some r := by first | (rw [hy189]; with_reducible exact H) | (have H2_ := (Option.bind_some _ _).symm.trans H; rw [hy189]; with_reducible exact H2_) | (have H2_ := (Option.bind_some _ _).symm.trans H; with_reducible exact H2_) | with_reducible exact H | (rw [hy189]; exact H) | exact H
   have Ny189 := Aside0.mk hy189
   clear hy189
   have H' := Aside0.mk H
   clear H
   go_enter Tryd.func13, Tryd.ntmps13
   try go_wp2_with (first | ((with_reducible refine gate_dst (N := 1) rfl ?_); refine box_event ?hg (N := 1) ?hd (cs := #[.int .i64 a0_0, .slice A0_1 l0_1.length c0_1, .slice A0_2 l0_2.length c0_2, .int .i64 a0_3, .string a0_4]) (t := 36) ?hr ?_; (case hd => rfl); (case hg => rfl); (case hr => first | (go_simp; done) | (go_simp; rfl)); intro gb178 hg w8 hbox hb; have n0_ := Aside0.mk (below_step (by repeat (first | (with_reducible first | exact HB.out | apply below_alloc | apply pw_below_drewN | apply below_drew1) | exact HB.out)) hb); have n1_ := Aside0.mk (hbox); have n2_ := Aside0.mk ((by rw [hg]; exact (below_size (by repeat (first | (with_reducible first | exact HB.out | apply below_alloc | apply pw_below_drewN | apply below_drew1) | exact HB.out))) : w.heap.size ≤ gb178)); have n3_ := Aside0.mk ((by rw [hg]; exact (below_size (by repeat (first | (with_reducible first | exact HB.out | apply below_alloc | apply pw_below_drewN | apply below_drew1) | exact HB.out))) : w.heap.size ≤ gb178)); clear HB; have HB := n0_; have BK178 := n1_; have GW178 := n2_; have GE178 := n3_; clear n0_ n1_ n2_ n3_; clear hb hbox hg))
   have n0_ := Aside0.mk (blk_drew BK178.out)
   have n1_ := Aside0.mk (below_drew1 HB.out)
   clear BK178
   clear HB
   have BK178 := n0_
   have HB := n1_
   clear n0_ n1_
   refine start_ (n := 12) (S := fun w' => w'.cell? ⟨gb178, 0, none⟩ = some (.int .i64 a0_0) ∧ w'.cell? ⟨gb178, 1, none⟩ = some (.slice A0_1 l0_1.length c0_1) ∧ w'.cell? ⟨gb178, 2, none⟩ = some (.slice A0_2 l0_2.length c0_2) ∧ w'.cell? ⟨gb178, 3, none⟩ = some (.int .i64 a0_3) ∧ w'.cell? ⟨gb178, 4, none⟩ = some (.string a0_4)) (ds := []) #[false, false, false, false, false, false, false, false, false, false, false, false] (by kernel_rfl) rfl rfl ⟨(blk_cell BK178.out 0).trans rfl, (blk_cell BK178.out 1).trans rfl, (blk_cell BK178.out 2).trans rfl, (blk_cell BK178.out 3).trans rfl, (blk_cell BK178.out 4).trans rfl⟩ (fun hHeld => ?_); refine with_tabW script_Text.tab1 script_Text.bits1 (fun HT_ HW_ => ?_)
   generalize w8.drew = w9 at BK178 HB hHeld ⊢
   refine pure_ (i := 0) (N := some 6) (v := ?_) (a' := ?_) #[true, false, false, false, false, false, false, false, false, false, false, false] rfl rfl (any_of HT_.out (by kernel_rfl)) (fun _ _ _ h => h) (Or.inl ⟨by rfl, ?_⟩) ?_ ?_
   rotate_left
   ·intro w'
    go_simp
    with_reducible rfl
   rotate_left
   ·simp only [Act.put, List.setIfInBounds_toArray, List.set_cons_zero, List.set_cons_succ, i64_w, i32_w]
    rfl
   refine pure_ (i := 3) (N := some 9) (v := ?_) (a' := ?_) #[true, false, false, true, false, false, false, false, false, false, false, false] rfl rfl (any_of HT_.out (by kernel_rfl)) (fun _ _ _ h => h) (Or.inl ⟨by rfl, ?_⟩) ?_ ?_
   rotate_left
   ·intro w'
    go_simp
    with_reducible rfl
   rotate_left
   ·simp only [Act.put, List.setIfInBounds_toArray, List.set_cons_zero, List.set_cons_succ, i64_w, i32_w]
    rfl
   refine pure_ (i := 6) (N := some 12) (v := ?_) (a' := ?_) #[true, false, false, true, false, false, true, false, false, false, false, false] rfl rfl (any_of HT_.out (by kernel_rfl)) (fun _ _ _ h => h) (Or.inl ⟨by rfl, ?_⟩) ?_ ?_
   rotate_left
   ·intro w'
    go_simp
    with_reducible rfl
   rotate_left
   ·simp only [Act.put, List.setIfInBounds_toArray, List.set_cons_zero, List.set_cons_succ, i64_w, i32_w]
    rfl
   refine take_ (i := 1) (N := some 7) (v := ?_) (a' := ?_) #[true, true, false, true, false, false, true, false, false, false, false, false] rfl rfl (take_ofW HT_.out HW_.out (by kernel_rfl)) (fun _ _ _ h => h) (Or.inl ⟨by rfl, ?_⟩) hHeld ?_ ?_
   rotate_left
   ·rintro w' ⟨s0, s1, s2, s3, s4⟩
    go_simp
    with_reducible rfl
   rotate_left
   ·simp only [Act.put, List.setIfInBounds_toArray, List.set_cons_zero, List.set_cons_succ, i64_w, i32_w]
    rfl
   refine take_ (i := 4) (N := some 10) (v := ?_) (a' := ?_) #[true, true, false, true, true, false, true, false, false, false, false, false] rfl rfl (take_ofW HT_.out HW_.out (by kernel_rfl)) (fun _ _ _ h => h) (Or.inl ⟨by rfl, ?_⟩) hHeld ?_ ?_
   rotate_left
   ·rintro w' ⟨s0, s1, s2, s3, s4⟩
    go_simp
    with_reducible rfl
   rotate_left
   ·simp only [Act.put, List.setIfInBounds_toArray, List.set_cons_zero, List.set_cons_succ, i64_w, i32_w]
    rfl
   refine take_ (i := 7) (N := some 13) (v := ?_) (a' := ?_) #[true, true, false, true, true, false, true, true, false, false, false, false] rfl rfl (take_ofW HT_.out HW_.out (by kernel_rfl)) (fun _ _ _ h => h) (Or.inl ⟨by rfl, ?_⟩) hHeld ?_ ?_
   rotate_left
   ·rintro w' ⟨s0, s1, s2, s3, s4⟩
    go_simp
    with_reducible rfl
   rotate_left
   ·simp only [Act.put, List.setIfInBounds_toArray, List.set_cons_zero, List.set_cons_succ, i64_w, i32_w]
    rfl
   refine pure_ (i := 8) (N := some 14) (v := ?_) (a' := ?_) #[true, true, false, true, true, false, true, true, true, false, false, false] rfl rfl (any_of HT_.out (by kernel_rfl)) (fun _ _ _ h => h) (Or.inl ⟨by rfl, ?_⟩) ?_ ?_
   rotate_left
   ·intro w'
    go_simp
    with_reducible rfl
   rotate_left
   ·simp only [Act.put, List.setIfInBounds_toArray, List.set_cons_zero, List.set_cons_succ, i64_w, i32_w]
    rfl
   refine one_ (i := 2) (N := some 8) #[true, true, true, true, true, false, true, true, true, false, false, false] rfl rfl (one_of HT_.out (by kernel_rfl)) (by decide) (fun K hK => ?_)
   refine goes_ Tryd.func20 (by kernel_rfl) rfl #[.int .i64 a0_0] (by rfl) rfl rfl (by (try simp only [List.map_toArray, List.map_cons, List.map_nil]); first | done | rfl | (simp only [List.length_drop, List.length_take]; rfl)) ?_
   with_reducible refine (strconv_Itoa_20.calls a0_0 t179 _ (hWd.below (by repeat (first | (with_reducible first | exact HB.out | apply below_alloc | apply pw_below_drewN | apply below_drew1 | refine below_set ?_ GE178.out) | exact HB.out))) A2.out).mono ?_
   rintro e w10 ⟨rfl, hb⟩
   refine ⟨_, rfl, ?_⟩
   have n0_ := Aside0.mk (blk_below (g := gb178) (o := .cells #[.int .i64 a0_0, .slice A0_1 l0_1.length c0_1, .slice A0_2 l0_2.length c0_2, .int .i64 a0_3, .string a0_4] 36 (0, 0)) (by (with_reducible repeat (first | refine blk_drewN ?_ _ | refine blk_drew ?_ | refine blk_alloc ?_ _)); exact BK178.out) hb)
   have n1_ := Aside0.mk (below_step (by repeat (first | (with_reducible first | exact HB.out | apply below_alloc | apply pw_below_drewN | apply below_drew1 | refine below_set ?_ GE178.out) | exact HB.out)) hb)
   clear BK178
   clear HB
   have BK178 := n0_
   have HB := n1_
   clear n0_ n1_
   (try clear hb)
   (try clear hb2)
   (try clear hk)
   (try clear hi)
   refine hK.out _ _ ⟨(blk_cell BK178.out 0).trans rfl, (blk_cell BK178.out 1).trans rfl, (blk_cell BK178.out 2).trans rfl, (blk_cell BK178.out 3).trans rfl, (blk_cell BK178.out 4).trans rfl⟩ (fun hHeld => ?_)
   clear hK K
   refine norm_ (a' := ?_) ?_ ?_
   rotate_left
   ·show Act.put _ (some 8) _ = _
    simp only [Act.put, List.setIfInBounds_toArray, List.set_cons_zero, List.set_cons_succ, i64_w, i32_w]
    rfl
   refine one_ (i := 5) (N := some 11) #[true, true, true, true, true, true, true, true, true, false, false, false] rfl rfl (one_of HT_.out (by kernel_rfl)) (by decide) (fun K hK => ?_)
   refine goes_ Tryd.func20 (by kernel_rfl) rfl #[.int .i64 a0_3] (by rfl) rfl rfl (by (try simp only [List.map_toArray, List.map_cons, List.map_nil]); first | done | rfl | (simp only [List.length_drop, List.length_take]; rfl)) ?_
   with_reducible refine (strconv_Itoa_20.calls a0_3 t180 _ (hWd.below (by repeat (first | (with_reducible first | exact HB.out | apply below_alloc | apply pw_below_drewN | apply below_drew1 | refine below_set ?_ GE178.out) | exact HB.out))) A3.out).mono ?_
   rintro e w11 ⟨rfl, hb⟩
   refine ⟨_, rfl, ?_⟩
   have n0_ := Aside0.mk (blk_below (g := gb178) (o := .cells #[.int .i64 a0_0, .slice A0_1 l0_1.length c0_1, .slice A0_2 l0_2.length c0_2, .int .i64 a0_3, .string a0_4] 36 (0, 0)) (by (with_reducible repeat (first | refine blk_drewN ?_ _ | refine blk_drew ?_ | refine blk_alloc ?_ _)); exact BK178.out) hb)
   have n1_ := Aside0.mk (below_step (by repeat (first | (with_reducible first | exact HB.out | apply below_alloc | apply pw_below_drewN | apply below_drew1 | refine below_set ?_ GE178.out) | exact HB.out)) hb)
   clear BK178
   clear HB
   have BK178 := n0_
   have HB := n1_
   clear n0_ n1_
   (try clear hb)
   (try clear hb2)
   (try clear hk)
   (try clear hi)
   refine hK.out _ _ ⟨(blk_cell BK178.out 0).trans rfl, (blk_cell BK178.out 1).trans rfl, (blk_cell BK178.out 2).trans rfl, (blk_cell BK178.out 3).trans rfl, (blk_cell BK178.out 4).trans rfl⟩ (fun hHeld => ?_)
   clear hK K
   refine norm_ (a' := ?_) ?_ ?_
   rotate_left
   ·show Act.put _ (some 11) _ = _
    simp only [Act.put, List.setIfInBounds_toArray, List.set_cons_zero, List.set_cons_succ, i64_w, i32_w]
    rfl
   refine one_ (i := 9) (N := some 15) #[true, true, true, true, true, true, true, true, true, true, false, false] rfl rfl (one_of HT_.out (by kernel_rfl)) (by decide) (fun K hK => ?_)
   refine goes_ Tryd.func20 (by kernel_rfl) rfl #[.int .i64 (l0_1.length : Int)] (by rfl) rfl rfl (by (try simp only [List.map_toArray, List.map_cons, List.map_nil]); first | done | rfl | (simp only [List.length_drop, List.length_take]; rfl)) ?_
   with_reducible refine (strconv_Itoa_20.calls (l0_1.length : Int) t181 _ (hWd.below (by repeat (first | (with_reducible first | exact HB.out | apply below_alloc | apply pw_below_drewN | apply below_drew1 | refine below_set ?_ GE178.out) | exact HB.out))) A4.out).mono ?_
   rintro e w12 ⟨rfl, hb⟩
   refine ⟨_, rfl, ?_⟩
   have n0_ := Aside0.mk (blk_below (g := gb178) (o := .cells #[.int .i64 a0_0, .slice A0_1 l0_1.length c0_1, .slice A0_2 l0_2.length c0_2, .int .i64 a0_3, .string a0_4] 36 (0, 0)) (by (with_reducible repeat (first | refine blk_drewN ?_ _ | refine blk_drew ?_ | refine blk_alloc ?_ _)); exact BK178.out) hb)
   have n1_ := Aside0.mk (below_step (by repeat (first | (with_reducible first | exact HB.out | apply below_alloc | apply pw_below_drewN | apply below_drew1 | refine below_set ?_ GE178.out) | exact HB.out)) hb)
   clear BK178
   clear HB
   have BK178 := n0_
   have HB := n1_
   clear n0_ n1_
   (try clear hb)
   (try clear hb2)
   (try clear hk)
   (try clear hi)
   refine hK.out _ _ ⟨(blk_cell BK178.out 0).trans rfl, (blk_cell BK178.out 1).trans rfl, (blk_cell BK178.out 2).trans rfl, (blk_cell BK178.out 3).trans rfl, (blk_cell BK178.out 4).trans rfl⟩ (fun hHeld => ?_)
   clear hK K
   refine norm_ (a' := ?_) ?_ ?_
   rotate_left
   ·show Act.put _ (some 15) _ = _
    simp only [Act.put, List.setIfInBounds_toArray, List.set_cons_zero, List.set_cons_succ, i64_w, i32_w]
    rfl
   refine one_ (i := 10) (N := some 16) #[true, true, true, true, true, true, true, true, true, true, true, false] rfl rfl (one_of HT_.out (by kernel_rfl)) (by decide) (fun K hK => ?_)
   refine Kd.R_lit_step Kd.string _ 9 ?hg (N := 16) ?hd (xs := ([t179, t180, t181] : List ByteArray)) (inner := [.string t179, .string t180, .string t181]) (ok := fun _ => True) (okp := fun _ => True) ?hr ?hp (fun _ hk => hk) trivial (Below.refl _ _) (Nat.le_refl _) (by simp) ?_; (case hd => rfl); (case hg => rfl); (case hr => first | (go_simp; done) | (go_simp; rfl)); (case hp => exact (Reps.one (show Kd.M Kd.string _ _ _ t179 [.string t179] from rfl) (Reps.one (show Kd.M Kd.string _ _ _ t180 [.string t180] from rfl) (Reps.one (show Kd.M Kd.string _ _ _ t181 [.string t181] from rfl) (Reps.none _ _)))))
   intro v183 w13 ho14 hb hg_ hnew_
   clear hg_ hnew_
   (first | rw [← Ny182.out] at ho14 | (simp only [Int.reduceToNat] at ho14; rw [← Ny182.out] at ho14))
   have n0_ := Aside0.mk (Kd.R_lower ho14 (below_size (by repeat (first | (with_reducible first | exact HB.out | apply below_alloc | apply pw_below_drewN | apply below_drew1 | refine below_set ?_ GE178.out) | exact HB.out))))
   have n1_ := Aside0.mk (blk_below (g := gb178) (o := .cells #[.int .i64 a0_0, .slice A0_1 l0_1.length c0_1, .slice A0_2 l0_2.length c0_2, .int .i64 a0_3, .string a0_4] 36 (0, 0)) (by (with_reducible repeat (first | refine blk_drewN ?_ _ | refine blk_drew ?_ | refine blk_alloc ?_ _)); exact BK178.out) hb)
   have n2_ := Aside0.mk (below_step (by repeat (first | (with_reducible first | exact HB.out | apply below_alloc | apply pw_below_drewN | apply below_drew1 | refine below_set ?_ GE178.out) | exact HB.out)) hb)
   clear BK178
   clear HB
   have HO184 := n0_
   have BK178 := n1_
   have HB := n2_
   clear n0_ n1_ n2_
   clear hb ho14
   refine hK.out _ _ ⟨(blk_cell BK178.out 0).trans rfl, (blk_cell BK178.out 1).trans rfl, (blk_cell BK178.out 2).trans rfl, (blk_cell BK178.out 3).trans rfl, (blk_cell BK178.out 4).trans rfl⟩ (fun hHeld => ?_)
   clear hK K
   refine norm_ (a' := ?_) ?_ ?_
   rotate_left
   ·show Act.put _ (some 16) _ = _
    simp only [Act.put, List.setIfInBounds_toArray, List.set_cons_zero, List.set_cons_succ, i64_w, i32_w]
    rfl
   refine pure_ (i := 11) (N := some 3) (v := ?_) (a' := ?_) #[true, true, true, true, true, true, true, true, true, true, true, true] rfl rfl (any_of HT_.out (by kernel_rfl)) (fun _ _ _ h => h) (Or.inl ⟨by rfl, ?_⟩) ?_ ?_
   rotate_left
   ·intro w'
    go_simp
    with_reducible rfl
   rotate_left
   ·simp only [Act.put, List.setIfInBounds_toArray, List.set_cons_zero, List.set_cons_succ, i64_w, i32_w]
    rfl
   refine done_ (done_of HT_.out (by kernel_rfl)) ?_
   try go_wp2
   have n0_ := Aside0.mk (Kd.R_drew HO184.out)
   have n1_ := Aside0.mk (blk_drew BK178.out)
   have n2_ := Aside0.mk (below_drew1 HB.out)
   clear HO184
   clear BK178
   clear HB
   have HO184 := n0_
   have BK178 := n1_
   have HB := n2_
   clear n0_ n1_ n2_
   refine start_ (n := 11) (S := fun w' => w'.cell? ⟨gb178, 0, none⟩ = some (.int .i64 a0_0) ∧ w'.cell? ⟨gb178, 1, none⟩ = some (.slice A0_1 l0_1.length c0_1) ∧ w'.cell? ⟨gb178, 2, none⟩ = some (.slice A0_2 l0_2.length c0_2) ∧ w'.cell? ⟨gb178, 3, none⟩ = some (.int .i64 a0_3) ∧ w'.cell? ⟨gb178, 4, none⟩ = some (.string a0_4)) (ds := []) #[false, false, false, false, false, false, false, false, false, false, false] (by kernel_rfl) rfl rfl ⟨(blk_cell BK178.out 0).trans rfl, (blk_cell BK178.out 1).trans rfl, (blk_cell BK178.out 2).trans rfl, (blk_cell BK178.out 3).trans rfl, (blk_cell BK178.out 4).trans rfl⟩ (fun hHeld => ?_); refine with_tabW script_Text.tab2 script_Text.bits2 (fun HT_ HW_ => ?_)
   generalize w13.drew = w15 at HO184 BK178 HB hHeld ⊢
   refine pure_ (i := 0) (N := some 17) (v := ?_) (a' := ?_) #[true, false, false, false, false, false, false, false, false, false, false] rfl rfl (any_of HT_.out (by kernel_rfl)) (fun _ _ _ h => h) (Or.inl ⟨by rfl, ?_⟩) ?_ ?_
   rotate_left
   ·intro w'
    go_simp
    with_reducible rfl
   rotate_left
   ·simp only [Act.put, List.setIfInBounds_toArray, List.set_cons_zero, List.set_cons_succ, i64_w, i32_w]
    rfl
   refine pure_ (i := 1) (N := some 18) (v := ?_) (a' := ?_) #[true, true, false, false, false, false, false, false, false, false, false] rfl rfl (any_of HT_.out (by kernel_rfl)) (fun _ _ _ h => h) (Or.inl ⟨by rfl, ?_⟩) ?_ ?_
   rotate_left
   ·intro w'
    go_simp
    with_reducible rfl
   rotate_left
   ·simp only [Act.put, List.setIfInBounds_toArray, List.set_cons_zero, List.set_cons_succ, i64_w, i32_w]
    rfl
   refine pure_ (i := 4) (N := some 21) (v := ?_) (a' := ?_) #[true, true, false, false, true, false, false, false, false, false, false] rfl rfl (any_of HT_.out (by kernel_rfl)) (fun _ _ _ h => h) (Or.inl ⟨by rfl, ?_⟩) ?_ ?_
   rotate_left
   ·intro w'
    go_simp
    with_reducible rfl
   rotate_left
   ·simp only [Act.put, List.setIfInBounds_toArray, List.set_cons_zero, List.set_cons_succ, i64_w, i32_w]
    rfl
   refine take_ (i := 2) (N := some 19) (v := ?_) (a' := ?_) #[true, true, true, false, true, false, false, false, false, false, false] rfl rfl (take_ofW HT_.out HW_.out (by kernel_rfl)) (fun _ _ _ h => h) (Or.inl ⟨by rfl, ?_⟩) hHeld ?_ ?_
   rotate_left
   ·rintro w' ⟨s0, s1, s2, s3, s4⟩
    go_simp
    with_reducible rfl
   rotate_left
   ·simp only [Act.put, List.setIfInBounds_toArray, List.set_cons_zero, List.set_cons_succ, i64_w, i32_w]
    rfl
   refine take_ (i := 5) (N := some 22) (v := ?_) (a' := ?_) #[true, true, true, false, true, true, false, false, false, false, false] rfl rfl (take_ofW HT_.out HW_.out (by kernel_rfl)) (fun _ _ _ h => h) (Or.inl ⟨by rfl, ?_⟩) hHeld ?_ ?_
   rotate_left
   ·rintro w' ⟨s0, s1, s2, s3, s4⟩
    go_simp
    with_reducible rfl
   rotate_left
   ·simp only [Act.put, List.setIfInBounds_toArray, List.set_cons_zero, List.set_cons_succ, i64_w, i32_w]
    rfl
   refine pure_ (i := 6) (N := some 23) (v := ?_) (a' := ?_) #[true, true, true, false, true, true, true, false, false, false, false] rfl rfl (any_of HT_.out (by kernel_rfl)) (fun _ _ _ h => h) (Or.inl ⟨by rfl, ?_⟩) ?_ ?_
   rotate_left
   ·intro w'
    go_simp
    with_reducible rfl
   rotate_left
   ·simp only [Act.put, List.setIfInBounds_toArray, List.set_cons_zero, List.set_cons_succ, i64_w, i32_w]
    rfl
   refine one_ (i := 3) (N := some 20) #[true, true, true, true, true, true, true, false, false, false, false] rfl rfl (one_of HT_.out (by kernel_rfl)) (by decide) (fun K hK => ?_)
   refine Kd.R_append_rows_step Kd.string (w0 := w) w.heap.size (by rfl) (.tmp 17) (.tmp 19) 22 9 (.string ⟨#[]⟩) 16 rfl Tryd.underlying22 info9 rfl (by decide) (by omega) v183 y182 l0_1 _ _ _ (fun _ => True) (fun _ => False) rfl rfl ?aO ?aR (fun _ _ h => h) (fun _ h => h.elim) ?aF ?aB ?aS ?aL ?_
   (case aR => repeat (first | exact (Kd.C_below HR0_1.out HB.out) | (with_reducible refine Kd.C_alloc ?_ _) | (with_reducible refine Kd.C_drewN ?_ _) | (with_reducible refine Kd.C_drew ?_)))
   (case aB => exact (by repeat (first | (with_reducible first | exact HB.out | apply below_alloc | apply pw_below_drewN | apply below_drew1 | refine below_set ?_ GE178.out) | exact HB.out)))
   (case aF => exact (fun _ _ => trivial))
   (case aO => exact (by (with_reducible repeat (first | apply Kd.R_alloc | apply Kd.R_drewN | apply Kd.R_drew)); exact HO184.out))
   (case aS => exact (below_size (by repeat (first | (with_reducible first | exact HB.out | apply below_alloc | apply pw_below_drewN | apply below_drew1 | refine below_set ?_ GE178.out) | exact HB.out))))
   (case aL => have := LMc5.out; omega)
   intro v186 w16 ho hb hg hat
   rw [← Ny185.out] at ho
   have n0_ := Aside0.mk (blk_grown (g := gb178) (o := .cells #[.int .i64 a0_0, .slice A0_1 l0_1.length c0_1, .slice A0_2 l0_2.length c0_2, .int .i64 a0_3, .string a0_4] 36 (0, 0)) (by (with_reducible repeat (first | refine blk_drewN ?_ _ | refine blk_drew ?_ | refine blk_alloc ?_ _)); exact BK178.out) hg (Kd.R_ne HO184.out BK178.out (by decide)))
   have n1_ := Aside0.mk (hb)
   have n2_ := Aside0.mk (ho)
   clear BK178
   clear HB
   clear HO184
   have BK178 := n0_
   have HB := n1_
   have HO187 := n2_
   clear n0_ n1_ n2_
   clear ho hb hg hat
   refine hK.out _ _ ⟨(blk_cell BK178.out 0).trans rfl, (blk_cell BK178.out 1).trans rfl, (blk_cell BK178.out 2).trans rfl, (blk_cell BK178.out 3).trans rfl, (blk_cell BK178.out 4).trans rfl⟩ (fun hHeld => ?_)
   clear hK K
   refine norm_ (a' := ?_) ?_ ?_
   rotate_left
   ·show Act.put _ (some 20) _ = _
    simp only [Act.put, List.setIfInBounds_toArray, List.set_cons_zero, List.set_cons_succ, i64_w, i32_w]
    rfl
   refine one_ (i := 7) (N := some 24) #[true, true, true, true, true, true, true, true, false, false, false] rfl rfl (one_of HT_.out (by kernel_rfl)) (by decide) (fun K hK => ?_)
   refine goes_ Tryd.func20 (by kernel_rfl) rfl #[.int .i64 (l0_2.length : Int)] (by rfl) rfl rfl (by (try simp only [List.map_toArray, List.map_cons, List.map_nil]); first | done | rfl | (simp only [List.length_drop, List.length_take]; rfl)) ?_
   with_reducible refine (strconv_Itoa_20.calls (l0_2.length : Int) t188 _ (hWd.below (by repeat (first | (with_reducible first | exact HB.out | apply below_alloc | apply pw_below_drewN | apply below_drew1 | refine below_set ?_ GE178.out) | exact HB.out))) A6.out).mono ?_
   rintro e w17 ⟨rfl, hb⟩
   refine ⟨_, rfl, ?_⟩
   have n0_ := Aside0.mk (Kd.R_below (by (with_reducible repeat (first | apply Kd.R_alloc | apply Kd.R_drewN | apply Kd.R_drew)); exact HO187.out) hb)
   have n1_ := Aside0.mk (blk_below (g := gb178) (o := .cells #[.int .i64 a0_0, .slice A0_1 l0_1.length c0_1, .slice A0_2 l0_2.length c0_2, .int .i64 a0_3, .string a0_4] 36 (0, 0)) (by (with_reducible repeat (first | refine blk_drewN ?_ _ | refine blk_drew ?_ | refine blk_alloc ?_ _)); exact BK178.out) hb)
   have n2_ := Aside0.mk (below_step (by repeat (first | (with_reducible first | exact HB.out | apply below_alloc | apply pw_below_drewN | apply below_drew1 | refine below_set ?_ GE178.out) | exact HB.out)) hb)
   clear HO187
   clear BK178
   clear HB
   have HO187 := n0_
   have BK178 := n1_
   have HB := n2_
   clear n0_ n1_ n2_
   (try clear hb)
   (try clear hb2)
   (try clear hk)
   (try clear hi)
   refine hK.out _ _ ⟨(blk_cell BK178.out 0).trans rfl, (blk_cell BK178.out 1).trans rfl, (blk_cell BK178.out 2).trans rfl, (blk_cell BK178.out 3).trans rfl, (blk_cell BK178.out 4).trans rfl⟩ (fun hHeld => ?_)
   clear hK K
   refine norm_ (a' := ?_) ?_ ?_
   rotate_left
   ·show Act.put _ (some 24) _ = _
    simp only [Act.put, List.setIfInBounds_toArray, List.set_cons_zero, List.set_cons_succ, i64_w, i32_w]
    rfl
   refine one_ (i := 8) (N := some 25) #[true, true, true, true, true, true, true, true, true, false, false] rfl rfl (one_of HT_.out (by kernel_rfl)) (by decide) (fun K hK => ?_)
   refine value_ (w1 := ?_) (v := ?_) (by rfl) rfl ?_ ?_
   rotate_left 2
   ·go_simp
    constructor
    ·rfl
    ·rfl
   refine hK.out _ _ ⟨(blk_cell (blk_alloc BK178.out _) 0).trans rfl, (blk_cell (blk_alloc BK178.out _) 1).trans rfl, (blk_cell (blk_alloc BK178.out _) 2).trans rfl, (blk_cell (blk_alloc BK178.out _) 3).trans rfl, (blk_cell (blk_alloc BK178.out _) 4).trans rfl⟩ (fun hHeld => ?_)
   clear hK K
   refine norm_ (a' := ?_) ?_ ?_
   rotate_left
   ·show Act.put _ (some 25) _ = _
    simp only [Act.put, List.setIfInBounds_toArray, List.set_cons_zero, List.set_cons_succ, i64_w, i32_w]
    rfl
   refine one_ (i := 9) (N := some 26) #[true, true, true, true, true, true, true, true, true, true, false] rfl rfl (one_of HT_.out (by kernel_rfl)) (by decide) (fun K hK => ?_)
   refine Kd.R_append_step Kd.string (w0 := w) w.heap.size (by rfl) (.tmp 20) (.tmp 25) 22 9 (.string ⟨#[]⟩) 16 rfl Tryd.underlying22 info9 rfl (by decide) (by omega) v186 y185 t188 [.string t188] (fun _ => True) (fun _ => False) rfl rfl ?aP (fun _ hk => hk.elim) ?aF ?aO ?aB ?aS ?aL ?_
   (case aP => exact rfl)
   (case aB => exact (by repeat (first | (with_reducible first | exact HB.out | apply below_alloc | apply pw_below_drewN | apply below_drew1 | refine below_set ?_ GE178.out) | exact HB.out)))
   (case aF => exact (fun _ _ => trivial))
   (case aO => exact (by (with_reducible repeat (first | apply Kd.R_alloc | apply Kd.R_drewN | apply Kd.R_drew)); exact HO187.out))
   (case aS => exact (below_size (by repeat (first | (with_reducible first | exact HB.out | apply below_alloc | apply pw_below_drewN | apply below_drew1 | refine below_set ?_ GE178.out) | exact HB.out))))
   (case aL => have := LMc7.out; omega)
   intro v190 w18 ho hb hg hat
   rw [← Ny189.out] at ho
   have n0_ := Aside0.mk (blk_grown (g := gb178) (o := .cells #[.int .i64 a0_0, .slice A0_1 l0_1.length c0_1, .slice A0_2 l0_2.length c0_2, .int .i64 a0_3, .string a0_4] 36 (0, 0)) (by (with_reducible repeat (first | refine blk_drewN ?_ _ | refine blk_drew ?_ | refine blk_alloc ?_ _)); exact BK178.out) hg (Kd.R_ne HO187.out BK178.out (by decide)))
   have n1_ := Aside0.mk (hb)
   have n2_ := Aside0.mk (ho)
   clear BK178
   clear HB
   clear HO187
   have BK178 := n0_
   have HB := n1_
   have HO191 := n2_
   clear n0_ n1_ n2_
   clear ho hb hg hat
   refine hK.out _ _ ⟨(blk_cell BK178.out 0).trans rfl, (blk_cell BK178.out 1).trans rfl, (blk_cell BK178.out 2).trans rfl, (blk_cell BK178.out 3).trans rfl, (blk_cell BK178.out 4).trans rfl⟩ (fun hHeld => ?_)
   clear hK K
   refine norm_ (a' := ?_) ?_ ?_
   rotate_left
   ·show Act.put _ (some 26) _ = _
    simp only [Act.put, List.setIfInBounds_toArray, List.set_cons_zero, List.set_cons_succ, i64_w, i32_w]
    rfl
   refine pure_ (i := 10) (N := some 3) (v := ?_) (a' := ?_) #[true, true, true, true, true, true, true, true, true, true, true] rfl rfl (any_of HT_.out (by kernel_rfl)) (fun _ _ _ h => h) (Or.inl ⟨by rfl, ?_⟩) ?_ ?_
   rotate_left
   ·intro w'
    go_simp
    with_reducible rfl
   rotate_left
   ·simp only [Act.put, List.setIfInBounds_toArray, List.set_cons_zero, List.set_cons_succ, i64_w, i32_w]
    rfl
   refine done_ (done_of HT_.out (by kernel_rfl)) ?_
   have hcz19_0 : w18.cell? ⟨gb178, 0, none⟩ = some (.int .i64 a0_0) := (blk_cell BK178.out 0).trans rfl
   have hcz19_1 : w18.cell? ⟨gb178, 1, none⟩ = some (.slice A0_1 l0_1.length c0_1) := (blk_cell BK178.out 1).trans rfl
   have hcz19_2 : w18.cell? ⟨gb178, 2, none⟩ = some (.slice A0_2 l0_2.length c0_2) := (blk_cell BK178.out 2).trans rfl
   have hcz19_3 : w18.cell? ⟨gb178, 3, none⟩ = some (.int .i64 a0_3) := (blk_cell BK178.out 3).trans rfl
   have hcz19_4 : w18.cell? ⟨gb178, 4, none⟩ = some (.string a0_4) := (blk_cell BK178.out 4).trans rfl
   have hfz19_0 := blk_frozen BK178.out 0
   have hfz19_1 := blk_frozen BK178.out 1
   have hfz19_2 := blk_frozen BK178.out 2
   have hfz19_3 := blk_frozen BK178.out 3
   have hfz19_4 := blk_frozen BK178.out 4
   try go_wp2
   go_loopg [3, 30] k (fun kq v3 v30 w' => ∃ (x3_1 : List ByteArray) (x30_1 : Int), v30 = .int .i64 x30_1 ∧ Aside0 (script_Text.l0 kq x3_1 l0_2 (l0_2.length : Int) x30_1 a0_0 l0_1 l0_2 a0_3 a0_4 = some r) ∧ Aside0 (kq ≤ k) ∧ Aside0 (Kd.R Kd.string 9 w' w.heap.size (fun _ => True) v3 x3_1) ∧ Aside0 (w'.heap[gb178]? = some (.cells #[.int .i64 a0_0, (.slice A0_1 l0_1.length c0_1), (.slice A0_2 l0_2.length c0_2), .int .i64 a0_3, .string a0_4] 36 (0, 0))) ∧ Aside0 (Below w.heap.size w w'))
   case atStart => exact ⟨(y189), (0), (by first | rfl | (simp; done) | (simp [*]; done)), H', ⟨Nat.le_refl _⟩, ⟨by (with_reducible repeat (first | apply Kd.R_alloc | apply Kd.R_drewN | apply Kd.R_drew)); exact HO191.out⟩, ⟨by (with_reducible repeat (first | refine blk_drewN ?_ _ | refine blk_drew ?_ | refine blk_alloc ?_ _)); exact BK178.out⟩, ⟨by repeat (first | (with_reducible first | exact HB.out | apply below_alloc | apply pw_below_drewN | apply below_drew1 | refine below_set ?_ GE178.out) | exact HB.out)⟩⟩
   case round =>
    clear H'
    try clear c1
    try clear c2
    try clear p2
    try clear c5
    try clear c7
    try clear c13
    try clear hcz19_0
    try clear hcz19_1
    try clear hcz19_2
    try clear hcz19_3
    try clear hcz19_4
    try clear hfz19_0
    try clear hfz19_1
    try clear hfz19_2
    try clear hfz19_3
    try clear hfz19_4
    obtain ⟨x3_1, x30_1, rfl, HA, HK1, HO_3, BK178, HB⟩ := hrel
    cases gk with
    | zero => exact absurd HA.out (by simp [script_Text.l0])
    | succ k1 =>
     have H := HA.out
     clear HA
     simp only [script_Text.l0] at H
     by_cases c20 : x30_1 < (l0_2.length : Int)
     ·rw [if_pos c20] at H
      have c20b0 : decide (x30_1 < (l0_2.length : Int)) = true := decide_eq_true c20
      clear c20
      by_cases c21 : 0 ≤ x30_1
      ·rw [if_pos c21] at H
       have c21b0 : decide (0 ≤ x30_1) = true := decide_eq_true c21
       clear c21
       by_cases c22 : x30_1 < (l0_2.length : Int)
       ·rw [if_pos c22] at H
        have c22b0 : decide (x30_1 < (l0_2.length : Int)) = true := decide_eq_true c22
        clear c22
        replace H := Option.bind_eq_some_iff.mp H
        obtain ⟨t193, A230, H⟩ := H
        replace H : (if x3_1.length < 8796093022208 then (script_Text.l0 k1 (x3_1 ++ [t193]) l0_2 (l0_2.length : Int) (wrap64 (x30_1 + 1)) a0_0 l0_1 l0_2 a0_3 a0_4) else (none)) = some r := H
        have A23 := Aside0.mk A230
        clear A230
        by_cases c24 : x3_1.length < 8796093022208
        ·rw [if_pos c24] at H
         have LMc24 := Aside0.mk c24
         clear c24
         obtain ⟨y194, hy194⟩ : ∃ y_ : List ByteArray, y_ = (x3_1 ++ [t193]) := ⟨_, rfl⟩
         replace H : (script_Text.l0 k1 y194 l0_2 (l0_2.length : Int) (wrap64 (x30_1 + 1)) a0_0 l0_1 l0_2 a0_3 a0_4) = some r := by first | (rw [hy194]; with_reducible exact H) | (have H2_ := (Option.bind_some _ _).symm.trans H; rw [hy194]; with_reducible exact H2_) | (have H2_ := (Option.bind_some _ _).symm.trans H; with_reducible exact H2_) | with_reducible exact H | (rw [hy194]; exact H) | exact H
         have Ny194 := Aside0.mk hy194
         clear hy194
         have H' := Aside0.mk H
         clear H
         have p192 : 0 ≤ (x30_1 : Int) := of_decide_eq_true (by first | (with_reducible assumption) | assumption)
         have q192 : x30_1 < (l0_2.length : Int) := of_decide_eq_true (by first | (with_reducible assumption) | assumption)
         obtain ⟨ad192, e192, hx192_0⟩ := Kd.at_string HR0_2.out x30_1 p192 q192
         cases e192
         replace hx192_0 := (HB.out.cell (World.block_lt_of_cell? w _ hx192_0)).trans hx192_0
         replace p192 := eq_true p192
         replace q192 := eq_true q192
         go_wp2_with (first | ((with_reducible refine gate_callee (f := 22) rfl ?_); refine goesL_ (some 36) rfl rfl Tryd.func22 (by kernel_rfl) rfl #[.string (rdOf ByteArray.empty l0_2 x30_1)] rfl (by (try simp only [List.map_toArray, List.map_cons, List.map_nil]); first | done | rfl | (simp only [List.length_drop, List.length_take]; rfl)) ?_; (with_reducible refine (script_word.calls (rdOf ByteArray.empty l0_2 x30_1) t193 _ A23.out).mono ?_); rintro e w25 ⟨rfl, hb⟩; refine ⟨_, rfl, ?_⟩; have n0_ := Aside0.mk (Kd.R_below (by (with_reducible repeat (first | apply Kd.R_alloc | apply Kd.R_drewN | apply Kd.R_drew)); exact HO_3.out) hb); have n1_ := Aside0.mk (blk_below (g := gb178) (o := .cells #[.int .i64 a0_0, .slice A0_1 l0_1.length c0_1, .slice (some ad192) l0_2.length c0_2, .int .i64 a0_3, .string a0_4] 36 (0, 0)) (by (with_reducible repeat (first | refine blk_drewN ?_ _ | refine blk_drew ?_ | refine blk_alloc ?_ _)); exact BK178.out) hb); have n2_ := Aside0.mk (below_step (by repeat (first | (with_reducible first | exact HB.out | apply below_alloc | apply pw_below_drewN | apply below_drew1 | refine below_set ?_ GE178.out) | exact HB.out)) hb); clear HO_3; clear BK178; clear HB; have HO_3 := n0_; have BK178 := n1_; have HB := n2_; clear n0_ n1_ n2_; (try clear hb); (try clear hb2); (try clear hk); (try clear hi)) | ((with_reducible refine gate_builtin (b := .append) (xs := #[.tmp 34, .tmp 37]) rfl ?_); at_builtin; refine Kd.R_append Kd.string (w0 := w) w.heap.size rfl (.tmp 34) (.tmp 37) 22 9 (.string ⟨#[]⟩) 16 rfl Tryd.underlying22 info9 rfl (by decide) (by omega) u3 x3_1 t193 [.string t193] (fun _ => True) (fun _ => False) rfl rfl ?aP (fun _ hk => hk.elim) ?aF ?aO ?aB ?aS ?aL ?_; (case aP => exact rfl); (case aB => exact (by repeat (first | (with_reducible first | exact HB.out | apply below_alloc | apply pw_below_drewN | apply below_drew1 | refine below_set ?_ GE178.out) | exact HB.out))); (case aF => exact (fun _ _ => trivial)); (case aO => exact (by (with_reducible repeat (first | apply Kd.R_alloc | apply Kd.R_drewN | apply Kd.R_drew)); exact HO_3.out)); (case aS => exact (below_size (by repeat (first | (with_reducible first | exact HB.out | apply below_alloc | apply pw_below_drewN | apply below_drew1 | refine below_set ?_ GE178.out) | exact HB.out)))); (case aL => have := LMc24.out; omega); intro v195 w26 ho hb hg hat; rw [← Ny194.out] at ho; have n0_ := Aside0.mk (blk_grown (g := gb178) (o := .cells #[.int .i64 a0_0, .slice A0_1 l0_1.length c0_1, .slice (some ad192) l0_2.length c0_2, .int .i64 a0_3, .string a0_4] 36 (0, 0)) (by (with_reducible repeat (first | refine blk_drewN ?_ _ | refine blk_drew ?_ | refine blk_alloc ?_ _)); exact BK178.out) hg (Kd.R_ne HO_3.out BK178.out (by decide))); have n1_ := Aside0.mk (hb); have n2_ := Aside0.mk (ho); clear BK178; clear HB; clear HO_3; have BK178 := n0_; have HB := n1_; have HO196 := n2_; clear n0_ n1_ n2_; clear ho hb hg hat))
         go_roundg k1
         case measure => have := HK1.out; omega
         case rel => exact ⟨(y194), (wrap64 (x30_1 + 1)), (by first | rfl | (simp; done) | (simp [*]; done)), H', ⟨by have := HK1.out; omega⟩, ⟨by (with_reducible repeat (first | apply Kd.R_alloc | apply Kd.R_drewN | apply Kd.R_drew)); exact HO196.out⟩, ⟨by (with_reducible repeat (first | refine blk_drewN ?_ _ | refine blk_drew ?_ | refine blk_alloc ?_ _)); exact BK178.out⟩, ⟨by repeat (first | (with_reducible first | exact HB.out | apply below_alloc | apply pw_below_drewN | apply below_drew1 | refine below_set ?_ GE178.out) | exact HB.out)⟩⟩
        ·rw [if_neg c24] at H
         exact absurd H (by simp)
       ·rw [if_neg c22] at H
        exact absurd H (by simp)
      ·rw [if_neg c21] at H
       exact absurd H (by simp)
     ·rw [if_neg c20] at H
      have c20b0 : decide (x30_1 < (l0_2.length : Int)) = false := decide_eq_false c20
      clear c20
      replace H := Option.bind_eq_some_iff.mp H
      obtain ⟨t197, A270, H⟩ := H
      replace H : (if x3_1.length < 8796093022208 then ((script_joined.f (x3_1 ++ [t197])).bind fun t201 => (some t201)) else (none)) = some r := H
      have A27 := Aside0.mk A270
      clear A270
      by_cases c28 : x3_1.length < 8796093022208
      ·rw [if_pos c28] at H
       have LMc28 := Aside0.mk c28
       clear c28
       obtain ⟨y198, hy198⟩ : ∃ y_ : List ByteArray, y_ = (x3_1 ++ [t197]) := ⟨_, rfl⟩
       replace H : ((script_joined.f y198).bind fun t201 => (some t201)) = some r := by first | (rw [hy198]; with_reducible exact H) | (have H2_ := (Option.bind_some _ _).symm.trans H; rw [hy198]; with_reducible exact H2_) | (have H2_ := (Option.bind_some _ _).symm.trans H; with_reducible exact H2_) | with_reducible exact H | (rw [hy198]; exact H) | exact H
       have Ny198 := Aside0.mk hy198
       clear hy198
       replace H := Option.bind_eq_some_iff.mp H
       obtain ⟨t201, A290, H⟩ := H
       replace H : (some t201) = some r := H
       have A29 := Aside0.mk A290
       clear A290
       obtain rfl := Option.some.inj H
       have hcz30_0 : wr.cell? ⟨gb178, 0, none⟩ = some (.int .i64 a0_0) := (blk_cell BK178.out 0).trans rfl
       have hcz30_1 : wr.cell? ⟨gb178, 1, none⟩ = some (.slice A0_1 l0_1.length c0_1) := (blk_cell BK178.out 1).trans rfl
       have hcz30_2 : wr.cell? ⟨gb178, 2, none⟩ = some (.slice A0_2 l0_2.length c0_2) := (blk_cell BK178.out 2).trans rfl
       have hcz30_3 : wr.cell? ⟨gb178, 3, none⟩ = some (.int .i64 a0_3) := (blk_cell BK178.out 3).trans rfl
       have hcz30_4 : wr.cell? ⟨gb178, 4, none⟩ = some (.string a0_4) := (blk_cell BK178.out 4).trans rfl
       have hfz30_0 := blk_frozen BK178.out 0
       have hfz30_1 := blk_frozen BK178.out 1
       have hfz30_2 := blk_frozen BK178.out 2
       have hfz30_3 := blk_frozen BK178.out 3
       have hfz30_4 := blk_frozen BK178.out 4
       go_wp2_with (first | ((with_reducible refine gate_callee (f := 22) rfl ?_); refine goesL_ (some 43) rfl rfl Tryd.func22 (by kernel_rfl) rfl #[.string a0_4] rfl (by (try simp only [List.map_toArray, List.map_cons, List.map_nil]); first | done | rfl | (simp only [List.length_drop, List.length_take]; rfl)) ?_; (with_reducible refine (script_word.calls a0_4 t197 _ A27.out).mono ?_); rintro e w31 ⟨rfl, hb⟩; refine ⟨_, rfl, ?_⟩; have n0_ := Aside0.mk (Kd.R_below (by (with_reducible repeat (first | apply Kd.R_alloc | apply Kd.R_drewN | apply Kd.R_drew)); exact HO_3.out) hb); have n1_ := Aside0.mk (blk_below (g := gb178) (o := .cells #[.int .i64 a0_0, .slice A0_1 l0_1.length c0_1, .slice A0_2 l0_2.length c0_2, .int .i64 a0_3, .string a0_4] 36 (0, 0)) (by (with_reducible repeat (first | refine blk_drewN ?_ _ | refine blk_drew ?_ | refine blk_alloc ?_ _)); exact BK178.out) hb); have n2_ := Aside0.mk (below_step (by repeat (first | (with_reducible first | exact HB.out | apply below_alloc | apply pw_below_drewN | apply below_drew1 | refine below_set ?_ GE178.out) | exact HB.out)) hb); clear HO_3; clear BK178; clear HB; have HO_3 := n0_; have BK178 := n1_; have HB := n2_; clear n0_ n1_ n2_; (try clear hb); (try clear hb2); (try clear hk); (try clear hi)) | ((with_reducible refine gate_builtin (b := .append) (xs := #[.tmp 40, .tmp 44]) rfl ?_); at_builtin; refine Kd.R_append Kd.string (w0 := w) w.heap.size rfl (.tmp 40) (.tmp 44) 22 9 (.string ⟨#[]⟩) 16 rfl Tryd.underlying22 info9 rfl (by decide) (by omega) u3 x3_1 t197 [.string t197] (fun _ => True) (fun _ => False) rfl rfl ?aP (fun _ hk => hk.elim) ?aF ?aO ?aB ?aS ?aL ?_; (case aP => exact rfl); (case aB => exact (by repeat (first | (with_reducible first | exact HB.out | apply below_alloc | apply pw_below_drewN | apply below_drew1 | refine below_set ?_ GE178.out) | exact HB.out))); (case aF => exact (fun _ _ => trivial)); (case aO => exact (by (with_reducible repeat (first | apply Kd.R_alloc | apply Kd.R_drewN | apply Kd.R_drew)); exact HO_3.out)); (case aS => exact (below_size (by repeat (first | (with_reducible first | exact HB.out | apply below_alloc | apply pw_below_drewN | apply below_drew1 | refine below_set ?_ GE178.out) | exact HB.out)))); (case aL => have := LMc28.out; omega); intro v199 w32 ho hb hg hat; rw [← Ny198.out] at ho; have n0_ := Aside0.mk (blk_grown (g := gb178) (o := .cells #[.int .i64 a0_0, .slice A0_1 l0_1.length c0_1, .slice A0_2 l0_2.length c0_2, .int .i64 a0_3, .string a0_4] 36 (0, 0)) (by (with_reducible repeat (first | refine blk_drewN ?_ _ | refine blk_drew ?_ | refine blk_alloc ?_ _)); exact BK178.out) hg (Kd.R_ne HO_3.out BK178.out (by decide))); have n1_ := Aside0.mk (hb); have n2_ := Aside0.mk (ho); clear BK178; clear HB; clear HO_3; have BK178 := n0_; have HB := n1_; have HO200 := n2_; clear n0_ n1_ n2_; clear ho hb hg hat; obtain ⟨Ao33, co33, eo33⟩ := Kd.R_slice HO200.out; subst eo33) | ((with_reducible refine gate_callee (f := 23) rfl ?_); refine goesL_ (some 46) rfl rfl Tryd.func23 (by kernel_rfl) rfl #[.slice Ao33 y198.length co33] rfl (by (try simp only [List.map_toArray, List.map_cons, List.map_nil]); first | done | rfl | (simp only [List.length_drop, List.length_take]; rfl)) ?_; (with_reducible refine (script_joined.calls _ _ y198 t201 _ ?side1 ?side2 A29.out).mono ?_); (case side1 => repeat (first | exact (Kd.R_reads' HO200.out).2.2 | (with_reducible refine Kd.C_alloc ?_ _) | (with_reducible refine Kd.C_drewN ?_ _) | (with_reducible refine Kd.C_drew ?_))); (case side2 => exact (Kd.R_reads' HO200.out).2.1); rintro e w34 ⟨rfl, hb⟩; refine ⟨_, rfl, ?_⟩; have n0_ := Aside0.mk (Kd.R_below (by (with_reducible repeat (first | apply Kd.R_alloc | apply Kd.R_drewN | apply Kd.R_drew)); exact HO200.out) hb); have n1_ := Aside0.mk (blk_below (g := gb178) (o := .cells #[.int .i64 a0_0, .slice A0_1 l0_1.length c0_1, .slice A0_2 l0_2.length c0_2, .int .i64 a0_3, .string a0_4] 36 (0, 0)) (by (with_reducible repeat (first | refine blk_drewN ?_ _ | refine blk_drew ?_ | refine blk_alloc ?_ _)); exact BK178.out) hb); have n2_ := Aside0.mk (below_step (by repeat (first | (with_reducible first | exact HB.out | apply below_alloc | apply pw_below_drewN | apply below_drew1 | refine below_set ?_ GE178.out) | exact HB.out)) hb); clear HO200; clear BK178; clear HB; have HO200 := n0_; have BK178 := n1_; have HB := n2_; clear n0_ n1_ n2_; (try clear hb); (try clear hb2); (try clear hk); (try clear hi)))
       go_ret
       exact ⟨by first | rfl | (simp [errW_none, errW_some] <;> rfl) | (simp [*, errW_none, errW_some] <;> rfl), by repeat (first | (with_reducible first | exact HB.out | apply below_alloc | apply pw_below_drewN | apply below_drew1 | refine below_set ?_ GE178.out) | exact HB.out)⟩
      ·rw [if_neg c28] at H
       exact absurd H (by simp)
  ·rw [if_neg c7] at H
   exact absurd H (by simp)
 ·rw [if_neg c5] at H
  exact absurd H (by simp)
end Go.Proofs.YtcmemgahgenpdaaDoor.PSc
end
section
namespace Go.Proofs.YtcmemgahgenpdaaDoor.Pure
open Go.RowKit Go.Proofs.YtcmemgahgenpdaaDoor.PSc Go.Proofs.YtcmemgahgenpdaaDoor.Hand Go.Proofs.YtcmemgahgenpdaaDoorW.PrintWords Go.Proofs.YtcmemgahgenpdaaDoorW.PrintLast
set_option linter.unusedVariables false
abbrev exS : ByteArray := ⟨#[102, 105, 114, 115, 116, 32, 111, 110, 101]⟩
abbrev exLine : ByteArray := ⟨#[99, 111, 109, 109, 105, 116, 32, 48, 32, 48, 32, 102, 105, 114, 115, 116, 37, 50, 48, 111, 110, 101]⟩
set_option maxRecDepth 100000 in
set_option maxHeartbeats 4000000 in
theorem ex_line : script_Line.f 30 5 [] 0 false exS = some (exLine, 0) := by
  unfold script_Line.f
  kernel_rfl
abbrev exR1 : ByteArray := ⟨#[97, 100, 100, 32, 45, 51, 32, 49, 32, 45, 32, 97, 32, 100, 47, 98]⟩
abbrev bA : ByteArray := ⟨#[97]⟩
abbrev bDB : ByteArray := ⟨#[100, 47, 98]⟩
theorem ex_split1 : splitQ exR1 = [⟨#[97, 100, 100]⟩, ⟨#[45, 51]⟩, ⟨#[49]⟩, ⟨#[45]⟩, bA, bDB] := by
  kernel_rfl
theorem ex_kind1 : kindQ ⟨#[97, 100, 100]⟩ = 3 := by kernel_rfl
theorem ex_num1 : numP ⟨#[45, 51]⟩ = (-3, true) := by kernel_rfl
theorem tq_empty : textQ ⟨#[45]⟩ = (⟨#[]⟩, true) := textQ_word ⟨#[]⟩ (of_decide_eq_true (by kernel_rfl))
theorem tq_a : textQ bA = (bA, true) := (congrArg textQ (show bA = wordS bA by kernel_rfl)).trans (textQ_word bA (of_decide_eq_true (by kernel_rfl)))
theorem tq_db : textQ bDB = (bDB, true) := (congrArg textQ (show bDB = wordS bDB by kernel_rfl)).trans (textQ_word bDB (of_decide_eq_true (by kernel_rfl)))
theorem tq_pair {s t : ByteArray} {b : Bool} (h : textQ s = (t, b)) : tQ s = t ∧ okQ s = b := by
  unfold tQ okQ
  rw [h]; exact ⟨rfl, rfl⟩
abbrev exR2 : ByteArray := ⟨#[119, 104, 97, 116, 32, 48, 32, 48, 32, 45]⟩
abbrev exR3 : ByteArray := ⟨#[97, 100, 100, 32, 48, 32, 48]⟩
abbrev exR4 : ByteArray := ⟨#[116, 105, 99, 107, 32, 51, 32, 48, 32, 45]⟩
abbrev exR5 : ByteArray := ⟨#[98, 97, 100]⟩
abbrev exAll : ByteArray := ⟨#[35, 32, 120, 10, 10, 116, 105, 99, 107, 32, 51, 32, 48, 32, 45, 10, 98, 97, 100]⟩
theorem readL_4 (l : List ByteArray) (k : Nat) (n : Int) (hl : ¬ (l.length < 4 ∨ Lib.containsS l ⟨#[]⟩ = true)) (hk : kindQ (wd l 0) = k) (h0 : k ≠ 0) (hn : numP (wd l 1) = (n, true)) (hf : wd l 2 = ⟨#[48]⟩ ∨ wd l 2 = ⟨#[49]⟩) : readL l = readW (l.drop 3) k n (decide (wd l 2 = ⟨#[49]⟩)) := by
  unfold readL
  rw [if_neg hl, hk]
  unfold readK
  rw [if_neg h0]
  unfold readN
  rw [hn, if_neg (fun h => h.elim (fun h => by cases h) (fun h => h hf))]
theorem ex_read1 : script_Read.f exR1 = some (3, [bA, bDB], -3, true, ⟨#[]⟩, 0) := by
  unfold script_Read.f readQ
  rw [if_neg (of_decide_eq_true (by kernel_rfl)), ex_split1, readL_4 [⟨#[97, 100, 100]⟩, ⟨#[45, 51]⟩, ⟨#[49]⟩, ⟨#[45]⟩, bA, bDB] 3 (-3) (fun h => h.elim (fun h => absurd h (by decide)) (fun h => absurd h (ne_of_beq_false (by kernel_rfl)))) ex_kind1 (by decide) ex_num1 (Or.inr rfl)]
  unfold readW
  obtain ⟨e1, e2⟩ := tq_pair tq_empty
  obtain ⟨e3, e4⟩ := tq_pair tq_a
  obtain ⟨e5, e6⟩ := tq_pair tq_db
  have hd : decide (wd [⟨#[97, 100, 100]⟩, ⟨#[45, 51]⟩, ⟨#[49]⟩, ⟨#[45]⟩, bA, bDB] 2 = ⟨#[49]⟩) = true := decide_eq_true rfl
  rw [hd]
  simp [wd, e1, e2, e3, e4, e5, e6]
theorem ex_read2 : script_Read.f exR2 = some (zeroE 560) := by
  unfold script_Read.f readQ
  rw [if_neg (of_decide_eq_true (by kernel_rfl)), show splitQ exR2 = [⟨#[119, 104, 97, 116]⟩, ⟨#[48]⟩, ⟨#[48]⟩, ⟨#[45]⟩] by kernel_rfl]
  unfold readL
  rw [if_neg (fun h => h.elim (fun h => absurd h (by decide)) (fun h => absurd h (ne_of_beq_false (by kernel_rfl))))]
  unfold readK
  rw [show kindQ (wd [⟨#[119, 104, 97, 116]⟩, ⟨#[48]⟩, ⟨#[48]⟩, ⟨#[45]⟩] 0) = 0 by kernel_rfl, if_pos rfl]
theorem ex_read3 : script_Read.f exR3 = some (zeroE 2) := by
  unfold script_Read.f readQ
  rw [if_neg (of_decide_eq_true (by kernel_rfl)), show splitQ exR3 = [⟨#[97, 100, 100]⟩, ⟨#[48]⟩, ⟨#[48]⟩] by kernel_rfl]
  unfold readL
  rw [if_pos (Or.inl (by decide))]
theorem ex_read5 : script_Read.f exR5 = some (zeroE 2) := by
  unfold script_Read.f readQ
  rw [if_neg (of_decide_eq_true (by kernel_rfl)), show splitQ exR5 = [⟨#[98, 97, 100]⟩] by kernel_rfl]
  unfold readL
  rw [if_pos (Or.inl (by decide))]
theorem ex_read4 : script_Read.f exR4 = some (26, [], 3, false, ⟨#[]⟩, 0) := by
  unfold script_Read.f readQ
  rw [if_neg (of_decide_eq_true (by kernel_rfl)), show splitQ exR4 = [⟨#[116, 105, 99, 107]⟩, ⟨#[51]⟩, ⟨#[48]⟩, ⟨#[45]⟩] by kernel_rfl, readL_4 _ 26 3 (fun h => h.elim (fun h => absurd h (by decide)) (fun h => absurd h (ne_of_beq_false (by kernel_rfl)))) (by kernel_rfl) (by decide) (by kernel_rfl) (Or.inl rfl)]
  unfold readW
  obtain ⟨e1, e2⟩ := tq_pair tq_empty
  have hd : decide (wd [⟨#[116, 105, 99, 107]⟩, ⟨#[51]⟩, ⟨#[48]⟩, ⟨#[45]⟩] 2 = ⟨#[49]⟩) = false := by kernel_rfl
  rw [hd]
  simp [wd, e1, e2]
theorem nnil {s : ByteArray} (h : (s.data.toList == ([] : List UInt8)) = false) : ¬ s.toList = ([] : List UInt8) := by
  rw [ByteArray.toList_eq]
  exact ne_of_beq_false h
theorem ex_c0 : strings_Cut.f exAll ⟨#[10]⟩ = some (⟨#[35, 32, 120]⟩, ⟨#[10, 116, 105, 99, 107, 32, 51, 32, 48, 32, 45, 10, 98, 97, 100]⟩, true) := by kernel_rfl
theorem ex_c1 : (bt (⟨#[35, 32, 120]⟩ : ByteArray) 0 == 35) = true := by kernel_rfl
theorem ex_c2 : strings_Cut.f (⟨#[10, 116, 105, 99, 107, 32, 51, 32, 48, 32, 45, 10, 98, 97, 100]⟩ : ByteArray) ⟨#[10]⟩ = some (⟨#[]⟩, ⟨#[116, 105, 99, 107, 32, 51, 32, 48, 32, 45, 10, 98, 97, 100]⟩, true) := by kernel_rfl
theorem ex_c3 : strings_Cut.f (⟨#[116, 105, 99, 107, 32, 51, 32, 48, 32, 45, 10, 98, 97, 100]⟩ : ByteArray) ⟨#[10]⟩ = some (exR4, exR5, true) := by kernel_rfl
theorem ex_c4 : (bt exR4 0 == 35) = false := by kernel_rfl
theorem ex_c5 : strings_Cut.f exR5 ⟨#[10]⟩ = some (exR5, ⟨#[]⟩, false) := by kernel_rfl
theorem ex_c6 : (bt exR5 0 == 35) = false := by kernel_rfl
theorem all_skip0 (k : Nat) (s a b : ByteArray) (f : Bool) (x : List S24) (i : Int) (hs : ¬ s.toList = ([] : List UInt8)) (hc : strings_Cut.f s ⟨#[10]⟩ = some (a, b, f)) (ha : a.toList = ([] : List UInt8)) :
    script_All.l0 (k + 2) s x i = script_All.l0 k b x (wrap64 (i + 1)) := by
  rw [script_All.l0, if_neg hs, hc]
  simp only [Option.bind_some]
  rw [if_pos ha, script_All.j1, if_pos rfl]
theorem all_skip1 (k : Nat) (s a b : ByteArray) (f : Bool) (x : List S24) (i : Int) (hs : ¬ s.toList = ([] : List UInt8)) (hc : strings_Cut.f s ⟨#[10]⟩ = some (a, b, f)) (ha : ¬ a.toList = ([] : List UInt8)) (h0 : 0 < (a.size : Int)) (h1 : (bt a 0 == 35) = true) :
    script_All.l0 (k + 2) s x i = script_All.l0 k b x (wrap64 (i + 1)) := by
  rw [script_All.l0, if_neg hs, hc]
  simp only [Option.bind_some]
  rw [if_neg ha, if_pos h0, h1, script_All.j1, if_pos rfl]
theorem all_read (k : Nat) (s a b : ByteArray) (f : Bool) (x : List S24) (i : Int) (rd : Rd6) (hs : ¬ s.toList = ([] : List UInt8)) (hc : strings_Cut.f s ⟨#[10]⟩ = some (a, b, f)) (ha : ¬ a.toList = ([] : List UInt8)) (h0 : 0 < (a.size : Int)) (h1 : (bt a 0 == 35) = false) (hr : script_Read.f a = some rd) :
    script_All.l0 (k + 2) s x i = if rd.2.2.2.2.2 = 0 then (if x.length < 2199023255552 then script_All.l0 k b (x ++ [⟨rd.1, rd.2.1, rd.2.2.1, rd.2.2.2.1, rd.2.2.2.2.1⟩]) (wrap64 (i + 1)) else none) else some ([], i, rd.2.2.2.2.2) := by
  rw [script_All.l0, if_neg hs, hc]
  simp only [Option.bind_some]
  rw [if_neg ha, if_pos h0, h1, script_All.j1, if_neg (by decide), hr]
  simp only [Option.bind_some]
theorem ex_all : script_All.f (0 + 2 + 2 + 2 + 2) exAll = some ([], 3, 2) := by
  unfold script_All.f
  rw [all_skip1 _ _ _ _ _ _ _ (nnil (by kernel_rfl)) ex_c0 (nnil (by kernel_rfl)) (of_decide_eq_true (by kernel_rfl)) ex_c1,
    all_skip0 _ _ _ _ _ _ _ (nnil (by kernel_rfl)) ex_c2 (by rw [ByteArray.toList_eq]),
    all_read _ _ _ _ _ _ _ _ (nnil (by kernel_rfl)) ex_c3 (nnil (by kernel_rfl)) (of_decide_eq_true (by kernel_rfl)) ex_c4 ex_read4, if_pos rfl, if_pos (by decide),
    all_read _ _ _ _ _ _ _ _ (nnil (by kernel_rfl)) ex_c5 (nnil (by kernel_rfl)) (of_decide_eq_true (by kernel_rfl)) ex_c6 ex_read5, if_neg (by simp [zeroE])]
  exact congrArg some (Prod.ext rfl (Prod.ext (by kernel_rfl) rfl))
set_option maxRecDepth 100000 in
set_option maxHeartbeats 4000000 in
theorem ex_text : script_Text.f 30 5 [] [⟨#[97, 32, 98]⟩] 2 ⟨#[]⟩ = some ⟨#[53, 32, 50, 32, 48, 32, 49, 32, 97, 37, 50, 48, 98, 32, 45]⟩ := by
  unfold script_Text.f
  kernel_rfl
set_option maxRecDepth 100000 in
theorem ex_same : graftageref17_SameTexts.f 10 [bA, bDB] [bA, bDB] = some true := by
  unfold graftageref17_SameTexts.f graftageref17_SameTexts.l0
  simp only [ByteArray.toList_eq]
  kernel_rfl
end Go.Proofs.YtcmemgahgenpdaaDoor.Pure
end
section
namespace Go.Proofs.YtcmemgahgenpdaaDoor.Hand
open Go.RowKit Go.Proofs.YtcmemgahgenpdaaDoorW.PrintWords Go.Proofs.YtcmemgahgenpdaaDoorW.PrintLast Go.Proofs.YtcmemgahgenpdaaDoorW.PrintMore
open Go.Proofs.YtcmemgahgenpdaaDoor.PSc Go.Proofs.YtcmemgahgenpdaaDoor.Pure
set_option linter.unusedVariables false
set_option linter.unusedSimpArgs false
theorem C_new (w : World) (l : List ByteArray) (ty : TypeId) (hl : l.length ≤ 9223372036854775807) : Kd.string.C (w.alloc (.cells ((l.map Value.string).toArray) ty)) (some ⟨w.heap.size, 0, none⟩) l.length l := by
  refine Kd.C_of_reads (d := ByteArray.empty) (h1 := fun _ => rfl) ⟨rfl, hl, fun _ => ⟨_, rfl, fun j hj => ?_⟩⟩
  have h : (w.alloc (.cells ((l.map Value.string).toArray) ty)).heap[w.heap.size]? = some (.cells ((l.map Value.string).toArray) ty) := heap_alloc_new w _
  rw [show (⟨w.heap.size, 0, none⟩ : Addr).add j = ⟨w.heap.size, j, none⟩ by simp [Addr.add, eq_comm], Lib.cell_of_heap h]
  simp [hj]
set_option maxHeartbeats 4000000 in
set_option maxRecDepth 100000 in
theorem lives_any (w : World) (hWd : Wds w) : Calls Tryd.prog 7 #[] w fun e w' => e = .returned (.bool true) ∧ Below w.heap.size w w' := by
  have HW := Lib.hid hWd
  clear hWd
  go_enter Tryd.func7, Tryd.ntmps7
  go_wp2_with fail
  refine (script_Line.calls 30 5 none 0 [] 0 false exS exLine 0 _ (Kd.C_nil Kd.string _) (Nat.le_refl _) HW.out ex_line).mono ?_
  rintro e w1 ⟨rfl, hb1⟩
  have HW := Lib.hid (HW.out.below hb1)
  have HB := Lib.hid hb1
  clear hb1
  go_wp2_with fail
  refine (script_Read.calls exR1 3 [bA, bDB] (-3) true ⟨#[]⟩ 0 _ HW.out ex_read1).mono ?_
  rintro e w2 ⟨v1, rfl, hR1, hb2⟩
  have HW := Lib.hid (HW.out.below hb2)
  have hR1 := Kd.R_lower hR1 HB.out.size
  have HB := Lib.hid (HB.out.trans (hb2.mono HB.out.size))
  clear hb2
  obtain ⟨A, cp, hv1⟩ := Kd.R_slice hR1
  subst hv1
  have HC1 := Lib.hid (Kd.R_reads' hR1).2.2
  have hcp := (Kd.R_reads' hR1).2.1
  clear hR1
  go_wp2_with fail
  generalize hw3 : w2.alloc (.cells #[.int .i64 3, .slice A 2 cp, .int .i64 (-3), .bool true, .string ⟨#[]⟩] 24) = w3
  have hX : Cm w3 w2.heap.size 3 (.slice A 2 cp) (-3) true ⟨#[]⟩ := by rw [← hw3]; exact heap_alloc_new w2 _
  have hb3 : Below w2.heap.size w2 w3 := by rw [← hw3]; exact (Below.refl _ w2).alloc (Nat.le_refl _) _
  have HX := Lib.hid hX
  have HC1 := Lib.hid (Kd.C_below HC1.out hb3)
  have HW := Lib.hid (HW.out.below hb3)
  have HB := Lib.hid (HB.out.trans (hb3.mono HB.out.size))
  clear hw3 hX hb3
  generalize hgc : w2.heap.size = gc at *
  refine (script_Read.calls exR2 0 [] 0 false ⟨#[]⟩ 560 _ HW.out ex_read2).mono ?_
  rintro e w4 ⟨v2, rfl, hR2, hb4⟩
  obtain ⟨A2, cp2, hv2⟩ := Kd.R_slice hR2
  subst hv2
  have HX := Lib.hid (HX.out.below hb4)
  have HC1 := Lib.hid (Kd.C_below HC1.out hb4)
  have HW := Lib.hid (HW.out.below hb4)
  have HB := Lib.hid (HB.out.trans (hb4.mono HB.out.size))
  clear hR2 hb4
  go_wp2_with fail
  have hb5 : Below w4.heap.size w4 (w4.alloc (.cells #[.int .i64 0, .slice A2 0 cp2, .int .i64 0, .bool false, .string ⟨#[]⟩] 24)) := (Below.refl _ w4).alloc (Nat.le_refl _) _
  generalize w4.alloc (.cells #[.int .i64 0, .slice A2 0 cp2, .int .i64 0, .bool false, .string ⟨#[]⟩] 24) = w5 at *
  have HX := Lib.hid (HX.out.below hb5)
  have HC1 := Lib.hid (Kd.C_below HC1.out hb5)
  have HW := Lib.hid (HW.out.below hb5)
  have HB := Lib.hid (HB.out.trans (hb5.mono HB.out.size))
  clear hb5
  refine (script_Read.calls exR3 0 [] 0 false ⟨#[]⟩ 2 _ HW.out ex_read3).mono ?_
  rintro e w6 ⟨v3, rfl, hR3, hb6⟩
  obtain ⟨A3, cp3, hv3⟩ := Kd.R_slice hR3
  subst hv3
  have HX := Lib.hid (HX.out.below hb6)
  have HC1 := Lib.hid (Kd.C_below HC1.out hb6)
  have HW := Lib.hid (HW.out.below hb6)
  have HB := Lib.hid (HB.out.trans (hb6.mono HB.out.size))
  clear hR3 hb6
  go_wp2_with fail
  have hb7 : Below w6.heap.size w6 (w6.alloc (.cells #[.int .i64 0, .slice A3 0 cp3, .int .i64 0, .bool false, .string ⟨#[]⟩] 24)) := (Below.refl _ w6).alloc (Nat.le_refl _) _
  generalize w6.alloc (.cells #[.int .i64 0, .slice A3 0 cp3, .int .i64 0, .bool false, .string ⟨#[]⟩] 24) = w7 at *
  have HX := Lib.hid (HX.out.below hb7)
  have HC1 := Lib.hid (Kd.C_below HC1.out hb7)
  have HW := Lib.hid (HW.out.below hb7)
  have HB := Lib.hid (HB.out.trans (hb7.mono HB.out.size))
  clear hb7
  refine (script_All.calls (0 + 2 + 2 + 2 + 2) exAll [] 3 2 _ HW.out ex_all).mono ?_
  rintro e w8 ⟨v4, rfl, hR4, hb8⟩
  obtain ⟨A4, cp4, hv4⟩ := Kd.S_slice hR4
  subst hv4
  have HX := Lib.hid (HX.out.below hb8)
  have HC1 := Lib.hid (Kd.C_below HC1.out hb8)
  have HW := Lib.hid (HW.out.below hb8)
  have HB := Lib.hid (HB.out.trans (hb8.mono HB.out.size))
  clear hR4 hb8
  have x0 := HX.out.c0
  have x1 := HX.out.c1
  have x2 := HX.out.c2
  have x3 := HX.out.c3
  have x4 := HX.out.c4
  have e1 : (exLine.toList == exLine.toList) = true := beq_iff_eq.2 rfl
  have e2 : ((⟨#[]⟩ : ByteArray).toList == (⟨#[]⟩ : ByteArray).toList) = true := beq_iff_eq.2 rfl
  go_wp2_with fail
  have hC2 := C_new w8 [bA, bDB] 9 (by decide)
  have hb9 : Below w8.heap.size w8 (w8.alloc (.cells (([bA, bDB].map Value.string).toArray) 9)) := (Below.refl _ w8).alloc (Nat.le_refl _) _
  refine (graftageref17_SameTexts.calls 10 A cp [bA, bDB] _ 2 [bA, bDB] true _ (Kd.C_below HC1.out hb9) hcp hC2 (Nat.le_refl _) ex_same).mono ?_
  rintro e w9 ⟨rfl, hb10⟩
  have HW := Lib.hid ((HW.out.below hb9).below hb10.below)
  have HB := Lib.hid ((HB.out.trans (hb9.mono HB.out.size)).trans (hb10.below.mono (HB.out.trans (hb9.mono HB.out.size)).size))
  clear hC2 hb9 hb10
  go_wp2_with fail
  have hC3 := C_new w9 [⟨#[97, 32, 98]⟩] 9 (by decide)
  have hb11 : Below w9.heap.size w9 (w9.alloc (.cells (([⟨#[97, 32, 98]⟩].map Value.string).toArray) 9)) := (Below.refl _ w9).alloc (Nat.le_refl _) _
  refine (script_Text.calls 30 5 none 0 [] _ 1 [⟨#[97, 32, 98]⟩] 2 ⟨#[]⟩ _ _ (Kd.C_nil Kd.string _) (Nat.le_refl _) hC3 (Nat.le_refl _) (HW.out.below hb11) ex_text).mono ?_
  rintro e w12 ⟨rfl, hb12⟩
  have HB := Lib.hid ((HB.out.trans (hb11.mono HB.out.size)).trans (hb12.mono (HB.out.trans (hb11.mono HB.out.size)).size))
  have e3 : ((⟨#[53, 32, 50, 32, 48, 32, 49, 32, 97, 37, 50, 48, 98, 32, 45]⟩ : ByteArray).toList == (⟨#[53, 32, 50, 32, 48, 32, 49, 32, 97, 37, 50, 48, 98, 32, 45]⟩ : ByteArray).toList) = true := beq_iff_eq.2 rfl
  clear hC3 hb11 hb12
  go_wp2
  go_ret
  exact ⟨rfl, HB.out⟩
def graftagelaw56_lives.f : Option Bool := some true
theorem graftagelaw56_lives.calls (r : Bool) (w : World) (hWd : Wds w) (h : graftagelaw56_lives.f = some r) : Calls Tryd.prog 7 #[] w fun e w' => e = .returned (.bool r) ∧ Below w.heap.size w w' := by
  obtain rfl := Option.some.inj h
  exact lives_any w hWd
end Go.Proofs.YtcmemgahgenpdaaDoor.Hand
end
section
namespace Go.Proofs.YtcmemgahgenpdaaDoor.PSc
open Go.Proofs.YtcmemgahgenpdaaDoor.Hand Go.RowKit Go.Proofs.YtcmemgahgenpdaaDoorW.PrintWords Go.Proofs.YtcmemgahgenpdaaDoorW.PrintLast Go.Proofs.YtcmemgahgenpdaaDoorW.PrintMore
attribute [local go_sem] max2_int min2_int max_two min_two max_three min_three max_four min_four
set_option linter.unusedVariables false
set_option linter.unusedSimpArgs false
def graftagelaw56_same.f (k : Nat) (a0_0 : Int) (l0_1 : List ByteArray) (a0_2 : Int) (a0_3 : Bool) (a0_4 : ByteArray) (a1_0 : Int) (l1_1 : List ByteArray) (a1_2 : Int) (a1_3 : Bool) (a1_4 : ByteArray) : Option (Bool) := if a0_0 = a1_0 then (if a0_2 = a1_2 then (if (a0_3 == a1_3) = true then (if a0_4.toList = a1_4.toList then ((graftageref17_SameTexts.f k l0_1 l1_1).bind fun t274 => (some t274)) else (some false)) else (some false)) else (some false)) else (some false)
set_option maxHeartbeats 8000000 in
set_option maxRecDepth 100000 in
theorem graftagelaw56_same.calls (k : Nat) (a0_0 : Int) (A0_1 : Option Addr) (c0_1 : Nat) (l0_1 : List ByteArray) (a0_2 : Int) (a0_3 : Bool) (a0_4 : ByteArray) (a1_0 : Int) (A1_1 : Option Addr) (c1_1 : Nat) (l1_1 : List ByteArray) (a1_2 : Int) (a1_3 : Bool) (a1_4 : ByteArray) (r : Bool) (w : World) (hr0_1 : Kd.C Kd.string w A0_1 l0_1.length l0_1) (hc0_1 : l0_1.length ≤ c0_1) (hr1_1 : Kd.C Kd.string w A1_1 l1_1.length l1_1) (hc1_1 : l1_1.length ≤ c1_1) (h : graftagelaw56_same.f k a0_0 l0_1 a0_2 a0_3 a0_4 a1_0 l1_1 a1_2 a1_3 a1_4 = some r) :
  Calls Tryd.prog 11 #[.agg #[.int .i64 a0_0, .slice A0_1 l0_1.length c0_1, .int .i64 a0_2, .bool a0_3, .string a0_4], .agg #[.int .i64 a1_0, .slice A1_1 l1_1.length c1_1, .int .i64 a1_2, .bool a1_3, .string a1_4]] w fun e w' => e = .returned (.bool r) ∧ Below w.heap.size w w' := by
 have hu24 := Tryd.underlying24
 have HR0_1 := Aside0.mk hr0_1
 have HC0_1 := Aside0.mk hc0_1
 clear hr0_1 hc0_1
 have HR1_1 := Aside0.mk hr1_1
 have HC1_1 := Aside0.mk hc1_1
 clear hr1_1 hc1_1
 have HB := Aside0.mk (Below.refl w.heap.size w)
 have H : (if a0_0 = a1_0 then (if a0_2 = a1_2 then (if (a0_3 == a1_3) = true then (if a0_4.toList = a1_4.toList then ((graftageref17_SameTexts.f k l0_1 l1_1).bind fun t274 => (some t274)) else (some false)) else (some false)) else (some false)) else (some false)) = some r := h
 clear h
 by_cases c3 : a0_0 = a1_0
 ·rw [if_pos c3] at H
  have c3b0 : (a0_0 == a1_0) = true := beq_iff_eq.mpr c3
  have c3b1 : (a0_0 != a1_0) = false := bne_eq_false_iff_eq.mpr c3
  clear c3
  by_cases c4 : a0_2 = a1_2
  ·rw [if_pos c4] at H
   have c4b0 : (a0_2 == a1_2) = true := beq_iff_eq.mpr c4
   have c4b1 : (a0_2 != a1_2) = false := bne_eq_false_iff_eq.mpr c4
   clear c4
   by_cases c5 : (a0_3 == a1_3) = true
   ·rw [if_pos c5] at H
    have c5b0 : (a0_3 == a1_3) = true := c5
    (try (have c5b1 : decide (a0_3 = a1_3) = true := by simpa using c5))
    (try (have c5b2 : (a0_3 == a1_3) = true := by simpa using c5))
    clear c5
    by_cases c6 : a0_4.toList = a1_4.toList
    ·rw [if_pos c6] at H
     have c6b0 : (a0_4.toList == a1_4.toList) = true := beq_iff_eq.mpr c6
     have c6b1 : (a0_4.toList != a1_4.toList) = false := bne_eq_false_iff_eq.mpr c6
     clear c6
     replace H := Option.bind_eq_some_iff.mp H
     obtain ⟨t274, A70, H⟩ := H
     replace H : (some t274) = some r := H
     have A7 := Aside0.mk A70
     clear A70
     obtain rfl := Option.some.inj H
     go_enter Tryd.func11, Tryd.ntmps11
     go_wp2_with (first | ((with_reducible refine gate_dst (N := 2) rfl ?_); refine box_event ?hg (N := 2) ?hd (cs := #[.int .i64 a0_0, .slice A0_1 l0_1.length c0_1, .int .i64 a0_2, .bool a0_3, .string a0_4]) (t := 24) ?hr ?_; (case hd => rfl); (case hg => rfl); (case hr => first | (go_simp; done) | (go_simp; rfl)); intro gb272 hg w8 hbox hb; have n0_ := Aside0.mk (below_step (by repeat (first | (with_reducible first | exact HB.out | apply below_alloc | apply pw_below_drewN | apply below_drew1) | exact HB.out)) hb); have n1_ := Aside0.mk (hbox); have n2_ := Aside0.mk ((by rw [hg]; exact (below_size (by repeat (first | (with_reducible first | exact HB.out | apply below_alloc | apply pw_below_drewN | apply below_drew1) | exact HB.out))) : w.heap.size ≤ gb272)); have n3_ := Aside0.mk ((by rw [hg]; exact (below_size (by repeat (first | (with_reducible first | exact HB.out | apply below_alloc | apply pw_below_drewN | apply below_drew1) | exact HB.out))) : w.heap.size ≤ gb272)); clear HB; have HB := n0_; have BK272 := n1_; have GW272 := n2_; have GE272 := n3_; clear n0_ n1_ n2_ n3_; clear hb hbox hg) | ((with_reducible refine gate_dst (N := 3) rfl ?_); refine box_event ?hg (N := 3) ?hd (cs := #[.int .i64 a1_0, .slice A1_1 l1_1.length c1_1, .int .i64 a1_2, .bool a1_3, .string a1_4]) (t := 24) ?hr ?_; (case hd => rfl); (case hg => rfl); (case hr => first | (go_simp; done) | (go_simp; rfl)); intro gb273 hg w9 hbox hb; have n0_ := Aside0.mk (blk_below (g := gb272) (o := .cells #[.int .i64 a0_0, .slice A0_1 l0_1.length c0_1, .int .i64 a0_2, .bool a0_3, .string a0_4] 24 (0, 0)) (by (with_reducible repeat (first | refine blk_drewN ?_ _ | refine blk_drew ?_ | refine blk_alloc ?_ _)); exact BK272.out) hb); have n1_ := Aside0.mk (below_step (by repeat (first | (with_reducible first | exact HB.out | apply below_alloc | apply pw_below_drewN | apply below_drew1 | refine below_set ?_ GE272.out) | exact HB.out)) hb); have n2_ := Aside0.mk (hbox); have n3_ := Aside0.mk ((by rw [hg]; exact (below_size (by repeat (first | (with_reducible first | exact HB.out | apply below_alloc | apply pw_below_drewN | apply below_drew1 | refine below_set ?_ GE272.out) | exact HB.out))) : w.heap.size ≤ gb273)); have n4_ := Aside0.mk ((by rw [hg]; exact (below_size (by repeat (first | (with_reducible first | exact HB.out | apply below_alloc | apply pw_below_drewN | apply below_drew1 | refine below_set ?_ GE272.out) | exact HB.out))) : w.heap.size ≤ gb273)); have n5_ := Aside0.mk ((by rw [hg]; exact Nat.ne_of_lt (blk_lt (g := gb272) (o := .cells #[.int .i64 a0_0, .slice A0_1 l0_1.length c0_1, .int .i64 a0_2, .bool a0_3, .string a0_4] 24 (0, 0)) (by (with_reducible repeat (first | refine blk_drewN ?_ _ | refine blk_drew ?_ | refine blk_alloc ?_ _)); exact BK272.out)) : gb272 ≠ gb273)); have n6_ := Aside0.mk ((by rw [hg]; exact Nat.ne_of_gt (blk_lt (g := gb272) (o := .cells #[.int .i64 a0_0, .slice A0_1 l0_1.length c0_1, .int .i64 a0_2, .bool a0_3, .string a0_4] 24 (0, 0)) (by (with_reducible repeat (first | refine blk_drewN ?_ _ | refine blk_drew ?_ | refine blk_alloc ?_ _)); exact BK272.out)) : gb273 ≠ gb272)); clear BK272; clear HB; have BK272 := n0_; have HB := n1_; have BK273 := n2_; have GW273 := n3_; have GE273 := n4_; have NB272_273 := n5_; have NB273_272 := n6_; clear n0_ n1_ n2_ n3_ n4_ n5_ n6_; clear hb hbox hg; have hnb10 := NB272_273.out; have hnc10 := NB273_272.out; have hcz11_0 : w9.cell? ⟨gb272, 0, none⟩ = some (.int .i64 a0_0) := (blk_cell BK272.out 0).trans rfl; have hcz11_1 : w9.cell? ⟨gb272, 1, none⟩ = some (.slice A0_1 l0_1.length c0_1) := (blk_cell BK272.out 1).trans rfl; have hcz11_2 : w9.cell? ⟨gb272, 2, none⟩ = some (.int .i64 a0_2) := (blk_cell BK272.out 2).trans rfl; have hcz11_3 : w9.cell? ⟨gb272, 3, none⟩ = some (.bool a0_3) := (blk_cell BK272.out 3).trans rfl; have hcz11_4 : w9.cell? ⟨gb272, 4, none⟩ = some (.string a0_4) := (blk_cell BK272.out 4).trans rfl; have hfz11_0 := blk_frozen BK272.out 0; have hfz11_1 := blk_frozen BK272.out 1; have hfz11_2 := blk_frozen BK272.out 2; have hfz11_3 := blk_frozen BK272.out 3; have hfz11_4 := blk_frozen BK272.out 4; have hcz12_0 : w9.cell? ⟨gb273, 0, none⟩ = some (.int .i64 a1_0) := (blk_cell BK273.out 0).trans rfl; have hcz12_1 : w9.cell? ⟨gb273, 1, none⟩ = some (.slice A1_1 l1_1.length c1_1) := (blk_cell BK273.out 1).trans rfl; have hcz12_2 : w9.cell? ⟨gb273, 2, none⟩ = some (.int .i64 a1_2) := (blk_cell BK273.out 2).trans rfl; have hcz12_3 : w9.cell? ⟨gb273, 3, none⟩ = some (.bool a1_3) := (blk_cell BK273.out 3).trans rfl; have hcz12_4 : w9.cell? ⟨gb273, 4, none⟩ = some (.string a1_4) := (blk_cell BK273.out 4).trans rfl; have hfz12_0 := blk_frozen BK273.out 0; have hfz12_1 := blk_frozen BK273.out 1; have hfz12_2 := blk_frozen BK273.out 2; have hfz12_3 := blk_frozen BK273.out 3; have hfz12_4 := blk_frozen BK273.out 4) | (go_at_call 18; (with_reducible refine (graftageref17_SameTexts.calls k _ _ l0_1 _ _ l1_1 t274 _ ?side1 ?side2 ?side3 ?side4 A7.out).mono ?_); (case side1 => repeat (first | exact (Kd.C_below HR0_1.out HB.out) | (with_reducible refine Kd.C_alloc ?_ _) | (with_reducible refine Kd.C_drewN ?_ _) | (with_reducible refine Kd.C_drew ?_))); (case side2 => exact HC0_1.out); (case side3 => repeat (first | exact (Kd.C_below HR1_1.out HB.out) | (with_reducible refine Kd.C_alloc ?_ _) | (with_reducible refine Kd.C_drewN ?_ _) | (with_reducible refine Kd.C_drew ?_))); (case side4 => exact HC1_1.out); rintro e w' ⟨rfl, ⟨nd, rfl⟩⟩))
     go_ret
     exact ⟨by first | rfl | (simp [errW_none, errW_some] <;> rfl) | (simp [*, errW_none, errW_some] <;> rfl), by repeat (first | (with_reducible first | exact HB.out | apply below_alloc | apply pw_below_drewN | apply below_drew1 | refine below_set ?_ GE272.out | refine below_set ?_ GE273.out) | exact HB.out)⟩
    ·rw [if_neg c6] at H
     have c6b0 : (a0_4.toList == a1_4.toList) = false := beq_eq_false_iff_ne.mpr c6
     have c6b1 : (a0_4.toList != a1_4.toList) = true := bne_iff_ne.mpr c6
     obtain rfl := Option.some.inj H
     go_enter Tryd.func11, Tryd.ntmps11
     go_wp2_with (first | ((with_reducible refine gate_dst (N := 2) rfl ?_); refine box_event ?hg (N := 2) ?hd (cs := #[.int .i64 a0_0, .slice A0_1 l0_1.length c0_1, .int .i64 a0_2, .bool a0_3, .string a0_4]) (t := 24) ?hr ?_; (case hd => rfl); (case hg => rfl); (case hr => first | (go_simp; done) | (go_simp; rfl)); intro gb272 hg w13 hbox hb; have n0_ := Aside0.mk (below_step (by repeat (first | (with_reducible first | exact HB.out | apply below_alloc | apply pw_below_drewN | apply below_drew1) | exact HB.out)) hb); have n1_ := Aside0.mk (hbox); have n2_ := Aside0.mk ((by rw [hg]; exact (below_size (by repeat (first | (with_reducible first | exact HB.out | apply below_alloc | apply pw_below_drewN | apply below_drew1) | exact HB.out))) : w.heap.size ≤ gb272)); have n3_ := Aside0.mk ((by rw [hg]; exact (below_size (by repeat (first | (with_reducible first | exact HB.out | apply below_alloc | apply pw_below_drewN | apply below_drew1) | exact HB.out))) : w.heap.size ≤ gb272)); clear HB; have HB := n0_; have BK272 := n1_; have GW272 := n2_; have GE272 := n3_; clear n0_ n1_ n2_ n3_; clear hb hbox hg) | ((with_reducible refine gate_dst (N := 3) rfl ?_); refine box_event ?hg (N := 3) ?hd (cs := #[.int .i64 a1_0, .slice A1_1 l1_1.length c1_1, .int .i64 a1_2, .bool a1_3, .string a1_4]) (t := 24) ?hr ?_; (case hd => rfl); (case hg => rfl); (case hr => first | (go_simp; done) | (go_simp; rfl)); intro gb273 hg w14 hbox hb; have n0_ := Aside0.mk (blk_below (g := gb272) (o := .cells #[.int .i64 a0_0, .slice A0_1 l0_1.length c0_1, .int .i64 a0_2, .bool a0_3, .string a0_4] 24 (0, 0)) (by (with_reducible repeat (first | refine blk_drewN ?_ _ | refine blk_drew ?_ | refine blk_alloc ?_ _)); exact BK272.out) hb); have n1_ := Aside0.mk (below_step (by repeat (first | (with_reducible first | exact HB.out | apply below_alloc | apply pw_below_drewN | apply below_drew1 | refine below_set ?_ GE272.out) | exact HB.out)) hb); have n2_ := Aside0.mk (hbox); have n3_ := Aside0.mk ((by rw [hg]; exact (below_size (by repeat (first | (with_reducible first | exact HB.out | apply below_alloc | apply pw_below_drewN | apply below_drew1 | refine below_set ?_ GE272.out) | exact HB.out))) : w.heap.size ≤ gb273)); have n4_ := Aside0.mk ((by rw [hg]; exact (below_size (by repeat (first | (with_reducible first | exact HB.out | apply below_alloc | apply pw_below_drewN | apply below_drew1 | refine below_set ?_ GE272.out) | exact HB.out))) : w.heap.size ≤ gb273)); have n5_ := Aside0.mk ((by rw [hg]; exact Nat.ne_of_lt (blk_lt (g := gb272) (o := .cells #[.int .i64 a0_0, .slice A0_1 l0_1.length c0_1, .int .i64 a0_2, .bool a0_3, .string a0_4] 24 (0, 0)) (by (with_reducible repeat (first | refine blk_drewN ?_ _ | refine blk_drew ?_ | refine blk_alloc ?_ _)); exact BK272.out)) : gb272 ≠ gb273)); have n6_ := Aside0.mk ((by rw [hg]; exact Nat.ne_of_gt (blk_lt (g := gb272) (o := .cells #[.int .i64 a0_0, .slice A0_1 l0_1.length c0_1, .int .i64 a0_2, .bool a0_3, .string a0_4] 24 (0, 0)) (by (with_reducible repeat (first | refine blk_drewN ?_ _ | refine blk_drew ?_ | refine blk_alloc ?_ _)); exact BK272.out)) : gb273 ≠ gb272)); clear BK272; clear HB; have BK272 := n0_; have HB := n1_; have BK273 := n2_; have GW273 := n3_; have GE273 := n4_; have NB272_273 := n5_; have NB273_272 := n6_; clear n0_ n1_ n2_ n3_ n4_ n5_ n6_; clear hb hbox hg; have hnb15 := NB272_273.out; have hnc15 := NB273_272.out; have hcz16_0 : w14.cell? ⟨gb272, 0, none⟩ = some (.int .i64 a0_0) := (blk_cell BK272.out 0).trans rfl; have hcz16_1 : w14.cell? ⟨gb272, 1, none⟩ = some (.slice A0_1 l0_1.length c0_1) := (blk_cell BK272.out 1).trans rfl; have hcz16_2 : w14.cell? ⟨gb272, 2, none⟩ = some (.int .i64 a0_2) := (blk_cell BK272.out 2).trans rfl; have hcz16_3 : w14.cell? ⟨gb272, 3, none⟩ = some (.bool a0_3) := (blk_cell BK272.out 3).trans rfl; have hcz16_4 : w14.cell? ⟨gb272, 4, none⟩ = some (.string a0_4) := (blk_cell BK272.out 4).trans rfl; have hfz16_0 := blk_frozen BK272.out 0; have hfz16_1 := blk_frozen BK272.out 1; have hfz16_2 := blk_frozen BK272.out 2; have hfz16_3 := blk_frozen BK272.out 3; have hfz16_4 := blk_frozen BK272.out 4; have hcz17_0 : w14.cell? ⟨gb273, 0, none⟩ = some (.int .i64 a1_0) := (blk_cell BK273.out 0).trans rfl; have hcz17_1 : w14.cell? ⟨gb273, 1, none⟩ = some (.slice A1_1 l1_1.length c1_1) := (blk_cell BK273.out 1).trans rfl; have hcz17_2 : w14.cell? ⟨gb273, 2, none⟩ = some (.int .i64 a1_2) := (blk_cell BK273.out 2).trans rfl; have hcz17_3 : w14.cell? ⟨gb273, 3, none⟩ = some (.bool a1_3) := (blk_cell BK273.out 3).trans rfl; have hcz17_4 : w14.cell? ⟨gb273, 4, none⟩ = some (.string a1_4) := (blk_cell BK273.out 4).trans rfl; have hfz17_0 := blk_frozen BK273.out 0; have hfz17_1 := blk_frozen BK273.out 1; have hfz17_2 := blk_frozen BK273.out 2; have hfz17_3 := blk_frozen BK273.out 3; have hfz17_4 := blk_frozen BK273.out 4))
     go_ret
     exact ⟨by first | rfl | (simp [errW_none, errW_some] <;> rfl) | (simp [*, errW_none, errW_some] <;> rfl), by repeat (first | (with_reducible first | exact HB.out | apply below_alloc | apply pw_below_drewN | apply below_drew1 | refine below_set ?_ GE272.out | refine below_set ?_ GE273.out) | exact HB.out)⟩
   ·rw [if_neg c5] at H
    have c5b0 : (a0_3 == a1_3) = false := by simpa using c5
    (try (have c5b1 : decide (a0_3 = a1_3) = false := by simpa using c5))
    (try (have c5b2 : (a0_3 == a1_3) = false := by simpa using c5))
    (try (have c5b3 : ¬ (a0_3 = a1_3) := by simpa using c5))
    clear c5
    obtain rfl := Option.some.inj H
    go_enter Tryd.func11, Tryd.ntmps11
    go_wp2_with (first | ((with_reducible refine gate_dst (N := 2) rfl ?_); refine box_event ?hg (N := 2) ?hd (cs := #[.int .i64 a0_0, .slice A0_1 l0_1.length c0_1, .int .i64 a0_2, .bool a0_3, .string a0_4]) (t := 24) ?hr ?_; (case hd => rfl); (case hg => rfl); (case hr => first | (go_simp; done) | (go_simp; rfl)); intro gb272 hg w18 hbox hb; have n0_ := Aside0.mk (below_step (by repeat (first | (with_reducible first | exact HB.out | apply below_alloc | apply pw_below_drewN | apply below_drew1) | exact HB.out)) hb); have n1_ := Aside0.mk (hbox); have n2_ := Aside0.mk ((by rw [hg]; exact (below_size (by repeat (first | (with_reducible first | exact HB.out | apply below_alloc | apply pw_below_drewN | apply below_drew1) | exact HB.out))) : w.heap.size ≤ gb272)); have n3_ := Aside0.mk ((by rw [hg]; exact (below_size (by repeat (first | (with_reducible first | exact HB.out | apply below_alloc | apply pw_below_drewN | apply below_drew1) | exact HB.out))) : w.heap.size ≤ gb272)); clear HB; have HB := n0_; have BK272 := n1_; have GW272 := n2_; have GE272 := n3_; clear n0_ n1_ n2_ n3_; clear hb hbox hg) | ((with_reducible refine gate_dst (N := 3) rfl ?_); refine box_event ?hg (N := 3) ?hd (cs := #[.int .i64 a1_0, .slice A1_1 l1_1.length c1_1, .int .i64 a1_2, .bool a1_3, .string a1_4]) (t := 24) ?hr ?_; (case hd => rfl); (case hg => rfl); (case hr => first | (go_simp; done) | (go_simp; rfl)); intro gb273 hg w19 hbox hb; have n0_ := Aside0.mk (blk_below (g := gb272) (o := .cells #[.int .i64 a0_0, .slice A0_1 l0_1.length c0_1, .int .i64 a0_2, .bool a0_3, .string a0_4] 24 (0, 0)) (by (with_reducible repeat (first | refine blk_drewN ?_ _ | refine blk_drew ?_ | refine blk_alloc ?_ _)); exact BK272.out) hb); have n1_ := Aside0.mk (below_step (by repeat (first | (with_reducible first | exact HB.out | apply below_alloc | apply pw_below_drewN | apply below_drew1 | refine below_set ?_ GE272.out) | exact HB.out)) hb); have n2_ := Aside0.mk (hbox); have n3_ := Aside0.mk ((by rw [hg]; exact (below_size (by repeat (first | (with_reducible first | exact HB.out | apply below_alloc | apply pw_below_drewN | apply below_drew1 | refine below_set ?_ GE272.out) | exact HB.out))) : w.heap.size ≤ gb273)); have n4_ := Aside0.mk ((by rw [hg]; exact (below_size (by repeat (first | (with_reducible first | exact HB.out | apply below_alloc | apply pw_below_drewN | apply below_drew1 | refine below_set ?_ GE272.out) | exact HB.out))) : w.heap.size ≤ gb273)); have n5_ := Aside0.mk ((by rw [hg]; exact Nat.ne_of_lt (blk_lt (g := gb272) (o := .cells #[.int .i64 a0_0, .slice A0_1 l0_1.length c0_1, .int .i64 a0_2, .bool a0_3, .string a0_4] 24 (0, 0)) (by (with_reducible repeat (first | refine blk_drewN ?_ _ | refine blk_drew ?_ | refine blk_alloc ?_ _)); exact BK272.out)) : gb272 ≠ gb273)); have n6_ := Aside0.mk ((by rw [hg]; exact Nat.ne_of_gt (blk_lt (g := gb272) (o := .cells #[.int .i64 a0_0, .slice A0_1 l0_1.length c0_1, .int .i64 a0_2, .bool a0_3, .string a0_4] 24 (0, 0)) (by (with_reducible repeat (first | refine blk_drewN ?_ _ | refine blk_drew ?_ | refine blk_alloc ?_ _)); exact BK272.out)) : gb273 ≠ gb272)); clear BK272; clear HB; have BK272 := n0_; have HB := n1_; have BK273 := n2_; have GW273 := n3_; have GE273 := n4_; have NB272_273 := n5_; have NB273_272 := n6_; clear n0_ n1_ n2_ n3_ n4_ n5_ n6_; clear hb hbox hg; have hnb20 := NB272_273.out; have hnc20 := NB273_272.out; have hcz21_0 : w19.cell? ⟨gb272, 0, none⟩ = some (.int .i64 a0_0) := (blk_cell BK272.out 0).trans rfl; have hcz21_1 : w19.cell? ⟨gb272, 1, none⟩ = some (.slice A0_1 l0_1.length c0_1) := (blk_cell BK272.out 1).trans rfl; have hcz21_2 : w19.cell? ⟨gb272, 2, none⟩ = some (.int .i64 a0_2) := (blk_cell BK272.out 2).trans rfl; have hcz21_3 : w19.cell? ⟨gb272, 3, none⟩ = some (.bool a0_3) := (blk_cell BK272.out 3).trans rfl; have hcz21_4 : w19.cell? ⟨gb272, 4, none⟩ = some (.string a0_4) := (blk_cell BK272.out 4).trans rfl; have hfz21_0 := blk_frozen BK272.out 0; have hfz21_1 := blk_frozen BK272.out 1; have hfz21_2 := blk_frozen BK272.out 2; have hfz21_3 := blk_frozen BK272.out 3; have hfz21_4 := blk_frozen BK272.out 4; have hcz22_0 : w19.cell? ⟨gb273, 0, none⟩ = some (.int .i64 a1_0) := (blk_cell BK273.out 0).trans rfl; have hcz22_1 : w19.cell? ⟨gb273, 1, none⟩ = some (.slice A1_1 l1_1.length c1_1) := (blk_cell BK273.out 1).trans rfl; have hcz22_2 : w19.cell? ⟨gb273, 2, none⟩ = some (.int .i64 a1_2) := (blk_cell BK273.out 2).trans rfl; have hcz22_3 : w19.cell? ⟨gb273, 3, none⟩ = some (.bool a1_3) := (blk_cell BK273.out 3).trans rfl; have hcz22_4 : w19.cell? ⟨gb273, 4, none⟩ = some (.string a1_4) := (blk_cell BK273.out 4).trans rfl; have hfz22_0 := blk_frozen BK273.out 0; have hfz22_1 := blk_frozen BK273.out 1; have hfz22_2 := blk_frozen BK273.out 2; have hfz22_3 := blk_frozen BK273.out 3; have hfz22_4 := blk_frozen BK273.out 4))
    go_ret
    exact ⟨by first | rfl | (simp [errW_none, errW_some] <;> rfl) | (simp [*, errW_none, errW_some] <;> rfl), by repeat (first | (with_reducible first | exact HB.out | apply below_alloc | apply pw_below_drewN | apply below_drew1 | refine below_set ?_ GE272.out | refine below_set ?_ GE273.out) | exact HB.out)⟩
  ·rw [if_neg c4] at H
   have c4b0 : (a0_2 == a1_2) = false := beq_eq_false_iff_ne.mpr c4
   have c4b1 : (a0_2 != a1_2) = true := bne_iff_ne.mpr c4
   obtain rfl := Option.some.inj H
   go_enter Tryd.func11, Tryd.ntmps11
   go_wp2_with (first | ((with_reducible refine gate_dst (N := 2) rfl ?_); refine box_event ?hg (N := 2) ?hd (cs := #[.int .i64 a0_0, .slice A0_1 l0_1.length c0_1, .int .i64 a0_2, .bool a0_3, .string a0_4]) (t := 24) ?hr ?_; (case hd => rfl); (case hg => rfl); (case hr => first | (go_simp; done) | (go_simp; rfl)); intro gb272 hg w23 hbox hb; have n0_ := Aside0.mk (below_step (by repeat (first | (with_reducible first | exact HB.out | apply below_alloc | apply pw_below_drewN | apply below_drew1) | exact HB.out)) hb); have n1_ := Aside0.mk (hbox); have n2_ := Aside0.mk ((by rw [hg]; exact (below_size (by repeat (first | (with_reducible first | exact HB.out | apply below_alloc | apply pw_below_drewN | apply below_drew1) | exact HB.out))) : w.heap.size ≤ gb272)); have n3_ := Aside0.mk ((by rw [hg]; exact (below_size (by repeat (first | (with_reducible first | exact HB.out | apply below_alloc | apply pw_below_drewN | apply below_drew1) | exact HB.out))) : w.heap.size ≤ gb272)); clear HB; have HB := n0_; have BK272 := n1_; have GW272 := n2_; have GE272 := n3_; clear n0_ n1_ n2_ n3_; clear hb hbox hg) | ((with_reducible refine gate_dst (N := 3) rfl ?_); refine box_event ?hg (N := 3) ?hd (cs := #[.int .i64 a1_0, .slice A1_1 l1_1.length c1_1, .int .i64 a1_2, .bool a1_3, .string a1_4]) (t := 24) ?hr ?_; (case hd => rfl); (case hg => rfl); (case hr => first | (go_simp; done) | (go_simp; rfl)); intro gb273 hg w24 hbox hb; have n0_ := Aside0.mk (blk_below (g := gb272) (o := .cells #[.int .i64 a0_0, .slice A0_1 l0_1.length c0_1, .int .i64 a0_2, .bool a0_3, .string a0_4] 24 (0, 0)) (by (with_reducible repeat (first | refine blk_drewN ?_ _ | refine blk_drew ?_ | refine blk_alloc ?_ _)); exact BK272.out) hb); have n1_ := Aside0.mk (below_step (by repeat (first | (with_reducible first | exact HB.out | apply below_alloc | apply pw_below_drewN | apply below_drew1 | refine below_set ?_ GE272.out) | exact HB.out)) hb); have n2_ := Aside0.mk (hbox); have n3_ := Aside0.mk ((by rw [hg]; exact (below_size (by repeat (first | (with_reducible first | exact HB.out | apply below_alloc | apply pw_below_drewN | apply below_drew1 | refine below_set ?_ GE272.out) | exact HB.out))) : w.heap.size ≤ gb273)); have n4_ := Aside0.mk ((by rw [hg]; exact (below_size (by repeat (first | (with_reducible first | exact HB.out | apply below_alloc | apply pw_below_drewN | apply below_drew1 | refine below_set ?_ GE272.out) | exact HB.out))) : w.heap.size ≤ gb273)); have n5_ := Aside0.mk ((by rw [hg]; exact Nat.ne_of_lt (blk_lt (g := gb272) (o := .cells #[.int .i64 a0_0, .slice A0_1 l0_1.length c0_1, .int .i64 a0_2, .bool a0_3, .string a0_4] 24 (0, 0)) (by (with_reducible repeat (first | refine blk_drewN ?_ _ | refine blk_drew ?_ | refine blk_alloc ?_ _)); exact BK272.out)) : gb272 ≠ gb273)); have n6_ := Aside0.mk ((by rw [hg]; exact Nat.ne_of_gt (blk_lt (g := gb272) (o := .cells #[.int .i64 a0_0, .slice A0_1 l0_1.length c0_1, .int .i64 a0_2, .bool a0_3, .string a0_4] 24 (0, 0)) (by (with_reducible repeat (first | refine blk_drewN ?_ _ | refine blk_drew ?_ | refine blk_alloc ?_ _)); exact BK272.out)) : gb273 ≠ gb272)); clear BK272; clear HB; have BK272 := n0_; have HB := n1_; have BK273 := n2_; have GW273 := n3_; have GE273 := n4_; have NB272_273 := n5_; have NB273_272 := n6_; clear n0_ n1_ n2_ n3_ n4_ n5_ n6_; clear hb hbox hg; have hnb25 := NB272_273.out; have hnc25 := NB273_272.out; have hcz26_0 : w24.cell? ⟨gb272, 0, none⟩ = some (.int .i64 a0_0) := (blk_cell BK272.out 0).trans rfl; have hcz26_1 : w24.cell? ⟨gb272, 1, none⟩ = some (.slice A0_1 l0_1.length c0_1) := (blk_cell BK272.out 1).trans rfl; have hcz26_2 : w24.cell? ⟨gb272, 2, none⟩ = some (.int .i64 a0_2) := (blk_cell BK272.out 2).trans rfl; have hcz26_3 : w24.cell? ⟨gb272, 3, none⟩ = some (.bool a0_3) := (blk_cell BK272.out 3).trans rfl; have hcz26_4 : w24.cell? ⟨gb272, 4, none⟩ = some (.string a0_4) := (blk_cell BK272.out 4).trans rfl; have hfz26_0 := blk_frozen BK272.out 0; have hfz26_1 := blk_frozen BK272.out 1; have hfz26_2 := blk_frozen BK272.out 2; have hfz26_3 := blk_frozen BK272.out 3; have hfz26_4 := blk_frozen BK272.out 4; have hcz27_0 : w24.cell? ⟨gb273, 0, none⟩ = some (.int .i64 a1_0) := (blk_cell BK273.out 0).trans rfl; have hcz27_1 : w24.cell? ⟨gb273, 1, none⟩ = some (.slice A1_1 l1_1.length c1_1) := (blk_cell BK273.out 1).trans rfl; have hcz27_2 : w24.cell? ⟨gb273, 2, none⟩ = some (.int .i64 a1_2) := (blk_cell BK273.out 2).trans rfl; have hcz27_3 : w24.cell? ⟨gb273, 3, none⟩ = some (.bool a1_3) := (blk_cell BK273.out 3).trans rfl; have hcz27_4 : w24.cell? ⟨gb273, 4, none⟩ = some (.string a1_4) := (blk_cell BK273.out 4).trans rfl; have hfz27_0 := blk_frozen BK273.out 0; have hfz27_1 := blk_frozen BK273.out 1; have hfz27_2 := blk_frozen BK273.out 2; have hfz27_3 := blk_frozen BK273.out 3; have hfz27_4 := blk_frozen BK273.out 4))
   go_ret
   exact ⟨by first | rfl | (simp [errW_none, errW_some] <;> rfl) | (simp [*, errW_none, errW_some] <;> rfl), by repeat (first | (with_reducible first | exact HB.out | apply below_alloc | apply pw_below_drewN | apply below_drew1 | refine below_set ?_ GE272.out | refine below_set ?_ GE273.out) | exact HB.out)⟩
 ·rw [if_neg c3] at H
  have c3b0 : (a0_0 == a1_0) = false := beq_eq_false_iff_ne.mpr c3
  have c3b1 : (a0_0 != a1_0) = true := bne_iff_ne.mpr c3
  obtain rfl := Option.some.inj H
  go_enter Tryd.func11, Tryd.ntmps11
  go_wp2_with (first | ((with_reducible refine gate_dst (N := 2) rfl ?_); refine box_event ?hg (N := 2) ?hd (cs := #[.int .i64 a0_0, .slice A0_1 l0_1.length c0_1, .int .i64 a0_2, .bool a0_3, .string a0_4]) (t := 24) ?hr ?_; (case hd => rfl); (case hg => rfl); (case hr => first | (go_simp; done) | (go_simp; rfl)); intro gb272 hg w28 hbox hb; have n0_ := Aside0.mk (below_step (by repeat (first | (with_reducible first | exact HB.out | apply below_alloc | apply pw_below_drewN | apply below_drew1) | exact HB.out)) hb); have n1_ := Aside0.mk (hbox); have n2_ := Aside0.mk ((by rw [hg]; exact (below_size (by repeat (first | (with_reducible first | exact HB.out | apply below_alloc | apply pw_below_drewN | apply below_drew1) | exact HB.out))) : w.heap.size ≤ gb272)); have n3_ := Aside0.mk ((by rw [hg]; exact (below_size (by repeat (first | (with_reducible first | exact HB.out | apply below_alloc | apply pw_below_drewN | apply below_drew1) | exact HB.out))) : w.heap.size ≤ gb272)); clear HB; have HB := n0_; have BK272 := n1_; have GW272 := n2_; have GE272 := n3_; clear n0_ n1_ n2_ n3_; clear hb hbox hg) | ((with_reducible refine gate_dst (N := 3) rfl ?_); refine box_event ?hg (N := 3) ?hd (cs := #[.int .i64 a1_0, .slice A1_1 l1_1.length c1_1, .int .i64 a1_2, .bool a1_3, .string a1_4]) (t := 24) ?hr ?_; (case hd => rfl); (case hg => rfl); (case hr => first | (go_simp; done) | (go_simp; rfl)); intro gb273 hg w29 hbox hb; have n0_ := Aside0.mk (blk_below (g := gb272) (o := .cells #[.int .i64 a0_0, .slice A0_1 l0_1.length c0_1, .int .i64 a0_2, .bool a0_3, .string a0_4] 24 (0, 0)) (by (with_reducible repeat (first | refine blk_drewN ?_ _ | refine blk_drew ?_ | refine blk_alloc ?_ _)); exact BK272.out) hb); have n1_ := Aside0.mk (below_step (by repeat (first | (with_reducible first | exact HB.out | apply below_alloc | apply pw_below_drewN | apply below_drew1 | refine below_set ?_ GE272.out) | exact HB.out)) hb); have n2_ := Aside0.mk (hbox); have n3_ := Aside0.mk ((by rw [hg]; exact (below_size (by repeat (first | (with_reducible first | exact HB.out | apply below_alloc | apply pw_below_drewN | apply below_drew1 | refine below_set ?_ GE272.out) | exact HB.out))) : w.heap.size ≤ gb273)); have n4_ := Aside0.mk ((by rw [hg]; exact (below_size (by repeat (first | (with_reducible first | exact HB.out | apply below_alloc | apply pw_below_drewN | apply below_drew1 | refine below_set ?_ GE272.out) | exact HB.out))) : w.heap.size ≤ gb273)); have n5_ := Aside0.mk ((by rw [hg]; exact Nat.ne_of_lt (blk_lt (g := gb272) (o := .cells #[.int .i64 a0_0, .slice A0_1 l0_1.length c0_1, .int .i64 a0_2, .bool a0_3, .string a0_4] 24 (0, 0)) (by (with_reducible repeat (first | refine blk_drewN ?_ _ | refine blk_drew ?_ | refine blk_alloc ?_ _)); exact BK272.out)) : gb272 ≠ gb273)); have n6_ := Aside0.mk ((by rw [hg]; exact Nat.ne_of_gt (blk_lt (g := gb272) (o := .cells #[.int .i64 a0_0, .slice A0_1 l0_1.length c0_1, .int .i64 a0_2, .bool a0_3, .string a0_4] 24 (0, 0)) (by (with_reducible repeat (first | refine blk_drewN ?_ _ | refine blk_drew ?_ | refine blk_alloc ?_ _)); exact BK272.out)) : gb273 ≠ gb272)); clear BK272; clear HB; have BK272 := n0_; have HB := n1_; have BK273 := n2_; have GW273 := n3_; have GE273 := n4_; have NB272_273 := n5_; have NB273_272 := n6_; clear n0_ n1_ n2_ n3_ n4_ n5_ n6_; clear hb hbox hg; have hnb30 := NB272_273.out; have hnc30 := NB273_272.out; have hcz31_0 : w29.cell? ⟨gb272, 0, none⟩ = some (.int .i64 a0_0) := (blk_cell BK272.out 0).trans rfl; have hcz31_1 : w29.cell? ⟨gb272, 1, none⟩ = some (.slice A0_1 l0_1.length c0_1) := (blk_cell BK272.out 1).trans rfl; have hcz31_2 : w29.cell? ⟨gb272, 2, none⟩ = some (.int .i64 a0_2) := (blk_cell BK272.out 2).trans rfl; have hcz31_3 : w29.cell? ⟨gb272, 3, none⟩ = some (.bool a0_3) := (blk_cell BK272.out 3).trans rfl; have hcz31_4 : w29.cell? ⟨gb272, 4, none⟩ = some (.string a0_4) := (blk_cell BK272.out 4).trans rfl; have hfz31_0 := blk_frozen BK272.out 0; have hfz31_1 := blk_frozen BK272.out 1; have hfz31_2 := blk_frozen BK272.out 2; have hfz31_3 := blk_frozen BK272.out 3; have hfz31_4 := blk_frozen BK272.out 4; have hcz32_0 : w29.cell? ⟨gb273, 0, none⟩ = some (.int .i64 a1_0) := (blk_cell BK273.out 0).trans rfl; have hcz32_1 : w29.cell? ⟨gb273, 1, none⟩ = some (.slice A1_1 l1_1.length c1_1) := (blk_cell BK273.out 1).trans rfl; have hcz32_2 : w29.cell? ⟨gb273, 2, none⟩ = some (.int .i64 a1_2) := (blk_cell BK273.out 2).trans rfl; have hcz32_3 : w29.cell? ⟨gb273, 3, none⟩ = some (.bool a1_3) := (blk_cell BK273.out 3).trans rfl; have hcz32_4 : w29.cell? ⟨gb273, 4, none⟩ = some (.string a1_4) := (blk_cell BK273.out 4).trans rfl; have hfz32_0 := blk_frozen BK273.out 0; have hfz32_1 := blk_frozen BK273.out 1; have hfz32_2 := blk_frozen BK273.out 2; have hfz32_3 := blk_frozen BK273.out 3; have hfz32_4 := blk_frozen BK273.out 4))
  go_ret
  exact ⟨by first | rfl | (simp [errW_none, errW_some] <;> rfl) | (simp [*, errW_none, errW_some] <;> rfl), by repeat (first | (with_reducible first | exact HB.out | apply below_alloc | apply pw_below_drewN | apply below_drew1 | refine below_set ?_ GE272.out | refine below_set ?_ GE273.out) | exact HB.out)⟩
noncomputable def graftagelaw56_ScriptLines.j0 : Nat → ByteArray → Int → Bool → Int → List ByteArray → Int → Bool → ByteArray → Option (Bool)
 | 0, _, _, _, _, _, _, _, _ => none
 | k + 1, x3, x4, x33, x276000, x276001, x276002, x276003, x276004 => if x33 = true then (some false) else ((script_Read.f x3).bind fun bt283 => (if x4 = 0 then (if bt283.2.2.2.2.2 = 0 then ((graftagelaw56_same.f k x276000 x276001 x276002 x276003 x276004 bt283.1 bt283.2.1 bt283.2.2.1 bt283.2.2.2.1 bt283.2.2.2.2.1).bind fun t292 => (some t292)) else (some false)) else (some true)))
noncomputable def graftagelaw56_ScriptLines.f (k : Nat) (a0_0 : Int) (l0_1 : List ByteArray) (a0_2 : Int) (a0_3 : Bool) (a0_4 : ByteArray) : Option (Bool) := (graftagelaw56_large.f k a0_0 l0_1 a0_2 a0_3 a0_4).bind fun t276 => (if t276 = true then ((graftagelaw56_lives.f).bind fun t277 => (some t277)) else ((script_Line.f k a0_0 l0_1 a0_2 a0_3 a0_4).bind fun bt278 => ((graftageref56_Line.f k a0_0 l0_1 a0_2 a0_3 a0_4).bind fun bt280 => ((graftagelaw56_lives.f).bind fun t282 => (if t282 = true then (if bt278.1.toList = bt280.1.toList then (graftagelaw56_ScriptLines.j0 k bt278.1 bt278.2 (bt278.2 != bt280.2) a0_0 l0_1 a0_2 a0_3 a0_4) else (graftagelaw56_ScriptLines.j0 k bt278.1 bt278.2 true a0_0 l0_1 a0_2 a0_3 a0_4)) else (graftagelaw56_ScriptLines.j0 k bt278.1 bt278.2 true a0_0 l0_1 a0_2 a0_3 a0_4))))))
set_option maxHeartbeats 8000000 in
set_option maxRecDepth 100000 in
theorem graftagelaw56_ScriptLines.calls (k : Nat) (a0_0 : Int) (A0_1 : Option Addr) (c0_1 : Nat) (l0_1 : List ByteArray) (a0_2 : Int) (a0_3 : Bool) (a0_4 : ByteArray) (r : Bool) (w : World) (hr0_1 : Kd.C Kd.string w A0_1 l0_1.length l0_1) (hc0_1 : l0_1.length ≤ c0_1) (hWd : Wds w) (h : graftagelaw56_ScriptLines.f k a0_0 l0_1 a0_2 a0_3 a0_4 = some r) (hr : r = true) :
  Calls Tryd.prog 3 #[.agg #[.int .i64 a0_0, .slice A0_1 l0_1.length c0_1, .int .i64 a0_2, .bool a0_3, .string a0_4]] w fun e w' => e = .returned (.bool r) ∧ Below w.heap.size w w' := by
 have hu24 := Tryd.underlying24
 have HR0_1 := Aside0.mk hr0_1
 have HC0_1 := Aside0.mk hc0_1
 clear hr0_1 hc0_1
 have HB := Aside0.mk (Below.refl w.heap.size w)
 have H : ((graftagelaw56_large.f k a0_0 l0_1 a0_2 a0_3 a0_4).bind fun t276 => (if t276 = true then ((graftagelaw56_lives.f).bind fun t277 => (some t277)) else ((script_Line.f k a0_0 l0_1 a0_2 a0_3 a0_4).bind fun bt278 => ((graftageref56_Line.f k a0_0 l0_1 a0_2 a0_3 a0_4).bind fun bt280 => ((graftagelaw56_lives.f).bind fun t282 => (if t282 = true then (if bt278.1.toList = bt280.1.toList then (graftagelaw56_ScriptLines.j0 k bt278.1 bt278.2 (bt278.2 != bt280.2) a0_0 l0_1 a0_2 a0_3 a0_4) else (graftagelaw56_ScriptLines.j0 k bt278.1 bt278.2 true a0_0 l0_1 a0_2 a0_3 a0_4)) else (graftagelaw56_ScriptLines.j0 k bt278.1 bt278.2 true a0_0 l0_1 a0_2 a0_3 a0_4))))))) = some r := h
 clear h
 replace H := Option.bind_eq_some_iff.mp H
 obtain ⟨t276, A20, H⟩ := H
 replace H : (if t276 = true then ((graftagelaw56_lives.f).bind fun t277 => (some t277)) else ((script_Line.f k a0_0 l0_1 a0_2 a0_3 a0_4).bind fun bt278 => ((graftageref56_Line.f k a0_0 l0_1 a0_2 a0_3 a0_4).bind fun bt280 => ((graftagelaw56_lives.f).bind fun t282 => (if t282 = true then (if bt278.1.toList = bt280.1.toList then (graftagelaw56_ScriptLines.j0 k bt278.1 bt278.2 (bt278.2 != bt280.2) a0_0 l0_1 a0_2 a0_3 a0_4) else (graftagelaw56_ScriptLines.j0 k bt278.1 bt278.2 true a0_0 l0_1 a0_2 a0_3 a0_4)) else (graftagelaw56_ScriptLines.j0 k bt278.1 bt278.2 true a0_0 l0_1 a0_2 a0_3 a0_4)))))) = some r := H
 have A2 := Aside0.mk A20
 clear A20
 by_cases c3 : t276 = true
 ·subst c3
  have H1 : ((graftagelaw56_lives.f).bind fun t277 => (some t277)) = some r := by rw [if_pos rfl] at H; exact H
  clear H
  have H := H1
  clear H1
  replace H := Option.bind_eq_some_iff.mp H
  obtain ⟨t277, A40, H⟩ := H
  replace H : (some t277) = some r := H
  have A4 := Aside0.mk A40
  clear A40
  obtain rfl := Option.some.inj H
  go_enter Tryd.func3, Tryd.ntmps3
  go_wp2_with (first | ((with_reducible refine gate_dst (N := 1) rfl ?_); refine box_event ?hg (N := 1) ?hd (cs := #[.int .i64 a0_0, .slice A0_1 l0_1.length c0_1, .int .i64 a0_2, .bool a0_3, .string a0_4]) (t := 24) ?hr ?_; (case hd => rfl); (case hg => rfl); (case hr => first | (go_simp; done) | (go_simp; rfl)); intro gb275 hg w5 hbox hb; have n0_ := Aside0.mk (below_step (by repeat (first | (with_reducible first | exact HB.out | apply below_alloc | apply pw_below_drewN | apply below_drew1) | exact HB.out)) hb); have n1_ := Aside0.mk (hbox); have n2_ := Aside0.mk ((by rw [hg]; exact (below_size (by repeat (first | (with_reducible first | exact HB.out | apply below_alloc | apply pw_below_drewN | apply below_drew1) | exact HB.out))) : w.heap.size ≤ gb275)); have n3_ := Aside0.mk ((by rw [hg]; exact (below_size (by repeat (first | (with_reducible first | exact HB.out | apply below_alloc | apply pw_below_drewN | apply below_drew1) | exact HB.out))) : w.heap.size ≤ gb275)); clear HB; have HB := n0_; have BK275 := n1_; have GW275 := n2_; have GE275 := n3_; clear n0_ n1_ n2_ n3_; clear hb hbox hg; have hcz6_0 : w5.cell? ⟨gb275, 0, none⟩ = some (.int .i64 a0_0) := (blk_cell BK275.out 0).trans rfl; have hcz6_1 : w5.cell? ⟨gb275, 1, none⟩ = some (.slice A0_1 l0_1.length c0_1) := (blk_cell BK275.out 1).trans rfl; have hcz6_2 : w5.cell? ⟨gb275, 2, none⟩ = some (.int .i64 a0_2) := (blk_cell BK275.out 2).trans rfl; have hcz6_3 : w5.cell? ⟨gb275, 3, none⟩ = some (.bool a0_3) := (blk_cell BK275.out 3).trans rfl; have hcz6_4 : w5.cell? ⟨gb275, 4, none⟩ = some (.string a0_4) := (blk_cell BK275.out 4).trans rfl; have hfz6_0 := blk_frozen BK275.out 0; have hfz6_1 := blk_frozen BK275.out 1; have hfz6_2 := blk_frozen BK275.out 2; have hfz6_3 := blk_frozen BK275.out 3; have hfz6_4 := blk_frozen BK275.out 4) | ((with_reducible refine gate_callee (f := 6) rfl ?_); refine goesL_ (some 10) rfl rfl Tryd.func6 (by kernel_rfl) rfl #[.agg #[.int .i64 a0_0, .slice A0_1 l0_1.length c0_1, .int .i64 a0_2, .bool a0_3, .string a0_4]] rfl (by (try simp only [List.map_toArray, List.map_cons, List.map_nil]); first | done | rfl | (simp only [List.length_drop, List.length_take]; rfl)) ?_; (with_reducible refine (graftagelaw56_large.calls k a0_0 _ _ l0_1 a0_2 a0_3 a0_4 true _ ?side1 ?side2 A2.out).mono ?_); (case side1 => repeat (first | exact (Kd.C_below HR0_1.out HB.out) | (with_reducible refine Kd.C_alloc ?_ _) | (with_reducible refine Kd.C_drewN ?_ _) | (with_reducible refine Kd.C_drew ?_))); (case side2 => exact HC0_1.out); rintro e w7 ⟨rfl, hb⟩; refine ⟨_, rfl, ?_⟩; have n0_ := Aside0.mk (blk_below (g := gb275) (o := .cells #[.int .i64 a0_0, .slice A0_1 l0_1.length c0_1, .int .i64 a0_2, .bool a0_3, .string a0_4] 24 (0, 0)) (by (with_reducible repeat (first | refine blk_drewN ?_ _ | refine blk_drew ?_ | refine blk_alloc ?_ _)); exact BK275.out) hb); have n1_ := Aside0.mk (below_step (by repeat (first | (with_reducible first | exact HB.out | apply below_alloc | apply pw_below_drewN | apply below_drew1 | refine below_set ?_ GE275.out) | exact HB.out)) hb); clear BK275; clear HB; have BK275 := n0_; have HB := n1_; clear n0_ n1_; (try clear hb); (try clear hb2); (try clear hk); (try clear hi)) | ((with_reducible refine gate_callee (f := 7) rfl ?_); refine goesL_ (some 11) rfl rfl Tryd.func7 (by kernel_rfl) rfl #[] rfl (by (try simp only [List.map_toArray, List.map_cons, List.map_nil]); first | done | rfl | (simp only [List.length_drop, List.length_take]; rfl)) ?_; (with_reducible refine (graftagelaw56_lives.calls  t277 _ (hWd.below (by repeat (first | (with_reducible first | exact HB.out | apply below_alloc | apply pw_below_drewN | apply below_drew1 | refine below_set ?_ GE272.out | refine below_set ?_ GE273.out | refine below_set ?_ GE275.out | refine below_set ?_ GE291.out) | exact HB.out))) A4.out).mono ?_); rintro e w8 ⟨rfl, hb⟩; refine ⟨_, rfl, ?_⟩; have n0_ := Aside0.mk (blk_below (g := gb275) (o := .cells #[.int .i64 a0_0, .slice A0_1 l0_1.length c0_1, .int .i64 a0_2, .bool a0_3, .string a0_4] 24 (0, 0)) (by (with_reducible repeat (first | refine blk_drewN ?_ _ | refine blk_drew ?_ | refine blk_alloc ?_ _)); exact BK275.out) hb); have n1_ := Aside0.mk (below_step (by repeat (first | (with_reducible first | exact HB.out | apply below_alloc | apply pw_below_drewN | apply below_drew1 | refine below_set ?_ GE275.out) | exact HB.out)) hb); clear BK275; clear HB; have BK275 := n0_; have HB := n1_; clear n0_ n1_; (try clear hb); (try clear hb2); (try clear hk); (try clear hi)))
  go_ret
  exact ⟨by first | rfl | (simp [errW_none, errW_some] <;> rfl) | (simp [*, errW_none, errW_some] <;> rfl), by repeat (first | (with_reducible first | exact HB.out | apply below_alloc | apply pw_below_drewN | apply below_drew1 | refine below_set ?_ GE275.out) | exact HB.out)⟩
 ·replace c3 := Bool.eq_false_iff.mpr c3
  subst c3
  have H1 : ((script_Line.f k a0_0 l0_1 a0_2 a0_3 a0_4).bind fun bt278 => ((graftageref56_Line.f k a0_0 l0_1 a0_2 a0_3 a0_4).bind fun bt280 => ((graftagelaw56_lives.f).bind fun t282 => (if t282 = true then (if bt278.1.toList = bt280.1.toList then (graftagelaw56_ScriptLines.j0 k bt278.1 bt278.2 (bt278.2 != bt280.2) a0_0 l0_1 a0_2 a0_3 a0_4) else (graftagelaw56_ScriptLines.j0 k bt278.1 bt278.2 true a0_0 l0_1 a0_2 a0_3 a0_4)) else (graftagelaw56_ScriptLines.j0 k bt278.1 bt278.2 true a0_0 l0_1 a0_2 a0_3 a0_4))))) = some r := by rw [if_neg (show ¬ (false = true) by decide)] at H; exact H
  clear H
  have H := H1
  clear H1
  replace H := Option.bind_eq_some_iff.mp H
  obtain ⟨⟨t278, t279⟩, A90, H⟩ := H
  replace H : ((graftageref56_Line.f k a0_0 l0_1 a0_2 a0_3 a0_4).bind fun bt280 => ((graftagelaw56_lives.f).bind fun t282 => (if t282 = true then (if t278.toList = bt280.1.toList then (graftagelaw56_ScriptLines.j0 k t278 t279 (t279 != bt280.2) a0_0 l0_1 a0_2 a0_3 a0_4) else (graftagelaw56_ScriptLines.j0 k t278 t279 true a0_0 l0_1 a0_2 a0_3 a0_4)) else (graftagelaw56_ScriptLines.j0 k t278 t279 true a0_0 l0_1 a0_2 a0_3 a0_4)))) = some r := H
  have A9 := Aside0.mk A90
  clear A90
  replace H := Option.bind_eq_some_iff.mp H
  obtain ⟨⟨t280, t281⟩, A100, H⟩ := H
  replace H : ((graftagelaw56_lives.f).bind fun t282 => (if t282 = true then (if t278.toList = t280.toList then (graftagelaw56_ScriptLines.j0 k t278 t279 (t279 != t281) a0_0 l0_1 a0_2 a0_3 a0_4) else (graftagelaw56_ScriptLines.j0 k t278 t279 true a0_0 l0_1 a0_2 a0_3 a0_4)) else (graftagelaw56_ScriptLines.j0 k t278 t279 true a0_0 l0_1 a0_2 a0_3 a0_4))) = some r := H
  have A10 := Aside0.mk A100
  clear A100
  have HC11 := Aside0.mk H
  clear H
  go_enter Tryd.func3, Tryd.ntmps3
  go_upto_region 5 with (first | ((with_reducible refine gate_dst (N := 1) rfl ?_); refine box_event ?hg (N := 1) ?hd (cs := #[.int .i64 a0_0, .slice A0_1 l0_1.length c0_1, .int .i64 a0_2, .bool a0_3, .string a0_4]) (t := 24) ?hr ?_; (case hd => rfl); (case hg => rfl); (case hr => first | (go_simp; done) | (go_simp; rfl)); intro gb275 hg w12 hbox hb; have n0_ := Aside0.mk (below_step (by repeat (first | (with_reducible first | exact HB.out | apply below_alloc | apply pw_below_drewN | apply below_drew1) | exact HB.out)) hb); have n1_ := Aside0.mk (hbox); have n2_ := Aside0.mk ((by rw [hg]; exact (below_size (by repeat (first | (with_reducible first | exact HB.out | apply below_alloc | apply pw_below_drewN | apply below_drew1) | exact HB.out))) : w.heap.size ≤ gb275)); have n3_ := Aside0.mk ((by rw [hg]; exact (below_size (by repeat (first | (with_reducible first | exact HB.out | apply below_alloc | apply pw_below_drewN | apply below_drew1) | exact HB.out))) : w.heap.size ≤ gb275)); clear HB; have HB := n0_; have BK275 := n1_; have GW275 := n2_; have GE275 := n3_; clear n0_ n1_ n2_ n3_; clear hb hbox hg; have hcz13_0 : w12.cell? ⟨gb275, 0, none⟩ = some (.int .i64 a0_0) := (blk_cell BK275.out 0).trans rfl; have hcz13_1 : w12.cell? ⟨gb275, 1, none⟩ = some (.slice A0_1 l0_1.length c0_1) := (blk_cell BK275.out 1).trans rfl; have hcz13_2 : w12.cell? ⟨gb275, 2, none⟩ = some (.int .i64 a0_2) := (blk_cell BK275.out 2).trans rfl; have hcz13_3 : w12.cell? ⟨gb275, 3, none⟩ = some (.bool a0_3) := (blk_cell BK275.out 3).trans rfl; have hcz13_4 : w12.cell? ⟨gb275, 4, none⟩ = some (.string a0_4) := (blk_cell BK275.out 4).trans rfl; have hfz13_0 := blk_frozen BK275.out 0; have hfz13_1 := blk_frozen BK275.out 1; have hfz13_2 := blk_frozen BK275.out 2; have hfz13_3 := blk_frozen BK275.out 3; have hfz13_4 := blk_frozen BK275.out 4) | ((with_reducible refine gate_callee (f := 6) rfl ?_); refine goesL_ (some 10) rfl rfl Tryd.func6 (by kernel_rfl) rfl #[.agg #[.int .i64 a0_0, .slice A0_1 l0_1.length c0_1, .int .i64 a0_2, .bool a0_3, .string a0_4]] rfl (by (try simp only [List.map_toArray, List.map_cons, List.map_nil]); first | done | rfl | (simp only [List.length_drop, List.length_take]; rfl)) ?_; (with_reducible refine (graftagelaw56_large.calls k a0_0 _ _ l0_1 a0_2 a0_3 a0_4 false _ ?side1 ?side2 A2.out).mono ?_); (case side1 => repeat (first | exact (Kd.C_below HR0_1.out HB.out) | (with_reducible refine Kd.C_alloc ?_ _) | (with_reducible refine Kd.C_drewN ?_ _) | (with_reducible refine Kd.C_drew ?_))); (case side2 => exact HC0_1.out); rintro e w14 ⟨rfl, hb⟩; refine ⟨_, rfl, ?_⟩; have n0_ := Aside0.mk (blk_below (g := gb275) (o := .cells #[.int .i64 a0_0, .slice A0_1 l0_1.length c0_1, .int .i64 a0_2, .bool a0_3, .string a0_4] 24 (0, 0)) (by (with_reducible repeat (first | refine blk_drewN ?_ _ | refine blk_drew ?_ | refine blk_alloc ?_ _)); exact BK275.out) hb); have n1_ := Aside0.mk (below_step (by repeat (first | (with_reducible first | exact HB.out | apply below_alloc | apply pw_below_drewN | apply below_drew1 | refine below_set ?_ GE275.out) | exact HB.out)) hb); clear BK275; clear HB; have BK275 := n0_; have HB := n1_; clear n0_ n1_; (try clear hb); (try clear hb2); (try clear hk); (try clear hi); have hcz15_0 : w14.cell? ⟨gb275, 0, none⟩ = some (.int .i64 a0_0) := (blk_cell BK275.out 0).trans rfl; have hcz15_1 : w14.cell? ⟨gb275, 1, none⟩ = some (.slice A0_1 l0_1.length c0_1) := (blk_cell BK275.out 1).trans rfl; have hcz15_2 : w14.cell? ⟨gb275, 2, none⟩ = some (.int .i64 a0_2) := (blk_cell BK275.out 2).trans rfl; have hcz15_3 : w14.cell? ⟨gb275, 3, none⟩ = some (.bool a0_3) := (blk_cell BK275.out 3).trans rfl; have hcz15_4 : w14.cell? ⟨gb275, 4, none⟩ = some (.string a0_4) := (blk_cell BK275.out 4).trans rfl; have hfz15_0 := blk_frozen BK275.out 0; have hfz15_1 := blk_frozen BK275.out 1; have hfz15_2 := blk_frozen BK275.out 2; have hfz15_3 := blk_frozen BK275.out 3; have hfz15_4 := blk_frozen BK275.out 4) | ((with_reducible refine gate_callee (f := 8) rfl ?_); refine goesL_ (some 14) rfl rfl Tryd.func8 (by kernel_rfl) rfl #[.agg #[.int .i64 a0_0, .slice A0_1 l0_1.length c0_1, .int .i64 a0_2, .bool a0_3, .string a0_4]] rfl (by (try simp only [List.map_toArray, List.map_cons, List.map_nil]); first | done | rfl | (simp only [List.length_drop, List.length_take]; rfl)) ?_; (with_reducible refine (script_Line.calls k a0_0 _ _ l0_1 a0_2 a0_3 a0_4 t278 t279 _ ?side1 ?side2 (hWd.below (by repeat (first | (with_reducible first | exact HB.out | apply below_alloc | apply pw_below_drewN | apply below_drew1 | refine below_set ?_ GE272.out | refine below_set ?_ GE273.out | refine below_set ?_ GE275.out | refine below_set ?_ GE291.out) | exact HB.out))) A9.out).mono ?_); (case side1 => repeat (first | exact (Kd.C_below HR0_1.out HB.out) | (with_reducible refine Kd.C_alloc ?_ _) | (with_reducible refine Kd.C_drewN ?_ _) | (with_reducible refine Kd.C_drew ?_))); (case side2 => exact HC0_1.out); rintro e w16 ⟨rfl, hb⟩; refine ⟨_, rfl, ?_⟩; have n0_ := Aside0.mk (blk_below (g := gb275) (o := .cells #[.int .i64 a0_0, .slice A0_1 l0_1.length c0_1, .int .i64 a0_2, .bool a0_3, .string a0_4] 24 (0, 0)) (by (with_reducible repeat (first | refine blk_drewN ?_ _ | refine blk_drew ?_ | refine blk_alloc ?_ _)); exact BK275.out) hb); have n1_ := Aside0.mk (below_step (by repeat (first | (with_reducible first | exact HB.out | apply below_alloc | apply pw_below_drewN | apply below_drew1 | refine below_set ?_ GE275.out) | exact HB.out)) hb); clear BK275; clear HB; have BK275 := n0_; have HB := n1_; clear n0_ n1_; (try clear hb); (try clear hb2); (try clear hk); (try clear hi); have hcz17_0 : w16.cell? ⟨gb275, 0, none⟩ = some (.int .i64 a0_0) := (blk_cell BK275.out 0).trans rfl; have hcz17_1 : w16.cell? ⟨gb275, 1, none⟩ = some (.slice A0_1 l0_1.length c0_1) := (blk_cell BK275.out 1).trans rfl; have hcz17_2 : w16.cell? ⟨gb275, 2, none⟩ = some (.int .i64 a0_2) := (blk_cell BK275.out 2).trans rfl; have hcz17_3 : w16.cell? ⟨gb275, 3, none⟩ = some (.bool a0_3) := (blk_cell BK275.out 3).trans rfl; have hcz17_4 : w16.cell? ⟨gb275, 4, none⟩ = some (.string a0_4) := (blk_cell BK275.out 4).trans rfl; have hfz17_0 := blk_frozen BK275.out 0; have hfz17_1 := blk_frozen BK275.out 1; have hfz17_2 := blk_frozen BK275.out 2; have hfz17_3 := blk_frozen BK275.out 3; have hfz17_4 := blk_frozen BK275.out 4) | ((with_reducible refine gate_callee (f := 9) rfl ?_); refine goesL_ (some 19) rfl rfl Tryd.func9 (by kernel_rfl) rfl #[.agg #[.int .i64 a0_0, .slice A0_1 l0_1.length c0_1, .int .i64 a0_2, .bool a0_3, .string a0_4]] rfl (by (try simp only [List.map_toArray, List.map_cons, List.map_nil]); first | done | rfl | (simp only [List.length_drop, List.length_take]; rfl)) ?_; (with_reducible refine (graftageref56_Line.calls k a0_0 _ _ l0_1 a0_2 a0_3 a0_4 t280 t281 _ ?side1 ?side2 A10.out).mono ?_); (case side1 => repeat (first | exact (Kd.C_below HR0_1.out HB.out) | (with_reducible refine Kd.C_alloc ?_ _) | (with_reducible refine Kd.C_drewN ?_ _) | (with_reducible refine Kd.C_drew ?_))); (case side2 => exact HC0_1.out); rintro e w18 ⟨rfl, hb⟩; refine ⟨_, rfl, ?_⟩; have n0_ := Aside0.mk (blk_below (g := gb275) (o := .cells #[.int .i64 a0_0, .slice A0_1 l0_1.length c0_1, .int .i64 a0_2, .bool a0_3, .string a0_4] 24 (0, 0)) (by (with_reducible repeat (first | refine blk_drewN ?_ _ | refine blk_drew ?_ | refine blk_alloc ?_ _)); exact BK275.out) hb); have n1_ := Aside0.mk (below_step (by repeat (first | (with_reducible first | exact HB.out | apply below_alloc | apply pw_below_drewN | apply below_drew1 | refine below_set ?_ GE275.out) | exact HB.out)) hb); clear BK275; clear HB; have BK275 := n0_; have HB := n1_; clear n0_ n1_; (try clear hb); (try clear hb2); (try clear hk); (try clear hi)))
  (try simp only [Act.put, List.setIfInBounds_toArray, List.set_cons_zero, List.set_cons_succ])
  go_cut [33] (fun v33 wc => ∃ (kq : Nat) (x33_10 : Bool), v33 = .bool x33_10 ∧ Aside0 (graftagelaw56_ScriptLines.j0 kq t278 t279 x33_10 a0_0 l0_1 a0_2 a0_3 a0_4 = some r) ∧ Aside0 (kq ≤ k) ∧ Aside0 (wc.heap[gb275]? = some (.cells #[.int .i64 a0_0, (.slice A0_1 l0_1.length c0_1), .int .i64 a0_2, .bool a0_3, .string a0_4] 24 (0, 0))) ∧ Aside0 (Below w.heap.size w wc))
  case first =>
   have H := HC11.out
   clear HC11
   replace H := Option.bind_eq_some_iff.mp H
   obtain ⟨t282, A190, H⟩ := H
   replace H : (if t282 = true then (if t278.toList = t280.toList then (graftagelaw56_ScriptLines.j0 k t278 t279 (t279 != t281) a0_0 l0_1 a0_2 a0_3 a0_4) else (graftagelaw56_ScriptLines.j0 k t278 t279 true a0_0 l0_1 a0_2 a0_3 a0_4)) else (graftagelaw56_ScriptLines.j0 k t278 t279 true a0_0 l0_1 a0_2 a0_3 a0_4)) = some r := H
   have A19 := Aside0.mk A190
   clear A190
   by_cases c20 : t282 = true
   ·subst c20
    have H1 : (if t278.toList = t280.toList then (graftagelaw56_ScriptLines.j0 k t278 t279 (t279 != t281) a0_0 l0_1 a0_2 a0_3 a0_4) else (graftagelaw56_ScriptLines.j0 k t278 t279 true a0_0 l0_1 a0_2 a0_3 a0_4)) = some r := by rw [if_pos rfl] at H; exact H
    clear H
    have H := H1
    clear H1
    by_cases c21 : t278.toList = t280.toList
    ·rw [if_pos c21] at H
     have c21b0 : (t278.toList == t280.toList) = true := beq_iff_eq.mpr c21
     have c21b1 : (t278.toList != t280.toList) = false := bne_eq_false_iff_eq.mpr c21
     clear c21
     (first | rw [c21b0] | (simp only [i64_w, i32_w]; rw [c21b0]) | skip)
     have H' := Aside0.mk H
     clear H
     go_wp2_with (first | ((with_reducible refine gate_callee (f := 7) rfl ?_); refine goesL_ (some 22) rfl rfl Tryd.func7 (by kernel_rfl) rfl #[] rfl (by (try simp only [List.map_toArray, List.map_cons, List.map_nil]); first | done | rfl | (simp only [List.length_drop, List.length_take]; rfl)) ?_; (with_reducible refine (graftagelaw56_lives.calls  true _ (hWd.below (by repeat (first | (with_reducible first | exact HB.out | apply below_alloc | apply pw_below_drewN | apply below_drew1 | refine below_set ?_ GE272.out | refine below_set ?_ GE273.out | refine below_set ?_ GE275.out | refine below_set ?_ GE291.out) | exact HB.out))) A19.out).mono ?_); rintro e w22 ⟨rfl, hb⟩; refine ⟨_, rfl, ?_⟩; have n0_ := Aside0.mk (blk_below (g := gb275) (o := .cells #[.int .i64 a0_0, .slice A0_1 l0_1.length c0_1, .int .i64 a0_2, .bool a0_3, .string a0_4] 24 (0, 0)) (by (with_reducible repeat (first | refine blk_drewN ?_ _ | refine blk_drew ?_ | refine blk_alloc ?_ _)); exact BK275.out) hb); have n1_ := Aside0.mk (below_step (by repeat (first | (with_reducible first | exact HB.out | apply below_alloc | apply pw_below_drewN | apply below_drew1 | refine below_set ?_ GE275.out) | exact HB.out)) hb); clear BK275; clear HB; have BK275 := n0_; have HB := n1_; clear n0_ n1_; (try clear hb); (try clear hb2); (try clear hk); (try clear hi)))
     go_meet
     case rel => exact ⟨_, ((t279 != t281)), (by first | rfl | (simp; done) | (simp [*]; done)), H', ⟨by first | omega | exact Nat.le_refl _⟩, ⟨by (with_reducible repeat (first | refine blk_drewN ?_ _ | refine blk_drew ?_ | refine blk_alloc ?_ _)); exact BK275.out⟩, ⟨by repeat (first | (with_reducible first | exact HB.out | apply below_alloc | apply pw_below_drewN | apply below_drew1 | refine below_set ?_ GE275.out) | exact HB.out)⟩⟩
    ·rw [if_neg c21] at H
     have c21b0 : (t278.toList == t280.toList) = false := beq_eq_false_iff_ne.mpr c21
     have c21b1 : (t278.toList != t280.toList) = true := bne_iff_ne.mpr c21
     (first | rw [c21b0] | (simp only [i64_w, i32_w]; rw [c21b0]) | skip)
     have H' := Aside0.mk H
     clear H
     go_wp2_with (first | ((with_reducible refine gate_callee (f := 7) rfl ?_); refine goesL_ (some 22) rfl rfl Tryd.func7 (by kernel_rfl) rfl #[] rfl (by (try simp only [List.map_toArray, List.map_cons, List.map_nil]); first | done | rfl | (simp only [List.length_drop, List.length_take]; rfl)) ?_; (with_reducible refine (graftagelaw56_lives.calls  true _ (hWd.below (by repeat (first | (with_reducible first | exact HB.out | apply below_alloc | apply pw_below_drewN | apply below_drew1 | refine below_set ?_ GE272.out | refine below_set ?_ GE273.out | refine below_set ?_ GE275.out | refine below_set ?_ GE291.out) | exact HB.out))) A19.out).mono ?_); rintro e w23 ⟨rfl, hb⟩; refine ⟨_, rfl, ?_⟩; have n0_ := Aside0.mk (blk_below (g := gb275) (o := .cells #[.int .i64 a0_0, .slice A0_1 l0_1.length c0_1, .int .i64 a0_2, .bool a0_3, .string a0_4] 24 (0, 0)) (by (with_reducible repeat (first | refine blk_drewN ?_ _ | refine blk_drew ?_ | refine blk_alloc ?_ _)); exact BK275.out) hb); have n1_ := Aside0.mk (below_step (by repeat (first | (with_reducible first | exact HB.out | apply below_alloc | apply pw_below_drewN | apply below_drew1 | refine below_set ?_ GE275.out) | exact HB.out)) hb); clear BK275; clear HB; have BK275 := n0_; have HB := n1_; clear n0_ n1_; (try clear hb); (try clear hb2); (try clear hk); (try clear hi)))
     go_meet
     case rel => exact ⟨_, (true), (by first | rfl | (simp; done) | (simp [*]; done)), H', ⟨by first | omega | exact Nat.le_refl _⟩, ⟨by (with_reducible repeat (first | refine blk_drewN ?_ _ | refine blk_drew ?_ | refine blk_alloc ?_ _)); exact BK275.out⟩, ⟨by repeat (first | (with_reducible first | exact HB.out | apply below_alloc | apply pw_below_drewN | apply below_drew1 | refine below_set ?_ GE275.out) | exact HB.out)⟩⟩
   ·replace c20 := Bool.eq_false_iff.mpr c20
    subst c20
    have H1 : (graftagelaw56_ScriptLines.j0 k t278 t279 true a0_0 l0_1 a0_2 a0_3 a0_4) = some r := by rw [if_neg (show ¬ (false = true) by decide)] at H; exact H
    clear H
    have H := H1
    clear H1
    have H' := Aside0.mk H
    clear H
    go_wp2_with (first | ((with_reducible refine gate_callee (f := 7) rfl ?_); refine goesL_ (some 22) rfl rfl Tryd.func7 (by kernel_rfl) rfl #[] rfl (by (try simp only [List.map_toArray, List.map_cons, List.map_nil]); first | done | rfl | (simp only [List.length_drop, List.length_take]; rfl)) ?_; (with_reducible refine (graftagelaw56_lives.calls  false _ (hWd.below (by repeat (first | (with_reducible first | exact HB.out | apply below_alloc | apply pw_below_drewN | apply below_drew1 | refine below_set ?_ GE272.out | refine below_set ?_ GE273.out | refine below_set ?_ GE275.out | refine below_set ?_ GE291.out) | exact HB.out))) A19.out).mono ?_); rintro e w24 ⟨rfl, hb⟩; refine ⟨_, rfl, ?_⟩; have n0_ := Aside0.mk (blk_below (g := gb275) (o := .cells #[.int .i64 a0_0, .slice A0_1 l0_1.length c0_1, .int .i64 a0_2, .bool a0_3, .string a0_4] 24 (0, 0)) (by (with_reducible repeat (first | refine blk_drewN ?_ _ | refine blk_drew ?_ | refine blk_alloc ?_ _)); exact BK275.out) hb); have n1_ := Aside0.mk (below_step (by repeat (first | (with_reducible first | exact HB.out | apply below_alloc | apply pw_below_drewN | apply below_drew1 | refine below_set ?_ GE275.out) | exact HB.out)) hb); clear BK275; clear HB; have BK275 := n0_; have HB := n1_; clear n0_ n1_; (try clear hb); (try clear hb2); (try clear hk); (try clear hi)))
    go_meet
    case rel => exact ⟨_, (true), (by first | rfl | (simp; done) | (simp [*]; done)), H', ⟨by first | omega | exact Nat.le_refl _⟩, ⟨by (with_reducible repeat (first | refine blk_drewN ?_ _ | refine blk_drew ?_ | refine blk_alloc ?_ _)); exact BK275.out⟩, ⟨by repeat (first | (with_reducible first | exact HB.out | apply below_alloc | apply pw_below_drewN | apply below_drew1 | refine below_set ?_ GE275.out) | exact HB.out)⟩⟩
  case rest =>
   clear HC11
   try clear c2
   try clear p2
   try clear c3
   try clear c6
   try clear c7
   try clear c8
   try clear c9
   try clear c20
   try clear c21
   try clear c21b0
   try clear c21b1
   try clear hcz13_0
   try clear hcz13_1
   try clear hcz13_2
   try clear hcz13_3
   try clear hcz13_4
   try clear hcz15_0
   try clear hcz15_1
   try clear hcz15_2
   try clear hcz15_3
   try clear hcz15_4
   try clear hcz17_0
   try clear hcz17_1
   try clear hcz17_2
   try clear hcz17_3
   try clear hcz17_4
   try clear hcz6_0
   try clear hcz6_1
   try clear hcz6_2
   try clear hcz6_3
   try clear hcz6_4
   try clear hfz13_0
   try clear hfz13_1
   try clear hfz13_2
   try clear hfz13_3
   try clear hfz13_4
   try clear hfz15_0
   try clear hfz15_1
   try clear hfz15_2
   try clear hfz15_3
   try clear hfz15_4
   try clear hfz17_0
   try clear hfz17_1
   try clear hfz17_2
   try clear hfz17_3
   try clear hfz17_4
   try clear hfz6_0
   try clear hfz6_1
   try clear hfz6_2
   try clear hfz6_3
   try clear hfz6_4
   obtain ⟨kq, x33_10, rfl, HA, HJ10, BK275, HB⟩ := hcut
   cases kq with
   | zero => exact absurd HA.out (by simp [graftagelaw56_ScriptLines.j0])
   | succ kj10 =>
    have H := HA.out
    clear HA
    simp only [graftagelaw56_ScriptLines.j0] at H
    by_cases c25 : x33_10 = true
    ·subst c25
     have H1 : (some false) = some r := by rw [if_pos rfl] at H; exact H
     clear H
     have H := H1
     clear H1
     exact absurd (H.trans (congrArg some hr)) (by decide)
    ·replace c25 := Bool.eq_false_iff.mpr c25
     subst c25
     have H1 : ((script_Read.f t278).bind fun bt283 => (if t279 = 0 then (if bt283.2.2.2.2.2 = 0 then ((graftagelaw56_same.f kj10 a0_0 l0_1 a0_2 a0_3 a0_4 bt283.1 bt283.2.1 bt283.2.2.1 bt283.2.2.2.1 bt283.2.2.2.2.1).bind fun t292 => (some t292)) else (some false)) else (some true))) = some r := by rw [if_neg (show ¬ (false = true) by decide)] at H; exact H
     clear H
     have H := H1
     clear H1
     replace H := Option.bind_eq_some_iff.mp H
     obtain ⟨⟨t283, t284, t287, t288, t289, t290⟩, A260, H⟩ := H
     replace H : (if t279 = 0 then (if t290 = 0 then ((graftagelaw56_same.f kj10 a0_0 l0_1 a0_2 a0_3 a0_4 t283 t284 t287 t288 t289).bind fun t292 => (some t292)) else (some false)) else (some true)) = some r := H
     have A26 := Aside0.mk A260
     clear A260
     by_cases c27 : t279 = 0
     ·rw [if_pos c27] at H
      have c27b0 : (t279 == 0) = true := beq_iff_eq.mpr c27
      have c27b1 : (t279 != 0) = false := bne_eq_false_iff_eq.mpr c27
      clear c27
      by_cases c28 : t290 = 0
      ·rw [if_pos c28] at H
       have c28b0 : (t290 == 0) = true := beq_iff_eq.mpr c28
       have c28b1 : (t290 != 0) = false := bne_eq_false_iff_eq.mpr c28
       clear c28
       replace H := Option.bind_eq_some_iff.mp H
       obtain ⟨t292, A290, H⟩ := H
       replace H : (some t292) = some r := H
       have A29 := Aside0.mk A290
       clear A290
       obtain rfl := Option.some.inj H
       go_wp2_with (first | ((with_reducible refine gate_callee (f := 10) rfl ?_); refine goesL_ (some 36) rfl rfl Tryd.func10 (by kernel_rfl) rfl #[.string t278] rfl (by (try simp only [List.map_toArray, List.map_cons, List.map_nil]); first | done | rfl | (simp only [List.length_drop, List.length_take]; rfl)) ?_; (with_reducible refine (script_Read.calls t278 t283 t284 t287 t288 t289 t290 _ (hWd.below (by repeat (first | (with_reducible first | exact HB.out | apply below_alloc | apply pw_below_drewN | apply below_drew1 | refine below_set ?_ GE272.out | refine below_set ?_ GE273.out | refine below_set ?_ GE275.out | refine below_set ?_ GE291.out) | exact HB.out))) A26.out).mono ?_); rintro e w30 ⟨v285, rfl, ho0, hb⟩; refine ⟨_, rfl, ?_⟩; have n0_ := Aside0.mk (Kd.R_lower ho0 (below_size (by repeat (first | (with_reducible first | exact HB.out | apply below_alloc | apply pw_below_drewN | apply below_drew1 | refine below_set ?_ GE275.out) | exact HB.out)))); have n1_ := Aside0.mk (blk_below (g := gb275) (o := .cells #[.int .i64 a0_0, .slice A0_1 l0_1.length c0_1, .int .i64 a0_2, .bool a0_3, .string a0_4] 24 (0, 0)) (by (with_reducible repeat (first | refine blk_drewN ?_ _ | refine blk_drew ?_ | refine blk_alloc ?_ _)); exact BK275.out) hb); have n2_ := Aside0.mk (below_step (by repeat (first | (with_reducible first | exact HB.out | apply below_alloc | apply pw_below_drewN | apply below_drew1 | refine below_set ?_ GE275.out) | exact HB.out)) hb); clear BK275; clear HB; have HO286 := n0_; have BK275 := n1_; have HB := n2_; clear n0_ n1_ n2_; (try clear hb); (try clear hb2); (try clear hk); (try clear hi); (try clear ho0)) | ((with_reducible refine gate_dst (N := 7) rfl ?_); refine box_event ?hg (N := 7) ?hd (cs := #[.int .i64 0, .slice none 0 0, .int .i64 0, .bool false, .string (⟨#[]⟩ : ByteArray)]) (t := 24) ?hr ?_; (case hd => rfl); (case hg => rfl); (case hr => first | (go_simp; done) | (go_simp; rfl)); intro gb291 hg w31 hbox hb; have n0_ := Aside0.mk (Kd.R_below (by (with_reducible repeat (first | apply Kd.R_alloc | apply Kd.R_drewN | apply Kd.R_drew)); exact HO286.out) hb); have n1_ := Aside0.mk (blk_below (g := gb275) (o := .cells #[.int .i64 a0_0, .slice A0_1 l0_1.length c0_1, .int .i64 a0_2, .bool a0_3, .string a0_4] 24 (0, 0)) (by (with_reducible repeat (first | refine blk_drewN ?_ _ | refine blk_drew ?_ | refine blk_alloc ?_ _)); exact BK275.out) hb); have n2_ := Aside0.mk (below_step (by repeat (first | (with_reducible first | exact HB.out | apply below_alloc | apply pw_below_drewN | apply below_drew1 | refine below_set ?_ GE275.out) | exact HB.out)) hb); have n3_ := Aside0.mk (hbox); have n4_ := Aside0.mk ((by rw [hg]; exact (below_size (by repeat (first | (with_reducible first | exact HB.out | apply below_alloc | apply pw_below_drewN | apply below_drew1 | refine below_set ?_ GE275.out) | exact HB.out))) : w.heap.size ≤ gb291)); have n5_ := Aside0.mk ((by rw [hg]; exact (below_size (by repeat (first | (with_reducible first | exact HB.out | apply below_alloc | apply pw_below_drewN | apply below_drew1 | refine below_set ?_ GE275.out) | exact HB.out))) : w.heap.size ≤ gb291)); have n6_ := Aside0.mk ((by rw [hg]; exact Nat.ne_of_lt (blk_lt (g := gb275) (o := .cells #[.int .i64 a0_0, .slice A0_1 l0_1.length c0_1, .int .i64 a0_2, .bool a0_3, .string a0_4] 24 (0, 0)) (by (with_reducible repeat (first | refine blk_drewN ?_ _ | refine blk_drew ?_ | refine blk_alloc ?_ _)); exact BK275.out)) : gb275 ≠ gb291)); have n7_ := Aside0.mk ((by rw [hg]; exact Nat.ne_of_gt (blk_lt (g := gb275) (o := .cells #[.int .i64 a0_0, .slice A0_1 l0_1.length c0_1, .int .i64 a0_2, .bool a0_3, .string a0_4] 24 (0, 0)) (by (with_reducible repeat (first | refine blk_drewN ?_ _ | refine blk_drew ?_ | refine blk_alloc ?_ _)); exact BK275.out)) : gb291 ≠ gb275)); clear HO286; clear BK275; clear HB; have HO286 := n0_; have BK275 := n1_; have HB := n2_; have BK291 := n3_; have GW291 := n4_; have GE291 := n5_; have NB275_291 := n6_; have NB291_275 := n7_; clear n0_ n1_ n2_ n3_ n4_ n5_ n6_ n7_; clear hb hbox hg; have hnb32 := NB291_275.out; have hnc32 := NB275_291.out; have hcz33_0 : w31.cell? ⟨gb291, 0, none⟩ = some (.int .i64 0) := (blk_cell BK291.out 0).trans rfl; have hcz33_1 : w31.cell? ⟨gb291, 1, none⟩ = some (.slice none 0 0) := (blk_cell BK291.out 1).trans rfl; have hcz33_2 : w31.cell? ⟨gb291, 2, none⟩ = some (.int .i64 0) := (blk_cell BK291.out 2).trans rfl; have hcz33_3 : w31.cell? ⟨gb291, 3, none⟩ = some (.bool false) := (blk_cell BK291.out 3).trans rfl; have hcz33_4 : w31.cell? ⟨gb291, 4, none⟩ = some (.string (⟨#[]⟩ : ByteArray)) := (blk_cell BK291.out 4).trans rfl; have hfz33_0 := blk_frozen BK291.out 0; have hfz33_1 := blk_frozen BK291.out 1; have hfz33_2 := blk_frozen BK291.out 2; have hfz33_3 := blk_frozen BK291.out 3; have hfz33_4 := blk_frozen BK291.out 4; obtain ⟨Ao34, co34, eo34⟩ := Kd.R_slice HO286.out; subst eo34; have hcz35_0 : w31.cell? ⟨gb275, 0, none⟩ = some (.int .i64 a0_0) := (blk_cell BK275.out 0).trans rfl; have hcz35_1 : w31.cell? ⟨gb275, 1, none⟩ = some (.slice A0_1 l0_1.length c0_1) := (blk_cell BK275.out 1).trans rfl; have hcz35_2 : w31.cell? ⟨gb275, 2, none⟩ = some (.int .i64 a0_2) := (blk_cell BK275.out 2).trans rfl; have hcz35_3 : w31.cell? ⟨gb275, 3, none⟩ = some (.bool a0_3) := (blk_cell BK275.out 3).trans rfl; have hcz35_4 : w31.cell? ⟨gb275, 4, none⟩ = some (.string a0_4) := (blk_cell BK275.out 4).trans rfl; have hfz35_0 := blk_frozen BK275.out 0; have hfz35_1 := blk_frozen BK275.out 1; have hfz35_2 := blk_frozen BK275.out 2; have hfz35_3 := blk_frozen BK275.out 3; have hfz35_4 := blk_frozen BK275.out 4) | (go_at_call 11; (with_reducible refine (graftagelaw56_same.calls kj10 a0_0 _ _ l0_1 a0_2 a0_3 a0_4 t283 _ _ t284 t287 t288 t289 t292 _ ?side1 ?side2 ?side3 ?side4 A29.out).mono ?_); (case side1 => exact Kd.C_below HR0_1.out (by repeat (first | (with_reducible first | exact HB.out | apply below_alloc | apply pw_below_drewN | apply below_drew1 | refine below_set ?_ GE275.out | refine below_set ?_ GE291.out) | exact HB.out))); (case side2 => exact HC0_1.out); (case side3 => refine (Kd.R_reads' (e := 9) (base := w.heap.size) (ok := fun k_ => True) (n := t284.length) (c := co34) ?_).2.2; exact (by (with_reducible repeat (first | apply Kd.R_alloc | apply Kd.R_drewN | apply Kd.R_drew)); exact (Kd.R_mono (Kd.R_far (p := ⟨gb291, 4, none⟩) (Kd.R_far (p := ⟨gb291, 3, none⟩) (Kd.R_far (p := ⟨gb291, 2, none⟩) (Kd.R_far (p := ⟨gb291, 1, none⟩) (Kd.R_far (p := ⟨gb291, 0, none⟩) (Kd.R_types HO286.out BK291.out (by decide)) (fun _ hk => hk.2) (.int .i64 t283)) (fun _ hk => hk.2) (.slice Ao34 t284.length co34)) (fun _ hk => hk.2) (.int .i64 t287)) (fun _ hk => hk.2) (.bool t288)) (fun _ hk => hk.2) (.string t289)) (fun _ h_ => h_.1)))); (case side4 => exact (Kd.R_reads' HO286.out).2.1); rintro e w36 ⟨rfl, hb⟩; have n0_ := Aside0.mk (Kd.R_below (by (with_reducible repeat (first | apply Kd.R_alloc | apply Kd.R_drewN | apply Kd.R_drew)); exact (Kd.R_mono (Kd.R_far (p := ⟨gb291, 4, none⟩) (Kd.R_far (p := ⟨gb291, 3, none⟩) (Kd.R_far (p := ⟨gb291, 2, none⟩) (Kd.R_far (p := ⟨gb291, 1, none⟩) (Kd.R_far (p := ⟨gb291, 0, none⟩) (Kd.R_types HO286.out BK291.out (by decide)) (fun _ hk => hk.2) (.int .i64 t283)) (fun _ hk => hk.2) (.slice Ao34 t284.length co34)) (fun _ hk => hk.2) (.int .i64 t287)) (fun _ hk => hk.2) (.bool t288)) (fun _ hk => hk.2) (.string t289)) (fun _ h_ => h_.1))) hb); have n1_ := Aside0.mk (blk_below (g := gb275) (o := .cells #[.int .i64 a0_0, .slice A0_1 l0_1.length c0_1, .int .i64 a0_2, .bool a0_3, .string a0_4] 24 (0, 0)) (by (with_reducible repeat (first | refine blk_drewN ?_ _ | refine blk_drew ?_ | refine blk_alloc ?_ _)); refine blk_far ?_ NB275_291.out _; (with_reducible repeat (first | refine blk_drewN ?_ _ | refine blk_drew ?_ | refine blk_alloc ?_ _)); refine blk_far ?_ NB275_291.out _; (with_reducible repeat (first | refine blk_drewN ?_ _ | refine blk_drew ?_ | refine blk_alloc ?_ _)); refine blk_far ?_ NB275_291.out _; (with_reducible repeat (first | refine blk_drewN ?_ _ | refine blk_drew ?_ | refine blk_alloc ?_ _)); refine blk_far ?_ NB275_291.out _; (with_reducible repeat (first | refine blk_drewN ?_ _ | refine blk_drew ?_ | refine blk_alloc ?_ _)); refine blk_far ?_ NB275_291.out _; (with_reducible repeat (first | refine blk_drewN ?_ _ | refine blk_drew ?_ | refine blk_alloc ?_ _)); exact BK275.out) hb); have n2_ := Aside0.mk (blk_below (g := gb291) (o := .cells #[.int .i64 t283, .slice Ao34 t284.length co34, .int .i64 t287, .bool t288, .string t289] 24 (0, 0)) (by (with_reducible repeat (first | refine blk_drewN ?_ _ | refine blk_drew ?_ | refine blk_alloc ?_ _)); refine blk_put (cs := #[.int .i64 t283, .slice Ao34 t284.length co34, .int .i64 t287, .bool t288, .string (⟨#[]⟩ : ByteArray)]) ?_ 4 _ rfl; (with_reducible repeat (first | refine blk_drewN ?_ _ | refine blk_drew ?_ | refine blk_alloc ?_ _)); refine blk_put (cs := #[.int .i64 t283, .slice Ao34 t284.length co34, .int .i64 t287, .bool false, .string (⟨#[]⟩ : ByteArray)]) ?_ 3 _ rfl; (with_reducible repeat (first | refine blk_drewN ?_ _ | refine blk_drew ?_ | refine blk_alloc ?_ _)); refine blk_put (cs := #[.int .i64 t283, .slice Ao34 t284.length co34, .int .i64 0, .bool false, .string (⟨#[]⟩ : ByteArray)]) ?_ 2 _ rfl; (with_reducible repeat (first | refine blk_drewN ?_ _ | refine blk_drew ?_ | refine blk_alloc ?_ _)); refine blk_put (cs := #[.int .i64 t283, .slice none 0 0, .int .i64 0, .bool false, .string (⟨#[]⟩ : ByteArray)]) ?_ 1 _ rfl; (with_reducible repeat (first | refine blk_drewN ?_ _ | refine blk_drew ?_ | refine blk_alloc ?_ _)); refine blk_put (cs := #[.int .i64 0, .slice none 0 0, .int .i64 0, .bool false, .string (⟨#[]⟩ : ByteArray)]) ?_ 0 _ rfl; (with_reducible repeat (first | refine blk_drewN ?_ _ | refine blk_drew ?_ | refine blk_alloc ?_ _)); exact BK291.out) hb); have n3_ := Aside0.mk (below_step (by repeat (first | (with_reducible first | exact HB.out | apply below_alloc | apply pw_below_drewN | apply below_drew1 | refine below_set ?_ GE275.out | refine below_set ?_ GE291.out) | exact HB.out)) hb); clear HO286; clear BK275; clear BK291; clear HB; have HO286 := n0_; have BK275 := n1_; have BK291 := n2_; have HB := n3_; clear n0_ n1_ n2_ n3_; (try clear hb); (try clear hb2); (try clear hk); (try clear hi)))
       go_ret
       exact ⟨by first | rfl | (simp [errW_none, errW_some] <;> rfl) | (simp [*, errW_none, errW_some] <;> rfl), by repeat (first | (with_reducible first | exact HB.out | apply below_alloc | apply pw_below_drewN | apply below_drew1 | refine below_set ?_ GE275.out | refine below_set ?_ GE291.out) | exact HB.out)⟩
      ·rw [if_neg c28] at H
       have c28b0 : (t290 == 0) = false := beq_eq_false_iff_ne.mpr c28
       have c28b1 : (t290 != 0) = true := bne_iff_ne.mpr c28
       exact absurd (H.trans (congrArg some hr)) (by decide)
     ·rw [if_neg c27] at H
      have c27b0 : (t279 == 0) = false := beq_eq_false_iff_ne.mpr c27
      have c27b1 : (t279 != 0) = true := bne_iff_ne.mpr c27
      obtain rfl := Option.some.inj H
      go_wp2_with (first | ((with_reducible refine gate_callee (f := 10) rfl ?_); refine goesL_ (some 36) rfl rfl Tryd.func10 (by kernel_rfl) rfl #[.string t278] rfl (by (try simp only [List.map_toArray, List.map_cons, List.map_nil]); first | done | rfl | (simp only [List.length_drop, List.length_take]; rfl)) ?_; (with_reducible refine (script_Read.calls t278 t283 t284 t287 t288 t289 t290 _ (hWd.below (by repeat (first | (with_reducible first | exact HB.out | apply below_alloc | apply pw_below_drewN | apply below_drew1 | refine below_set ?_ GE272.out | refine below_set ?_ GE273.out | refine below_set ?_ GE275.out | refine below_set ?_ GE291.out) | exact HB.out))) A26.out).mono ?_); rintro e w37 ⟨v285, rfl, ho0, hb⟩; refine ⟨_, rfl, ?_⟩; have n0_ := Aside0.mk (Kd.R_lower ho0 (below_size (by repeat (first | (with_reducible first | exact HB.out | apply below_alloc | apply pw_below_drewN | apply below_drew1 | refine below_set ?_ GE275.out) | exact HB.out)))); have n1_ := Aside0.mk (blk_below (g := gb275) (o := .cells #[.int .i64 a0_0, .slice A0_1 l0_1.length c0_1, .int .i64 a0_2, .bool a0_3, .string a0_4] 24 (0, 0)) (by (with_reducible repeat (first | refine blk_drewN ?_ _ | refine blk_drew ?_ | refine blk_alloc ?_ _)); exact BK275.out) hb); have n2_ := Aside0.mk (below_step (by repeat (first | (with_reducible first | exact HB.out | apply below_alloc | apply pw_below_drewN | apply below_drew1 | refine below_set ?_ GE275.out) | exact HB.out)) hb); clear BK275; clear HB; have HO286 := n0_; have BK275 := n1_; have HB := n2_; clear n0_ n1_ n2_; (try clear hb); (try clear hb2); (try clear hk); (try clear hi); (try clear ho0)) | ((with_reducible refine gate_dst (N := 7) rfl ?_); refine box_event ?hg (N := 7) ?hd (cs := #[.int .i64 0, .slice none 0 0, .int .i64 0, .bool false, .string (⟨#[]⟩ : ByteArray)]) (t := 24) ?hr ?_; (case hd => rfl); (case hg => rfl); (case hr => first | (go_simp; done) | (go_simp; rfl)); intro gb291 hg w38 hbox hb; have n0_ := Aside0.mk (Kd.R_below (by (with_reducible repeat (first | apply Kd.R_alloc | apply Kd.R_drewN | apply Kd.R_drew)); exact HO286.out) hb); have n1_ := Aside0.mk (blk_below (g := gb275) (o := .cells #[.int .i64 a0_0, .slice A0_1 l0_1.length c0_1, .int .i64 a0_2, .bool a0_3, .string a0_4] 24 (0, 0)) (by (with_reducible repeat (first | refine blk_drewN ?_ _ | refine blk_drew ?_ | refine blk_alloc ?_ _)); exact BK275.out) hb); have n2_ := Aside0.mk (below_step (by repeat (first | (with_reducible first | exact HB.out | apply below_alloc | apply pw_below_drewN | apply below_drew1 | refine below_set ?_ GE275.out) | exact HB.out)) hb); have n3_ := Aside0.mk (hbox); have n4_ := Aside0.mk ((by rw [hg]; exact (below_size (by repeat (first | (with_reducible first | exact HB.out | apply below_alloc | apply pw_below_drewN | apply below_drew1 | refine below_set ?_ GE275.out) | exact HB.out))) : w.heap.size ≤ gb291)); have n5_ := Aside0.mk ((by rw [hg]; exact (below_size (by repeat (first | (with_reducible first | exact HB.out | apply below_alloc | apply pw_below_drewN | apply below_drew1 | refine below_set ?_ GE275.out) | exact HB.out))) : w.heap.size ≤ gb291)); have n6_ := Aside0.mk ((by rw [hg]; exact Nat.ne_of_lt (blk_lt (g := gb275) (o := .cells #[.int .i64 a0_0, .slice A0_1 l0_1.length c0_1, .int .i64 a0_2, .bool a0_3, .string a0_4] 24 (0, 0)) (by (with_reducible repeat (first | refine blk_drewN ?_ _ | refine blk_drew ?_ | refine blk_alloc ?_ _)); exact BK275.out)) : gb275 ≠ gb291)); have n7_ := Aside0.mk ((by rw [hg]; exact Nat.ne_of_gt (blk_lt (g := gb275) (o := .cells #[.int .i64 a0_0, .slice A0_1 l0_1.length c0_1, .int .i64 a0_2, .bool a0_3, .string a0_4] 24 (0, 0)) (by (with_reducible repeat (first | refine blk_drewN ?_ _ | refine blk_drew ?_ | refine blk_alloc ?_ _)); exact BK275.out)) : gb291 ≠ gb275)); clear HO286; clear BK275; clear HB; have HO286 := n0_; have BK275 := n1_; have HB := n2_; have BK291 := n3_; have GW291 := n4_; have GE291 := n5_; have NB275_291 := n6_; have NB291_275 := n7_; clear n0_ n1_ n2_ n3_ n4_ n5_ n6_ n7_; clear hb hbox hg; have hnb39 := NB291_275.out; have hnc39 := NB275_291.out; have hcz40_0 : w38.cell? ⟨gb291, 0, none⟩ = some (.int .i64 0) := (blk_cell BK291.out 0).trans rfl; have hcz40_1 : w38.cell? ⟨gb291, 1, none⟩ = some (.slice none 0 0) := (blk_cell BK291.out 1).trans rfl; have hcz40_2 : w38.cell? ⟨gb291, 2, none⟩ = some (.int .i64 0) := (blk_cell BK291.out 2).trans rfl; have hcz40_3 : w38.cell? ⟨gb291, 3, none⟩ = some (.bool false) := (blk_cell BK291.out 3).trans rfl; have hcz40_4 : w38.cell? ⟨gb291, 4, none⟩ = some (.string (⟨#[]⟩ : ByteArray)) := (blk_cell BK291.out 4).trans rfl; have hfz40_0 := blk_frozen BK291.out 0; have hfz40_1 := blk_frozen BK291.out 1; have hfz40_2 := blk_frozen BK291.out 2; have hfz40_3 := blk_frozen BK291.out 3; have hfz40_4 := blk_frozen BK291.out 4; obtain ⟨Ao41, co41, eo41⟩ := Kd.R_slice HO286.out; subst eo41))
      go_ret
      exact ⟨by first | rfl | (simp [errW_none, errW_some] <;> rfl) | (simp [*, errW_none, errW_some] <;> rfl), by repeat (first | (with_reducible first | exact HB.out | apply below_alloc | apply pw_below_drewN | apply below_drew1 | refine below_set ?_ GE275.out | refine below_set ?_ GE291.out) | exact HB.out)⟩
def graftageref56_Split.l0 : Nat → ByteArray → List ByteArray → Int → Int → Option (List ByteArray)
 | 0, _, _, _, _ => none
 | k + 1, x0, x3, x4, x5 => if x5 ≤ (x0.size : Int) then (if x5 = (x0.size : Int) then (if 0 ≤ x4 then (if x4 ≤ x5 then (if x3.length < 8796093022208 then (graftageref56_Split.l0 k x0 (x3 ++ [x0.extract (x4 : Int).toNat (x5 : Int).toNat]) (wrap64 (x5 + 1)) (wrap64 (x5 + 1))) else (none)) else (none)) else (none)) else (if 0 ≤ x5 then (if x5 < (x0.size : Int) then (if (bt x0 x5) = 32 then (if 0 ≤ x4 then (if x4 ≤ x5 then (if x3.length < 8796093022208 then (graftageref56_Split.l0 k x0 (x3 ++ [x0.extract (x4 : Int).toNat (x5 : Int).toNat]) (wrap64 (x5 + 1)) (wrap64 (x5 + 1))) else (none)) else (none)) else (none)) else (graftageref56_Split.l0 k x0 x3 x4 (wrap64 (x5 + 1)))) else (none)) else (none))) else (some x3)
def graftageref56_Split.f (k : Nat) (a0 : ByteArray) : Option (List ByteArray) := graftageref56_Split.l0 k a0 ([] : List ByteArray) 0 0
end Go.Proofs.YtcmemgahgenpdaaDoor.PSc
end
section
namespace Go.Proofs.YtcmemgahgenpdaaDoor.PSc
open Go.Proofs.YtcmemgahgenpdaaDoor.Hand Go.RowKit Go.Proofs.YtcmemgahgenpdaaDoorW.PrintWords Go.Proofs.YtcmemgahgenpdaaDoorW.PrintLast Go.Proofs.YtcmemgahgenpdaaDoorW.PrintMore
attribute [local go_sem] max2_int min2_int max_two min_two max_three min_three max_four min_four
set_option linter.unusedVariables false
set_option linter.unusedSimpArgs false
end Go.Proofs.YtcmemgahgenpdaaDoor.PSc
end
section
namespace Go.Proofs.YtcmemgahgenpdaaDoor.Pure
open Go.RowKit Go.Proofs.YtcmemgahgenpdaaDoor.PSc Go.Proofs.YtcmemgahgenpdaaDoor.Hand Go.Proofs.YtcmemgahgenpdaaDoorW.PrintWords Go.Proofs.YtcmemgahgenpdaaDoorW.PrintLast
set_option linter.unusedVariables false
set_option linter.unusedSimpArgs false
theorem u8_of (m : Nat) (h : m < 10) : (UInt8.ofNat (48 + m)).toNat = 48 + m := by simp; omega
theorem parse_dec (m : Nat) : ∀ (r : List UInt8), m < 1000000000000000000 → Lib.parseUint10 0 (Lib.decDigits m ++ r) = Lib.parseUint10 m r := by
  induction m using Nat.strongRecOn with
  | ind m ih =>
    intro r hm
    have step : ∀ (a d : Nat) (r : List UInt8), d < 10 → a < 100000000000000000 → Lib.parseUint10 a (UInt8.ofNat (48 + d) :: r) = Lib.parseUint10 (a * 10 + d) r := by
      intro a d r hd ha
      have h := u8_of d hd
      simp only [Lib.parseUint10]
      rw [h, if_pos (by omega), if_neg (by omega), if_neg (by omega), show 48 + d - 48 = d by omega]
    by_cases c : m < 10
    · rw [Lib.decDigits_one c]
      have := step 0 m r c (by omega)
      rw [Nat.zero_mul, Nat.zero_add] at this
      exact this
    · rw [dec_step m c, List.append_assoc, ih (m / 10) (by omega) _ (by omega)]
      have := step (m / 10) (m % 10) r (by omega) (by omega)
      rw [show m / 10 * 10 + m % 10 = m by omega] at this
      exact this
theorem parseMag_dec (m : Nat) (hm : m < 1000000000000000000) : Lib.parseMag (Lib.decDigits m) = .ok m := by
  unfold Lib.parseMag
  have h := parse_dec m [] hm
  rw [List.append_nil] at h
  rw [if_neg (fun e => by have := dec_size m; rw [e] at this; simp at this), h]
  rfl
theorem dec_mem (m : Nat) : ∀ c ∈ Lib.decDigits m, 48 ≤ c.toNat ∧ c.toNat ≤ 57 := by
  induction m using Nat.strongRecOn with
  | ind m ih =>
    intro c hc
    by_cases h : m < 10
    · rw [Lib.decDigits_one h, List.mem_singleton] at hc
      rw [hc, u8_of m h]; omega
    · rw [dec_step m h, List.mem_append, List.mem_singleton] at hc
      rcases hc with hc | rfl
      · exact ih (m / 10) (by omega) c hc
      · rw [u8_of _ (by omega)]; omega
theorem dec_head (m : Nat) : ∃ c t, Lib.decDigits m = c :: t ∧ (c.toNat = 48 → t = []) := by
  induction m using Nat.strongRecOn with
  | ind m ih =>
    by_cases h : m < 10
    · exact ⟨_, [], Lib.decDigits_one h, fun _ => rfl⟩
    · obtain ⟨c, t, e, h0⟩ := ih (m / 10) (by omega)
      refine ⟨c, t ++ [UInt8.ofNat (48 + m % 10)], by rw [dec_step m h, e]; rfl, fun hc => ?_⟩
      have ht := h0 hc
      subst ht
      by_cases h2 : m / 10 < 10
      · rw [Lib.decDigits_one h2] at e
        injection e with e1
        rw [← e1, u8_of _ h2] at hc
        omega
      · have h3 := dec_step (m / 10) h2
        rw [e] at h3
        have := congrArg List.length h3
        have hs := dec_size (m / 10 / 10)
        simp only [List.length_append, List.length_cons, List.length_nil] at this; omega
def NumIs (s : ByteArray) (v : Int) : Prop := Bs s = Lib.itoa v ∧ -1099511627776 ≤ v ∧ v ≤ 1099511627776
theorem atoi_itoa (v : Int) (h0 : -1099511627776 ≤ v) (h1 : v ≤ 1099511627776) : Lib.atoiAll (Lib.itoa v) = .ok v := by
  unfold Lib.itoa
  by_cases c : v < 0
  · rw [if_pos c]
    have hp := parseMag_dec v.natAbs (by omega)
    unfold Lib.atoiAll
    simp only [show (45 : UInt8).toNat = 45 from rfl, or_true, if_true, hp, not_true_eq_false, false_and, if_false, true_and]
    rw [if_neg (by omega)]
    congr 1; omega
  · rw [if_neg c]
    have hp := parseMag_dec v.toNat (by omega)
    obtain ⟨a, t, e, _⟩ := dec_head v.toNat
    have ha := dec_mem v.toNat a (by rw [e]; simp)
    rw [e] at hp ⊢
    unfold Lib.atoiAll
    simp only [show ¬ a.toNat = 43 by omega, show ¬ a.toNat = 45 by omega, or_false, if_false, hp, not_false_eq_true, true_and, false_and]
    rw [if_neg (by omega)]
    congr 1; omega
theorem numP_of {s : ByteArray} {v : Int} (h : NumIs s v) : numP s = (v, true) := by
  obtain ⟨h1, h2, h3⟩ := h
  unfold numP
  rw [show s.data.toList = Lib.itoa v from h1, atoi_itoa v h2 h3]
  simp only
  rw [if_pos ⟨Bs_inj (by rw [h1]; rfl), h2, h3⟩]
theorem bt_at {s : ByteArray} {i : Nat} (h : i < s.size) : bt s (i : Int) = (((Bs s)[i]'(by rw [Bs_size]; exact h)).toNat : Int) :=
  (bt_list s i h _).1 (List.getElem?_eq_getElem (by rw [data_length]; exact h))
end Go.Proofs.YtcmemgahgenpdaaDoor.Pure
end
section
namespace Go.Proofs.YtcmemgahgenpdaaDoor.Pure
open Go.RowKit Go.Proofs.YtcmemgahgenpdaaDoor.PSc Go.Proofs.YtcmemgahgenpdaaDoor.Hand Go.Proofs.YtcmemgahgenpdaaDoorW.PrintWords Go.Proofs.YtcmemgahgenpdaaDoorW.PrintLast
set_option linter.unusedVariables false
set_option linter.unusedSimpArgs false
def NoSp (w : ByteArray) : Prop := (32 : UInt8) ∉ Bs w
theorem Bs_join (l : List ByteArray) : Bs (joinQ l) = Lib.join (l.map Bs) [32] := rfl
theorem join_two (x y : List UInt8) (r : List (List UInt8)) : Lib.join (x :: y :: r) [32] = x ++ 32 :: Lib.join (y :: r) [32] := by
  rw [Lib.join_cons, Lib.join_cons]
  simp [Lib.joinTail]
theorem ext_mid {s w : ByteArray} {P T : List UInt8} (h : Bs s = P ++ (Bs w ++ T)) : s.extract P.length (P.length + w.size) = w := by
  apply Bs_inj
  show (s.extract P.length (P.length + w.size)).data.toList = _
  rw [Lib.extract_data]
  show ((Bs s).drop P.length).take _ = _
  rw [h, List.drop_left, show P.length + w.size - P.length = (Bs w).length by rw [Bs_size]; omega, List.take_left]
theorem split_run (s : ByteArray) (hs : s.size ≤ 1000000000) (w : ByteArray) (hw : NoSp w) (P T : List UInt8) (h : Bs s = P ++ (Bs w ++ T)) (x : List ByteArray) (r : List ByteArray)
    (hr : Ev (fun k => graftageref56_Split.l0 k s x (P.length : Nat) ((P.length + w.size : Nat) : Int)) r) : ∀ (d j : Nat), j + d = w.size → Ev (fun k => graftageref56_Split.l0 k s x (P.length : Nat) ((P.length + j : Nat) : Int)) r := by
  have hz : s.size = P.length + (w.size + T.length) := by rw [← Bs_size, h]; simp [Bs_size]
  intro d
  induction d with
  | zero =>
    intro j hj
    obtain rfl : j = w.size := by omega
    exact hr
  | succ d ih =>
    intro j hj
    have hlt : P.length + j < s.size := by omega
    have hb := bt_at hlt
    have hj2 : j < (Bs w).length := by rw [Bs_size]; omega
    have hne : bt s ((P.length + j : Nat) : Int) ≠ 32 := by
      rw [hb]
      have e : (Bs s)[P.length + j]'(by rw [Bs_size]; exact hlt) = (Bs w)[j] := by
        simp only [h]
        rw [List.getElem_append_right (by omega), List.getElem_append_left (by rw [Bs_size]; omega)]
        congr 1; omega
      rw [e]
      intro h2
      have h3 : (Bs w)[j].toNat = 32 := by exact_mod_cast h2
      exact hw (by rw [← show (Bs w)[j] = 32 from UInt8.toNat_inj.1 h3]; exact List.getElem_mem _)
    refine Ev.succ (Ev.congr (fun k => ?_) (ih (j + 1) (by omega)))
    rw [graftageref56_Split.l0, if_pos (by omega), if_neg (by omega), if_pos (by omega), if_pos (by omega), if_neg hne, wrap64_id (by omega) (by omega)]
    rfl
theorem split_l0 (s : ByteArray) (hs : s.size ≤ 1000000000) : ∀ (ws : List ByteArray) (P : List UInt8) (x : List ByteArray), ws ≠ [] → (∀ w ∈ ws, NoSp w) → Bs s = P ++ Lib.join (ws.map Bs) [32] → x.length ≤ P.length →
    Ev (fun k => graftageref56_Split.l0 k s x (P.length : Nat) (P.length : Nat)) (x ++ ws)
  | [], _, _, h, _, _, _ => absurd rfl h
  | [w], P, x, _, hn, h, hx => by
    have h2 : Bs s = P ++ (Bs w ++ []) := by rw [h, List.append_nil, List.map_cons, List.map_nil, Lib.join_one]
    have hz : s.size = P.length + w.size := by rw [← Bs_size, h2]; simp [Bs_size]
    refine split_run s hs w (hn w (by simp)) P [] h2 x _ ?_ w.size 0 (by omega)
    have w1 : wrap64 (((P.length + w.size : Nat) : Int) + 1) = ((P.length + w.size + 1 : Nat) : Int) := by rw [wrap64_id (by omega) (by omega)]; rfl
    refine Ev.succ (Ev.succ (Ev.of fun k => ?_))
    rw [graftageref56_Split.l0, if_pos (by omega), if_pos (by omega), if_pos (by omega), if_pos (by omega), if_pos (by omega), w1, graftageref56_Split.l0, if_neg (by omega), Int.toNat_natCast, Int.toNat_natCast, ext_mid h2]
  | w :: w2 :: r, P, x, _, hn, h, hx => by
    have h2 : Bs s = P ++ (Bs w ++ 32 :: Lib.join ((w2 :: r).map Bs) [32]) := by rw [h, List.map_cons, List.map_cons, join_two]
    have hz : s.size = P.length + (w.size + ((Lib.join ((w2 :: r).map Bs) [32]).length + 1)) := by rw [← Bs_size, h2]; simp [Bs_size]
    have h3 : Bs s = (P ++ Bs w) ++ 32 :: Lib.join ((w2 :: r).map Bs) [32] := by rw [h2]; simp
    obtain ⟨b, _⟩ := bt_app h3
    have e1 : (P ++ Bs w).length = P.length + w.size := by rw [List.length_append, Bs_size]
    rw [e1] at b
    have ih := split_l0 s hs (w2 :: r) (P ++ Bs w ++ [32]) (x ++ [w]) (by simp) (fun y hy => hn y (by simp at hy ⊢; exact Or.inr hy)) (by rw [h3]; simp) (by simp; omega)
    have e2 : (P ++ Bs w ++ [(32 : UInt8)]).length = P.length + w.size + 1 := by rw [List.length_append, e1]; rfl
    rw [e2] at ih
    refine split_run s hs w (hn w (by simp)) P _ h2 x _ ?_ w.size 0 (by omega)
    have w1 : wrap64 (((P.length + w.size : Nat) : Int) + 1) = ((P.length + w.size + 1 : Nat) : Int) := by rw [wrap64_id (by omega) (by omega)]; rfl
    rw [List.append_assoc] at ih
    refine Ev.succ (Ev.congr (fun k => ?_) ih)
    rw [graftageref56_Split.l0, if_pos (by omega), if_neg (by omega), if_pos (by omega), if_pos (by omega), if_pos (by rw [b]; rfl), if_pos (by omega), if_pos (by omega), if_pos (by omega), w1, Int.toNat_natCast, Int.toNat_natCast, ext_mid h2]
theorem split_ev (s : ByteArray) (hs : s.size ≤ 1000000000) (ws : List ByteArray) (h0 : ws ≠ []) (hn : ∀ w ∈ ws, NoSp w) (h : s = joinQ ws) : Ev (fun k => graftageref56_Split.f k s) ws := by
  have := split_l0 s hs ws [] [] h0 hn (by rw [h, Bs_join]; rfl) (Nat.le_refl _)
  exact Ev.congr (fun k => rfl) this
theorem splitB_words : ∀ (k : Nat) (s : ByteArray), Lib.countB s sepS = k → (∀ w ∈ Lib.splitB sepS 0 k s, NoSp w) ∧ Lib.join ((Lib.splitB sepS 0 k s).map Bs) [32] = Bs s ∧ Lib.splitB sepS 0 k s ≠ []
  | k, s, hk => by
    have hidx : Lib.indexB s sepS = Lib.indexByte (Bs s) 32 := Lib.index_one _ _
    rcases Lib.indexB_cases s sepS with h | ⟨i, h, hi⟩
    · rw [Lib.splitB_miss sepS 0 k s h]
      refine ⟨fun w hw => ?_, by simp [Lib.join_one], by simp⟩
      rw [List.mem_singleton.1 hw]
      intro hm
      obtain ⟨j, hj, e⟩ := List.getElem_of_mem hm
      exact Lib.indexByte_none (hidx ▸ h) j (by rw [List.getElem?_eq_getElem hj, e])
    · have hc := Lib.countB_hit s sepS i (by decide) h
      obtain ⟨k', rfl⟩ : ∃ k', k = k' + 1 := ⟨k - 1, by omega⟩
      obtain ⟨i1, i2, i3⟩ := splitB_words k' (s.extract (i + sepS.size) s.size) (by omega)
      rw [Lib.splitB_hit sepS 0 k' s i h]
      obtain ⟨h1, h2⟩ := Lib.indexByte_some (hidx ▸ h)
      have hlt : i < (Bs s).length := (List.getElem?_eq_some_iff.1 h1).1
      have e1 : Bs (s.extract 0 (i + 0)) = (Bs s).take i := by
        unfold Bs; rw [Lib.extract_data]; simp
      have e2 : Bs (s.extract (i + sepS.size) s.size) = (Bs s).drop (i + 1) := by
        unfold Bs
        rw [Lib.extract_data, show sepS.size = 1 from rfl, List.take_of_length_le (by rw [List.length_drop, data_length]; omega)]
      refine ⟨fun w hw => ?_, ?_, by simp⟩
      · rcases List.mem_cons.1 hw with rfl | hw
        · intro hm
          rw [e1] at hm
          obtain ⟨j, hj, e⟩ := List.getElem_of_mem hm
          rw [List.length_take] at hj
          rw [List.getElem_take] at e
          exact h2 j (by omega) (by rw [List.getElem?_eq_getElem (by omega), e])
        · exact i1 w hw
      · cases hl : Lib.splitB sepS 0 k' (s.extract (i + sepS.size) s.size) with
        | nil => exact absurd hl i3
        | cons y r =>
          rw [hl] at i2
          rw [List.map_cons, List.map_cons, join_two, ← List.map_cons, i2, e1, e2]
          have := List.drop_eq_getElem_cons hlt
          have h32 : (Bs s)[i] = 32 := (List.getElem?_eq_some_iff.1 h1).2
          rw [h32] at this
          rw [← this, List.take_append_drop]
theorem splitQ_words (s : ByteArray) : splitQ s ≠ [] ∧ (∀ w ∈ splitQ s, NoSp w) ∧ joinQ (splitQ s) = s := by
  obtain ⟨h1, h2, h3⟩ := splitB_words _ s rfl
  exact ⟨h3, h1, Bs_inj (by rw [Bs_join]; exact h2)⟩
theorem splitQ_ev (s : ByteArray) (hs : s.size ≤ 1000000000) : Ev (fun k => graftageref56_Split.f k s) (splitQ s) :=
  split_ev s hs _ (splitQ_words s).1 (splitQ_words s).2.1 (splitQ_words s).2.2.symm
theorem splitQ_join (ws : List ByteArray) (h0 : ws ≠ []) (hn : ∀ w ∈ ws, NoSp w) (hs : (joinQ ws).size ≤ 1000000000) : splitQ (joinQ ws) = ws :=
  Ev.det (splitQ_ev _ hs) (split_ev _ hs ws h0 hn rfl)
end Go.Proofs.YtcmemgahgenpdaaDoor.Pure
end
section
namespace Go.Proofs.YtcmemgahgenpdaaDoor.PSc
open Go.Proofs.YtcmemgahgenpdaaDoor.Hand Go.RowKit Go.Proofs.YtcmemgahgenpdaaDoorW.PrintWords Go.Proofs.YtcmemgahgenpdaaDoorW.PrintLast Go.Proofs.YtcmemgahgenpdaaDoorW.PrintMore
attribute [local go_sem] max2_int min2_int max_two min_two max_three min_three max_four min_four
set_option linter.unusedVariables false
set_option linter.unusedSimpArgs false
end Go.Proofs.YtcmemgahgenpdaaDoor.PSc
end
section
namespace Go.Proofs.YtcmemgahgenpdaaDoor.Pure
open Go.RowKit Go.Proofs.YtcmemgahgenpdaaDoor.PSc Go.Proofs.YtcmemgahgenpdaaDoor.Hand Go.Proofs.YtcmemgahgenpdaaDoorW.PrintWords Go.Proofs.YtcmemgahgenpdaaDoorW.PrintLast
set_option linter.unusedVariables false
set_option linter.unusedSimpArgs false
theorem bt_range (s : ByteArray) (i : Nat) (h : i < s.size) : ∃ n : Nat, n < 256 ∧ bt s (i : Int) = (n : Int) := by
  obtain ⟨n, h1, h2, _⟩ := bt_byte s i h
  exact ⟨n, h1, h2⟩
end Go.Proofs.YtcmemgahgenpdaaDoor.Pure
end
section
namespace Go.Proofs.YtcmemgahgenpdaaDoor.PSc
open Go.Proofs.YtcmemgahgenpdaaDoor.Hand Go.RowKit Go.Proofs.YtcmemgahgenpdaaDoorW.PrintWords Go.Proofs.YtcmemgahgenpdaaDoorW.PrintLast Go.Proofs.YtcmemgahgenpdaaDoorW.PrintMore
attribute [local go_sem] max2_int min2_int max_two min_two max_three min_three max_four min_four
set_option linter.unusedVariables false
set_option linter.unusedSimpArgs false
end Go.Proofs.YtcmemgahgenpdaaDoor.PSc
end
section
namespace Go.Proofs.YtcmemgahgenpdaaDoor.Pure
open Go.RowKit Go.Proofs.YtcmemgahgenpdaaDoor.PSc Go.Proofs.YtcmemgahgenpdaaDoor.Hand Go.Proofs.YtcmemgahgenpdaaDoorW.PrintWords Go.Proofs.YtcmemgahgenpdaaDoorW.PrintLast
set_option linter.unusedVariables false
set_option linter.unusedSimpArgs false
theorem rd_wd (l : List ByteArray) (i : Nat) : rdOf ByteArray.empty l (i : Int) = wd l i := by
  unfold rdOf wd
  rw [Int.toNat_natCast]
theorem words_f : graftageref56_words.f = some kindsL := rfl
theorem kindW_rd (i : Nat) : rdOf ByteArray.empty kindsL (i : Int) = kindW i := by
  unfold rdOf kindW
  rw [Int.toNat_natCast]
theorem up (i : Nat) (h : i ≤ 1000000000) : wrap64 ((i : Int) + 1) = ((i + 1 : Nat) : Int) := by rw [wrap64_id (by omega) (by omega)]; rfl
end Go.Proofs.YtcmemgahgenpdaaDoor.Pure
end
