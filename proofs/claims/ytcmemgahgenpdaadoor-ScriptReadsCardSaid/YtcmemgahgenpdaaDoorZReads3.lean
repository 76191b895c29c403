/- The law ScriptReads: what its proof takes, part 4 of 5 (packed by wip/gen/pack.py: each section was a text of its own). -/
import Derived.Test.YtcmemgahgenpdaaDoorZReads0
import Derived.Test.YtcmemgahgenpdaaDoorZReads1
import Derived.Test.YtcmemgahgenpdaaDoorZReads2
section
namespace Go.Proofs.YtcmemgahgenpdaaDoor.PSc
open Go.Proofs.YtcmemgahgenpdaaDoor.Hand Go.RowKit Go.Proofs.YtcmemgahgenpdaaDoorW.PrintWords Go.Proofs.YtcmemgahgenpdaaDoorW.PrintLast Go.Proofs.YtcmemgahgenpdaaDoorW.PrintMore
attribute [local go_sem] max2_int min2_int max_two min_two max_three min_three max_four min_four
set_option linter.unusedVariables false
set_option linter.unusedSimpArgs false
mutual
def graftageref56_Read.l0 : Nat → List ByteArray → Int → Option (Int × List ByteArray × Int × Bool × ByteArray × Int)
 | 0, _, _ => none
 | k + 1, x4, x5 => if x5 < (x4.length : Int) then (if 0 ≤ x5 then (if (rdOf ByteArray.empty x4 x5).toList = ([] : List UInt8) then (some (0, ([] : List ByteArray), 0, false, (⟨#[]⟩ : ByteArray), 2)) else (if (x4.length : Int) < 4 then (some (0, ([] : List ByteArray), 0, false, (⟨#[]⟩ : ByteArray), 2)) else (graftageref56_Read.l0 k x4 (wrap64 (x5 + 1))))) else (none)) else (graftageref56_Read.l1 k x4 0 1)
def graftageref56_Read.l1 : Nat → List ByteArray → Int → Int → Option (Int × List ByteArray × Int × Bool × ByteArray × Int)
 | 0, _, _, _ => none
 | k + 1, x4, x6, x7 => (graftageref56_words.f).bind fun t320 => (if x7 < (t320.length : Int) then ((graftageref56_words.f).bind fun t323 => (if 0 ≤ x7 then (if x7 < (t323.length : Int) then (if 0 < (x4.length : Int) then (if (rdOf ByteArray.empty t323 x7).toList = (rdOf ByteArray.empty x4 0).toList then (graftageref56_Read.l1 k x4 x7 (wrap64 (x7 + 1))) else (graftageref56_Read.l1 k x4 x6 (wrap64 (x7 + 1)))) else (none)) else (none)) else (none))) else (if x6 = 0 then (some (0, ([] : List ByteArray), 0, false, (⟨#[]⟩ : ByteArray), 560)) else (if 1 < (x4.length : Int) then ((graftageref56_number.f k (rdOf ByteArray.empty x4 1)).bind fun bt329 => (if bt329.2 = true then (if 2 < (x4.length : Int) then (if (rdOf ByteArray.empty x4 2).toList = ([48] : List UInt8) then (graftageref56_Read.j2 k x4 x6 bt329.1 false) else (graftageref56_Read.j2 k x4 x6 bt329.1 ((rdOf ByteArray.empty x4 2).toList != ([49] : List UInt8)))) else (none)) else (graftageref56_Read.j2 k x4 x6 bt329.1 true))) else (none))))
def graftageref56_Read.j2 : Nat → List ByteArray → Int → Int → Bool → Option (Int × List ByteArray × Int × Bool × ByteArray × Int)
 | 0, _, _, _, _ => none
 | k + 1, x4, x6, x8, x75 => if x75 = true then (some (0, ([] : List ByteArray), 0, false, (⟨#[]⟩ : ByteArray), 2)) else (if 2 < (x4.length : Int) then (graftageref56_Read.l2 k x4 3 x6 ([] : List ByteArray) x8 ((rdOf ByteArray.empty x4 2).toList == ([49] : List UInt8)) (⟨#[]⟩ : ByteArray)) else (none))
def graftageref56_Read.l2 : Nat → List ByteArray → Int → Int → List ByteArray → Int → Bool → ByteArray → Option (Int × List ByteArray × Int × Bool × ByteArray × Int)
 | 0, _, _, _, _, _, _, _ => none
 | k + 1, x4, x11, x335000, x335001, x335002, x335003, x335004 => if x11 < (x4.length : Int) then (if 0 ≤ x11 then ((graftageref56_Unword.f k (rdOf ByteArray.empty x4 x11)).bind fun bt336 => (if bt336.2 = true then (if x11 = 3 then (graftageref56_Read.l2 k x4 (wrap64 (x11 + 1)) x335000 x335001 x335002 x335003 bt336.1) else (if x335001.length < 8796093022208 then (graftageref56_Read.l2 k x4 (wrap64 (x11 + 1)) x335000 (x335001 ++ [bt336.1]) x335002 x335003 x335004) else (none))) else (some (0, ([] : List ByteArray), 0, false, (⟨#[]⟩ : ByteArray), 2)))) else (none)) else (some (x335000, x335001, x335002, x335003, x335004, 0))
end
def graftageref56_Read.f (k : Nat) (a0 : ByteArray) : Option (Int × List ByteArray × Int × Bool × ByteArray × Int) := if (a0.size : Int) > 1048576 then (some (0, ([] : List ByteArray), 0, false, (⟨#[]⟩ : ByteArray), 4)) else ((graftageref56_Split.f k a0).bind fun t316 => (graftageref56_Read.l0 k t316 0))
def graftageref56_Read.T13 : Bool × List (List Nat × List Nat) := (true, [([], []), ([], []), ([0, 1], [0, 1]), ([2], [2]), ([], []), ([4], [4]), ([5], [5]), ([3, 6], [3, 6])])
def graftageref56_Read.B13 : List Nat := [0, 0, 3, 7, 0, 16, 48, 127]
theorem graftageref56_Read.tab13 : rtab .any (opsOf Tryd.f12 13) = graftageref56_Read.T13 := by kernel_rfl
theorem graftageref56_Read.bits13 : waitsOk graftageref56_Read.T13.2 graftageref56_Read.B13 = true := by kernel_rfl
set_option maxHeartbeats 8000000 in
set_option maxRecDepth 100000 in
theorem graftageref56_Read.calls (k : Nat) (a0 : ByteArray) (r1 : Int) (r2 : List ByteArray) (r3 : Int) (r4 : Bool) (r5 : ByteArray) (r6 : Int) (w : World) (h : graftageref56_Read.f k a0 = some (r1, r2, r3, r4, r5, r6)) :
  Calls Tryd.prog 12 #[.string a0] w fun e w' => ∃ v1_ : Value, e = .returned (.tuple #[.agg #[.int .i64 r1, v1_, .int .i64 r3, .bool r4, .string r5], .int .i64 r6]) ∧ Kd.R Kd.string 9 w' w.heap.size (fun _ => True) v1_ r2 ∧ Below w.heap.size w w' := by
 have hu24 := Tryd.underlying24
 have HB := Aside0.mk (Below.refl w.heap.size w)
 have H : (if (a0.size : Int) > 1048576 then (some (0, ([] : List ByteArray), 0, false, (⟨#[]⟩ : ByteArray), 4)) else ((graftageref56_Split.f k a0).bind fun t316 => (graftageref56_Read.l0 k t316 0))) = some (r1, r2, r3, r4, r5, r6) := h
 clear h
 by_cases c2 : (a0.size : Int) > 1048576
 ·rw [if_pos c2] at H
  have c2b0 : decide (1048576 < (a0.size : Int)) = true := decide_eq_true c2
  have c2b1 : decide (1048576 < a0.size) = true := decide_eq_true (by omega)
  clear c2
  simp only [Option.some.injEq, Prod.mk.injEq] at H
  obtain ⟨rfl, rfl, rfl, rfl, rfl, rfl⟩ := H
  go_enter Tryd.func12, Tryd.ntmps12
  go_wp2_with (first | ((with_reducible refine gate_dst (N := 2) rfl ?_); (try (refine gate_guard (by rfl) ?_; dsimp only)); refine box_event ?hg (N := 2) ?hd (cs := #[.int .i64 0, .slice none 0 0, .int .i64 0, .bool false, .string (⟨#[]⟩ : ByteArray)]) (t := 24) ?hr ?_; (case hd => rfl); (case hg => rfl); (case hr => first | (go_simp; done) | (go_simp; rfl)); intro gb315 hg w3 hbox hb; have n0_ := Aside0.mk (below_step (by repeat (first | (with_reducible first | exact HB.out | apply below_alloc | apply pw_below_drewN | apply below_drew1) | exact HB.out)) hb); have n1_ := Aside0.mk (hbox); have n2_ := Aside0.mk ((by rw [hg]; exact (below_size (by repeat (first | (with_reducible first | exact HB.out | apply below_alloc | apply pw_below_drewN | apply below_drew1) | exact HB.out))) : w.heap.size ≤ gb315)); have n3_ := Aside0.mk ((by rw [hg]; exact (below_size (by repeat (first | (with_reducible first | exact HB.out | apply below_alloc | apply pw_below_drewN | apply below_drew1) | exact HB.out))) : w.heap.size ≤ gb315)); clear HB; have HB := n0_; have BK315 := n1_; have GW315 := n2_; have GE315 := n3_; clear n0_ n1_ n2_ n3_; clear hb hbox hg; have hcz4_0 : w3.cell? ⟨gb315, 0, none⟩ = some (.int .i64 0) := (blk_cell BK315.out 0).trans rfl; have hcz4_1 : w3.cell? ⟨gb315, 1, none⟩ = some (.slice none 0 0) := (blk_cell BK315.out 1).trans rfl; have hcz4_2 : w3.cell? ⟨gb315, 2, none⟩ = some (.int .i64 0) := (blk_cell BK315.out 2).trans rfl; have hcz4_3 : w3.cell? ⟨gb315, 3, none⟩ = some (.bool false) := (blk_cell BK315.out 3).trans rfl; have hcz4_4 : w3.cell? ⟨gb315, 4, none⟩ = some (.string (⟨#[]⟩ : ByteArray)) := (blk_cell BK315.out 4).trans rfl; have hfz4_0 := blk_frozen BK315.out 0; have hfz4_1 := blk_frozen BK315.out 1; have hfz4_2 := blk_frozen BK315.out 2; have hfz4_3 := blk_frozen BK315.out 3; have hfz4_4 := blk_frozen BK315.out 4))
  refine bodyPost_ret (results_ct rfl _ _ gb315 24 #[.int .i64 0, .slice none 0 0, .int .i64 0, .bool false, .string (⟨#[]⟩ : ByteArray)] (0, 0) _ rfl (by (with_reducible repeat (first | refine blk_drewN ?_ _ | refine blk_drew ?_ | refine blk_alloc ?_ _)); refine blk_put (cs := #[.int .i64 0, .slice none 0 0, .int .i64 0, .bool false, .string (⟨#[]⟩ : ByteArray)]) ?_ 4 _ rfl; (with_reducible repeat (first | refine blk_drewN ?_ _ | refine blk_drew ?_ | refine blk_alloc ?_ _)); refine blk_put (cs := #[.int .i64 0, .slice none 0 0, .int .i64 0, .bool false, .string (⟨#[]⟩ : ByteArray)]) ?_ 3 _ rfl; (with_reducible repeat (first | refine blk_drewN ?_ _ | refine blk_drew ?_ | refine blk_alloc ?_ _)); refine blk_put (cs := #[.int .i64 0, .slice none 0 0, .int .i64 0, .bool false, .string (⟨#[]⟩ : ByteArray)]) ?_ 2 _ rfl; (with_reducible repeat (first | refine blk_drewN ?_ _ | refine blk_drew ?_ | refine blk_alloc ?_ _)); refine blk_put (cs := #[.int .i64 0, .slice none 0 0, .int .i64 0, .bool false, .string (⟨#[]⟩ : ByteArray)]) ?_ 1 _ rfl; (with_reducible repeat (first | refine blk_drewN ?_ _ | refine blk_drew ?_ | refine blk_alloc ?_ _)); refine blk_put (cs := #[.int .i64 0, .slice none 0 0, .int .i64 0, .bool false, .string (⟨#[]⟩ : ByteArray)]) ?_ 0 _ rfl; (with_reducible repeat (first | refine blk_drewN ?_ _ | refine blk_drew ?_ | refine blk_alloc ?_ _)); exact BK315.out) Tryd.underlying24 rfl (by kernel_rfl)) rfl ?_
  exact ⟨_, by first | rfl | (simp [errW_none, errW_some] <;> rfl) | (simp [*, errW_none, errW_some] <;> rfl), by first | exact Kd.R_nil _ _ _ _ _ | exact Kd.N_nil _ _ _ _ _ | exact Kd.V_nil _ _ _ _ _ | exact Kd.Q_nil _ _ _ _ _ | exact Kd.S_nil _ _ _ _ _, by repeat (first | (with_reducible first | exact HB.out | apply below_alloc | apply pw_below_drewN | apply below_drew1 | refine below_set ?_ GE315.out) | exact HB.out)⟩
 ·rw [if_neg c2] at H
  have c2b0 : decide (1048576 < (a0.size : Int)) = false := decide_eq_false c2
  have c2b1 : decide (1048576 < a0.size) = false := decide_eq_false (by omega)
  clear c2
  replace H := Option.bind_eq_some_iff.mp H
  obtain ⟨t316, A50, H⟩ := H
  replace H : (graftageref56_Read.l0 k t316 0) = some (r1, r2, r3, r4, r5, r6) := H
  have A5 := Aside0.mk A50
  clear A50
  have H' := Aside0.mk H
  clear H
  go_enter Tryd.func12, Tryd.ntmps12
  go_wp2_with (first | ((with_reducible refine gate_dst (N := 2) rfl ?_); (try (refine gate_guard (by rfl) ?_; dsimp only)); refine box_event ?hg (N := 2) ?hd (cs := #[.int .i64 0, .slice none 0 0, .int .i64 0, .bool false, .string (⟨#[]⟩ : ByteArray)]) (t := 24) ?hr ?_; (case hd => rfl); (case hg => rfl); (case hr => first | (go_simp; done) | (go_simp; rfl)); intro gb315 hg w6 hbox hb; have n0_ := Aside0.mk (below_step (by repeat (first | (with_reducible first | exact HB.out | apply below_alloc | apply pw_below_drewN | apply below_drew1) | exact HB.out)) hb); have n1_ := Aside0.mk (hbox); have n2_ := Aside0.mk ((by rw [hg]; exact (below_size (by repeat (first | (with_reducible first | exact HB.out | apply below_alloc | apply pw_below_drewN | apply below_drew1) | exact HB.out))) : w.heap.size ≤ gb315)); have n3_ := Aside0.mk ((by rw [hg]; exact (below_size (by repeat (first | (with_reducible first | exact HB.out | apply below_alloc | apply pw_below_drewN | apply below_drew1) | exact HB.out))) : w.heap.size ≤ gb315)); clear HB; have HB := n0_; have BK315 := n1_; have GW315 := n2_; have GE315 := n3_; clear n0_ n1_ n2_ n3_; clear hb hbox hg) | ((with_reducible refine gate_callee (f := 32) rfl ?_); refine goesL_ (some 19) rfl rfl Tryd.func32 (by kernel_rfl) rfl #[.string a0] rfl (by (try simp only [List.map_toArray, List.map_cons, List.map_nil]); first | done | rfl | (simp only [List.length_drop, List.length_take]; rfl)) ?_; (with_reducible refine (graftageref56_Split.calls k a0 t316 _ A5.out).mono ?_); rintro e w7 ⟨v317, rfl, ho0, hb⟩; refine ⟨_, rfl, ?_⟩; have n0_ := Aside0.mk (Kd.R_lower ho0 (below_size (by repeat (first | (with_reducible first | exact HB.out | apply below_alloc | apply pw_below_drewN | apply below_drew1 | refine below_set ?_ GE315.out) | exact HB.out)))); have n1_ := Aside0.mk (blk_below (g := gb315) (o := .cells #[.int .i64 0, .slice none 0 0, .int .i64 0, .bool false, .string (⟨#[]⟩ : ByteArray)] 24 (0, 0)) (by (with_reducible repeat (first | refine blk_drewN ?_ _ | refine blk_drew ?_ | refine blk_alloc ?_ _)); exact BK315.out) hb); have n2_ := Aside0.mk (below_step (by repeat (first | (with_reducible first | exact HB.out | apply below_alloc | apply pw_below_drewN | apply below_drew1 | refine below_set ?_ GE315.out) | exact HB.out)) hb); clear BK315; clear HB; have HO318 := n0_; have BK315 := n1_; have HB := n2_; clear n0_ n1_ n2_; (try clear hb); (try clear hb2); (try clear hk); (try clear hi); (try clear ho0)))
  go_loopg [5] k (fun kq v5 w' => ∃ (x5_1 : Int) (x316000_1 : Int) (x316002_1 : Int) (x316003_1 : Bool) (x316004_1 : ByteArray), v5 = .int .i64 x5_1 ∧ Aside0 (graftageref56_Read.l0 kq t316 x5_1 = some (r1, r2, r3, r4, r5, r6)) ∧ Aside0 (kq ≤ k) ∧ Aside0 (Kd.R Kd.string 9 w' w.heap.size (fun _ => True) v317 t316) ∧ Aside0 (w'.heap[gb315]? = some (.cells #[.int .i64 x316000_1, (.slice none 0 0), .int .i64 x316002_1, .bool x316003_1, .string x316004_1] 24 (0, 0))) ∧ Aside0 (Below w.heap.size w w'))
  case atStart => exact ⟨(0), (0), (0), (false), ((⟨#[]⟩ : ByteArray)), (by first | rfl | (simp; done) | (simp [*]; done)), H', ⟨Nat.le_refl _⟩, ⟨by (with_reducible repeat (first | apply Kd.R_alloc | apply Kd.R_drewN | apply Kd.R_drew)); exact HO318.out⟩, ⟨by (with_reducible repeat (first | refine blk_drewN ?_ _ | refine blk_drew ?_ | refine blk_alloc ?_ _)); exact BK315.out⟩, ⟨by repeat (first | (with_reducible first | exact HB.out | apply below_alloc | apply pw_below_drewN | apply below_drew1 | refine below_set ?_ GE315.out) | exact HB.out)⟩⟩
  case round =>
   clear H'
   try clear c1
   try clear c2
   try clear c2b0
   try clear c2b1
   try clear p2
   try clear c3
   try clear hcz4_0
   try clear hcz4_1
   try clear hcz4_2
   try clear hcz4_3
   try clear hcz4_4
   try clear hfz4_0
   try clear hfz4_1
   try clear hfz4_2
   try clear hfz4_3
   try clear hfz4_4
   obtain ⟨x5_1, x316000_1, x316002_1, x316003_1, x316004_1, rfl, HA, HK1, HO_4, BK315, HB⟩ := hrel
   cases gk with
   | zero => exact absurd HA.out (by simp [graftageref56_Read.l0])
   | succ k1 =>
    have H := HA.out
    clear HA
    simp only [graftageref56_Read.l0] at H
    by_cases c8 : x5_1 < (t316.length : Int)
    ·rw [if_pos c8] at H
     have c8b0 : decide (x5_1 < (t316.length : Int)) = true := decide_eq_true c8
     clear c8
     by_cases c9 : 0 ≤ x5_1
     ·rw [if_pos c9] at H
      have c9b0 : decide (0 ≤ x5_1) = true := decide_eq_true c9
      clear c9
      by_cases c10 : (rdOf ByteArray.empty t316 x5_1).toList = ([] : List UInt8)
      ·rw [if_pos c10] at H
       have c10b0 : ((rdOf ByteArray.empty t316 x5_1).toList == ([] : List UInt8)) = true := beq_iff_eq.mpr c10
       have c10b1 : ((rdOf ByteArray.empty t316 x5_1).toList != ([] : List UInt8)) = false := bne_eq_false_iff_eq.mpr c10
       clear c10
       simp only [Option.some.injEq, Prod.mk.injEq] at H
       obtain ⟨rfl, rfl, rfl, rfl, rfl, rfl⟩ := H
       obtain ⟨Ao11, co11, eo11⟩ := Kd.R_slice HO_4.out
       subst eo11
       have p319 : 0 ≤ (x5_1 : Int) := of_decide_eq_true (by first | (with_reducible assumption) | assumption)
       have q319 : x5_1 < (t316.length : Int) := of_decide_eq_true (by first | (with_reducible assumption) | assumption)
       obtain ⟨ad319, e319, hx319_0⟩ := Kd.at_string (Kd.R_reads' HO_4.out).2.2 x5_1 p319 q319
       cases e319
       replace p319 := eq_true p319
       replace q319 := eq_true q319
       have hcz12_0 : wr.cell? ⟨gb315, 0, none⟩ = some (.int .i64 x316000_1) := (blk_cell BK315.out 0).trans rfl
       have hcz12_1 : wr.cell? ⟨gb315, 1, none⟩ = some (.slice none 0 0) := (blk_cell BK315.out 1).trans rfl
       have hcz12_2 : wr.cell? ⟨gb315, 2, none⟩ = some (.int .i64 x316002_1) := (blk_cell BK315.out 2).trans rfl
       have hcz12_3 : wr.cell? ⟨gb315, 3, none⟩ = some (.bool x316003_1) := (blk_cell BK315.out 3).trans rfl
       have hcz12_4 : wr.cell? ⟨gb315, 4, none⟩ = some (.string x316004_1) := (blk_cell BK315.out 4).trans rfl
       have hfz12_0 := blk_frozen BK315.out 0
       have hfz12_1 := blk_frozen BK315.out 1
       have hfz12_2 := blk_frozen BK315.out 2
       have hfz12_3 := blk_frozen BK315.out 3
       have hfz12_4 := blk_frozen BK315.out 4
       go_wp2
       refine bodyPost_ret (results_ct rfl _ _ gb315 24 #[.int .i64 0, .slice none 0 0, .int .i64 0, .bool false, .string (⟨#[]⟩ : ByteArray)] (0, 0) _ rfl (by (with_reducible repeat (first | refine blk_drewN ?_ _ | refine blk_drew ?_ | refine blk_alloc ?_ _)); refine blk_put (cs := #[.int .i64 0, .slice none 0 0, .int .i64 0, .bool false, .string x316004_1]) ?_ 4 _ rfl; (with_reducible repeat (first | refine blk_drewN ?_ _ | refine blk_drew ?_ | refine blk_alloc ?_ _)); refine blk_put (cs := #[.int .i64 0, .slice none 0 0, .int .i64 0, .bool x316003_1, .string x316004_1]) ?_ 3 _ rfl; (with_reducible repeat (first | refine blk_drewN ?_ _ | refine blk_drew ?_ | refine blk_alloc ?_ _)); refine blk_put (cs := #[.int .i64 0, .slice none 0 0, .int .i64 x316002_1, .bool x316003_1, .string x316004_1]) ?_ 2 _ rfl; (with_reducible repeat (first | refine blk_drewN ?_ _ | refine blk_drew ?_ | refine blk_alloc ?_ _)); refine blk_put (cs := #[.int .i64 0, .slice none 0 0, .int .i64 x316002_1, .bool x316003_1, .string x316004_1]) ?_ 1 _ rfl; (with_reducible repeat (first | refine blk_drewN ?_ _ | refine blk_drew ?_ | refine blk_alloc ?_ _)); refine blk_put (cs := #[.int .i64 x316000_1, .slice none 0 0, .int .i64 x316002_1, .bool x316003_1, .string x316004_1]) ?_ 0 _ rfl; (with_reducible repeat (first | refine blk_drewN ?_ _ | refine blk_drew ?_ | refine blk_alloc ?_ _)); exact BK315.out) Tryd.underlying24 rfl (by kernel_rfl)) rfl ?_
       exact ⟨_, by first | rfl | (simp [errW_none, errW_some] <;> rfl) | (simp [*, errW_none, errW_some] <;> rfl), by first | exact Kd.R_nil _ _ _ _ _ | exact Kd.N_nil _ _ _ _ _ | exact Kd.V_nil _ _ _ _ _ | exact Kd.Q_nil _ _ _ _ _ | exact Kd.S_nil _ _ _ _ _, by repeat (first | (with_reducible first | exact HB.out | apply below_alloc | apply pw_below_drewN | apply below_drew1 | refine below_set ?_ GE315.out) | exact HB.out)⟩
      ·rw [if_neg c10] at H
       have c10b0 : ((rdOf ByteArray.empty t316 x5_1).toList == ([] : List UInt8)) = false := beq_eq_false_iff_ne.mpr c10
       have c10b1 : ((rdOf ByteArray.empty t316 x5_1).toList != ([] : List UInt8)) = true := bne_iff_ne.mpr c10
       by_cases c13 : (t316.length : Int) < 4
       ·rw [if_pos c13] at H
        have c13b0 : decide ((t316.length : Int) < 4) = true := decide_eq_true c13
        have c13b1 : decide (t316.length < 4) = true := decide_eq_true (by omega)
        clear c13
        simp only [Option.some.injEq, Prod.mk.injEq] at H
        obtain ⟨rfl, rfl, rfl, rfl, rfl, rfl⟩ := H
        obtain ⟨Ao14, co14, eo14⟩ := Kd.R_slice HO_4.out
        subst eo14
        have p319 : 0 ≤ (x5_1 : Int) := of_decide_eq_true (by first | (with_reducible assumption) | assumption)
        have q319 : x5_1 < (t316.length : Int) := of_decide_eq_true (by first | (with_reducible assumption) | assumption)
        obtain ⟨ad319, e319, hx319_0⟩ := Kd.at_string (Kd.R_reads' HO_4.out).2.2 x5_1 p319 q319
        cases e319
        replace p319 := eq_true p319
        replace q319 := eq_true q319
        have hcz15_0 : wr.cell? ⟨gb315, 0, none⟩ = some (.int .i64 x316000_1) := (blk_cell BK315.out 0).trans rfl
        have hcz15_1 : wr.cell? ⟨gb315, 1, none⟩ = some (.slice none 0 0) := (blk_cell BK315.out 1).trans rfl
        have hcz15_2 : wr.cell? ⟨gb315, 2, none⟩ = some (.int .i64 x316002_1) := (blk_cell BK315.out 2).trans rfl
        have hcz15_3 : wr.cell? ⟨gb315, 3, none⟩ = some (.bool x316003_1) := (blk_cell BK315.out 3).trans rfl
        have hcz15_4 : wr.cell? ⟨gb315, 4, none⟩ = some (.string x316004_1) := (blk_cell BK315.out 4).trans rfl
        have hfz15_0 := blk_frozen BK315.out 0
        have hfz15_1 := blk_frozen BK315.out 1
        have hfz15_2 := blk_frozen BK315.out 2
        have hfz15_3 := blk_frozen BK315.out 3
        have hfz15_4 := blk_frozen BK315.out 4
        go_wp2
        refine bodyPost_ret (results_ct rfl _ _ gb315 24 #[.int .i64 0, .slice none 0 0, .int .i64 0, .bool false, .string (⟨#[]⟩ : ByteArray)] (0, 0) _ rfl (by (with_reducible repeat (first | refine blk_drewN ?_ _ | refine blk_drew ?_ | refine blk_alloc ?_ _)); refine blk_put (cs := #[.int .i64 0, .slice none 0 0, .int .i64 0, .bool false, .string x316004_1]) ?_ 4 _ rfl; (with_reducible repeat (first | refine blk_drewN ?_ _ | refine blk_drew ?_ | refine blk_alloc ?_ _)); refine blk_put (cs := #[.int .i64 0, .slice none 0 0, .int .i64 0, .bool x316003_1, .string x316004_1]) ?_ 3 _ rfl; (with_reducible repeat (first | refine blk_drewN ?_ _ | refine blk_drew ?_ | refine blk_alloc ?_ _)); refine blk_put (cs := #[.int .i64 0, .slice none 0 0, .int .i64 x316002_1, .bool x316003_1, .string x316004_1]) ?_ 2 _ rfl; (with_reducible repeat (first | refine blk_drewN ?_ _ | refine blk_drew ?_ | refine blk_alloc ?_ _)); refine blk_put (cs := #[.int .i64 0, .slice none 0 0, .int .i64 x316002_1, .bool x316003_1, .string x316004_1]) ?_ 1 _ rfl; (with_reducible repeat (first | refine blk_drewN ?_ _ | refine blk_drew ?_ | refine blk_alloc ?_ _)); refine blk_put (cs := #[.int .i64 x316000_1, .slice none 0 0, .int .i64 x316002_1, .bool x316003_1, .string x316004_1]) ?_ 0 _ rfl; (with_reducible repeat (first | refine blk_drewN ?_ _ | refine blk_drew ?_ | refine blk_alloc ?_ _)); exact BK315.out) Tryd.underlying24 rfl (by kernel_rfl)) rfl ?_
        exact ⟨_, by first | rfl | (simp [errW_none, errW_some] <;> rfl) | (simp [*, errW_none, errW_some] <;> rfl), by first | exact Kd.R_nil _ _ _ _ _ | exact Kd.N_nil _ _ _ _ _ | exact Kd.V_nil _ _ _ _ _ | exact Kd.Q_nil _ _ _ _ _ | exact Kd.S_nil _ _ _ _ _, by repeat (first | (with_reducible first | exact HB.out | apply below_alloc | apply pw_below_drewN | apply below_drew1 | refine below_set ?_ GE315.out) | exact HB.out)⟩
       ·rw [if_neg c13] at H
        have c13b0 : decide ((t316.length : Int) < 4) = false := decide_eq_false c13
        have c13b1 : decide (t316.length < 4) = false := decide_eq_false (by omega)
        clear c13
        have H' := Aside0.mk H
        clear H
        obtain ⟨Ao16, co16, eo16⟩ := Kd.R_slice HO_4.out
        subst eo16
        have p319 : 0 ≤ (x5_1 : Int) := of_decide_eq_true (by first | (with_reducible assumption) | assumption)
        have q319 : x5_1 < (t316.length : Int) := of_decide_eq_true (by first | (with_reducible assumption) | assumption)
        obtain ⟨ad319, e319, hx319_0⟩ := Kd.at_string (Kd.R_reads' HO_4.out).2.2 x5_1 p319 q319
        cases e319
        replace p319 := eq_true p319
        replace q319 := eq_true q319
        go_wp2
        go_roundg k1
        case measure => have := HK1.out; omega
        case rel => exact ⟨(wrap64 (x5_1 + 1)), (x316000_1), (x316002_1), (x316003_1), (x316004_1), (by first | rfl | (simp; done) | (simp [*]; done)), H', ⟨by have := HK1.out; omega⟩, ⟨by (with_reducible repeat (first | apply Kd.R_alloc | apply Kd.R_drewN | apply Kd.R_drew)); exact HO_4.out⟩, ⟨by (with_reducible repeat (first | refine blk_drewN ?_ _ | refine blk_drew ?_ | refine blk_alloc ?_ _)); exact BK315.out⟩, ⟨by repeat (first | (with_reducible first | exact HB.out | apply below_alloc | apply pw_below_drewN | apply below_drew1 | refine below_set ?_ GE315.out) | exact HB.out)⟩⟩
     ·rw [if_neg c9] at H
      exact absurd H (by simp)
    ·rw [if_neg c8] at H
     have c8b0 : decide (x5_1 < (t316.length : Int)) = false := decide_eq_false c8
     clear c8
     have H' := Aside0.mk H
     clear H
     obtain ⟨Ao17, co17, eo17⟩ := Kd.R_slice HO_4.out
     subst eo17
     go_wp2
     go_loopg [6, 7] k1 (fun kq v6 v7 w' => ∃ (x6_2 : Int) (x7_2 : Int), v6 = .int .i64 x6_2 ∧ v7 = .int .i64 x7_2 ∧ Aside0 (graftageref56_Read.l1 kq t316 x6_2 x7_2 = some (r1, r2, r3, r4, r5, r6)) ∧ Aside0 (kq ≤ k1) ∧ Aside0 (Kd.R Kd.string 9 w' w.heap.size (fun _ => True) (.slice Ao17 t316.length co17) t316) ∧ Aside0 (w'.heap[gb315]? = some (.cells #[.int .i64 x316000_1, (.slice none 0 0), .int .i64 x316002_1, .bool x316003_1, .string x316004_1] 24 (0, 0))) ∧ Aside0 (Below w.heap.size w w'))
     case atStart => exact ⟨(0), (1), (by first | rfl | (simp; done) | (simp [*]; done)), (by first | rfl | (simp; done) | (simp [*]; done)), H', ⟨Nat.le_refl _⟩, ⟨by (with_reducible repeat (first | apply Kd.R_alloc | apply Kd.R_drewN | apply Kd.R_drew)); exact HO_4.out⟩, ⟨by (with_reducible repeat (first | refine blk_drewN ?_ _ | refine blk_drew ?_ | refine blk_alloc ?_ _)); exact BK315.out⟩, ⟨by repeat (first | (with_reducible first | exact HB.out | apply below_alloc | apply pw_below_drewN | apply below_drew1 | refine below_set ?_ GE315.out) | exact HB.out)⟩⟩
     case round =>
      clear H'
      try clear c1
      try clear c2
      try clear c2b0
      try clear c2b1
      try clear p2
      try clear c3
      try clear p3
      try clear q3
      try clear hx3
      try clear p6
      try clear c8
      try clear c8b0
      try clear c9
      try clear c9b0
      try clear c10
      try clear c10b0
      try clear c10b1
      try clear c12
      try clear c13
      try clear c13b0
      try clear c13b1
      try clear hcz12_0
      try clear hcz12_1
      try clear hcz12_2
      try clear hcz12_3
      try clear hcz12_4
      try clear hcz15_0
      try clear hcz15_1
      try clear hcz15_2
      try clear hcz15_3
      try clear hcz15_4
      try clear hcz4_0
      try clear hcz4_1
      try clear hcz4_2
      try clear hcz4_3
      try clear hcz4_4
      try clear hfz12_0
      try clear hfz12_1
      try clear hfz12_2
      try clear hfz12_3
      try clear hfz12_4
      try clear hfz15_0
      try clear hfz15_1
      try clear hfz15_2
      try clear hfz15_3
      try clear hfz15_4
      try clear hfz4_0
      try clear hfz4_1
      try clear hfz4_2
      try clear hfz4_3
      try clear hfz4_4
      try clear hx319_0
      try clear p2
      try clear p319
      try clear q319
      obtain ⟨x6_2, x7_2, rfl, rfl, HA, HK2, HO_4, BK315, HB⟩ := hrel
      cases gk with
      | zero => exact absurd HA.out (by simp [graftageref56_Read.l1])
      | succ k2 =>
       have H := HA.out
       clear HA
       simp only [graftageref56_Read.l1] at H
       replace H := Option.bind_eq_some_iff.mp H
       obtain ⟨t320, A180, H⟩ := H
       replace H : (if x7_2 < (t320.length : Int) then ((graftageref56_words.f).bind fun t323 => (if 0 ≤ x7_2 then (if x7_2 < (t323.length : Int) then (if 0 < (t316.length : Int) then (if (rdOf ByteArray.empty t323 x7_2).toList = (rdOf ByteArray.empty t316 0).toList then (graftageref56_Read.l1 k2 t316 x7_2 (wrap64 (x7_2 + 1))) else (graftageref56_Read.l1 k2 t316 x6_2 (wrap64 (x7_2 + 1)))) else (none)) else (none)) else (none))) else (if x6_2 = 0 then (some (0, ([] : List ByteArray), 0, false, (⟨#[]⟩ : ByteArray), 560)) else (if 1 < (t316.length : Int) then ((graftageref56_number.f k2 (rdOf ByteArray.empty t316 1)).bind fun bt329 => (if bt329.2 = true then (if 2 < (t316.length : Int) then (if (rdOf ByteArray.empty t316 2).toList = ([48] : List UInt8) then (graftageref56_Read.j2 k2 t316 x6_2 bt329.1 false) else (graftageref56_Read.j2 k2 t316 x6_2 bt329.1 ((rdOf ByteArray.empty t316 2).toList != ([49] : List UInt8)))) else (none)) else (graftageref56_Read.j2 k2 t316 x6_2 bt329.1 true))) else (none)))) = some (r1, r2, r3, r4, r5, r6) := H
       have A18 := Aside0.mk A180
       clear A180
       by_cases c19 : x7_2 < (t320.length : Int)
       ·rw [if_pos c19] at H
        have c19b0 : decide (x7_2 < (t320.length : Int)) = true := decide_eq_true c19
        clear c19
        replace H := Option.bind_eq_some_iff.mp H
        obtain ⟨t323, A200, H⟩ := H
        replace H : (if 0 ≤ x7_2 then (if x7_2 < (t323.length : Int) then (if 0 < (t316.length : Int) then (if (rdOf ByteArray.empty t323 x7_2).toList = (rdOf ByteArray.empty t316 0).toList then (graftageref56_Read.l1 k2 t316 x7_2 (wrap64 (x7_2 + 1))) else (graftageref56_Read.l1 k2 t316 x6_2 (wrap64 (x7_2 + 1)))) else (none)) else (none)) else (none)) = some (r1, r2, r3, r4, r5, r6) := H
        have A20 := Aside0.mk A200
        clear A200
        by_cases c21 : 0 ≤ x7_2
        ·rw [if_pos c21] at H
         have c21b0 : decide (0 ≤ x7_2) = true := decide_eq_true c21
         clear c21
         by_cases c22 : x7_2 < (t323.length : Int)
         ·rw [if_pos c22] at H
          have c22b0 : decide (x7_2 < (t323.length : Int)) = true := decide_eq_true c22
          clear c22
          by_cases c23 : 0 < (t316.length : Int)
          ·rw [if_pos c23] at H
           have c23b0 : decide (0 < (t316.length : Int)) = true := decide_eq_true c23
           have c23b1 : decide (0 < t316.length) = true := decide_eq_true (by omega)
           clear c23
           by_cases c24 : (rdOf ByteArray.empty t323 x7_2).toList = (rdOf ByteArray.empty t316 0).toList
           ·rw [if_pos c24] at H
            have c24b0 : ((rdOf ByteArray.empty t323 x7_2).toList == (rdOf ByteArray.empty t316 0).toList) = true := beq_iff_eq.mpr c24
            have c24b1 : ((rdOf ByteArray.empty t323 x7_2).toList != (rdOf ByteArray.empty t316 0).toList) = false := bne_eq_false_iff_eq.mpr c24
            clear c24
            have H' := Aside0.mk H
            clear H
            try go_wp2_with (first | ((with_reducible refine gate_callee (f := 24) rfl ?_); refine goesL_ (some 38) rfl rfl Tryd.func24 (by kernel_rfl) rfl #[] rfl (by (try simp only [List.map_toArray, List.map_cons, List.map_nil]); first | done | rfl | (simp only [List.length_drop, List.length_take]; rfl)) ?_; (with_reducible refine (graftageref56_words.calls  t320 _ A18.out).mono ?_); rintro e w25 ⟨v321, rfl, ho0, hb⟩; refine ⟨_, rfl, ?_⟩; have n0_ := Aside0.mk (Kd.R_elder' (by (with_reducible repeat (first | apply Kd.R_alloc | apply Kd.R_drewN | apply Kd.R_drew)); exact HO_4.out) (Kd.R_base ho0) hb); have n1_ := Aside0.mk (Kd.R_lower (Kd.R_new' ho0 (Kd.R_lt (by (with_reducible repeat (first | apply Kd.R_alloc | apply Kd.R_drewN | apply Kd.R_drew)); exact HO_4.out))) (below_size (by repeat (first | (with_reducible first | exact HB.out | apply below_alloc | apply pw_below_drewN | apply below_drew1 | refine below_set ?_ GE315.out) | exact HB.out)))); have n2_ := Aside0.mk (blk_below (g := gb315) (o := .cells #[.int .i64 x316000_1, .slice none 0 0, .int .i64 x316002_1, .bool x316003_1, .string x316004_1] 24 (0, 0)) (by (with_reducible repeat (first | refine blk_drewN ?_ _ | refine blk_drew ?_ | refine blk_alloc ?_ _)); exact BK315.out) hb); have n3_ := Aside0.mk (below_step (by repeat (first | (with_reducible first | exact HB.out | apply below_alloc | apply pw_below_drewN | apply below_drew1 | refine below_set ?_ GE315.out) | exact HB.out)) hb); clear HO_4; clear BK315; clear HB; have HO_4 := n0_; have HO322 := n1_; have BK315 := n2_; have HB := n3_; clear n0_ n1_ n2_ n3_; (try clear hb); (try clear hb2); (try clear hk); (try clear hi); (try clear ho0); obtain ⟨Ao26, co26, eo26⟩ := Kd.R_slice HO322.out; subst eo26))
            have n0_ := Aside0.mk (Kd.R_drew HO_4.out)
            have n1_ := Aside0.mk (Kd.R_drew HO322.out)
            have n2_ := Aside0.mk (blk_drew BK315.out)
            have n3_ := Aside0.mk (below_drew1 HB.out)
            clear HO_4
            clear HO322
            clear BK315
            clear HB
            have HO_4 := n0_
            have HO322 := n1_
            have BK315 := n2_
            have HB := n3_
            clear n0_ n1_ n2_ n3_
            have p327 : 0 ≤ (0 : Int) := (by omega)
            have q327 : 0 < (t316.length : Int) := of_decide_eq_true (by first | (with_reducible assumption) | assumption)
            obtain ⟨ad327, e327, hx327_0⟩ := Kd.at_string (Kd.R_reads' HO_4.out).2.2 0 p327 q327
            cases e327
            have qi327 : (0 < t316.length) = True := eq_true (by omega)
            (try rw [show ((0 : Int)).toNat = 0 from rfl] at hx327_0)
            (try rw [Addr.add_zero'] at hx327_0)
            replace p327 := eq_true p327
            replace q327 := eq_true q327
            refine start_ (n := 8) (S := fun w' => w'.cell? ad327 = some (.string (rdOf ByteArray.empty t316 0)) ∧ True) (ds := []) #[false, false, false, false, false, false, false, false] (by kernel_rfl) rfl rfl ⟨hx327_0, trivial⟩ (fun hHeld => ?_); refine with_tabW graftageref56_Read.tab13 graftageref56_Read.bits13 (fun HT_ HW_ => ?_)
            generalize w25.drew = w27 at HO_4 HO322 BK315 HB hx327_0 hHeld ⊢
            refine pure_ (i := 1) (N := some 44) (v := ?_) (a' := ?_) #[false, true, false, false, false, false, false, false] rfl rfl (any_of HT_.out (by kernel_rfl)) (fun _ _ _ h => h) (Or.inl ⟨by rfl, ?_⟩) ?_ ?_
            rotate_left
            ·intro w'
             go_simp
             with_reducible rfl
            rotate_left
            ·simp only [Act.put, List.setIfInBounds_toArray, List.set_cons_zero, List.set_cons_succ, i64_w, i32_w]
             rfl
            refine pure_ (i := 4) (N := some 47) (v := ?_) (a' := ?_) #[false, true, false, false, true, false, false, false] rfl rfl (any_of HT_.out (by kernel_rfl)) (fun _ _ _ h => h) (Or.inl ⟨by rfl, ?_⟩) ?_ ?_
            rotate_left
            ·intro w'
             go_simp
             with_reducible rfl
            rotate_left
            ·simp only [Act.put, List.setIfInBounds_toArray, List.set_cons_zero, List.set_cons_succ, i64_w, i32_w]
             rfl
            refine pure_ (i := 5) (N := some 48) (v := ?_) (a' := ?_) #[false, true, false, false, true, true, false, false] rfl rfl (any_of HT_.out (by kernel_rfl)) (fun _ _ _ h => h) (Or.inl ⟨by rfl, ?_⟩) ?_ ?_
            rotate_left
            ·intro w'
             go_simp
             with_reducible rfl
            rotate_left
            ·simp only [Act.put, List.setIfInBounds_toArray, List.set_cons_zero, List.set_cons_succ, i64_w, i32_w]
             rfl
            refine take_ (i := 6) (N := some 49) (v := ?_) (a' := ?_) #[false, true, false, false, true, true, true, false] rfl rfl (take_ofW HT_.out HW_.out (by kernel_rfl)) (fun _ _ _ h => h) (Or.inl ⟨by rfl, ?_⟩) hHeld ?_ ?_
            rotate_left
            ·rintro w' ⟨s0, s1⟩
             go_simp
             with_reducible rfl
            rotate_left
            ·simp only [Act.put, List.setIfInBounds_toArray, List.set_cons_zero, List.set_cons_succ, i64_w, i32_w]
             rfl
            refine one_ (i := 0) (N := some 43) #[true, true, false, false, true, true, true, false] rfl rfl (one_of HT_.out (by kernel_rfl)) (by decide) (fun K hK => ?_)
            refine goes_ Tryd.func24 (by kernel_rfl) rfl #[] (by rfl) rfl rfl (by (try simp only [List.map_toArray, List.map_cons, List.map_nil]); first | done | rfl | (simp only [List.length_drop, List.length_take]; rfl)) ?_
            with_reducible refine (graftageref56_words.calls  t323 _ A20.out).mono ?_
            rintro e w28 ⟨v324, rfl, ho0, hb⟩
            have HS0_ := (hb.cell (World.block_lt_of_cell? _ _ (hHeld.1))).trans (hHeld.1)
            have HS1_ := True.intro
            refine ⟨_, rfl, ?_⟩
            have n0_ := Aside0.mk (Kd.R_elder' (by (with_reducible repeat (first | apply Kd.R_alloc | apply Kd.R_drewN | apply Kd.R_drew)); exact HO_4.out) (Kd.R_base ho0) hb)
            have n1_ := Aside0.mk (Kd.R_elder' (by (with_reducible repeat (first | apply Kd.R_alloc | apply Kd.R_drewN | apply Kd.R_drew)); exact HO322.out) (Kd.R_base ho0) hb)
            have n2_ := Aside0.mk (Kd.R_lower (Kd.R_new' (Kd.R_new' ho0 (Kd.R_lt (by (with_reducible repeat (first | apply Kd.R_alloc | apply Kd.R_drewN | apply Kd.R_drew)); exact HO_4.out))) (Kd.R_lt (by (with_reducible repeat (first | apply Kd.R_alloc | apply Kd.R_drewN | apply Kd.R_drew)); exact HO322.out))) (below_size (by repeat (first | (with_reducible first | exact HB.out | apply below_alloc | apply pw_below_drewN | apply below_drew1 | refine below_set ?_ GE315.out) | exact HB.out))))
            have n3_ := Aside0.mk (blk_below (g := gb315) (o := .cells #[.int .i64 x316000_1, .slice none 0 0, .int .i64 x316002_1, .bool x316003_1, .string x316004_1] 24 (0, 0)) (by (with_reducible repeat (first | refine blk_drewN ?_ _ | refine blk_drew ?_ | refine blk_alloc ?_ _)); exact BK315.out) hb)
            have n4_ := Aside0.mk (below_step (by repeat (first | (with_reducible first | exact HB.out | apply below_alloc | apply pw_below_drewN | apply below_drew1 | refine below_set ?_ GE315.out) | exact HB.out)) hb)
            clear HO_4
            clear HO322
            clear BK315
            clear HB
            have HO_4 := n0_
            have HO322 := n1_
            have HO325 := n2_
            have BK315 := n3_
            have HB := n4_
            clear n0_ n1_ n2_ n3_ n4_
            (try clear hb)
            (try clear hb2)
            (try clear hk)
            (try clear hi)
            (try clear ho0)
            obtain ⟨Ao29, co29, eo29⟩ := Kd.R_slice HO325.out
            (first | subst eo29 | (injection eo29 with f1_ f2_ f3_; have f4_ := f1_.symm; have f5_ := f3_.symm; clear f1_ f2_ f3_; subst f4_; subst f5_))
            have p326 : 0 ≤ (x7_2 : Int) := of_decide_eq_true (by first | (with_reducible assumption) | assumption)
            have q326 : x7_2 < (t323.length : Int) := of_decide_eq_true (by first | (with_reducible assumption) | assumption)
            obtain ⟨ad326, e326, hx326_0⟩ := Kd.at_string (Kd.R_reads' HO325.out).2.2 x7_2 p326 q326
            cases e326
            replace p326 := eq_true p326
            replace q326 := eq_true q326
            refine hK.out _ _ ⟨HS0_, HS1_⟩ (fun hHeld => ?_)
            clear hK K
            have hHeld2 : (fun w' : World => w'.cell? ad327 = some (.string (rdOf ByteArray.empty t316 0)) ∧ w'.cell? (ad326.add (x7_2).toNat) = some (.string (rdOf ByteArray.empty t323 x7_2))) _ := ⟨HS0_, hx326_0⟩
            refine more_ (S' := fun w' : World => w'.cell? ad327 = some (.string (rdOf ByteArray.empty t316 0)) ∧ w'.cell? (ad326.add (x7_2).toNat) = some (.string (rdOf ByteArray.empty t323 x7_2))) (fun _ h => ⟨h.1, trivial⟩) _ _ _ _ hHeld2 ?_
            clear hHeld
            have hHeld := hHeld2
            clear hHeld2
            refine norm_ (a' := ?_) ?_ ?_
            rotate_left
            ·show Act.put _ (some 43) _ = _
             simp only [Act.put, List.setIfInBounds_toArray, List.set_cons_zero, List.set_cons_succ, i64_w, i32_w]
             rfl
            refine pure_ (i := 2) (N := some 45) (v := ?_) (a' := ?_) #[true, true, true, false, true, true, true, false] rfl rfl (any_of HT_.out (by kernel_rfl)) (fun _ _ _ h => h) (Or.inl ⟨by rfl, ?_⟩) ?_ ?_
            rotate_left
            ·intro w'
             go_simp
             with_reducible rfl
            rotate_left
            ·simp only [Act.put, List.setIfInBounds_toArray, List.set_cons_zero, List.set_cons_succ, i64_w, i32_w]
             rfl
            refine take_ (i := 3) (N := some 46) (v := ?_) (a' := ?_) #[true, true, true, true, true, true, true, false] rfl rfl (take_ofW HT_.out HW_.out (by kernel_rfl)) (fun _ _ _ h => h) (Or.inl ⟨by rfl, ?_⟩) hHeld ?_ ?_
            rotate_left
            ·rintro w' ⟨s0, s1⟩
             go_simp
             with_reducible rfl
            rotate_left
            ·simp only [Act.put, List.setIfInBounds_toArray, List.set_cons_zero, List.set_cons_succ, i64_w, i32_w]
             rfl
            refine pure_ (i := 7) (N := some 50) (v := ?_) (a' := ?_) #[true, true, true, true, true, true, true, true] rfl rfl (any_of HT_.out (by kernel_rfl)) (fun _ _ _ h => h) (Or.inl ⟨by rfl, ?_⟩) ?_ ?_
            rotate_left
            ·intro w'
             go_simp
             with_reducible rfl
            rotate_left
            ·simp only [Act.put, List.setIfInBounds_toArray, List.set_cons_zero, List.set_cons_succ, i64_w, i32_w]
             rfl
            refine done_ (done_of HT_.out (by kernel_rfl)) ?_
            try go_wp2
            go_roundg k2
            case measure => have := HK1.out; have := HK2.out; omega
            case rel => exact ⟨(x7_2), (wrap64 (x7_2 + 1)), (by first | rfl | (simp; done) | (simp [*]; done)), (by first | rfl | (simp; done) | (simp [*]; done)), H', ⟨by have := HK1.out; have := HK2.out; omega⟩, ⟨by (with_reducible repeat (first | apply Kd.R_alloc | apply Kd.R_drewN | apply Kd.R_drew)); exact Kd.R_mono HO_4.out (fun _ hk => trivial)⟩, ⟨by (with_reducible repeat (first | refine blk_drewN ?_ _ | refine blk_drew ?_ | refine blk_alloc ?_ _)); exact BK315.out⟩, ⟨by repeat (first | (with_reducible first | exact HB.out | apply below_alloc | apply pw_below_drewN | apply below_drew1 | refine below_set ?_ GE315.out) | exact HB.out)⟩⟩
           ·rw [if_neg c24] at H
            have c24b0 : ((rdOf ByteArray.empty t323 x7_2).toList == (rdOf ByteArray.empty t316 0).toList) = false := beq_eq_false_iff_ne.mpr c24
            have c24b1 : ((rdOf ByteArray.empty t323 x7_2).toList != (rdOf ByteArray.empty t316 0).toList) = true := bne_iff_ne.mpr c24
            have H' := Aside0.mk H
            clear H
            try go_wp2_with (first | ((with_reducible refine gate_callee (f := 24) rfl ?_); refine goesL_ (some 38) rfl rfl Tryd.func24 (by kernel_rfl) rfl #[] rfl (by (try simp only [List.map_toArray, List.map_cons, List.map_nil]); first | done | rfl | (simp only [List.length_drop, List.length_take]; rfl)) ?_; (with_reducible refine (graftageref56_words.calls  t320 _ A18.out).mono ?_); rintro e w30 ⟨v321, rfl, ho0, hb⟩; refine ⟨_, rfl, ?_⟩; have n0_ := Aside0.mk (Kd.R_elder' (by (with_reducible repeat (first | apply Kd.R_alloc | apply Kd.R_drewN | apply Kd.R_drew)); exact HO_4.out) (Kd.R_base ho0) hb); have n1_ := Aside0.mk (Kd.R_lower (Kd.R_new' ho0 (Kd.R_lt (by (with_reducible repeat (first | apply Kd.R_alloc | apply Kd.R_drewN | apply Kd.R_drew)); exact HO_4.out))) (below_size (by repeat (first | (with_reducible first | exact HB.out | apply below_alloc | apply pw_below_drewN | apply below_drew1 | refine below_set ?_ GE315.out) | exact HB.out)))); have n2_ := Aside0.mk (blk_below (g := gb315) (o := .cells #[.int .i64 x316000_1, .slice none 0 0, .int .i64 x316002_1, .bool x316003_1, .string x316004_1] 24 (0, 0)) (by (with_reducible repeat (first | refine blk_drewN ?_ _ | refine blk_drew ?_ | refine blk_alloc ?_ _)); exact BK315.out) hb); have n3_ := Aside0.mk (below_step (by repeat (first | (with_reducible first | exact HB.out | apply below_alloc | apply pw_below_drewN | apply below_drew1 | refine below_set ?_ GE315.out) | exact HB.out)) hb); clear HO_4; clear BK315; clear HB; have HO_4 := n0_; have HO322 := n1_; have BK315 := n2_; have HB := n3_; clear n0_ n1_ n2_ n3_; (try clear hb); (try clear hb2); (try clear hk); (try clear hi); (try clear ho0); obtain ⟨Ao31, co31, eo31⟩ := Kd.R_slice HO322.out; subst eo31))
            have n0_ := Aside0.mk (Kd.R_drew HO_4.out)
            have n1_ := Aside0.mk (Kd.R_drew HO322.out)
            have n2_ := Aside0.mk (blk_drew BK315.out)
            have n3_ := Aside0.mk (below_drew1 HB.out)
            clear HO_4
            clear HO322
            clear BK315
            clear HB
            have HO_4 := n0_
            have HO322 := n1_
            have BK315 := n2_
            have HB := n3_
            clear n0_ n1_ n2_ n3_
            have p327 : 0 ≤ (0 : Int) := (by omega)
            have q327 : 0 < (t316.length : Int) := of_decide_eq_true (by first | (with_reducible assumption) | assumption)
            obtain ⟨ad327, e327, hx327_0⟩ := Kd.at_string (Kd.R_reads' HO_4.out).2.2 0 p327 q327
            cases e327
            have qi327 : (0 < t316.length) = True := eq_true (by omega)
            (try rw [show ((0 : Int)).toNat = 0 from rfl] at hx327_0)
            (try rw [Addr.add_zero'] at hx327_0)
            replace p327 := eq_true p327
            replace q327 := eq_true q327
            refine start_ (n := 8) (S := fun w' => w'.cell? ad327 = some (.string (rdOf ByteArray.empty t316 0)) ∧ True) (ds := []) #[false, false, false, false, false, false, false, false] (by kernel_rfl) rfl rfl ⟨hx327_0, trivial⟩ (fun hHeld => ?_); refine with_tabW graftageref56_Read.tab13 graftageref56_Read.bits13 (fun HT_ HW_ => ?_)
            generalize w30.drew = w32 at HO_4 HO322 BK315 HB hx327_0 hHeld ⊢
            refine pure_ (i := 1) (N := some 44) (v := ?_) (a' := ?_) #[false, true, false, false, false, false, false, false] rfl rfl (any_of HT_.out (by kernel_rfl)) (fun _ _ _ h => h) (Or.inl ⟨by rfl, ?_⟩) ?_ ?_
            rotate_left
            ·intro w'
             go_simp
             with_reducible rfl
            rotate_left
            ·simp only [Act.put, List.setIfInBounds_toArray, List.set_cons_zero, List.set_cons_succ, i64_w, i32_w]
             rfl
            refine pure_ (i := 4) (N := some 47) (v := ?_) (a' := ?_) #[false, true, false, false, true, false, false, false] rfl rfl (any_of HT_.out (by kernel_rfl)) (fun _ _ _ h => h) (Or.inl ⟨by rfl, ?_⟩) ?_ ?_
            rotate_left
            ·intro w'
             go_simp
             with_reducible rfl
            rotate_left
            ·simp only [Act.put, List.setIfInBounds_toArray, List.set_cons_zero, List.set_cons_succ, i64_w, i32_w]
             rfl
            refine pure_ (i := 5) (N := some 48) (v := ?_) (a' := ?_) #[false, true, false, false, true, true, false, false] rfl rfl (any_of HT_.out (by kernel_rfl)) (fun _ _ _ h => h) (Or.inl ⟨by rfl, ?_⟩) ?_ ?_
            rotate_left
            ·intro w'
             go_simp
             with_reducible rfl
            rotate_left
            ·simp only [Act.put, List.setIfInBounds_toArray, List.set_cons_zero, List.set_cons_succ, i64_w, i32_w]
             rfl
            refine take_ (i := 6) (N := some 49) (v := ?_) (a' := ?_) #[false, true, false, false, true, true, true, false] rfl rfl (take_ofW HT_.out HW_.out (by kernel_rfl)) (fun _ _ _ h => h) (Or.inl ⟨by rfl, ?_⟩) hHeld ?_ ?_
            rotate_left
            ·rintro w' ⟨s0, s1⟩
             go_simp
             with_reducible rfl
            rotate_left
            ·simp only [Act.put, List.setIfInBounds_toArray, List.set_cons_zero, List.set_cons_succ, i64_w, i32_w]
             rfl
            refine one_ (i := 0) (N := some 43) #[true, true, false, false, true, true, true, false] rfl rfl (one_of HT_.out (by kernel_rfl)) (by decide) (fun K hK => ?_)
            refine goes_ Tryd.func24 (by kernel_rfl) rfl #[] (by rfl) rfl rfl (by (try simp only [List.map_toArray, List.map_cons, List.map_nil]); first | done | rfl | (simp only [List.length_drop, List.length_take]; rfl)) ?_
            with_reducible refine (graftageref56_words.calls  t323 _ A20.out).mono ?_
            rintro e w33 ⟨v324, rfl, ho0, hb⟩
            have HS0_ := (hb.cell (World.block_lt_of_cell? _ _ (hHeld.1))).trans (hHeld.1)
            have HS1_ := True.intro
            refine ⟨_, rfl, ?_⟩
            have n0_ := Aside0.mk (Kd.R_elder' (by (with_reducible repeat (first | apply Kd.R_alloc | apply Kd.R_drewN | apply Kd.R_drew)); exact HO_4.out) (Kd.R_base ho0) hb)
            have n1_ := Aside0.mk (Kd.R_elder' (by (with_reducible repeat (first | apply Kd.R_alloc | apply Kd.R_drewN | apply Kd.R_drew)); exact HO322.out) (Kd.R_base ho0) hb)
            have n2_ := Aside0.mk (Kd.R_lower (Kd.R_new' (Kd.R_new' ho0 (Kd.R_lt (by (with_reducible repeat (first | apply Kd.R_alloc | apply Kd.R_drewN | apply Kd.R_drew)); exact HO_4.out))) (Kd.R_lt (by (with_reducible repeat (first | apply Kd.R_alloc | apply Kd.R_drewN | apply Kd.R_drew)); exact HO322.out))) (below_size (by repeat (first | (with_reducible first | exact HB.out | apply below_alloc | apply pw_below_drewN | apply below_drew1 | refine below_set ?_ GE315.out) | exact HB.out))))
            have n3_ := Aside0.mk (blk_below (g := gb315) (o := .cells #[.int .i64 x316000_1, .slice none 0 0, .int .i64 x316002_1, .bool x316003_1, .string x316004_1] 24 (0, 0)) (by (with_reducible repeat (first | refine blk_drewN ?_ _ | refine blk_drew ?_ | refine blk_alloc ?_ _)); exact BK315.out) hb)
            have n4_ := Aside0.mk (below_step (by repeat (first | (with_reducible first | exact HB.out | apply below_alloc | apply pw_below_drewN | apply below_drew1 | refine below_set ?_ GE315.out) | exact HB.out)) hb)
            clear HO_4
            clear HO322
            clear BK315
            clear HB
            have HO_4 := n0_
            have HO322 := n1_
            have HO325 := n2_
            have BK315 := n3_
            have HB := n4_
            clear n0_ n1_ n2_ n3_ n4_
            (try clear hb)
            (try clear hb2)
            (try clear hk)
            (try clear hi)
            (try clear ho0)
            obtain ⟨Ao34, co34, eo34⟩ := Kd.R_slice HO325.out
            (first | subst eo34 | (injection eo34 with f1_ f2_ f3_; have f4_ := f1_.symm; have f5_ := f3_.symm; clear f1_ f2_ f3_; subst f4_; subst f5_))
            have p326 : 0 ≤ (x7_2 : Int) := of_decide_eq_true (by first | (with_reducible assumption) | assumption)
            have q326 : x7_2 < (t323.length : Int) := of_decide_eq_true (by first | (with_reducible assumption) | assumption)
            obtain ⟨ad326, e326, hx326_0⟩ := Kd.at_string (Kd.R_reads' HO325.out).2.2 x7_2 p326 q326
            cases e326
            replace p326 := eq_true p326
            replace q326 := eq_true q326
            refine hK.out _ _ ⟨HS0_, HS1_⟩ (fun hHeld => ?_)
            clear hK K
            have hHeld2 : (fun w' : World => w'.cell? ad327 = some (.string (rdOf ByteArray.empty t316 0)) ∧ w'.cell? (ad326.add (x7_2).toNat) = some (.string (rdOf ByteArray.empty t323 x7_2))) _ := ⟨HS0_, hx326_0⟩
            refine more_ (S' := fun w' : World => w'.cell? ad327 = some (.string (rdOf ByteArray.empty t316 0)) ∧ w'.cell? (ad326.add (x7_2).toNat) = some (.string (rdOf ByteArray.empty t323 x7_2))) (fun _ h => ⟨h.1, trivial⟩) _ _ _ _ hHeld2 ?_
            clear hHeld
            have hHeld := hHeld2
            clear hHeld2
            refine norm_ (a' := ?_) ?_ ?_
            rotate_left
            ·show Act.put _ (some 43) _ = _
             simp only [Act.put, List.setIfInBounds_toArray, List.set_cons_zero, List.set_cons_succ, i64_w, i32_w]
             rfl
            refine pure_ (i := 2) (N := some 45) (v := ?_) (a' := ?_) #[true, true, true, false, true, true, true, false] rfl rfl (any_of HT_.out (by kernel_rfl)) (fun _ _ _ h => h) (Or.inl ⟨by rfl, ?_⟩) ?_ ?_
            rotate_left
            ·intro w'
             go_simp
             with_reducible rfl
            rotate_left
            ·simp only [Act.put, List.setIfInBounds_toArray, List.set_cons_zero, List.set_cons_succ, i64_w, i32_w]
             rfl
            refine take_ (i := 3) (N := some 46) (v := ?_) (a' := ?_) #[true, true, true, true, true, true, true, false] rfl rfl (take_ofW HT_.out HW_.out (by kernel_rfl)) (fun _ _ _ h => h) (Or.inl ⟨by rfl, ?_⟩) hHeld ?_ ?_
            rotate_left
            ·rintro w' ⟨s0, s1⟩
             go_simp
             with_reducible rfl
            rotate_left
            ·simp only [Act.put, List.setIfInBounds_toArray, List.set_cons_zero, List.set_cons_succ, i64_w, i32_w]
             rfl
            refine pure_ (i := 7) (N := some 50) (v := ?_) (a' := ?_) #[true, true, true, true, true, true, true, true] rfl rfl (any_of HT_.out (by kernel_rfl)) (fun _ _ _ h => h) (Or.inl ⟨by rfl, ?_⟩) ?_ ?_
            rotate_left
            ·intro w'
             go_simp
             with_reducible rfl
            rotate_left
            ·simp only [Act.put, List.setIfInBounds_toArray, List.set_cons_zero, List.set_cons_succ, i64_w, i32_w]
             rfl
            refine done_ (done_of HT_.out (by kernel_rfl)) ?_
            try go_wp2
            go_roundg k2
            case measure => have := HK1.out; have := HK2.out; omega
            case rel => exact ⟨(x6_2), (wrap64 (x7_2 + 1)), (by first | rfl | (simp; done) | (simp [*]; done)), (by first | rfl | (simp; done) | (simp [*]; done)), H', ⟨by have := HK1.out; have := HK2.out; omega⟩, ⟨by (with_reducible repeat (first | apply Kd.R_alloc | apply Kd.R_drewN | apply Kd.R_drew)); exact Kd.R_mono HO_4.out (fun _ hk => trivial)⟩, ⟨by (with_reducible repeat (first | refine blk_drewN ?_ _ | refine blk_drew ?_ | refine blk_alloc ?_ _)); exact BK315.out⟩, ⟨by repeat (first | (with_reducible first | exact HB.out | apply below_alloc | apply pw_below_drewN | apply below_drew1 | refine below_set ?_ GE315.out) | exact HB.out)⟩⟩
          ·rw [if_neg c23] at H
           exact absurd H (by simp)
         ·rw [if_neg c22] at H
          exact absurd H (by simp)
        ·rw [if_neg c21] at H
         exact absurd H (by simp)
       ·rw [if_neg c19] at H
        have c19b0 : decide (x7_2 < (t320.length : Int)) = false := decide_eq_false c19
        clear c19
        by_cases c35 : x6_2 = 0
        ·rw [if_pos c35] at H
         have c35b0 : (x6_2 == 0) = true := beq_iff_eq.mpr c35
         have c35b1 : (x6_2 != 0) = false := bne_eq_false_iff_eq.mpr c35
         clear c35
         simp only [Option.some.injEq, Prod.mk.injEq] at H
         obtain ⟨rfl, rfl, rfl, rfl, rfl, rfl⟩ := H
         go_wp2_with (first | ((with_reducible refine gate_callee (f := 24) rfl ?_); refine goesL_ (some 38) rfl rfl Tryd.func24 (by kernel_rfl) rfl #[] rfl (by (try simp only [List.map_toArray, List.map_cons, List.map_nil]); first | done | rfl | (simp only [List.length_drop, List.length_take]; rfl)) ?_; (with_reducible refine (graftageref56_words.calls  t320 _ A18.out).mono ?_); rintro e w36 ⟨v321, rfl, ho0, hb⟩; refine ⟨_, rfl, ?_⟩; have n0_ := Aside0.mk (Kd.R_elder' (by (with_reducible repeat (first | apply Kd.R_alloc | apply Kd.R_drewN | apply Kd.R_drew)); exact HO_4.out) (Kd.R_base ho0) hb); have n1_ := Aside0.mk (Kd.R_lower (Kd.R_new' ho0 (Kd.R_lt (by (with_reducible repeat (first | apply Kd.R_alloc | apply Kd.R_drewN | apply Kd.R_drew)); exact HO_4.out))) (below_size (by repeat (first | (with_reducible first | exact HB.out | apply below_alloc | apply pw_below_drewN | apply below_drew1 | refine below_set ?_ GE315.out) | exact HB.out)))); have n2_ := Aside0.mk (blk_below (g := gb315) (o := .cells #[.int .i64 x316000_1, .slice none 0 0, .int .i64 x316002_1, .bool x316003_1, .string x316004_1] 24 (0, 0)) (by (with_reducible repeat (first | refine blk_drewN ?_ _ | refine blk_drew ?_ | refine blk_alloc ?_ _)); exact BK315.out) hb); have n3_ := Aside0.mk (below_step (by repeat (first | (with_reducible first | exact HB.out | apply below_alloc | apply pw_below_drewN | apply below_drew1 | refine below_set ?_ GE315.out) | exact HB.out)) hb); clear HO_4; clear BK315; clear HB; have HO_4 := n0_; have HO322 := n1_; have BK315 := n2_; have HB := n3_; clear n0_ n1_ n2_ n3_; (try clear hb); (try clear hb2); (try clear hk); (try clear hi); (try clear ho0); obtain ⟨Ao37, co37, eo37⟩ := Kd.R_slice HO322.out; subst eo37; have hcz38_0 : w36.cell? ⟨gb315, 0, none⟩ = some (.int .i64 x316000_1) := (blk_cell BK315.out 0).trans rfl; have hcz38_1 : w36.cell? ⟨gb315, 1, none⟩ = some (.slice none 0 0) := (blk_cell BK315.out 1).trans rfl; have hcz38_2 : w36.cell? ⟨gb315, 2, none⟩ = some (.int .i64 x316002_1) := (blk_cell BK315.out 2).trans rfl; have hcz38_3 : w36.cell? ⟨gb315, 3, none⟩ = some (.bool x316003_1) := (blk_cell BK315.out 3).trans rfl; have hcz38_4 : w36.cell? ⟨gb315, 4, none⟩ = some (.string x316004_1) := (blk_cell BK315.out 4).trans rfl; have hfz38_0 := blk_frozen BK315.out 0; have hfz38_1 := blk_frozen BK315.out 1; have hfz38_2 := blk_frozen BK315.out 2; have hfz38_3 := blk_frozen BK315.out 3; have hfz38_4 := blk_frozen BK315.out 4))
         refine bodyPost_ret (results_ct rfl _ _ gb315 24 #[.int .i64 0, .slice none 0 0, .int .i64 0, .bool false, .string (⟨#[]⟩ : ByteArray)] (0, 0) _ rfl (by (with_reducible repeat (first | refine blk_drewN ?_ _ | refine blk_drew ?_ | refine blk_alloc ?_ _)); refine blk_put (cs := #[.int .i64 0, .slice none 0 0, .int .i64 0, .bool false, .string x316004_1]) ?_ 4 _ rfl; (with_reducible repeat (first | refine blk_drewN ?_ _ | refine blk_drew ?_ | refine blk_alloc ?_ _)); refine blk_put (cs := #[.int .i64 0, .slice none 0 0, .int .i64 0, .bool x316003_1, .string x316004_1]) ?_ 3 _ rfl; (with_reducible repeat (first | refine blk_drewN ?_ _ | refine blk_drew ?_ | refine blk_alloc ?_ _)); refine blk_put (cs := #[.int .i64 0, .slice none 0 0, .int .i64 x316002_1, .bool x316003_1, .string x316004_1]) ?_ 2 _ rfl; (with_reducible repeat (first | refine blk_drewN ?_ _ | refine blk_drew ?_ | refine blk_alloc ?_ _)); refine blk_put (cs := #[.int .i64 0, .slice none 0 0, .int .i64 x316002_1, .bool x316003_1, .string x316004_1]) ?_ 1 _ rfl; (with_reducible repeat (first | refine blk_drewN ?_ _ | refine blk_drew ?_ | refine blk_alloc ?_ _)); refine blk_put (cs := #[.int .i64 x316000_1, .slice none 0 0, .int .i64 x316002_1, .bool x316003_1, .string x316004_1]) ?_ 0 _ rfl; (with_reducible repeat (first | refine blk_drewN ?_ _ | refine blk_drew ?_ | refine blk_alloc ?_ _)); exact BK315.out) Tryd.underlying24 rfl (by kernel_rfl)) rfl ?_
         exact ⟨_, by first | rfl | (simp [errW_none, errW_some] <;> rfl) | (simp [*, errW_none, errW_some] <;> rfl), by first | exact Kd.R_nil _ _ _ _ _ | exact Kd.N_nil _ _ _ _ _ | exact Kd.V_nil _ _ _ _ _ | exact Kd.Q_nil _ _ _ _ _ | exact Kd.S_nil _ _ _ _ _, by repeat (first | (with_reducible first | exact HB.out | apply below_alloc | apply pw_below_drewN | apply below_drew1 | refine below_set ?_ GE315.out) | exact HB.out)⟩
        ·rw [if_neg c35] at H
         have c35b0 : (x6_2 == 0) = false := beq_eq_false_iff_ne.mpr c35
         have c35b1 : (x6_2 != 0) = true := bne_iff_ne.mpr c35
         by_cases c39 : 1 < (t316.length : Int)
         ·rw [if_pos c39] at H
          have c39b0 : decide (1 < (t316.length : Int)) = true := decide_eq_true c39
          have c39b1 : decide (1 < t316.length) = true := decide_eq_true (by omega)
          clear c39
          replace H := Option.bind_eq_some_iff.mp H
          obtain ⟨⟨t329, t330⟩, A400, H⟩ := H
          replace H : (if t330 = true then (if 2 < (t316.length : Int) then (if (rdOf ByteArray.empty t316 2).toList = ([48] : List UInt8) then (graftageref56_Read.j2 k2 t316 x6_2 t329 false) else (graftageref56_Read.j2 k2 t316 x6_2 t329 ((rdOf ByteArray.empty t316 2).toList != ([49] : List UInt8)))) else (none)) else (graftageref56_Read.j2 k2 t316 x6_2 t329 true)) = some (r1, r2, r3, r4, r5, r6) := H
          have A40 := Aside0.mk A400
          clear A400
          have HC41 := Aside0.mk H
          clear H
          go_upto_region 18 with (first | ((with_reducible refine gate_callee (f := 24) rfl ?_); refine goesL_ (some 38) rfl rfl Tryd.func24 (by kernel_rfl) rfl #[] rfl (by (try simp only [List.map_toArray, List.map_cons, List.map_nil]); first | done | rfl | (simp only [List.length_drop, List.length_take]; rfl)) ?_; (with_reducible refine (graftageref56_words.calls  t320 _ A18.out).mono ?_); rintro e w42 ⟨v321, rfl, ho0, hb⟩; refine ⟨_, rfl, ?_⟩; have n0_ := Aside0.mk (Kd.R_elder' (by (with_reducible repeat (first | apply Kd.R_alloc | apply Kd.R_drewN | apply Kd.R_drew)); exact HO_4.out) (Kd.R_base ho0) hb); have n1_ := Aside0.mk (Kd.R_lower (Kd.R_new' ho0 (Kd.R_lt (by (with_reducible repeat (first | apply Kd.R_alloc | apply Kd.R_drewN | apply Kd.R_drew)); exact HO_4.out))) (below_size (by repeat (first | (with_reducible first | exact HB.out | apply below_alloc | apply pw_below_drewN | apply below_drew1 | refine below_set ?_ GE315.out) | exact HB.out)))); have n2_ := Aside0.mk (blk_below (g := gb315) (o := .cells #[.int .i64 x316000_1, .slice none 0 0, .int .i64 x316002_1, .bool x316003_1, .string x316004_1] 24 (0, 0)) (by (with_reducible repeat (first | refine blk_drewN ?_ _ | refine blk_drew ?_ | refine blk_alloc ?_ _)); exact BK315.out) hb); have n3_ := Aside0.mk (below_step (by repeat (first | (with_reducible first | exact HB.out | apply below_alloc | apply pw_below_drewN | apply below_drew1 | refine below_set ?_ GE315.out) | exact HB.out)) hb); clear HO_4; clear BK315; clear HB; have HO_4 := n0_; have HO322 := n1_; have BK315 := n2_; have HB := n3_; clear n0_ n1_ n2_ n3_; (try clear hb); (try clear hb2); (try clear hk); (try clear hi); (try clear ho0); obtain ⟨Ao43, co43, eo43⟩ := Kd.R_slice HO322.out; subst eo43; have p328 : 0 ≤ (1 : Int) := (by omega); have q328 : 1 < (t316.length : Int) := of_decide_eq_true (by first | (with_reducible assumption) | assumption); obtain ⟨ad328, e328, hx328_0⟩ := Kd.at_string (Kd.R_reads' HO_4.out).2.2 1 p328 q328; cases e328; (try simp only [show (1 : Int).toNat = 1 from rfl, Nat.reduceMul, Nat.reduceEqDiff, Go.Addr.add, ↓reduceIte] at hx328_0); have qi328 : (1 < t316.length) = True := eq_true (by omega); (try rw [show ((1 : Int)).toNat = 1 from rfl] at hx328_0); replace p328 := eq_true p328; replace q328 := eq_true q328) | ((with_reducible refine gate_callee (f := 33) rfl ?_); refine goesL_ (some 59) rfl rfl Tryd.func33 (by kernel_rfl) rfl #[.string (rdOf ByteArray.empty t316 1)] rfl (by (try simp only [List.map_toArray, List.map_cons, List.map_nil]); first | done | rfl | (simp only [List.length_drop, List.length_take]; rfl)) ?_; (with_reducible refine (graftageref56_number.calls k2 (rdOf ByteArray.empty t316 1) t329 t330 _ A40.out).mono ?_); rintro e w' ⟨rfl, ⟨nd, rfl⟩⟩; refine ⟨_, rfl, ?_⟩))
          (try simp only [Act.put, List.setIfInBounds_toArray, List.set_cons_zero, List.set_cons_succ])
          go_cut [75] (fun v75 wc => ∃ (kq : Nat) (x75_40 : Bool), v75 = .bool x75_40 ∧ Aside0 (graftageref56_Read.j2 kq t316 x6_2 t329 x75_40 = some (r1, r2, r3, r4, r5, r6)) ∧ Aside0 (kq ≤ k2) ∧ Aside0 (Kd.R Kd.string 9 wc w.heap.size (fun _ => True) (.slice (some ad328) t316.length co17) t316) ∧ Aside0 (wc.heap[gb315]? = some (.cells #[.int .i64 x316000_1, (.slice none 0 0), .int .i64 x316002_1, .bool x316003_1, .string x316004_1] 24 (0, 0))) ∧ Aside0 (Below w.heap.size w wc))
          case first =>
           have H := HC41.out
           clear HC41
           by_cases c44 : t330 = true
           ·subst c44
            have H1 : (if 2 < (t316.length : Int) then (if (rdOf ByteArray.empty t316 2).toList = ([48] : List UInt8) then (graftageref56_Read.j2 k2 t316 x6_2 t329 false) else (graftageref56_Read.j2 k2 t316 x6_2 t329 ((rdOf ByteArray.empty t316 2).toList != ([49] : List UInt8)))) else (none)) = some (r1, r2, r3, r4, r5, r6) := by rw [if_pos rfl] at H; exact H
            clear H
            have H := H1
            clear H1
            by_cases c45 : 2 < (t316.length : Int)
            ·rw [if_pos c45] at H
             have c45b0 : decide (2 < (t316.length : Int)) = true := decide_eq_true c45
             have c45b1 : decide (2 < t316.length) = true := decide_eq_true (by omega)
             clear c45
             (first | rw [c45b0] | (simp only [i64_w, i32_w]; rw [c45b0]) | skip)
             by_cases c46 : (rdOf ByteArray.empty t316 2).toList = ([48] : List UInt8)
             ·rw [if_pos c46] at H
              have c46b0 : ((rdOf ByteArray.empty t316 2).toList == ([48] : List UInt8)) = true := beq_iff_eq.mpr c46
              have c46b1 : ((rdOf ByteArray.empty t316 2).toList != ([48] : List UInt8)) = false := bne_eq_false_iff_eq.mpr c46
              clear c46
              have H' := Aside0.mk H
              clear H
              have p331 : 0 ≤ (2 : Int) := (by omega)
              have q331 : 2 < (t316.length : Int) := of_decide_eq_true (by first | (with_reducible assumption) | assumption)
              obtain ⟨ad331, e331, hx331_0⟩ := Kd.at_string (Kd.R_reads' HO_4.out).2.2 2 p331 q331
              obtain rfl : ad328 = ad331 := (by injection e331)
              (try simp only [show (2 : Int).toNat = 2 from rfl, Nat.reduceMul, Nat.reduceEqDiff, Go.Addr.add, ↓reduceIte] at hx331_0)
              have qi331 : (2 < t316.length) = True := eq_true (by omega)
              (try rw [show ((2 : Int)).toNat = 2 from rfl] at hx331_0)
              replace p331 := eq_true p331
              replace q331 := eq_true q331
              go_wp2
              go_meet
              case rel => exact ⟨_, (false), (by first | rfl | (simp; done) | (simp [*]; done)), H', ⟨by have := HK1.out; have := HK2.out; first | omega | exact Nat.le_refl _⟩, ⟨by (with_reducible repeat (first | apply Kd.R_alloc | apply Kd.R_drewN | apply Kd.R_drew)); exact Kd.R_mono HO_4.out (fun _ hk => trivial)⟩, ⟨by (with_reducible repeat (first | refine blk_drewN ?_ _ | refine blk_drew ?_ | refine blk_alloc ?_ _)); exact BK315.out⟩, ⟨by repeat (first | (with_reducible first | exact HB.out | apply below_alloc | apply pw_below_drewN | apply below_drew1 | refine below_set ?_ GE315.out) | exact HB.out)⟩⟩
             ·rw [if_neg c46] at H
              have c46b0 : ((rdOf ByteArray.empty t316 2).toList == ([48] : List UInt8)) = false := beq_eq_false_iff_ne.mpr c46
              have c46b1 : ((rdOf ByteArray.empty t316 2).toList != ([48] : List UInt8)) = true := bne_iff_ne.mpr c46
              have H' := Aside0.mk H
              clear H
              have p331 : 0 ≤ (2 : Int) := (by omega)
              have q331 : 2 < (t316.length : Int) := of_decide_eq_true (by first | (with_reducible assumption) | assumption)
              obtain ⟨ad331, e331, hx331_0⟩ := Kd.at_string (Kd.R_reads' HO_4.out).2.2 2 p331 q331
              obtain rfl : ad328 = ad331 := (by injection e331)
              (try simp only [show (2 : Int).toNat = 2 from rfl, Nat.reduceMul, Nat.reduceEqDiff, Go.Addr.add, ↓reduceIte] at hx331_0)
              have qi331 : (2 < t316.length) = True := eq_true (by omega)
              (try rw [show ((2 : Int)).toNat = 2 from rfl] at hx331_0)
              replace p331 := eq_true p331
              replace q331 := eq_true q331
              have p332 : 0 ≤ (2 : Int) := (by omega)
              have q332 : 2 < (t316.length : Int) := of_decide_eq_true (by first | (with_reducible assumption) | assumption)
              obtain ⟨ad332, e332, hx332_0⟩ := Kd.at_string (Kd.R_reads' HO_4.out).2.2 2 p332 q332
              obtain rfl : ad328 = ad332 := (by injection e332)
              (try simp only [show (2 : Int).toNat = 2 from rfl, Nat.reduceMul, Nat.reduceEqDiff, Go.Addr.add, ↓reduceIte] at hx332_0)
              have qi332 : (2 < t316.length) = True := eq_true (by omega)
              (try rw [show ((2 : Int)).toNat = 2 from rfl] at hx332_0)
              replace p332 := eq_true p332
              replace q332 := eq_true q332
              go_wp2
              go_meet
              case rel => exact ⟨_, (((rdOf ByteArray.empty t316 2).toList != ([49] : List UInt8))), (by first | rfl | (simp; done) | (simp [*]; done)), H', ⟨by have := HK1.out; have := HK2.out; first | omega | exact Nat.le_refl _⟩, ⟨by (with_reducible repeat (first | apply Kd.R_alloc | apply Kd.R_drewN | apply Kd.R_drew)); exact Kd.R_mono HO_4.out (fun _ hk => trivial)⟩, ⟨by (with_reducible repeat (first | refine blk_drewN ?_ _ | refine blk_drew ?_ | refine blk_alloc ?_ _)); exact BK315.out⟩, ⟨by repeat (first | (with_reducible first | exact HB.out | apply below_alloc | apply pw_below_drewN | apply below_drew1 | refine below_set ?_ GE315.out) | exact HB.out)⟩⟩
            ·rw [if_neg c45] at H
             exact absurd H (by simp)
           ·replace c44 := Bool.eq_false_iff.mpr c44
            subst c44
            have H1 : (graftageref56_Read.j2 k2 t316 x6_2 t329 true) = some (r1, r2, r3, r4, r5, r6) := by rw [if_neg (show ¬ (false = true) by decide)] at H; exact H
            clear H
            have H := H1
            clear H1
            have H' := Aside0.mk H
            clear H
            go_wp2
            go_meet
            case rel => exact ⟨_, (true), (by first | rfl | (simp; done) | (simp [*]; done)), H', ⟨by have := HK1.out; have := HK2.out; first | omega | exact Nat.le_refl _⟩, ⟨by (with_reducible repeat (first | apply Kd.R_alloc | apply Kd.R_drewN | apply Kd.R_drew)); exact Kd.R_mono HO_4.out (fun _ hk => trivial)⟩, ⟨by (with_reducible repeat (first | refine blk_drewN ?_ _ | refine blk_drew ?_ | refine blk_alloc ?_ _)); exact BK315.out⟩, ⟨by repeat (first | (with_reducible first | exact HB.out | apply below_alloc | apply pw_below_drewN | apply below_drew1 | refine below_set ?_ GE315.out) | exact HB.out)⟩⟩
          case rest =>
           clear HC41
           try clear c1
           try clear c2
           try clear c2b0
           try clear c2b1
           try clear p2
           try clear c3
           try clear p3
           try clear q3
           try clear hx3
           try clear qi3
           try clear c4
           try clear p6
           try clear c8
           try clear c8b0
           try clear c9
           try clear c9b0
           try clear c10
           try clear c10b0
           try clear c10b1
           try clear c12
           try clear c13
           try clear c13b0
           try clear c13b1
           try clear c19
           try clear c19b0
           try clear c21
           try clear c21b0
           try clear c22
           try clear c22b0
           try clear c23
           try clear c23b0
           try clear c23b1
           try clear c24
           try clear c24b0
           try clear c24b1
           try clear p31
           try clear q31
           try clear hx31
           try clear c32
           try clear p32
           try clear q32
           try clear hx32
           try clear qi32
           try clear c33
           try clear p33
           try clear q33
           try clear hx33
           try clear qi33
           try clear c35
           try clear c35b0
           try clear c35b1
           try clear c39
           try clear c39b0
           try clear c39b1
           try clear c44
           try clear c45
           try clear c45b0
           try clear c45b1
           try clear c46
           try clear c46b0
           try clear c46b1
           try clear hcz12_0
           try clear hcz12_1
           try clear hcz12_2
           try clear hcz12_3
           try clear hcz12_4
           try clear hcz15_0
           try clear hcz15_1
           try clear hcz15_2
           try clear hcz15_3
           try clear hcz15_4
           try clear hcz38_0
           try clear hcz38_1
           try clear hcz38_2
           try clear hcz38_3
           try clear hcz38_4
           try clear hcz4_0
           try clear hcz4_1
           try clear hcz4_2
           try clear hcz4_3
           try clear hcz4_4
           try clear hfz12_0
           try clear hfz12_1
           try clear hfz12_2
           try clear hfz12_3
           try clear hfz12_4
           try clear hfz15_0
           try clear hfz15_1
           try clear hfz15_2
           try clear hfz15_3
           try clear hfz15_4
           try clear hfz38_0
           try clear hfz38_1
           try clear hfz38_2
           try clear hfz38_3
           try clear hfz38_4
           try clear hfz4_0
           try clear hfz4_1
           try clear hfz4_2
           try clear hfz4_3
           try clear hfz4_4
           try clear hx319_0
           try clear hx326_0
           try clear hx327_0
           try clear hx328_0
           try clear hx331_0
           try clear hx332_0
           try clear p2
           try clear p3
           try clear p319
           try clear p326
           try clear p327
           try clear p328
           try clear p331
           try clear p332
           try clear p6
           try clear q3
           try clear q319
           try clear q326
           try clear q327
           try clear q328
           try clear q331
           try clear q332
           obtain ⟨kq, x75_40, rfl, HA, HJ40, HO_4, BK315, HB⟩ := hcut
           cases kq with
           | zero => exact absurd HA.out (by simp [graftageref56_Read.j2])
           | succ kj40 =>
            have H := HA.out
            clear HA
            simp only [graftageref56_Read.j2] at H
            by_cases c47 : x75_40 = true
            ·subst c47
             have H1 : (some (0, ([] : List ByteArray), 0, false, (⟨#[]⟩ : ByteArray), 2)) = some (r1, r2, r3, r4, r5, r6) := by rw [if_pos rfl] at H; exact H
             clear H
             have H := H1
             clear H1
             simp only [Option.some.injEq, Prod.mk.injEq] at H
             obtain ⟨rfl, rfl, rfl, rfl, rfl, rfl⟩ := H
             have hcz48_0 : wc.cell? ⟨gb315, 0, none⟩ = some (.int .i64 x316000_1) := (blk_cell BK315.out 0).trans rfl
             have hcz48_1 : wc.cell? ⟨gb315, 1, none⟩ = some (.slice none 0 0) := (blk_cell BK315.out 1).trans rfl
             have hcz48_2 : wc.cell? ⟨gb315, 2, none⟩ = some (.int .i64 x316002_1) := (blk_cell BK315.out 2).trans rfl
             have hcz48_3 : wc.cell? ⟨gb315, 3, none⟩ = some (.bool x316003_1) := (blk_cell BK315.out 3).trans rfl
             have hcz48_4 : wc.cell? ⟨gb315, 4, none⟩ = some (.string x316004_1) := (blk_cell BK315.out 4).trans rfl
             have hfz48_0 := blk_frozen BK315.out 0
             have hfz48_1 := blk_frozen BK315.out 1
             have hfz48_2 := blk_frozen BK315.out 2
             have hfz48_3 := blk_frozen BK315.out 3
             have hfz48_4 := blk_frozen BK315.out 4
             go_wp2
             refine bodyPost_ret (results_ct rfl _ _ gb315 24 #[.int .i64 0, .slice none 0 0, .int .i64 0, .bool false, .string (⟨#[]⟩ : ByteArray)] (0, 0) _ rfl (by (with_reducible repeat (first | refine blk_drewN ?_ _ | refine blk_drew ?_ | refine blk_alloc ?_ _)); refine blk_put (cs := #[.int .i64 0, .slice none 0 0, .int .i64 0, .bool false, .string x316004_1]) ?_ 4 _ rfl; (with_reducible repeat (first | refine blk_drewN ?_ _ | refine blk_drew ?_ | refine blk_alloc ?_ _)); refine blk_put (cs := #[.int .i64 0, .slice none 0 0, .int .i64 0, .bool x316003_1, .string x316004_1]) ?_ 3 _ rfl; (with_reducible repeat (first | refine blk_drewN ?_ _ | refine blk_drew ?_ | refine blk_alloc ?_ _)); refine blk_put (cs := #[.int .i64 0, .slice none 0 0, .int .i64 x316002_1, .bool x316003_1, .string x316004_1]) ?_ 2 _ rfl; (with_reducible repeat (first | refine blk_drewN ?_ _ | refine blk_drew ?_ | refine blk_alloc ?_ _)); refine blk_put (cs := #[.int .i64 0, .slice none 0 0, .int .i64 x316002_1, .bool x316003_1, .string x316004_1]) ?_ 1 _ rfl; (with_reducible repeat (first | refine blk_drewN ?_ _ | refine blk_drew ?_ | refine blk_alloc ?_ _)); refine blk_put (cs := #[.int .i64 x316000_1, .slice none 0 0, .int .i64 x316002_1, .bool x316003_1, .string x316004_1]) ?_ 0 _ rfl; (with_reducible repeat (first | refine blk_drewN ?_ _ | refine blk_drew ?_ | refine blk_alloc ?_ _)); exact BK315.out) Tryd.underlying24 rfl (by kernel_rfl)) rfl ?_
             exact ⟨_, by first | rfl | (simp [errW_none, errW_some] <;> rfl) | (simp [*, errW_none, errW_some] <;> rfl), by first | exact Kd.R_nil _ _ _ _ _ | exact Kd.N_nil _ _ _ _ _ | exact Kd.V_nil _ _ _ _ _ | exact Kd.Q_nil _ _ _ _ _ | exact Kd.S_nil _ _ _ _ _, by repeat (first | (with_reducible first | exact HB.out | apply below_alloc | apply pw_below_drewN | apply below_drew1 | refine below_set ?_ GE315.out) | exact HB.out)⟩
            ·replace c47 := Bool.eq_false_iff.mpr c47
             subst c47
             have H1 : (if 2 < (t316.length : Int) then (graftageref56_Read.l2 kj40 t316 3 x6_2 ([] : List ByteArray) t329 ((rdOf ByteArray.empty t316 2).toList == ([49] : List UInt8)) (⟨#[]⟩ : ByteArray)) else (none)) = some (r1, r2, r3, r4, r5, r6) := by rw [if_neg (show ¬ (false = true) by decide)] at H; exact H
             clear H
             have H := H1
             clear H1
             by_cases c49 : 2 < (t316.length : Int)
             ·rw [if_pos c49] at H
              have c49b0 : decide (2 < (t316.length : Int)) = true := decide_eq_true c49
              have c49b1 : decide (2 < t316.length) = true := decide_eq_true (by omega)
              clear c49
              have H' := Aside0.mk H
              clear H
              have p333 : 0 ≤ (2 : Int) := (by omega)
              have q333 : 2 < (t316.length : Int) := of_decide_eq_true (by first | (with_reducible assumption) | assumption)
              obtain ⟨ad333, e333, hx333_0⟩ := Kd.at_string (Kd.R_reads' HO_4.out).2.2 2 p333 q333
              obtain rfl : ad328 = ad333 := (by injection e333)
              (try simp only [show (2 : Int).toNat = 2 from rfl, Nat.reduceMul, Nat.reduceEqDiff, Go.Addr.add, ↓reduceIte] at hx333_0)
              have qi333 : (2 < t316.length) = True := eq_true (by omega)
              (try rw [show ((2 : Int)).toNat = 2 from rfl] at hx333_0)
              replace p333 := eq_true p333
              replace q333 := eq_true q333
              go_wp2_with (first | ((with_reducible refine gate_dst (N := 10) rfl ?_); (try (refine gate_guard (by rfl) ?_; dsimp only)); refine box_event ?hg (N := 10) ?hd (cs := #[.int .i64 0, .slice none 0 0, .int .i64 0, .bool false, .string (⟨#[]⟩ : ByteArray)]) (t := 24) ?hr ?_; (case hd => rfl); (case hg => rfl); (case hr => first | (go_simp; done) | (go_simp; rfl)); intro gb334 hg w50 hbox hb; have n0_ := Aside0.mk (Kd.R_below (by (with_reducible repeat (first | apply Kd.R_alloc | apply Kd.R_drewN | apply Kd.R_drew)); exact HO_4.out) hb); have n1_ := Aside0.mk (blk_below (g := gb315) (o := .cells #[.int .i64 x316000_1, .slice none 0 0, .int .i64 x316002_1, .bool x316003_1, .string x316004_1] 24 (0, 0)) (by (with_reducible repeat (first | refine blk_drewN ?_ _ | refine blk_drew ?_ | refine blk_alloc ?_ _)); exact BK315.out) hb); have n2_ := Aside0.mk (below_step (by repeat (first | (with_reducible first | exact HB.out | apply below_alloc | apply pw_below_drewN | apply below_drew1 | refine below_set ?_ GE315.out) | exact HB.out)) hb); have n3_ := Aside0.mk (hbox); have n4_ := Aside0.mk ((by rw [hg]; exact (below_size (by repeat (first | (with_reducible first | exact HB.out | apply below_alloc | apply pw_below_drewN | apply below_drew1 | refine below_set ?_ GE315.out) | exact HB.out))) : w.heap.size ≤ gb334)); have n5_ := Aside0.mk ((by rw [hg]; exact (below_size (by repeat (first | (with_reducible first | exact HB.out | apply below_alloc | apply pw_below_drewN | apply below_drew1 | refine below_set ?_ GE315.out) | exact HB.out))) : w.heap.size ≤ gb334)); have n6_ := Aside0.mk ((by rw [hg]; exact Nat.ne_of_lt (blk_lt (g := gb315) (o := .cells #[.int .i64 x316000_1, .slice none 0 0, .int .i64 x316002_1, .bool x316003_1, .string x316004_1] 24 (0, 0)) (by (with_reducible repeat (first | refine blk_drewN ?_ _ | refine blk_drew ?_ | refine blk_alloc ?_ _)); exact BK315.out)) : gb315 ≠ gb334)); have n7_ := Aside0.mk ((by rw [hg]; exact Nat.ne_of_gt (blk_lt (g := gb315) (o := .cells #[.int .i64 x316000_1, .slice none 0 0, .int .i64 x316002_1, .bool x316003_1, .string x316004_1] 24 (0, 0)) (by (with_reducible repeat (first | refine blk_drewN ?_ _ | refine blk_drew ?_ | refine blk_alloc ?_ _)); exact BK315.out)) : gb334 ≠ gb315)); clear HO_4; clear BK315; clear HB; have HO_4 := n0_; have BK315 := n1_; have HB := n2_; have BK334 := n3_; have GW334 := n4_; have GE334 := n5_; have NB315_334 := n6_; have NB334_315 := n7_; clear n0_ n1_ n2_ n3_ n4_ n5_ n6_ n7_; clear hb hbox hg; have hnb51 := NB334_315.out; have hnc51 := NB315_334.out; have hcz52_0 : w50.cell? ⟨gb334, 0, none⟩ = some (.int .i64 0) := (blk_cell BK334.out 0).trans rfl; have hcz52_1 : w50.cell? ⟨gb334, 1, none⟩ = some (.slice none 0 0) := (blk_cell BK334.out 1).trans rfl; have hcz52_2 : w50.cell? ⟨gb334, 2, none⟩ = some (.int .i64 0) := (blk_cell BK334.out 2).trans rfl; have hcz52_3 : w50.cell? ⟨gb334, 3, none⟩ = some (.bool false) := (blk_cell BK334.out 3).trans rfl; have hcz52_4 : w50.cell? ⟨gb334, 4, none⟩ = some (.string (⟨#[]⟩ : ByteArray)) := (blk_cell BK334.out 4).trans rfl; have hfz52_0 := blk_frozen BK334.out 0; have hfz52_1 := blk_frozen BK334.out 1; have hfz52_2 := blk_frozen BK334.out 2; have hfz52_3 := blk_frozen BK334.out 3; have hfz52_4 := blk_frozen BK334.out 4))
              go_loopg [11] kj40 (fun kq v11 w' => ∃ (x11_4 : Int) (x316000_4 : Int) (x316002_4 : Int) (x316003_4 : Bool) (x316004_4 : ByteArray) (x335001_4 : List ByteArray) (x335004_4 : ByteArray) (u335001 : Value), v11 = .int .i64 x11_4 ∧ Aside0 (graftageref56_Read.l2 kq t316 x11_4 x6_2 x335001_4 t329 ((rdOf ByteArray.empty t316 2).toList == ([49] : List UInt8)) x335004_4 = some (r1, r2, r3, r4, r5, r6)) ∧ Aside0 (kq ≤ kj40) ∧ Aside0 (Kd.R Kd.string 9 w' w.heap.size (fun k_ => some k_ ≠ (u335001 : Value).ownBlock) (.slice (some ad328) t316.length co17) t316) ∧ Aside0 (Kd.R Kd.string 9 w' w.heap.size (fun k_ => some k_ ≠ ((.slice (some ad328) t316.length co17) : Value).ownBlock) u335001 x335001_4) ∧ Aside0 (w'.heap[gb315]? = some (.cells #[.int .i64 x316000_4, (.slice none 0 0), .int .i64 x316002_4, .bool x316003_4, .string x316004_4] 24 (0, 0))) ∧ Aside0 (w'.heap[gb334]? = some (.cells #[.int .i64 x6_2, u335001, .int .i64 t329, .bool ((rdOf ByteArray.empty t316 2).toList == ([49] : List UInt8)), .string x335004_4] 24 (0, 0))) ∧ Aside0 (Below w.heap.size w w'))
              case atStart => exact ⟨(3), (x316000_1), (x316002_1), (x316003_1), (x316004_1), (([] : List ByteArray)), ((⟨#[]⟩ : ByteArray)), (.slice none 0 0), (by first | rfl | (simp; done) | (simp [*]; done)), H', ⟨Nat.le_refl _⟩, ⟨by (with_reducible repeat (first | apply Kd.R_alloc | apply Kd.R_drewN | apply Kd.R_drew)); exact Kd.R_mono (Kd.R_far (p := ⟨gb334, 4, none⟩) (Kd.R_far (p := ⟨gb334, 3, none⟩) (Kd.R_far (p := ⟨gb334, 2, none⟩) (Kd.R_far (p := ⟨gb334, 1, none⟩) (Kd.R_far (p := ⟨gb334, 0, none⟩) (Kd.R_types HO_4.out BK334.out (by decide)) (fun _ hk => hk.2) (.int .i64 x6_2)) (fun _ hk => hk.2) (.slice none 0 0)) (fun _ hk => hk.2) (.int .i64 t329)) (fun _ hk => hk.2) (.bool ((rdOf ByteArray.empty t316 2).toList == ([49] : List UInt8)))) (fun _ hk => hk.2) (.string (⟨#[]⟩ : ByteArray))) (fun _ hk => (by simp [Value.ownBlock]))⟩, ⟨by first | exact Kd.R_nil _ _ _ _ _ | exact Kd.N_nil _ _ _ _ _ | exact Kd.V_nil _ _ _ _ _ | exact Kd.Q_nil _ _ _ _ _ | exact Kd.S_nil _ _ _ _ _⟩, ⟨by (with_reducible repeat (first | refine blk_drewN ?_ _ | refine blk_drew ?_ | refine blk_alloc ?_ _)); refine blk_far ?_ NB315_334.out _; (with_reducible repeat (first | refine blk_drewN ?_ _ | refine blk_drew ?_ | refine blk_alloc ?_ _)); refine blk_far ?_ NB315_334.out _; (with_reducible repeat (first | refine blk_drewN ?_ _ | refine blk_drew ?_ | refine blk_alloc ?_ _)); refine blk_far ?_ NB315_334.out _; (with_reducible repeat (first | refine blk_drewN ?_ _ | refine blk_drew ?_ | refine blk_alloc ?_ _)); refine blk_far ?_ NB315_334.out _; (with_reducible repeat (first | refine blk_drewN ?_ _ | refine blk_drew ?_ | refine blk_alloc ?_ _)); refine blk_far ?_ NB315_334.out _; (with_reducible repeat (first | refine blk_drewN ?_ _ | refine blk_drew ?_ | refine blk_alloc ?_ _)); exact BK315.out⟩, ⟨by (with_reducible repeat (first | refine blk_drewN ?_ _ | refine blk_drew ?_ | refine blk_alloc ?_ _)); refine blk_put (cs := #[.int .i64 x6_2, .slice none 0 0, .int .i64 t329, .bool ((rdOf ByteArray.empty t316 2).toList == ([49] : List UInt8)), .string (⟨#[]⟩ : ByteArray)]) ?_ 4 _ rfl; (with_reducible repeat (first | refine blk_drewN ?_ _ | refine blk_drew ?_ | refine blk_alloc ?_ _)); refine blk_put (cs := #[.int .i64 x6_2, .slice none 0 0, .int .i64 t329, .bool false, .string (⟨#[]⟩ : ByteArray)]) ?_ 3 _ rfl; (with_reducible repeat (first | refine blk_drewN ?_ _ | refine blk_drew ?_ | refine blk_alloc ?_ _)); refine blk_put (cs := #[.int .i64 x6_2, .slice none 0 0, .int .i64 0, .bool false, .string (⟨#[]⟩ : ByteArray)]) ?_ 2 _ rfl; (with_reducible repeat (first | refine blk_drewN ?_ _ | refine blk_drew ?_ | refine blk_alloc ?_ _)); refine blk_put (cs := #[.int .i64 x6_2, .slice none 0 0, .int .i64 0, .bool false, .string (⟨#[]⟩ : ByteArray)]) ?_ 1 _ rfl; (with_reducible repeat (first | refine blk_drewN ?_ _ | refine blk_drew ?_ | refine blk_alloc ?_ _)); refine blk_put (cs := #[.int .i64 0, .slice none 0 0, .int .i64 0, .bool false, .string (⟨#[]⟩ : ByteArray)]) ?_ 0 _ rfl; (with_reducible repeat (first | refine blk_drewN ?_ _ | refine blk_drew ?_ | refine blk_alloc ?_ _)); exact BK334.out⟩, ⟨by repeat (first | (with_reducible first | exact HB.out | apply below_alloc | apply pw_below_drewN | apply below_drew1 | refine below_set ?_ GE315.out | refine below_set ?_ GE334.out) | exact HB.out)⟩⟩
              case round =>
               clear H'
               try clear c1
               try clear c2
               try clear c2b0
               try clear c2b1
               try clear p2
               try clear c3
               try clear p3
               try clear q3
               try clear hx3
               try clear qi3
               try clear c4
               try clear c5
               try clear p6
               try clear c8
               try clear c8b0
               try clear c9
               try clear c9b0
               try clear c10
               try clear c10b0
               try clear c10b1
               try clear c12
               try clear c13
               try clear c13b0
               try clear c13b1
               try clear c19
               try clear c19b0
               try clear c21
               try clear c21b0
               try clear c22
               try clear c22b0
               try clear c23
               try clear c23b0
               try clear c23b1
               try clear c24
               try clear c24b0
               try clear c24b1
               try clear p31
               try clear q31
               try clear hx31
               try clear c32
               try clear p32
               try clear q32
               try clear hx32
               try clear qi32
               try clear c33
               try clear p33
               try clear q33
               try clear hx33
               try clear qi33
               try clear c35
               try clear c35b0
               try clear c35b1
               try clear c39
               try clear c39b0
               try clear c39b1
               try clear c44
               try clear c45
               try clear c45b0
               try clear c45b1
               try clear c46
               try clear c46b0
               try clear c46b1
               try clear c47
               try clear c49
               try clear c49b0
               try clear c49b1
               try clear c51
               try clear hcz12_0
               try clear hcz12_1
               try clear hcz12_2
               try clear hcz12_3
               try clear hcz12_4
               try clear hcz15_0
               try clear hcz15_1
               try clear hcz15_2
               try clear hcz15_3
               try clear hcz15_4
               try clear hcz38_0
               try clear hcz38_1
               try clear hcz38_2
               try clear hcz38_3
               try clear hcz38_4
               try clear hcz48_0
               try clear hcz48_1
               try clear hcz48_2
               try clear hcz48_3
               try clear hcz48_4
               try clear hcz4_0
               try clear hcz4_1
               try clear hcz4_2
               try clear hcz4_3
               try clear hcz4_4
               try clear hcz52_0
               try clear hcz52_1
               try clear hcz52_2
               try clear hcz52_3
               try clear hcz52_4
               try clear hfz12_0
               try clear hfz12_1
               try clear hfz12_2
               try clear hfz12_3
               try clear hfz12_4
               try clear hfz15_0
               try clear hfz15_1
               try clear hfz15_2
               try clear hfz15_3
               try clear hfz15_4
               try clear hfz38_0
               try clear hfz38_1
               try clear hfz38_2
               try clear hfz38_3
               try clear hfz38_4
               try clear hfz48_0
               try clear hfz48_1
               try clear hfz48_2
               try clear hfz48_3
               try clear hfz48_4
               try clear hfz4_0
               try clear hfz4_1
               try clear hfz4_2
               try clear hfz4_3
               try clear hfz4_4
               try clear hfz52_0
               try clear hfz52_1
               try clear hfz52_2
               try clear hfz52_3
               try clear hfz52_4
               try clear hx319_0
               try clear hx326_0
               try clear hx327_0
               try clear hx328_0
               try clear hx331_0
               try clear hx332_0
               try clear hx333_0
               try clear p2
               try clear p3
               try clear p31
               try clear p319
               try clear p32
               try clear p326
               try clear p327
               try clear p328
               try clear p33
               try clear p331
               try clear p332
               try clear p333
               try clear p6
               try clear q3
               try clear q31
               try clear q319
               try clear q32
               try clear q326
               try clear q327
               try clear q328
               try clear q33
               try clear q331
               try clear q332
               try clear q333
               obtain ⟨x11_4, x316000_4, x316002_4, x316003_4, x316004_4, x335001_4, x335004_4, u335001, rfl, HA, HK4, HO_4, HO_335001, BK315, BK334, HB⟩ := hrel
               cases gk with
               | zero => exact absurd HA.out (by simp [graftageref56_Read.l2])
               | succ k4 =>
                have H := HA.out
                clear HA
                simp only [graftageref56_Read.l2] at H
                by_cases c53 : x11_4 < (t316.length : Int)
                ·rw [if_pos c53] at H
                 have c53b0 : decide (x11_4 < (t316.length : Int)) = true := decide_eq_true c53
                 clear c53
                 by_cases c54 : 0 ≤ x11_4
                 ·rw [if_pos c54] at H
                  have c54b0 : decide (0 ≤ x11_4) = true := decide_eq_true c54
                  clear c54
                  replace H := Option.bind_eq_some_iff.mp H
                  obtain ⟨⟨t336, t337⟩, A550, H⟩ := H
                  replace H : (if t337 = true then (if x11_4 = 3 then (graftageref56_Read.l2 k4 t316 (wrap64 (x11_4 + 1)) x6_2 x335001_4 t329 ((rdOf ByteArray.empty t316 2).toList == ([49] : List UInt8)) t336) else (if x335001_4.length < 8796093022208 then (graftageref56_Read.l2 k4 t316 (wrap64 (x11_4 + 1)) x6_2 (x335001_4 ++ [t336]) t329 ((rdOf ByteArray.empty t316 2).toList == ([49] : List UInt8)) x335004_4) else (none))) else (some (0, ([] : List ByteArray), 0, false, (⟨#[]⟩ : ByteArray), 2))) = some (r1, r2, r3, r4, r5, r6) := H
                  have A55 := Aside0.mk A550
                  clear A550
                  by_cases c56 : t337 = true
                  ·subst c56
                   have H1 : (if x11_4 = 3 then (graftageref56_Read.l2 k4 t316 (wrap64 (x11_4 + 1)) x6_2 x335001_4 t329 ((rdOf ByteArray.empty t316 2).toList == ([49] : List UInt8)) t336) else (if x335001_4.length < 8796093022208 then (graftageref56_Read.l2 k4 t316 (wrap64 (x11_4 + 1)) x6_2 (x335001_4 ++ [t336]) t329 ((rdOf ByteArray.empty t316 2).toList == ([49] : List UInt8)) x335004_4) else (none))) = some (r1, r2, r3, r4, r5, r6) := by rw [if_pos rfl] at H; exact H
                   clear H
                   have H := H1
                   clear H1
                   by_cases c57 : x11_4 = 3
                   ·rw [if_pos c57] at H
                    have c57b0 : (x11_4 == 3) = true := beq_iff_eq.mpr c57
                    have c57b1 : (x11_4 != 3) = false := bne_eq_false_iff_eq.mpr c57
                    clear c57
                    have H' := Aside0.mk H
                    clear H
                    have p335 : 0 ≤ (x11_4 : Int) := of_decide_eq_true (by first | (with_reducible assumption) | assumption)
                    have q335 : x11_4 < (t316.length : Int) := of_decide_eq_true (by first | (with_reducible assumption) | assumption)
                    obtain ⟨ad335, e335, hx335_0⟩ := Kd.at_string (Kd.R_reads' HO_4.out).2.2 x11_4 p335 q335
                    obtain rfl : ad328 = ad335 := (by injection e335)
                    replace p335 := eq_true p335
                    replace q335 := eq_true q335
                    go_wp2_with (first | ((with_reducible refine gate_callee (f := 34) rfl ?_); refine goesL_ (some 95) rfl rfl Tryd.func34 (by kernel_rfl) rfl #[.string (rdOf ByteArray.empty t316 x11_4)] rfl (by (try simp only [List.map_toArray, List.map_cons, List.map_nil]); first | done | rfl | (simp only [List.length_drop, List.length_take]; rfl)) ?_; (with_reducible refine (graftageref56_Unword.calls k4 (rdOf ByteArray.empty t316 x11_4) t336 true _ A55.out).mono ?_); rintro e w58 ⟨rfl, hb⟩; refine ⟨_, rfl, ?_⟩; have n0_ := Aside0.mk (Kd.R_below (by (with_reducible repeat (first | apply Kd.R_alloc | apply Kd.R_drewN | apply Kd.R_drew)); exact HO_4.out) hb); have n1_ := Aside0.mk (Kd.R_below (by (with_reducible repeat (first | apply Kd.R_alloc | apply Kd.R_drewN | apply Kd.R_drew)); exact HO_335001.out) hb); have n2_ := Aside0.mk (blk_below (g := gb315) (o := .cells #[.int .i64 x316000_4, .slice none 0 0, .int .i64 x316002_4, .bool x316003_4, .string x316004_4] 24 (0, 0)) (by (with_reducible repeat (first | refine blk_drewN ?_ _ | refine blk_drew ?_ | refine blk_alloc ?_ _)); exact BK315.out) hb); have n3_ := Aside0.mk (blk_below (g := gb334) (o := .cells #[.int .i64 x6_2, u335001, .int .i64 t329, .bool ((rdOf ByteArray.empty t316 2).toList == ([49] : List UInt8)), .string x335004_4] 24 (0, 0)) (by (with_reducible repeat (first | refine blk_drewN ?_ _ | refine blk_drew ?_ | refine blk_alloc ?_ _)); exact BK334.out) hb); have n4_ := Aside0.mk (below_step (by repeat (first | (with_reducible first | exact HB.out | apply below_alloc | apply pw_below_drewN | apply below_drew1 | refine below_set ?_ GE315.out | refine below_set ?_ GE334.out) | exact HB.out)) hb); clear HO_4; clear HO_335001; clear BK315; clear BK334; clear HB; have HO_4 := n0_; have HO_335001 := n1_; have BK315 := n2_; have BK334 := n3_; have HB := n4_; clear n0_ n1_ n2_ n3_ n4_; (try clear hb); (try clear hb2); (try clear hk); (try clear hi); have hnb59 := NB334_315.out; have hnc59 := NB315_334.out; have hcz60_0 : w58.cell? ⟨gb334, 0, none⟩ = some (.int .i64 x6_2) := (blk_cell BK334.out 0).trans rfl; have hcz60_1 : w58.cell? ⟨gb334, 1, none⟩ = some (u335001) := (blk_cell BK334.out 1).trans rfl; have hcz60_2 : w58.cell? ⟨gb334, 2, none⟩ = some (.int .i64 t329) := (blk_cell BK334.out 2).trans rfl; have hcz60_3 : w58.cell? ⟨gb334, 3, none⟩ = some (.bool ((rdOf ByteArray.empty t316 2).toList == ([49] : List UInt8))) := (blk_cell BK334.out 3).trans rfl; have hcz60_4 : w58.cell? ⟨gb334, 4, none⟩ = some (.string x335004_4) := (blk_cell BK334.out 4).trans rfl; have hfz60_0 := blk_frozen BK334.out 0; have hfz60_1 := blk_frozen BK334.out 1; have hfz60_2 := blk_frozen BK334.out 2; have hfz60_3 := blk_frozen BK334.out 3; have hfz60_4 := blk_frozen BK334.out 4))
                    go_roundg k4
                    case measure => have := HK1.out; have := HK2.out; have := HJ40.out; have := HK4.out; omega
                    case rel => exact ⟨(wrap64 (x11_4 + 1)), (x316000_4), (x316002_4), (x316003_4), (x316004_4), (x335001_4), (t336), (u335001), (by first | rfl | (simp; done) | (simp [*]; done)), H', ⟨by have := HK1.out; have := HK2.out; have := HJ40.out; have := HK4.out; omega⟩, ⟨by (with_reducible repeat (first | apply Kd.R_alloc | apply Kd.R_drewN | apply Kd.R_drew)); exact Kd.R_mono (Kd.R_far (p := ⟨gb334, 4, none⟩) (Kd.R_types HO_4.out BK334.out (by decide)) (fun _ hk => hk.2) (.string t336)) (fun _ hk => hk.1)⟩, ⟨by (with_reducible repeat (first | apply Kd.R_alloc | apply Kd.R_drewN | apply Kd.R_drew)); exact Kd.R_mono (Kd.R_far (p := ⟨gb334, 4, none⟩) (Kd.R_types HO_335001.out BK334.out (by decide)) (fun _ hk => hk.2) (.string t336)) (fun _ hk => hk.1)⟩, ⟨by (with_reducible repeat (first | refine blk_drewN ?_ _ | refine blk_drew ?_ | refine blk_alloc ?_ _)); refine blk_far ?_ NB315_334.out _; (with_reducible repeat (first | refine blk_drewN ?_ _ | refine blk_drew ?_ | refine blk_alloc ?_ _)); exact BK315.out⟩, ⟨by (with_reducible repeat (first | refine blk_drewN ?_ _ | refine blk_drew ?_ | refine blk_alloc ?_ _)); refine blk_put (cs := #[.int .i64 x6_2, u335001, .int .i64 t329, .bool ((rdOf ByteArray.empty t316 2).toList == ([49] : List UInt8)), .string x335004_4]) ?_ 4 _ rfl; (with_reducible repeat (first | refine blk_drewN ?_ _ | refine blk_drew ?_ | refine blk_alloc ?_ _)); exact BK334.out⟩, ⟨by repeat (first | (with_reducible first | exact HB.out | apply below_alloc | apply pw_below_drewN | apply below_drew1 | refine below_set ?_ GE315.out | refine below_set ?_ GE334.out) | exact HB.out)⟩⟩
                   ·rw [if_neg c57] at H
                    have c57b0 : (x11_4 == 3) = false := beq_eq_false_iff_ne.mpr c57
                    have c57b1 : (x11_4 != 3) = true := bne_iff_ne.mpr c57
                    by_cases c61 : x335001_4.length < 8796093022208
                    ·rw [if_pos c61] at H
                     have LMc61 := Aside0.mk c61
                     clear c61
                     obtain ⟨y338, hy338⟩ : ∃ y_ : List ByteArray, y_ = (x335001_4 ++ [t336]) := ⟨_, rfl⟩
                     replace H : (graftageref56_Read.l2 k4 t316 (wrap64 (x11_4 + 1)) x6_2 y338 t329 ((rdOf ByteArray.empty t316 2).toList == ([49] : List UInt8)) x335004_4) = some (r1, r2, r3, r4, r5, r6) := by first | (rw [hy338]; with_reducible exact H) | (have H2_ := (Option.bind_some _ _).symm.trans H; rw [hy338]; with_reducible exact H2_) | (have H2_ := (Option.bind_some _ _).symm.trans H; with_reducible exact H2_) | with_reducible exact H | (rw [hy338]; exact H) | exact H
                     have Ny338 := Aside0.mk hy338
                     clear hy338
                     have H' := Aside0.mk H
                     clear H
                     have p335 : 0 ≤ (x11_4 : Int) := of_decide_eq_true (by first | (with_reducible assumption) | assumption)
                     have q335 : x11_4 < (t316.length : Int) := of_decide_eq_true (by first | (with_reducible assumption) | assumption)
                     obtain ⟨ad335, e335, hx335_0⟩ := Kd.at_string (Kd.R_reads' HO_4.out).2.2 x11_4 p335 q335
                     obtain rfl : ad328 = ad335 := (by injection e335)
                     replace p335 := eq_true p335
                     replace q335 := eq_true q335
                     go_wp2_with (first | ((with_reducible refine gate_callee (f := 34) rfl ?_); refine goesL_ (some 95) rfl rfl Tryd.func34 (by kernel_rfl) rfl #[.string (rdOf ByteArray.empty t316 x11_4)] rfl (by (try simp only [List.map_toArray, List.map_cons, List.map_nil]); first | done | rfl | (simp only [List.length_drop, List.length_take]; rfl)) ?_; (with_reducible refine (graftageref56_Unword.calls k4 (rdOf ByteArray.empty t316 x11_4) t336 true _ A55.out).mono ?_); rintro e w62 ⟨rfl, hb⟩; refine ⟨_, rfl, ?_⟩; have n0_ := Aside0.mk (Kd.R_below (by (with_reducible repeat (first | apply Kd.R_alloc | apply Kd.R_drewN | apply Kd.R_drew)); exact HO_4.out) hb); have n1_ := Aside0.mk (Kd.R_below (by (with_reducible repeat (first | apply Kd.R_alloc | apply Kd.R_drewN | apply Kd.R_drew)); exact HO_335001.out) hb); have n2_ := Aside0.mk (blk_below (g := gb315) (o := .cells #[.int .i64 x316000_4, .slice none 0 0, .int .i64 x316002_4, .bool x316003_4, .string x316004_4] 24 (0, 0)) (by (with_reducible repeat (first | refine blk_drewN ?_ _ | refine blk_drew ?_ | refine blk_alloc ?_ _)); exact BK315.out) hb); have n3_ := Aside0.mk (blk_below (g := gb334) (o := .cells #[.int .i64 x6_2, u335001, .int .i64 t329, .bool ((rdOf ByteArray.empty t316 2).toList == ([49] : List UInt8)), .string x335004_4] 24 (0, 0)) (by (with_reducible repeat (first | refine blk_drewN ?_ _ | refine blk_drew ?_ | refine blk_alloc ?_ _)); exact BK334.out) hb); have n4_ := Aside0.mk (below_step (by repeat (first | (with_reducible first | exact HB.out | apply below_alloc | apply pw_below_drewN | apply below_drew1 | refine below_set ?_ GE315.out | refine below_set ?_ GE334.out) | exact HB.out)) hb); clear HO_4; clear HO_335001; clear BK315; clear BK334; clear HB; have HO_4 := n0_; have HO_335001 := n1_; have BK315 := n2_; have BK334 := n3_; have HB := n4_; clear n0_ n1_ n2_ n3_ n4_; (try clear hb); (try clear hb2); (try clear hk); (try clear hi); have hnb63 := NB334_315.out; have hnc63 := NB315_334.out; have hcz64_0 : w62.cell? ⟨gb334, 0, none⟩ = some (.int .i64 x6_2) := (blk_cell BK334.out 0).trans rfl; have hcz64_1 : w62.cell? ⟨gb334, 1, none⟩ = some (u335001) := (blk_cell BK334.out 1).trans rfl; have hcz64_2 : w62.cell? ⟨gb334, 2, none⟩ = some (.int .i64 t329) := (blk_cell BK334.out 2).trans rfl; have hcz64_3 : w62.cell? ⟨gb334, 3, none⟩ = some (.bool ((rdOf ByteArray.empty t316 2).toList == ([49] : List UInt8))) := (blk_cell BK334.out 3).trans rfl; have hcz64_4 : w62.cell? ⟨gb334, 4, none⟩ = some (.string x335004_4) := (blk_cell BK334.out 4).trans rfl; have hfz64_0 := blk_frozen BK334.out 0; have hfz64_1 := blk_frozen BK334.out 1; have hfz64_2 := blk_frozen BK334.out 2; have hfz64_3 := blk_frozen BK334.out 3; have hfz64_4 := blk_frozen BK334.out 4) | ((with_reducible refine gate_builtin (b := .append) (xs := #[.tmp 106, .tmp 108]) rfl ?_); (try (refine gate_guard (by rfl) ?_; dsimp only)); at_builtin; refine Kd.R_append Kd.string (w0 := w) w.heap.size rfl (.tmp 106) (.tmp 108) 22 9 (.string ⟨#[]⟩) 16 rfl Tryd.underlying22 info9 rfl (by decide) (by omega) u335001 x335001_4 t336 [.string t336] (fun k_ => some k_ ≠ (.slice (some ad328) t316.length co17 : Value).ownBlock) (fun _ => False) rfl rfl ?aP (fun _ hk => hk.elim) ?aF ?aO ?aB ?aS ?aL ?_; (case aP => exact rfl); (case aB => exact (by repeat (first | (with_reducible first | exact HB.out | apply below_alloc | apply pw_below_drewN | apply below_drew1 | refine below_set ?_ GE315.out | refine below_set ?_ GE334.out) | exact HB.out))); (case aF => exact (fun k_ hk => Kd.fresh' (Kd.R_lt (by (with_reducible repeat (first | apply Kd.R_alloc | apply Kd.R_drewN | apply Kd.R_drew)); exact HO_4.out)) k_ hk)); (case aO => exact (by (with_reducible repeat (first | apply Kd.R_alloc | apply Kd.R_drewN | apply Kd.R_drew)); exact HO_335001.out)); (case aS => exact (below_size (by repeat (first | (with_reducible first | exact HB.out | apply below_alloc | apply pw_below_drewN | apply below_drew1 | refine below_set ?_ GE315.out | refine below_set ?_ GE334.out) | exact HB.out)))); (case aL => have := LMc61.out; omega); intro v339 w65 ho hb hg hat; rw [← Ny338.out] at ho; have n0_ := Aside0.mk (Kd.R_after (ok := (fun _ => True)) (by (with_reducible repeat (first | apply Kd.R_alloc | apply Kd.R_drewN | apply Kd.R_drew)); exact Kd.R_mono HO_4.out (fun _ hk => ⟨trivial, hk⟩)) hg hat); have n1_ := Aside0.mk (blk_grown (g := gb315) (o := .cells #[.int .i64 x316000_4, .slice none 0 0, .int .i64 x316002_4, .bool x316003_4, .string x316004_4] 24 (0, 0)) (by (with_reducible repeat (first | refine blk_drewN ?_ _ | refine blk_drew ?_ | refine blk_alloc ?_ _)); exact BK315.out) hg (Kd.R_ne HO_335001.out BK315.out (by decide))); have n2_ := Aside0.mk (blk_grown (g := gb334) (o := .cells #[.int .i64 x6_2, u335001, .int .i64 t329, .bool ((rdOf ByteArray.empty t316 2).toList == ([49] : List UInt8)), .string x335004_4] 24 (0, 0)) (by (with_reducible repeat (first | refine blk_drewN ?_ _ | refine blk_drew ?_ | refine blk_alloc ?_ _)); exact BK334.out) hg (Kd.R_ne HO_335001.out BK334.out (by decide))); have n3_ := Aside0.mk (hb); have n4_ := Aside0.mk (ho); clear HO_4; clear BK315; clear BK334; clear HB; clear HO_335001; have HO_4 := n0_; have BK315 := n1_; have BK334 := n2_; have HB := n3_; have HO340 := n4_; clear n0_ n1_ n2_ n3_ n4_; clear ho hb hg hat; obtain ⟨Ao66, co66, eo66⟩ := Kd.R_slice HO340.out; subst eo66; have hcz67_0 : w65.cell? ⟨gb334, 0, none⟩ = some (.int .i64 x6_2) := (blk_cell BK334.out 0).trans rfl; have hcz67_1 : w65.cell? ⟨gb334, 1, none⟩ = some (u335001) := (blk_cell BK334.out 1).trans rfl; have hcz67_2 : w65.cell? ⟨gb334, 2, none⟩ = some (.int .i64 t329) := (blk_cell BK334.out 2).trans rfl; have hcz67_3 : w65.cell? ⟨gb334, 3, none⟩ = some (.bool ((rdOf ByteArray.empty t316 2).toList == ([49] : List UInt8))) := (blk_cell BK334.out 3).trans rfl; have hcz67_4 : w65.cell? ⟨gb334, 4, none⟩ = some (.string x335004_4) := (blk_cell BK334.out 4).trans rfl; have hfz67_0 := blk_frozen BK334.out 0; have hfz67_1 := blk_frozen BK334.out 1; have hfz67_2 := blk_frozen BK334.out 2; have hfz67_3 := blk_frozen BK334.out 3; have hfz67_4 := blk_frozen BK334.out 4))
                     go_roundg k4
                     case measure => have := HK1.out; have := HK2.out; have := HJ40.out; have := HK4.out; omega
                     case rel => exact ⟨(wrap64 (x11_4 + 1)), (x316000_4), (x316002_4), (x316003_4), (x316004_4), (y338), (x335004_4), (.slice Ao66 y338.length co66), (by first | rfl | (simp; done) | (simp [*]; done)), H', ⟨by have := HK1.out; have := HK2.out; have := HJ40.out; have := HK4.out; omega⟩, ⟨by (with_reducible repeat (first | apply Kd.R_alloc | apply Kd.R_drewN | apply Kd.R_drew)); exact Kd.R_mono (Kd.R_far (p := ⟨gb334, 1, none⟩) (Kd.R_types HO_4.out BK334.out (by decide)) (fun _ hk => hk.2) (.slice Ao66 y338.length co66)) (fun _ hk => hk.1.2)⟩, ⟨by (with_reducible repeat (first | apply Kd.R_alloc | apply Kd.R_drewN | apply Kd.R_drew)); exact Kd.R_mono (Kd.R_far (p := ⟨gb334, 1, none⟩) (Kd.R_types HO340.out BK334.out (by decide)) (fun _ hk => hk.2) (.slice Ao66 y338.length co66)) (fun _ hk => hk.1)⟩, ⟨by (with_reducible repeat (first | refine blk_drewN ?_ _ | refine blk_drew ?_ | refine blk_alloc ?_ _)); refine blk_far ?_ NB315_334.out _; (with_reducible repeat (first | refine blk_drewN ?_ _ | refine blk_drew ?_ | refine blk_alloc ?_ _)); exact BK315.out⟩, ⟨by (with_reducible repeat (first | refine blk_drewN ?_ _ | refine blk_drew ?_ | refine blk_alloc ?_ _)); refine blk_put (cs := #[.int .i64 x6_2, u335001, .int .i64 t329, .bool ((rdOf ByteArray.empty t316 2).toList == ([49] : List UInt8)), .string x335004_4]) ?_ 1 _ rfl; (with_reducible repeat (first | refine blk_drewN ?_ _ | refine blk_drew ?_ | refine blk_alloc ?_ _)); exact BK334.out⟩, ⟨by repeat (first | (with_reducible first | exact HB.out | apply below_alloc | apply pw_below_drewN | apply below_drew1 | refine below_set ?_ GE315.out | refine below_set ?_ GE334.out) | exact HB.out)⟩⟩
                    ·rw [if_neg c61] at H
                     exact absurd H (by simp)
                  ·replace c56 := Bool.eq_false_iff.mpr c56
                   subst c56
                   have H1 : (some (0, ([] : List ByteArray), 0, false, (⟨#[]⟩ : ByteArray), 2)) = some (r1, r2, r3, r4, r5, r6) := by rw [if_neg (show ¬ (false = true) by decide)] at H; exact H
                   clear H
                   have H := H1
                   clear H1
                   simp only [Option.some.injEq, Prod.mk.injEq] at H
                   obtain ⟨rfl, rfl, rfl, rfl, rfl, rfl⟩ := H
                   have p335 : 0 ≤ (x11_4 : Int) := of_decide_eq_true (by first | (with_reducible assumption) | assumption)
                   have q335 : x11_4 < (t316.length : Int) := of_decide_eq_true (by first | (with_reducible assumption) | assumption)
                   obtain ⟨ad335, e335, hx335_0⟩ := Kd.at_string (Kd.R_reads' HO_4.out).2.2 x11_4 p335 q335
                   obtain rfl : ad328 = ad335 := (by injection e335)
                   replace p335 := eq_true p335
                   replace q335 := eq_true q335
                   go_wp2_with (first | ((with_reducible refine gate_callee (f := 34) rfl ?_); refine goesL_ (some 95) rfl rfl Tryd.func34 (by kernel_rfl) rfl #[.string (rdOf ByteArray.empty t316 x11_4)] rfl (by (try simp only [List.map_toArray, List.map_cons, List.map_nil]); first | done | rfl | (simp only [List.length_drop, List.length_take]; rfl)) ?_; (with_reducible refine (graftageref56_Unword.calls k4 (rdOf ByteArray.empty t316 x11_4) t336 false _ A55.out).mono ?_); rintro e w68 ⟨rfl, hb⟩; refine ⟨_, rfl, ?_⟩; have n0_ := Aside0.mk (Kd.R_below (by (with_reducible repeat (first | apply Kd.R_alloc | apply Kd.R_drewN | apply Kd.R_drew)); exact HO_4.out) hb); have n1_ := Aside0.mk (Kd.R_below (by (with_reducible repeat (first | apply Kd.R_alloc | apply Kd.R_drewN | apply Kd.R_drew)); exact HO_335001.out) hb); have n2_ := Aside0.mk (blk_below (g := gb315) (o := .cells #[.int .i64 x316000_4, .slice none 0 0, .int .i64 x316002_4, .bool x316003_4, .string x316004_4] 24 (0, 0)) (by (with_reducible repeat (first | refine blk_drewN ?_ _ | refine blk_drew ?_ | refine blk_alloc ?_ _)); exact BK315.out) hb); have n3_ := Aside0.mk (blk_below (g := gb334) (o := .cells #[.int .i64 x6_2, u335001, .int .i64 t329, .bool ((rdOf ByteArray.empty t316 2).toList == ([49] : List UInt8)), .string x335004_4] 24 (0, 0)) (by (with_reducible repeat (first | refine blk_drewN ?_ _ | refine blk_drew ?_ | refine blk_alloc ?_ _)); exact BK334.out) hb); have n4_ := Aside0.mk (below_step (by repeat (first | (with_reducible first | exact HB.out | apply below_alloc | apply pw_below_drewN | apply below_drew1 | refine below_set ?_ GE315.out | refine below_set ?_ GE334.out) | exact HB.out)) hb); clear HO_4; clear HO_335001; clear BK315; clear BK334; clear HB; have HO_4 := n0_; have HO_335001 := n1_; have BK315 := n2_; have BK334 := n3_; have HB := n4_; clear n0_ n1_ n2_ n3_ n4_; (try clear hb); (try clear hb2); (try clear hk); (try clear hi); have hnb69 := NB315_334.out; have hnc69 := NB334_315.out; have hcz70_0 : w68.cell? ⟨gb315, 0, none⟩ = some (.int .i64 x316000_4) := (blk_cell BK315.out 0).trans rfl; have hcz70_1 : w68.cell? ⟨gb315, 1, none⟩ = some (.slice none 0 0) := (blk_cell BK315.out 1).trans rfl; have hcz70_2 : w68.cell? ⟨gb315, 2, none⟩ = some (.int .i64 x316002_4) := (blk_cell BK315.out 2).trans rfl; have hcz70_3 : w68.cell? ⟨gb315, 3, none⟩ = some (.bool x316003_4) := (blk_cell BK315.out 3).trans rfl; have hcz70_4 : w68.cell? ⟨gb315, 4, none⟩ = some (.string x316004_4) := (blk_cell BK315.out 4).trans rfl; have hfz70_0 := blk_frozen BK315.out 0; have hfz70_1 := blk_frozen BK315.out 1; have hfz70_2 := blk_frozen BK315.out 2; have hfz70_3 := blk_frozen BK315.out 3; have hfz70_4 := blk_frozen BK315.out 4))
                   refine bodyPost_ret (results_ct rfl _ _ gb315 24 #[.int .i64 0, .slice none 0 0, .int .i64 0, .bool false, .string (⟨#[]⟩ : ByteArray)] (0, 0) _ rfl (by (with_reducible repeat (first | refine blk_drewN ?_ _ | refine blk_drew ?_ | refine blk_alloc ?_ _)); refine blk_put (cs := #[.int .i64 0, .slice none 0 0, .int .i64 0, .bool false, .string x316004_4]) ?_ 4 _ rfl; (with_reducible repeat (first | refine blk_drewN ?_ _ | refine blk_drew ?_ | refine blk_alloc ?_ _)); refine blk_put (cs := #[.int .i64 0, .slice none 0 0, .int .i64 0, .bool x316003_4, .string x316004_4]) ?_ 3 _ rfl; (with_reducible repeat (first | refine blk_drewN ?_ _ | refine blk_drew ?_ | refine blk_alloc ?_ _)); refine blk_put (cs := #[.int .i64 0, .slice none 0 0, .int .i64 x316002_4, .bool x316003_4, .string x316004_4]) ?_ 2 _ rfl; (with_reducible repeat (first | refine blk_drewN ?_ _ | refine blk_drew ?_ | refine blk_alloc ?_ _)); refine blk_put (cs := #[.int .i64 0, .slice none 0 0, .int .i64 x316002_4, .bool x316003_4, .string x316004_4]) ?_ 1 _ rfl; (with_reducible repeat (first | refine blk_drewN ?_ _ | refine blk_drew ?_ | refine blk_alloc ?_ _)); refine blk_put (cs := #[.int .i64 x316000_4, .slice none 0 0, .int .i64 x316002_4, .bool x316003_4, .string x316004_4]) ?_ 0 _ rfl; (with_reducible repeat (first | refine blk_drewN ?_ _ | refine blk_drew ?_ | refine blk_alloc ?_ _)); exact BK315.out) Tryd.underlying24 rfl (by kernel_rfl)) rfl ?_
                   exact ⟨_, by first | rfl | (simp [errW_none, errW_some] <;> rfl) | (simp [*, errW_none, errW_some] <;> rfl), by first | exact Kd.R_nil _ _ _ _ _ | exact Kd.N_nil _ _ _ _ _ | exact Kd.V_nil _ _ _ _ _ | exact Kd.Q_nil _ _ _ _ _ | exact Kd.S_nil _ _ _ _ _, by repeat (first | (with_reducible first | exact HB.out | apply below_alloc | apply pw_below_drewN | apply below_drew1 | refine below_set ?_ GE315.out | refine below_set ?_ GE334.out) | exact HB.out)⟩
                 ·rw [if_neg c54] at H
                  exact absurd H (by simp)
                ·rw [if_neg c53] at H
                 have c53b0 : decide (x11_4 < (t316.length : Int)) = false := decide_eq_false c53
                 clear c53
                 simp only [Option.some.injEq, Prod.mk.injEq] at H
                 obtain ⟨rfl, rfl, rfl, rfl, rfl, rfl⟩ := H
                 have hnb71 := NB334_315.out
                 have hnc71 := NB315_334.out
                 have hcz72_0 : wr.cell? ⟨gb334, 0, none⟩ = some (.int .i64 x6_2) := (blk_cell BK334.out 0).trans rfl
                 have hcz72_1 : wr.cell? ⟨gb334, 1, none⟩ = some (u335001) := (blk_cell BK334.out 1).trans rfl
                 have hcz72_2 : wr.cell? ⟨gb334, 2, none⟩ = some (.int .i64 t329) := (blk_cell BK334.out 2).trans rfl
                 have hcz72_3 : wr.cell? ⟨gb334, 3, none⟩ = some (.bool ((rdOf ByteArray.empty t316 2).toList == ([49] : List UInt8))) := (blk_cell BK334.out 3).trans rfl
                 have hcz72_4 : wr.cell? ⟨gb334, 4, none⟩ = some (.string x335004_4) := (blk_cell BK334.out 4).trans rfl
                 have hfz72_0 := blk_frozen BK334.out 0
                 have hfz72_1 := blk_frozen BK334.out 1
                 have hfz72_2 := blk_frozen BK334.out 2
                 have hfz72_3 := blk_frozen BK334.out 3
                 have hfz72_4 := blk_frozen BK334.out 4
                 have hcz73_0 : wr.cell? ⟨gb315, 0, none⟩ = some (.int .i64 x316000_4) := (blk_cell BK315.out 0).trans rfl
                 have hcz73_1 : wr.cell? ⟨gb315, 1, none⟩ = some (.slice none 0 0) := (blk_cell BK315.out 1).trans rfl
                 have hcz73_2 : wr.cell? ⟨gb315, 2, none⟩ = some (.int .i64 x316002_4) := (blk_cell BK315.out 2).trans rfl
                 have hcz73_3 : wr.cell? ⟨gb315, 3, none⟩ = some (.bool x316003_4) := (blk_cell BK315.out 3).trans rfl
                 have hcz73_4 : wr.cell? ⟨gb315, 4, none⟩ = some (.string x316004_4) := (blk_cell BK315.out 4).trans rfl
                 have hfz73_0 := blk_frozen BK315.out 0
                 have hfz73_1 := blk_frozen BK315.out 1
                 have hfz73_2 := blk_frozen BK315.out 2
                 have hfz73_3 := blk_frozen BK315.out 3
                 have hfz73_4 := blk_frozen BK315.out 4
                 obtain ⟨Ao74, co74, eo74⟩ := Kd.R_slice HO_335001.out
                 subst eo74
                 go_wp2
                 refine bodyPost_ret (results_ct rfl _ _ gb315 24 #[.int .i64 x6_2, .slice Ao74 x335001_4.length co74, .int .i64 t329, .bool ((rdOf ByteArray.empty t316 2).toList == ([49] : List UInt8)), .string x335004_4] (0, 0) _ rfl (by (with_reducible repeat (first | refine blk_drewN ?_ _ | refine blk_drew ?_ | refine blk_alloc ?_ _)); refine blk_put (cs := #[.int .i64 x6_2, .slice Ao74 x335001_4.length co74, .int .i64 t329, .bool ((rdOf ByteArray.empty t316 2).toList == ([49] : List UInt8)), .string x316004_4]) ?_ 4 _ rfl; (with_reducible repeat (first | refine blk_drewN ?_ _ | refine blk_drew ?_ | refine blk_alloc ?_ _)); refine blk_put (cs := #[.int .i64 x6_2, .slice Ao74 x335001_4.length co74, .int .i64 t329, .bool x316003_4, .string x316004_4]) ?_ 3 _ rfl; (with_reducible repeat (first | refine blk_drewN ?_ _ | refine blk_drew ?_ | refine blk_alloc ?_ _)); refine blk_put (cs := #[.int .i64 x6_2, .slice Ao74 x335001_4.length co74, .int .i64 x316002_4, .bool x316003_4, .string x316004_4]) ?_ 2 _ rfl; (with_reducible repeat (first | refine blk_drewN ?_ _ | refine blk_drew ?_ | refine blk_alloc ?_ _)); refine blk_put (cs := #[.int .i64 x6_2, .slice none 0 0, .int .i64 x316002_4, .bool x316003_4, .string x316004_4]) ?_ 1 _ rfl; (with_reducible repeat (first | refine blk_drewN ?_ _ | refine blk_drew ?_ | refine blk_alloc ?_ _)); refine blk_put (cs := #[.int .i64 x316000_4, .slice none 0 0, .int .i64 x316002_4, .bool x316003_4, .string x316004_4]) ?_ 0 _ rfl; (with_reducible repeat (first | refine blk_drewN ?_ _ | refine blk_drew ?_ | refine blk_alloc ?_ _)); exact BK315.out) Tryd.underlying24 rfl (by kernel_rfl)) rfl ?_
                 exact ⟨_, by first | rfl | (simp [errW_none, errW_some] <;> rfl) | (simp [*, errW_none, errW_some] <;> rfl), by (with_reducible repeat (first | apply Kd.R_alloc | apply Kd.R_drewN | apply Kd.R_drew)); exact Kd.R_mono (Kd.R_far (p := ⟨gb315, 4, none⟩) (Kd.R_far (p := ⟨gb315, 3, none⟩) (Kd.R_far (p := ⟨gb315, 2, none⟩) (Kd.R_far (p := ⟨gb315, 1, none⟩) (Kd.R_far (p := ⟨gb315, 0, none⟩) (Kd.R_types HO_335001.out BK315.out (by decide)) (fun _ hk => hk.2) (.int .i64 x6_2)) (fun _ hk => hk.2) (.slice Ao74 x335001_4.length co74)) (fun _ hk => hk.2) (.int .i64 t329)) (fun _ hk => hk.2) (.bool ((rdOf ByteArray.empty t316 2).toList == ([49] : List UInt8)))) (fun _ hk => hk.2) (.string x335004_4)) (fun _ hk => trivial), by repeat (first | (with_reducible first | exact HB.out | apply below_alloc | apply pw_below_drewN | apply below_drew1 | refine below_set ?_ GE315.out | refine below_set ?_ GE334.out) | exact HB.out)⟩
             ·rw [if_neg c49] at H
              exact absurd H (by simp)
         ·rw [if_neg c39] at H
          exact absurd H (by simp)
end Go.Proofs.YtcmemgahgenpdaaDoor.PSc
end
section
namespace Go.Proofs.YtcmemgahgenpdaaDoor.Pure
open Go.RowKit Go.Proofs.YtcmemgahgenpdaaDoor.PSc Go.Proofs.YtcmemgahgenpdaaDoor.Hand Go.Proofs.YtcmemgahgenpdaaDoorW.PrintWords Go.Proofs.YtcmemgahgenpdaaDoorW.PrintLast
set_option linter.unusedVariables false
set_option linter.unusedSimpArgs false
theorem rd_wd (l : List ByteArray) (i : Nat) : rdOf ByteArray.empty l (i : Int) = wd l i := by
  unfold rdOf wd
  rw [Int.toNat_natCast]
theorem words_f : graftageref56_words.f = some kindsL := rfl
theorem kindW_rd (i : Nat) : rdOf ByteArray.empty kindsL (i : Int) = kindW i := by
  unfold rdOf kindW
  rw [Int.toNat_natCast]
theorem up (i : Nat) (h : i ≤ 1000000000) : wrap64 ((i : Int) + 1) = ((i + 1 : Nat) : Int) := by rw [wrap64_id (by omega) (by omega)]; rfl
theorem empty_iff (s : ByteArray) : s.toList = ([] : List UInt8) ↔ s = ⟨#[]⟩ := by
  have h : (⟨#[]⟩ : ByteArray).toList = ([] : List UInt8) := by rw [toList_bytes]
  exact ⟨fun e => toList_iff.1 (e.trans h.symm), fun e => by rw [e]; exact h⟩
theorem one_iff' (s : ByteArray) (c : UInt8) : s.toList = [c] ↔ s = ⟨#[c]⟩ := by
  have h : (⟨#[c]⟩ : ByteArray).toList = [c] := by rw [toList_bytes]
  exact ⟨fun e => toList_iff.1 (e.trans h.symm), fun e => by rw [e]; exact h⟩
theorem r_l2 (l : List ByteArray) (hl : l.length ≤ 1000000000) (hz : ∀ x ∈ l, x.size ≤ 1000000000) (kk n : Int) (f : Bool) (t : ByteArray) : ∀ (d i : Nat) (ar : List ByteArray), i + d = l.length → 4 ≤ i → ar.length ≤ i →
    Ev (fun k => graftageref56_Read.l2 k l (i : Int) kk ar n f t) (if (l.drop i).all okQ = true then (kk, ar ++ (l.drop i).map tQ, n, f, t, 0) else zeroE 2) := by
  intro d
  induction d with
  | zero =>
    intro i ar hd h4 ha
    refine Ev.succ ?_
    simp only [graftageref56_Read.l2]
    rw [List.drop_of_length_le (by omega)]
    exact Ev.neg (by omega) (Ev.val (Ev.pure _) (by simp))
  | succ d ih =>
    intro i ar hd h4 ha
    have hlt : i < l.length := by omega
    have hx : wd l i = l[i] := by simp [wd, hlt]
    obtain ⟨r, hr, h1, h2⟩ := unword_ev (wd l i) (hz _ (by rw [hx]; exact List.getElem_mem _))
    rw [List.drop_eq_getElem_cons hlt, ← hx]
    refine Ev.succ ?_
    simp only [graftageref56_Read.l2, rd_wd, up i (by omega)]
    refine Ev.pos (by omega) (Ev.pos (by omega) (Ev.bind hr ?_))
    by_cases c : r.2 = true
    · have e := h2 c
      have ho : okQ (wd l i) = true := h1 ▸ c
      refine Ev.pos c (Ev.neg (by omega) (Ev.pos (by omega) ?_))
      rw [e]
      refine Ev.val (ih (i + 1) (ar ++ [tQ (wd l i)]) (by omega) (by omega) (by simp; omega)) ?_
      rw [List.all_cons, ho, Bool.true_and, List.map_cons, List.append_assoc]; rfl
    · have ho : okQ (wd l i) = false := by rw [← h1]; simpa using c
      refine Ev.neg c (Ev.val (Ev.pure _) ?_)
      rw [List.all_cons, ho, Bool.false_and]
      rfl
theorem r_l2_all (l : List ByteArray) (h4 : 4 ≤ l.length) (hl : l.length ≤ 1000000000) (hz : ∀ x ∈ l, x.size ≤ 1000000000) (kk n : Int) (f : Bool) : Ev (fun k => graftageref56_Read.l2 k l 3 kk [] n f ⟨#[]⟩) (readW (l.drop 3) kk n f) := by
  have hlt : 3 < l.length := by omega
  have hx : wd l 3 = l[3] := by simp [wd, hlt]
  obtain ⟨r, hr, h1, h2⟩ := unword_ev (wd l 3) (hz _ (by rw [hx]; exact List.getElem_mem _))
  have e3 : wd (l.drop 3) 0 = wd l 3 := by simp [wd]
  unfold readW
  rw [e3, List.drop_drop, List.drop_eq_getElem_cons hlt, ← hx]
  refine Ev.succ ?_
  simp only [graftageref56_Read.l2, show rdOf ByteArray.empty l 3 = wd l 3 from rd_wd l 3, show wrap64 (3 + 1) = ((4 : Nat) : Int) by rw [wrap64_id (by omega) (by omega)]; rfl]
  refine Ev.pos (by omega) (Ev.pos (by omega) (Ev.bind hr ?_))
  by_cases c : r.2 = true
  · have e := h2 c
    have ho : okQ (wd l 3) = true := h1 ▸ c
    refine Ev.pos c (Ev.pos (by first | trivial | rfl) ?_)
    rw [e]
    refine Ev.val (r_l2 l hl hz kk n f _ (l.length - 4) 4 [] (by omega) (by omega) (by simp)) ?_
    rw [List.all_cons, ho, Bool.true_and, List.nil_append]
  · have ho : okQ (wd l 3) = false := by rw [← h1]; simpa using c
    refine Ev.neg c (Ev.val (Ev.pure _) ?_)
    rw [List.all_cons, ho, Bool.false_and]
    rfl
theorem r_j2 (l : List ByteArray) (h4 : 4 ≤ l.length) (hl : l.length ≤ 1000000000) (hz : ∀ x ∈ l, x.size ≤ 1000000000) (kk n : Int) (b : Bool) :
    Ev (fun k => graftageref56_Read.j2 k l kk n b) (if b = true then zeroE 2 else readW (l.drop 3) kk n (decide (wd l 2 = ⟨#[49]⟩))) := by
  refine Ev.succ ?_
  simp only [graftageref56_Read.j2, show rdOf ByteArray.empty l 2 = wd l 2 from rd_wd l 2]
  cases b with
  | true => exact Ev.pos rfl (Ev.pure _)
  | false =>
    refine Ev.neg (by simp) (Ev.pos (by omega) ?_)
    have e : ((wd l 2).toList == ([49] : List UInt8)) = decide (wd l 2 = ⟨#[49]⟩) := by
      by_cases e1 : wd l 2 = ⟨#[49]⟩
      · rw [decide_eq_true e1]; exact beq_iff_eq.2 ((one_iff' _ _).2 e1)
      · rw [decide_eq_false e1]; exact beq_eq_false_iff_ne.2 (fun h => e1 ((one_iff' _ _).1 h))
    rw [e]
    exact Ev.val (r_l2_all l h4 hl hz kk n _) (by simp)
theorem r_kind (l : List ByteArray) (h4 : 4 ≤ l.length) (r : Rd6) (h : Ev (fun k => graftageref56_Read.l1 k l ((kindQ (wd l 0) : Nat) : Int) 28) r) : ∀ (d i : Nat), i + d = 28 → 1 ≤ i →
    Ev (fun k => graftageref56_Read.l1 k l (((if kindQ (wd l 0) < i then kindQ (wd l 0) else 0) : Nat) : Int) (i : Int)) r := by
  intro d
  induction d with
  | zero =>
    intro i hd h1
    obtain rfl : i = 28 := by omega
    rw [if_pos (kindQ_lt _).1]
    exact h
  | succ d ih =>
    intro i hd h1
    have hi := ih (i + 1) (by omega) (by omega)
    refine Ev.succ ?_
    simp only [graftageref56_Read.l1, words_f, Option.bind_some, kindW_rd, show rdOf ByteArray.empty l 0 = wd l 0 from rd_wd l 0, up i (by omega)]
    refine Ev.pos (by rw [kinds_len]; omega) (Ev.pos (by omega) (Ev.pos (by rw [kinds_len]; omega) (Ev.pos (by omega) ?_)))
    by_cases c : (kindW i).toList = (wd l 0).toList
    · have e := toList_iff.1 c
      obtain ⟨j, rfl⟩ : ∃ j, i = j + 1 := ⟨i - 1, by omega⟩
      have hq := kindQ_of (j := j) (by omega) e
      rw [hq, if_pos (by omega)] at hi
      exact Ev.pos c hi
    · have hq : kindQ (wd l 0) ≠ i := fun e => by
        have := (kindQ_lt (wd l 0)).2 (by omega)
        rw [e] at this
        exact c (by rw [this])
      have e : (if kindQ (wd l 0) < i + 1 then kindQ (wd l 0) else 0) = (if kindQ (wd l 0) < i then kindQ (wd l 0) else 0) := by
        by_cases c2 : kindQ (wd l 0) < i
        · rw [if_pos c2, if_pos (by omega)]
        · rw [if_neg c2, if_neg (by omega)]
      rw [e] at hi
      exact Ev.neg c hi
theorem r_l1 (l : List ByteArray) (h4 : 4 ≤ l.length) (hl : l.length ≤ 1000000000) (hz : ∀ x ∈ l, x.size ≤ 1000000000) : Ev (fun k => graftageref56_Read.l1 k l 0 1) (readK l (kindQ (wd l 0))) := by
  have h0 : ((if kindQ (wd l 0) < 1 then kindQ (wd l 0) else 0) : Nat) = 0 := by
    by_cases c : kindQ (wd l 0) < 1
    · rw [if_pos c]; omega
    · rw [if_neg c]
  have := r_kind l h4 (readK l (kindQ (wd l 0))) ?_ 27 1 (by omega) (by omega)
  · rw [h0] at this; exact this
  refine Ev.succ ?_
  simp only [graftageref56_Read.l1, words_f, Option.bind_some, show rdOf ByteArray.empty l 1 = wd l 1 from rd_wd l 1, show rdOf ByteArray.empty l 2 = wd l 2 from rd_wd l 2]
  refine Ev.neg (by rw [kinds_len]; omega) ?_
  unfold readK
  by_cases c : kindQ (wd l 0) = 0
  · refine Ev.pos (by rw [c]; rfl) (Ev.val (Ev.pure _) (if_pos c).symm)
  · obtain ⟨p, hp, h1, h2⟩ := number_num (wd l 1)
    refine Ev.neg (by omega) (Ev.pos (by omega) (Ev.bind hp ?_))
    rw [if_neg c]
    unfold readN
    have hj := r_j2 l h4 hl hz (kindQ (wd l 0) : Nat) p.1
    by_cases c1 : p.2 = true
    · have hn := h2 c1
      rw [← h1, c1]
      refine Ev.pos rfl (Ev.pos (by omega) ?_)
      by_cases c2 : (wd l 2).toList = ([48] : List UInt8)
      · refine Ev.pos c2 (Ev.val (hj false) ?_)
        have e2 := (one_iff' _ _).1 c2
        rw [if_neg (by simp), if_neg (fun h => h.elim (fun h => by cases h) (fun h => h (Or.inl e2))), hn]
      · refine Ev.neg c2 ?_
        by_cases c3 : (wd l 2).toList = ([49] : List UInt8)
        · have e3 := (one_iff' _ _).1 c3
          rw [show ((wd l 2).toList != ([49] : List UInt8)) = false by simp [bne, c3]]
          refine Ev.val (hj false) ?_
          rw [if_neg (by simp), if_neg (fun h => h.elim (fun h => by cases h) (fun h => h (Or.inr e3))), hn]
        · rw [show ((wd l 2).toList != ([49] : List UInt8)) = true by simp [bne, c3]]
          refine Ev.val (hj true) ?_
          rw [if_pos rfl, if_pos (Or.inr (fun h => h.elim (fun h => c2 ((one_iff' _ _).2 h)) (fun h => c3 ((one_iff' _ _).2 h))))]
    · have hf : (numP (wd l 1)).2 = false := by rw [← h1]; simpa using c1
      refine Ev.neg c1 (Ev.val (hj true) ?_)
      rw [if_pos rfl, if_pos (Or.inl hf)]
theorem r_l0 (l : List ByteArray) (hl : l.length ≤ 1000000000) (h4 : 4 ≤ l.length) (r : Rd6) (h : (∀ j, j < l.length → wd l j ≠ ⟨#[]⟩) → Ev (fun k => graftageref56_Read.l1 k l 0 1) r) (hb : (∃ j, j < l.length ∧ wd l j = ⟨#[]⟩) → r = zeroE 2) : ∀ (d i : Nat), i + d = l.length → (∀ j, j < i → wd l j ≠ ⟨#[]⟩) →
    Ev (fun k => graftageref56_Read.l0 k l (i : Int)) r := by
  intro d
  induction d with
  | zero =>
    intro i hd hi
    refine Ev.succ ?_
    simp only [graftageref56_Read.l0]
    exact Ev.neg (by omega) (h (fun j hj => hi j (by omega)))
  | succ d ih =>
    intro i hd hi
    refine Ev.succ ?_
    simp only [graftageref56_Read.l0, rd_wd, up i (by omega)]
    refine Ev.pos (by omega) (Ev.pos (by omega) ?_)
    by_cases c : (wd l i).toList = ([] : List UInt8)
    · refine Ev.pos c (Ev.val (Ev.pure _) (hb ⟨i, by omega, (empty_iff _).1 c⟩).symm)
    · refine Ev.neg c (Ev.neg (by omega) (ih (i + 1) (by omega) (fun j hj => ?_)))
      by_cases e : j = i
      · rw [e]; exact fun h => c ((empty_iff _).2 h)
      · exact hi j (by omega)
theorem mem_wd {l : List ByteArray} {x : ByteArray} (h : x ∈ l) : ∃ j, j < l.length ∧ wd l j = x := by
  obtain ⟨j, hj, e⟩ := List.getElem_of_mem h
  exact ⟨j, hj, by simp [wd, hj, e]⟩
theorem read_ev (s : ByteArray) (hs : s.size ≤ 100000000) : Ev (fun k => graftageref56_Read.f k s) (readQ s) := by
  simp only [graftageref56_Read.f]
  unfold readQ
  by_cases c : 1048576 < s.size
  · exact Ev.val (Ev.pos (by omega) (Ev.pure _)) (if_pos c).symm
  · rw [if_neg c]
    refine Ev.neg (by omega) (Ev.bind (splitQ_ev s (by omega)) ?_)
    have hne := (splitQ_words s).1
    have hle := splitQ_le s
    have hz : ∀ x ∈ splitQ s, x.size ≤ 1000000000 := fun x hx => by have := splitQ_size s x hx; omega
    generalize splitQ s = l at *
    have hl : l.length ≤ 1000000000 := by omega
    unfold readL
    by_cases c1 : l.length < 4
    · rw [if_pos (Or.inl c1)]
      have hp : 0 < l.length := by cases l with | nil => exact absurd rfl hne | cons => simp
      refine Ev.succ ?_
      simp only [graftageref56_Read.l0]
      refine Ev.pos (by omega) (Ev.pos (by omega) ?_)
      by_cases c2 : (rdOf ByteArray.empty l 0).toList = ([] : List UInt8)
      · exact Ev.pos c2 (Ev.pure _)
      · exact Ev.neg c2 (Ev.pos (by omega) (Ev.pure _))
    · have h0 := r_l0 l hl (by omega) (if l.length < 4 ∨ Lib.containsS l ⟨#[]⟩ = true then zeroE 2 else readK l (kindQ (wd l 0))) (fun hn => by
          rw [if_neg (fun h => h.elim c1 (fun h => by
            obtain ⟨j, hj, e⟩ := mem_wd ((Lib.containsS_iff _ _).1 h)
            exact hn j hj e))]
          exact r_l1 l (by omega) hl hz) (fun ⟨j, hj, e⟩ => if_pos (Or.inr ((Lib.containsS_iff _ _).2 (by
            have : wd l j = l[j] := by simp [wd, hj]
            rw [← e, this]; exact List.getElem_mem _)))) l.length 0 (by omega) (fun j hj => absurd hj (by omega))
      exact h0
end Go.Proofs.YtcmemgahgenpdaaDoor.Pure
end
section
namespace Go.Proofs.YtcmemgahgenpdaaDoor.Pure
open Go.RowKit Go.Proofs.YtcmemgahgenpdaaDoor.PSc Go.Proofs.YtcmemgahgenpdaaDoor.Hand Go.Proofs.YtcmemgahgenpdaaDoorW.PrintWords Go.Proofs.YtcmemgahgenpdaaDoorW.PrintLast
set_option linter.unusedVariables false
set_option linter.unusedSimpArgs false
def flagQ (f : Bool) : ByteArray := if f = true then ⟨#[49]⟩ else ⟨#[48]⟩
theorem flag_f (f : Bool) : script_flag.f f = some (flagQ f) := by cases f <;> rfl
def tailB : List ByteArray → ByteArray
  | [] => ⟨#[]⟩
  | w :: r => ((⟨#[32]⟩ : ByteArray) ++ w) ++ tailB r
theorem joinQ_cons (x : ByteArray) (r : List ByteArray) : joinQ (x :: r) = x ++ tailB r := by
  apply Bs_inj
  rw [Bs_join, List.map_cons, Lib.join_cons, Bs_append]
  congr 1
  induction r with
  | nil => rfl
  | cons y r ih =>
    rw [tailB, Bs_append, Bs_append, ← ih]
    simp [Lib.joinTail, Bs]
theorem tailB_size (m : Nat) : ∀ (l : List ByteArray), (∀ w ∈ l, w.size ≤ m) → (tailB l).size ≤ l.length * (m + 1)
  | [], _ => by show 0 ≤ _; omega
  | w :: r, h => by
    have h1 := h w (by simp)
    have h2 := tailB_size m r (fun x hx => h x (by simp [hx]))
    rw [tailB, size_append, size_append, List.length_cons, Nat.add_mul]
    have : (⟨#[32]⟩ : ByteArray).size = 1 := rfl
    omega
theorem wordS_size (t : ByteArray) : (wordS t).size ≤ 3 * t.size + 1 := by
  unfold wordS
  split
  · show 1 ≤ _; omega
  · have := wordL_size t t.size; omega
theorem piece_len (c : UInt8) : 1 ≤ (pieceB c).length := by
  rcases piece_cases c with ⟨hp, _⟩ | ⟨h, l, hp, _⟩
  · rw [hp]; simp
  · rw [hp]; simp
theorem wordB_len (l : List UInt8) : l.length ≤ (wordB l).length := by
  induction l with
  | nil => simp
  | cons c l ih =>
    show _ ≤ (pieceB c ++ wordB l).length
    have := piece_len c
    rw [List.length_append, List.length_cons]; omega
theorem wordS_ge (t : ByteArray) : t.size ≤ (wordS t).size := by
  by_cases c : t.size = 0
  · omega
  · rw [← Bs_size (wordS t), wordS_bytes t c]
    have := wordB_len (Bs t)
    rw [Bs_size] at this; exact this
theorem itoaS_size (n : Int) (h0 : -9223372036854775808 ≤ n) (h1 : n ≤ 9223372036854775807) : (itoaS n).size ≤ 21 := by
  rw [← Bs_size]; exact Lib.itoa_length_le n h0 h1
def kindOk (i : Nat) : Bool := !(Bs (kindW i)).contains 32 && (decide ((kindW i).size ≤ 10)) && (i == 0 || decide (1 ≤ (kindW i).size))
theorem kind_all : ((List.range 28).all kindOk) = true := by kernel_rfl
theorem kind_ok (i : Nat) (h : i < 28) : NoSp (kindW i) ∧ (kindW i).size ≤ 10 ∧ (i ≠ 0 → 1 ≤ (kindW i).size) := by
  have h := List.all_eq_true.1 kind_all i (List.mem_range.2 h)
  unfold kindOk at h
  rw [Bool.and_eq_true, Bool.and_eq_true, decide_eq_true_eq, Bool.or_eq_true, decide_eq_true_eq, beq_iff_eq] at h
  refine ⟨?_, h.1.2, fun h0 => h.2.resolve_left h0⟩
  have := h.1.1
  unfold NoSp
  simpa using this
def wordsQ (k : Nat) (ar : List ByteArray) (n : Int) (f : Bool) (t : ByteArray) : List ByteArray := [kindW k, itoaS n, flagQ f, wordS t] ++ ar.map wordS
def lineQ (k : Int) (ar : List ByteArray) (n : Int) (f : Bool) (t : ByteArray) : ByteArray × Int :=
  if k < 1 ∨ 28 ≤ k then (⟨#[]⟩, 560) else if n < -1099511627776 ∨ 1099511627776 < n then (⟨#[]⟩, 1) else if 1048576 < (joinQ (wordsQ k.toNat ar n f t)).size then (⟨#[]⟩, 4) else (joinQ (wordsQ k.toNat ar n f t), 0)
structure Small (ar : List ByteArray) (t : ByteArray) : Prop where
  len : ar.length ≤ 2000000
  each : ∀ a ∈ ar, a.size ≤ 2000000
  text : t.size ≤ 2000000
theorem word_f' (s : ByteArray) (h : s.size ≤ 2000000) : script_word.f s = some (wordS s) := by
  unfold script_word.f; rw [if_pos (by omega)]
theorem itoa_f (n : Int) (h0 : -9223372036854775808 ≤ n) (h1 : n ≤ 9223372036854775807) : strconv_Itoa_20.f n = some (itoaS n) := by
  unfold strconv_Itoa_20.f; rw [if_pos ⟨h0, h1⟩]; rfl
theorem line_size {k : Nat} {ar : List ByteArray} {n : Int} {f : Bool} {t : ByteArray} (h : Small ar t) (hk : k < 28) (h0 : -1099511627776 ≤ n) (h1 : n ≤ 1099511627776) : (joinQ (wordsQ k ar n f t)).size ≤ 100000000000000 := by
  have hk := (kind_ok k hk).2.1
  have hn := itoaS_size n (by omega) (by omega)
  have ht := wordS_size t
  have htt := h.text
  have hl := h.len
  have hf : (flagQ f).size = 1 := by cases f <;> rfl
  have := tailB_size 6000001 (itoaS n :: flagQ f :: wordS t :: ar.map wordS) (fun w hw => by
    rcases List.mem_cons.1 hw with rfl | hw
    · omega
    rcases List.mem_cons.1 hw with rfl | hw
    · omega
    rcases List.mem_cons.1 hw with rfl | hw
    · omega
    obtain ⟨a, ha, rfl⟩ := List.mem_map.1 hw
    have := h.each a ha
    have := wordS_size a
    omega)
  show (joinQ (kindW k :: itoaS n :: flagQ f :: wordS t :: ar.map wordS)).size ≤ _
  rw [joinQ_cons, size_append]
  simp only [List.length_cons, List.length_map] at this
  omega
theorem s_l0 (ar : List ByteArray) (hl : ar.length ≤ 2000000) (he : ∀ a ∈ ar, a.size ≤ 2000000) (ws : List ByteArray) (hz : (joinQ (ws ++ ar.map wordS)).size ≤ 100000000000000) (hw : ws.length ≤ 10) : ∀ (d i : Nat), i + d = ar.length →
    Ev (fun k => script_Line.l0 k (ws ++ (ar.take i).map wordS) ar (ar.length : Int) (i : Int)) (if 1048576 < (joinQ (ws ++ ar.map wordS)).size then (⟨#[]⟩, 4) else (joinQ (ws ++ ar.map wordS), 0)) := by
  intro d
  induction d with
  | zero =>
    intro i hd
    obtain rfl : i = ar.length := by omega
    rw [List.take_length]
    refine Ev.succ ?_
    simp only [script_Line.l0]
    refine Ev.neg (by omega) ?_
    have hj : script_joined.f (ws ++ ar.map wordS) = some (joinQ (ws ++ ar.map wordS)) := by
      unfold script_joined.f
      rw [if_pos ⟨by simp; omega, by omega⟩]
    rw [hj]
    simp only [Option.bind_some]
    by_cases c : 1048576 < (joinQ (ws ++ ar.map wordS)).size
    · exact Ev.val (Ev.pos (by omega) (Ev.pure _)) (if_pos c).symm
    · exact Ev.val (Ev.neg (by omega) (Ev.pure _)) (if_neg c).symm
  | succ d ih =>
    intro i hd
    have hlt : i < ar.length := by omega
    have h := ih (i + 1) (by omega)
    rw [List.take_add_one, List.getElem?_eq_getElem hlt, List.map_append, ← List.append_assoc] at h
    have hr : rdOf ByteArray.empty ar (i : Int) = ar[i] := by rw [rd_wd]; simp [wd, hlt]
    refine Ev.succ ?_
    simp only [script_Line.l0, hr, word_f' _ (he _ (List.getElem_mem hlt)), Option.bind_some, up i (by omega)]
    refine Ev.pos (by omega) (Ev.pos (by omega) (Ev.pos (by omega) (Ev.pos (by simp; omega) ?_)))
    exact h
theorem line_s (k : Int) (ar : List ByteArray) (n : Int) (f : Bool) (t : ByteArray) (h : Small ar t) : Ev (fun r => script_Line.f r k ar n f t) (lineQ k ar n f t) := by
  simp only [script_Line.f, kinds_f, Option.bind_some]
  have bad : Ev (fun r => script_Line.j0 r kindsL true k ar n f t) ((⟨#[]⟩ : ByteArray), 560) := Ev.succ (Ev.of fun r => by rw [script_Line.j0, if_pos rfl])
  unfold lineQ
  by_cases c1 : k < 1
  · exact Ev.pos c1 (Ev.val bad (if_pos (Or.inl c1)).symm)
  · refine Ev.neg c1 ?_
    by_cases c2 : 28 ≤ k
    · rw [if_pos (Or.inr c2), decide_eq_true (show k ≥ (kindsL.length : Int) by rw [kinds_len]; omega)]
      exact bad
    · rw [if_neg (fun h => h.elim c1 c2), decide_eq_false (show ¬ k ≥ (kindsL.length : Int) by rw [kinds_len]; omega)]
      refine Ev.succ ?_
      simp only [script_Line.j0]
      refine Ev.neg (by simp) ?_
      by_cases c3 : n < -1099511627776
      · exact Ev.pos c3 (Ev.val (Ev.pure _) (if_pos (Or.inl c3)).symm)
      · refine Ev.neg c3 ?_
        by_cases c4 : 1099511627776 < n
        · exact Ev.pos c4 (Ev.val (Ev.pure _) (if_pos (Or.inr c4)).symm)
        · rw [if_neg (fun h => h.elim c3 c4)]
          obtain ⟨m, rfl⟩ : ∃ m : Nat, k = m := ⟨k.toNat, by omega⟩
          refine Ev.neg c4 (Ev.pos (by omega) (Ev.pos (by rw [kinds_len]; omega) ?_))
          simp only [itoa_f n (by omega) (by omega), flag_f, word_f' t h.text, Option.bind_some, kindW_rd]
          have hz := line_size (k := m) (f := f) h (by omega) (show -1099511627776 ≤ n by omega) (by omega)
          have := s_l0 ar h.len h.each [kindW m, itoaS n, flagQ f, wordS t] hz (by simp) ar.length 0 (by omega)
          rw [List.take_zero, List.map_nil, List.append_nil] at this
          exact this
theorem line_read (s : ByteArray) (hs : s.size ≤ 10000) {k n e : Int} {ar : List ByteArray} {f : Bool} {t : ByteArray} (h : readQ s = (k, ar, n, f, t, e)) : Small ar t ∧ (e = 0 → lineQ k ar n f t = (s, 0)) := by
  have zero : ∀ c, c ≠ 0 → zeroE c = (k, ar, n, f, t, e) → Small ar t ∧ (e = 0 → lineQ k ar n f t = (s, 0)) := by
    intro c hc hz
    unfold zeroE at hz
    simp only [Prod.mk.injEq] at hz
    obtain ⟨rfl, rfl, rfl, rfl, rfl, rfl⟩ := hz
    exact ⟨⟨by simp, by simp, by show 0 ≤ _; omega⟩, fun h => absurd h hc⟩
  unfold readQ at h
  rw [if_neg (by omega)] at h
  obtain ⟨w0, w1, w2⟩ := splitQ_words s
  have hle := splitQ_le s
  have hsz := splitQ_size s
  generalize splitQ s = l at *
  unfold readL at h
  by_cases c1 : l.length < 4 ∨ Lib.containsS l ⟨#[]⟩ = true
  · rw [if_pos c1] at h; exact zero 2 (by decide) h
  rw [if_neg c1] at h
  have h4 : 4 ≤ l.length := by omega
  unfold readK at h
  by_cases c2 : kindQ (wd l 0) = 0
  · rw [if_pos c2] at h; exact zero 560 (by decide) h
  rw [if_neg c2] at h
  unfold readN at h
  by_cases c3 : (numP (wd l 1)).2 = false ∨ ¬(wd l 2 = ⟨#[48]⟩ ∨ wd l 2 = ⟨#[49]⟩)
  · rw [if_pos c3] at h; exact zero 2 (by decide) h
  rw [if_neg c3] at h
  unfold readW at h
  by_cases c4 : (l.drop 3).all okQ = true
  · rw [if_pos c4] at h
    simp only [Prod.mk.injEq] at h
    obtain ⟨rfl, rfl, rfl, rfl, rfl, rfl⟩ := h
    match l, h4 with
    | a :: b :: c :: d :: r, _ =>
      have e3 : (a :: b :: c :: d :: r).drop 3 = d :: r := rfl
      have ed : wd ((a :: b :: c :: d :: r).drop 3) 0 = d := rfl
      have e1 : ((a :: b :: c :: d :: r).drop 3).drop 1 = r := rfl
      rw [e3] at c4
      rw [ed, e1]
      have hok : ∀ x ∈ d :: r, wordS (tQ x) = x := fun x hx => textQ_true x (by have := hsz x (by simp at hx ⊢; rcases hx with rfl | hx; simp; simp [hx]); omega) (List.all_eq_true.1 c4 x hx)
      have hsm : ∀ x ∈ d :: r, (tQ x).size ≤ 10000 := fun x hx => by
        have h1 := hok x hx
        have h2 := wordS_ge (tQ x)
        rw [h1] at h2
        have := hsz x (by simp at hx ⊢; rcases hx with rfl | hx; simp; simp [hx])
        omega
      have hS : Small (r.map tQ) (tQ d) := by
        refine ⟨?_, fun a ha => ?_, ?_⟩
        · rw [List.length_map]; simp at hle; omega
        · obtain ⟨x, hx, rfl⟩ := List.mem_map.1 ha
          have := hsm x (by simp [hx]); omega
        · have := hsm d (by simp); omega
      refine ⟨hS, fun _ => ?_⟩
      have ha : wd (a :: b :: c :: d :: r) 0 = a := rfl
      have hb : wd (a :: b :: c :: d :: r) 1 = b := rfl
      have hc : wd (a :: b :: c :: d :: r) 2 = c := rfl
      rw [ha] at c2 ⊢
      rw [hb, hc] at c3 ⊢
      have hk := kindQ_lt a
      have hkk := hk.2 c2
      have hn : (numP b).2 = true := by
        cases e : (numP b).2 with
        | true => rfl
        | false => exact absurd (Or.inl e) c3
      obtain ⟨n1, n2, n3⟩ := numP_true hn
      have hnb : itoaS (numP b).1 = b := Bs_inj (by rw [n1]; rfl)
      have hfc : flagQ (decide (c = ⟨#[49]⟩)) = c := by
        have : c = ⟨#[48]⟩ ∨ c = ⟨#[49]⟩ := Decidable.byContradiction fun e => c3 (Or.inr e)
        rcases this with rfl | rfl
        · rw [decide_eq_false (fun h => by have := congrArg Bs h; simp [Bs] at this)]; rfl
        · rw [decide_eq_true rfl]; rfl
      have hwords : wordsQ (kindQ a) (r.map tQ) (numP b).1 (decide (c = ⟨#[49]⟩)) (tQ d) = a :: b :: c :: d :: r := by
        unfold wordsQ
        rw [hkk, hnb, hfc, hok d (by simp), List.map_map]
        have : r.map (wordS ∘ tQ) = r := (List.map_congr_left fun x hx => hok x (by simp [hx])).trans (List.map_id r)
        rw [this]; rfl
      unfold lineQ
      rw [if_neg (by omega), if_neg (by omega), Int.toNat_natCast, hwords, w2, if_neg (by omega)]
  · rw [if_neg c4] at h; exact zero 2 (by decide) h
theorem same_texts (l : List ByteArray) (hl : l.length ≤ 2000000) : Ev (fun k => graftageref17_SameTexts.f k l l) true := by
  have key : ∀ (d i : Nat), i + d = l.length → Ev (fun k => graftageref17_SameTexts.l0 k l l (i : Int)) true := by
    intro d
    induction d with
    | zero => intro i hd; exact Ev.succ (Ev.of fun k => by rw [graftageref17_SameTexts.l0, if_neg (by omega)])
    | succ d ih =>
      intro i hd
      refine Ev.succ (Ev.congr (fun k => ?_) (ih (i + 1) (by omega)))
      rw [graftageref17_SameTexts.l0, if_pos (by omega), if_pos (by omega), if_pos (by omega), if_pos rfl, up i (by omega)]
  simp only [graftageref17_SameTexts.f]
  exact Ev.pos (by first | trivial | rfl) (key l.length 0 (by omega))
end Go.Proofs.YtcmemgahgenpdaaDoor.Pure
end
section
namespace Go.Proofs.YtcmemgahgenpdaaDoor.PSc
open Go.Proofs.YtcmemgahgenpdaaDoor.Hand Go.RowKit Go.Proofs.YtcmemgahgenpdaaDoorW.PrintWords Go.Proofs.YtcmemgahgenpdaaDoorW.PrintLast Go.Proofs.YtcmemgahgenpdaaDoorW.PrintMore
attribute [local go_sem] max2_int min2_int max_two min_two max_three min_three max_four min_four
set_option linter.unusedVariables false
set_option linter.unusedSimpArgs false
noncomputable def graftagelaw56_ScriptReads.f (k : Nat) (a0 : ByteArray) : Option (Bool) := if (a0.size : Int) > 10000 then ((graftagelaw56_lives.f).bind fun t341 => (some t341)) else ((script_Read.f a0).bind fun bt342 => ((graftageref56_Read.f k a0).bind fun bt351 => ((graftagelaw56_lives.f).bind fun t360 => (if t360 = true then ((graftagelaw56_same.f k bt342.1 bt342.2.1 bt342.2.2.1 bt342.2.2.2.1 bt342.2.2.2.2.1 bt351.1 bt351.2.1 bt351.2.2.1 bt351.2.2.2.1 bt351.2.2.2.2.1).bind fun t361 => (if t361 = true then (if bt342.2.2.2.2.2 = bt351.2.2.2.2.2 then ((script_Line.f k bt342.1 bt342.2.1 bt342.2.2.1 bt342.2.2.2.1 bt342.2.2.2.2.1).bind fun bt362 => (if bt342.2.2.2.2.2 = 0 then (if bt362.2 = 0 then (some (bt362.1.toList == a0.toList)) else (some false)) else (some true))) else (some false)) else (some false))) else (some false)))))
set_option maxHeartbeats 8000000 in
set_option maxRecDepth 100000 in
theorem graftagelaw56_ScriptReads.calls (k : Nat) (a0 : ByteArray) (r : Bool) (w : World) (hWd : Wds w) (h : graftagelaw56_ScriptReads.f k a0 = some r) (hr : r = true) :
  Calls Tryd.prog 4 #[.string a0] w fun e w' => e = .returned (.bool r) ∧ Below w.heap.size w w' := by
 have hu24 := Tryd.underlying24
 have HB := Aside0.mk (Below.refl w.heap.size w)
 have H : (if (a0.size : Int) > 10000 then ((graftagelaw56_lives.f).bind fun t341 => (some t341)) else ((script_Read.f a0).bind fun bt342 => ((graftageref56_Read.f k a0).bind fun bt351 => ((graftagelaw56_lives.f).bind fun t360 => (if t360 = true then ((graftagelaw56_same.f k bt342.1 bt342.2.1 bt342.2.2.1 bt342.2.2.2.1 bt342.2.2.2.2.1 bt351.1 bt351.2.1 bt351.2.2.1 bt351.2.2.2.1 bt351.2.2.2.2.1).bind fun t361 => (if t361 = true then (if bt342.2.2.2.2.2 = bt351.2.2.2.2.2 then ((script_Line.f k bt342.1 bt342.2.1 bt342.2.2.1 bt342.2.2.2.1 bt342.2.2.2.2.1).bind fun bt362 => (if bt342.2.2.2.2.2 = 0 then (if bt362.2 = 0 then (some (bt362.1.toList == a0.toList)) else (some false)) else (some true))) else (some false)) else (some false))) else (some false)))))) = some r := h
 clear h
 by_cases c2 : (a0.size : Int) > 10000
 ·rw [if_pos c2] at H
  have c2b0 : decide (10000 < (a0.size : Int)) = true := decide_eq_true c2
  have c2b1 : decide (10000 < a0.size) = true := decide_eq_true (by omega)
  clear c2
  replace H := Option.bind_eq_some_iff.mp H
  obtain ⟨t341, A30, H⟩ := H
  replace H : (some t341) = some r := H
  have A3 := Aside0.mk A30
  clear A30
  obtain rfl := Option.some.inj H
  go_enter Tryd.func4, Tryd.ntmps4
  go_wp2_with (first | ((with_reducible refine gate_callee (f := 7) rfl ?_); refine goesL_ (some 12) rfl rfl Tryd.func7 (by kernel_rfl) rfl #[] rfl (by (try simp only [List.map_toArray, List.map_cons, List.map_nil]); first | done | rfl | (simp only [List.length_drop, List.length_take]; rfl)) ?_; (with_reducible refine (graftagelaw56_lives.calls  t341 _ (hWd.below (by repeat (first | (with_reducible first | exact HB.out | apply below_alloc | apply pw_below_drewN | apply below_drew1 | refine below_set ?_ GE350.out | refine below_set ?_ GE359.out | refine below_set ?_ GE364.out) | exact HB.out))) A3.out).mono ?_); rintro e w4 ⟨rfl, hb⟩; refine ⟨_, rfl, ?_⟩; have n0_ := Aside0.mk (below_step (by repeat (first | (with_reducible first | exact HB.out | apply below_alloc | apply pw_below_drewN | apply below_drew1) | exact HB.out)) hb); clear HB; have HB := n0_; clear n0_; (try clear hb); (try clear hb2); (try clear hk); (try clear hi)))
  go_ret
  exact ⟨by first | rfl | (simp [errW_none, errW_some] <;> rfl) | (simp [*, errW_none, errW_some] <;> rfl), by repeat (first | (with_reducible first | exact HB.out | apply below_alloc | apply pw_below_drewN | apply below_drew1) | exact HB.out)⟩
 ·rw [if_neg c2] at H
  have c2b0 : decide (10000 < (a0.size : Int)) = false := decide_eq_false c2
  have c2b1 : decide (10000 < a0.size) = false := decide_eq_false (by omega)
  clear c2
  replace H := Option.bind_eq_some_iff.mp H
  obtain ⟨⟨t342, t343, t346, t347, t348, t349⟩, A50, H⟩ := H
  replace H : ((graftageref56_Read.f k a0).bind fun bt351 => ((graftagelaw56_lives.f).bind fun t360 => (if t360 = true then ((graftagelaw56_same.f k t342 t343 t346 t347 t348 bt351.1 bt351.2.1 bt351.2.2.1 bt351.2.2.2.1 bt351.2.2.2.2.1).bind fun t361 => (if t361 = true then (if t349 = bt351.2.2.2.2.2 then ((script_Line.f k t342 t343 t346 t347 t348).bind fun bt362 => (if t349 = 0 then (if bt362.2 = 0 then (some (bt362.1.toList == a0.toList)) else (some false)) else (some true))) else (some false)) else (some false))) else (some false)))) = some r := H
  have A5 := Aside0.mk A50
  clear A50
  replace H := Option.bind_eq_some_iff.mp H
  obtain ⟨⟨t351, t352, t355, t356, t357, t358⟩, A60, H⟩ := H
  replace H : ((graftagelaw56_lives.f).bind fun t360 => (if t360 = true then ((graftagelaw56_same.f k t342 t343 t346 t347 t348 t351 t352 t355 t356 t357).bind fun t361 => (if t361 = true then (if t349 = t358 then ((script_Line.f k t342 t343 t346 t347 t348).bind fun bt362 => (if t349 = 0 then (if bt362.2 = 0 then (some (bt362.1.toList == a0.toList)) else (some false)) else (some true))) else (some false)) else (some false))) else (some false))) = some r := H
  have A6 := Aside0.mk A60
  clear A60
  replace H := Option.bind_eq_some_iff.mp H
  obtain ⟨t360, A70, H⟩ := H
  replace H : (if t360 = true then ((graftagelaw56_same.f k t342 t343 t346 t347 t348 t351 t352 t355 t356 t357).bind fun t361 => (if t361 = true then (if t349 = t358 then ((script_Line.f k t342 t343 t346 t347 t348).bind fun bt362 => (if t349 = 0 then (if bt362.2 = 0 then (some (bt362.1.toList == a0.toList)) else (some false)) else (some true))) else (some false)) else (some false))) else (some false)) = some r := H
  have A7 := Aside0.mk A70
  clear A70
  by_cases c8 : t360 = true
  ·subst c8
   have H1 : ((graftagelaw56_same.f k t342 t343 t346 t347 t348 t351 t352 t355 t356 t357).bind fun t361 => (if t361 = true then (if t349 = t358 then ((script_Line.f k t342 t343 t346 t347 t348).bind fun bt362 => (if t349 = 0 then (if bt362.2 = 0 then (some (bt362.1.toList == a0.toList)) else (some false)) else (some true))) else (some false)) else (some false))) = some r := by rw [if_pos rfl] at H; exact H
   clear H
   have H := H1
   clear H1
   replace H := Option.bind_eq_some_iff.mp H
   obtain ⟨t361, A90, H⟩ := H
   replace H : (if t361 = true then (if t349 = t358 then ((script_Line.f k t342 t343 t346 t347 t348).bind fun bt362 => (if t349 = 0 then (if bt362.2 = 0 then (some (bt362.1.toList == a0.toList)) else (some false)) else (some true))) else (some false)) else (some false)) = some r := H
   have A9 := Aside0.mk A90
   clear A90
   by_cases c10 : t361 = true
   ·subst c10
    have H1 : (if t349 = t358 then ((script_Line.f k t342 t343 t346 t347 t348).bind fun bt362 => (if t349 = 0 then (if bt362.2 = 0 then (some (bt362.1.toList == a0.toList)) else (some false)) else (some true))) else (some false)) = some r := by rw [if_pos rfl] at H; exact H
    clear H
    have H := H1
    clear H1
    by_cases c11 : t349 = t358
    ·rw [if_pos c11] at H
     have c11b0 : (t349 == t358) = true := beq_iff_eq.mpr c11
     have c11b1 : (t349 != t358) = false := bne_eq_false_iff_eq.mpr c11
     clear c11
     replace H := Option.bind_eq_some_iff.mp H
     obtain ⟨⟨t362, t363⟩, A120, H⟩ := H
     replace H : (if t349 = 0 then (if t363 = 0 then (some (t362.toList == a0.toList)) else (some false)) else (some true)) = some r := H
     have A12 := Aside0.mk A120
     clear A120
     by_cases c13 : t349 = 0
     ·rw [if_pos c13] at H
      have c13b0 : (t349 == 0) = true := beq_iff_eq.mpr c13
      have c13b1 : (t349 != 0) = false := bne_eq_false_iff_eq.mpr c13
      clear c13
      by_cases c14 : t363 = 0
      ·rw [if_pos c14] at H
       have c14b0 : (t363 == 0) = true := beq_iff_eq.mpr c14
       have c14b1 : (t363 != 0) = false := bne_eq_false_iff_eq.mpr c14
       clear c14
       obtain rfl := Option.some.inj H
       go_enter Tryd.func4, Tryd.ntmps4
       go_wp2_with (first | ((with_reducible refine gate_callee (f := 10) rfl ?_); refine goesL_ (some 15) rfl rfl Tryd.func10 (by kernel_rfl) rfl #[.string a0] rfl (by (try simp only [List.map_toArray, List.map_cons, List.map_nil]); first | done | rfl | (simp only [List.length_drop, List.length_take]; rfl)) ?_; (with_reducible refine (script_Read.calls a0 t342 t343 t346 t347 t348 t349 _ (hWd.below (by repeat (first | (with_reducible first | exact HB.out | apply below_alloc | apply pw_below_drewN | apply below_drew1 | refine below_set ?_ GE350.out | refine below_set ?_ GE359.out | refine below_set ?_ GE364.out) | exact HB.out))) A5.out).mono ?_); rintro e w15 ⟨v344, rfl, ho0, hb⟩; refine ⟨_, rfl, ?_⟩; have n0_ := Aside0.mk (Kd.R_lower ho0 (below_size (by repeat (first | (with_reducible first | exact HB.out | apply below_alloc | apply pw_below_drewN | apply below_drew1) | exact HB.out)))); have n1_ := Aside0.mk (below_step (by repeat (first | (with_reducible first | exact HB.out | apply below_alloc | apply pw_below_drewN | apply below_drew1) | exact HB.out)) hb); clear HB; have HO345 := n0_; have HB := n1_; clear n0_ n1_; (try clear hb); (try clear hb2); (try clear hk); (try clear hi); (try clear ho0)) | ((with_reducible refine gate_dst (N := 3) rfl ?_); refine box_event ?hg (N := 3) ?hd (cs := #[.int .i64 0, .slice none 0 0, .int .i64 0, .bool false, .string (⟨#[]⟩ : ByteArray)]) (t := 24) ?hr ?_; (case hd => rfl); (case hg => rfl); (case hr => first | (go_simp; done) | (go_simp; rfl)); intro gb350 hg w16 hbox hb; have n0_ := Aside0.mk (Kd.R_below (by (with_reducible repeat (first | apply Kd.R_alloc | apply Kd.R_drewN | apply Kd.R_drew)); exact HO345.out) hb); have n1_ := Aside0.mk (below_step (by repeat (first | (with_reducible first | exact HB.out | apply below_alloc | apply pw_below_drewN | apply below_drew1) | exact HB.out)) hb); have n2_ := Aside0.mk (hbox); have n3_ := Aside0.mk ((by rw [hg]; exact (below_size (by repeat (first | (with_reducible first | exact HB.out | apply below_alloc | apply pw_below_drewN | apply below_drew1) | exact HB.out))) : w.heap.size ≤ gb350)); have n4_ := Aside0.mk ((by rw [hg]; exact (below_size (by repeat (first | (with_reducible first | exact HB.out | apply below_alloc | apply pw_below_drewN | apply below_drew1) | exact HB.out))) : w.heap.size ≤ gb350)); clear HO345; clear HB; have HO345 := n0_; have HB := n1_; have BK350 := n2_; have GW350 := n3_; have GE350 := n4_; clear n0_ n1_ n2_ n3_ n4_; clear hb hbox hg; have hcz17_0 : w16.cell? ⟨gb350, 0, none⟩ = some (.int .i64 0) := (blk_cell BK350.out 0).trans rfl; have hcz17_1 : w16.cell? ⟨gb350, 1, none⟩ = some (.slice none 0 0) := (blk_cell BK350.out 1).trans rfl; have hcz17_2 : w16.cell? ⟨gb350, 2, none⟩ = some (.int .i64 0) := (blk_cell BK350.out 2).trans rfl; have hcz17_3 : w16.cell? ⟨gb350, 3, none⟩ = some (.bool false) := (blk_cell BK350.out 3).trans rfl; have hcz17_4 : w16.cell? ⟨gb350, 4, none⟩ = some (.string (⟨#[]⟩ : ByteArray)) := (blk_cell BK350.out 4).trans rfl; have hfz17_0 := blk_frozen BK350.out 0; have hfz17_1 := blk_frozen BK350.out 1; have hfz17_2 := blk_frozen BK350.out 2; have hfz17_3 := blk_frozen BK350.out 3; have hfz17_4 := blk_frozen BK350.out 4; obtain ⟨Ao18, co18, eo18⟩ := Kd.R_slice HO345.out; subst eo18) | ((with_reducible refine gate_callee (f := 12) rfl ?_); refine goesL_ (some 20) rfl rfl Tryd.func12 (by kernel_rfl) rfl #[.string a0] rfl (by (try simp only [List.map_toArray, List.map_cons, List.map_nil]); first | done | rfl | (simp only [List.length_drop, List.length_take]; rfl)) ?_; (with_reducible refine (graftageref56_Read.calls k a0 t351 t352 t355 t356 t357 t358 _ A6.out).mono ?_); rintro e w19 ⟨v353, rfl, ho0, hb⟩; refine ⟨_, rfl, ?_⟩; have n0_ := Aside0.mk (Kd.R_elder' (by (with_reducible repeat (first | apply Kd.R_alloc | apply Kd.R_drewN | apply Kd.R_drew)); exact (Kd.R_mono (Kd.R_far (p := ⟨gb350, 4, none⟩) (Kd.R_far (p := ⟨gb350, 3, none⟩) (Kd.R_far (p := ⟨gb350, 2, none⟩) (Kd.R_far (p := ⟨gb350, 1, none⟩) (Kd.R_far (p := ⟨gb350, 0, none⟩) (Kd.R_types HO345.out BK350.out (by decide)) (fun _ hk => hk.2) (.int .i64 t342)) (fun _ hk => hk.2) (.slice Ao18 t343.length co18)) (fun _ hk => hk.2) (.int .i64 t346)) (fun _ hk => hk.2) (.bool t347)) (fun _ hk => hk.2) (.string t348)) (fun _ h_ => h_.1))) (Kd.R_base ho0) hb); have n1_ := Aside0.mk (Kd.R_lower (Kd.R_new' ho0 (Kd.R_lt (by (with_reducible repeat (first | apply Kd.R_alloc | apply Kd.R_drewN | apply Kd.R_drew)); exact (Kd.R_mono (Kd.R_far (p := ⟨gb350, 4, none⟩) (Kd.R_far (p := ⟨gb350, 3, none⟩) (Kd.R_far (p := ⟨gb350, 2, none⟩) (Kd.R_far (p := ⟨gb350, 1, none⟩) (Kd.R_far (p := ⟨gb350, 0, none⟩) (Kd.R_types HO345.out BK350.out (by decide)) (fun _ hk => hk.2) (.int .i64 t342)) (fun _ hk => hk.2) (.slice Ao18 t343.length co18)) (fun _ hk => hk.2) (.int .i64 t346)) (fun _ hk => hk.2) (.bool t347)) (fun _ hk => hk.2) (.string t348)) (fun _ h_ => h_.1))))) (below_size (by repeat (first | (with_reducible first | exact HB.out | apply below_alloc | apply pw_below_drewN | apply below_drew1 | refine below_set ?_ GE350.out) | exact HB.out)))); have n2_ := Aside0.mk (blk_below (g := gb350) (o := .cells #[.int .i64 t342, .slice Ao18 t343.length co18, .int .i64 t346, .bool t347, .string t348] 24 (0, 0)) (by (with_reducible repeat (first | refine blk_drewN ?_ _ | refine blk_drew ?_ | refine blk_alloc ?_ _)); refine blk_put (cs := #[.int .i64 t342, .slice Ao18 t343.length co18, .int .i64 t346, .bool t347, .string (⟨#[]⟩ : ByteArray)]) ?_ 4 _ rfl; (with_reducible repeat (first | refine blk_drewN ?_ _ | refine blk_drew ?_ | refine blk_alloc ?_ _)); refine blk_put (cs := #[.int .i64 t342, .slice Ao18 t343.length co18, .int .i64 t346, .bool false, .string (⟨#[]⟩ : ByteArray)]) ?_ 3 _ rfl; (with_reducible repeat (first | refine blk_drewN ?_ _ | refine blk_drew ?_ | refine blk_alloc ?_ _)); refine blk_put (cs := #[.int .i64 t342, .slice Ao18 t343.length co18, .int .i64 0, .bool false, .string (⟨#[]⟩ : ByteArray)]) ?_ 2 _ rfl; (with_reducible repeat (first | refine blk_drewN ?_ _ | refine blk_drew ?_ | refine blk_alloc ?_ _)); refine blk_put (cs := #[.int .i64 t342, .slice none 0 0, .int .i64 0, .bool false, .string (⟨#[]⟩ : ByteArray)]) ?_ 1 _ rfl; (with_reducible repeat (first | refine blk_drewN ?_ _ | refine blk_drew ?_ | refine blk_alloc ?_ _)); refine blk_put (cs := #[.int .i64 0, .slice none 0 0, .int .i64 0, .bool false, .string (⟨#[]⟩ : ByteArray)]) ?_ 0 _ rfl; (with_reducible repeat (first | refine blk_drewN ?_ _ | refine blk_drew ?_ | refine blk_alloc ?_ _)); exact BK350.out) hb); have n3_ := Aside0.mk (below_step (by repeat (first | (with_reducible first | exact HB.out | apply below_alloc | apply pw_below_drewN | apply below_drew1 | refine below_set ?_ GE350.out) | exact HB.out)) hb); clear HO345; clear BK350; clear HB; have HO345 := n0_; have HO354 := n1_; have BK350 := n2_; have HB := n3_; clear n0_ n1_ n2_ n3_; (try clear hb); (try clear hb2); (try clear hk); (try clear hi); (try clear ho0)) | ((with_reducible refine gate_dst (N := 5) rfl ?_); refine box_event ?hg (N := 5) ?hd (cs := #[.int .i64 0, .slice none 0 0, .int .i64 0, .bool false, .string (⟨#[]⟩ : ByteArray)]) (t := 24) ?hr ?_; (case hd => rfl); (case hg => rfl); (case hr => first | (go_simp; done) | (go_simp; rfl)); intro gb359 hg w20 hbox hb; have n0_ := Aside0.mk (Kd.R_below (by (with_reducible repeat (first | apply Kd.R_alloc | apply Kd.R_drewN | apply Kd.R_drew)); exact HO345.out) hb); have n1_ := Aside0.mk (Kd.R_below (by (with_reducible repeat (first | apply Kd.R_alloc | apply Kd.R_drewN | apply Kd.R_drew)); exact HO354.out) hb); have n2_ := Aside0.mk (blk_below (g := gb350) (o := .cells #[.int .i64 t342, .slice Ao18 t343.length co18, .int .i64 t346, .bool t347, .string t348] 24 (0, 0)) (by (with_reducible repeat (first | refine blk_drewN ?_ _ | refine blk_drew ?_ | refine blk_alloc ?_ _)); exact BK350.out) hb); have n3_ := Aside0.mk (below_step (by repeat (first | (with_reducible first | exact HB.out | apply below_alloc | apply pw_below_drewN | apply below_drew1 | refine below_set ?_ GE350.out) | exact HB.out)) hb); have n4_ := Aside0.mk (hbox); have n5_ := Aside0.mk ((by rw [hg]; exact (below_size (by repeat (first | (with_reducible first | exact HB.out | apply below_alloc | apply pw_below_drewN | apply below_drew1 | refine below_set ?_ GE350.out) | exact HB.out))) : w.heap.size ≤ gb359)); have n6_ := Aside0.mk ((by rw [hg]; exact (below_size (by repeat (first | (with_reducible first | exact HB.out | apply below_alloc | apply pw_below_drewN | apply below_drew1 | refine below_set ?_ GE350.out) | exact HB.out))) : w.heap.size ≤ gb359)); have n7_ := Aside0.mk ((by rw [hg]; exact Nat.ne_of_lt (blk_lt (g := gb350) (o := .cells #[.int .i64 t342, .slice Ao18 t343.length co18, .int .i64 t346, .bool t347, .string t348] 24 (0, 0)) (by (with_reducible repeat (first | refine blk_drewN ?_ _ | refine blk_drew ?_ | refine blk_alloc ?_ _)); exact BK350.out)) : gb350 ≠ gb359)); have n8_ := Aside0.mk ((by rw [hg]; exact Nat.ne_of_gt (blk_lt (g := gb350) (o := .cells #[.int .i64 t342, .slice Ao18 t343.length co18, .int .i64 t346, .bool t347, .string t348] 24 (0, 0)) (by (with_reducible repeat (first | refine blk_drewN ?_ _ | refine blk_drew ?_ | refine blk_alloc ?_ _)); exact BK350.out)) : gb359 ≠ gb350)); clear HO345; clear HO354; clear BK350; clear HB; have HO345 := n0_; have HO354 := n1_; have BK350 := n2_; have HB := n3_; have BK359 := n4_; have GW359 := n5_; have GE359 := n6_; have NB350_359 := n7_; have NB359_350 := n8_; clear n0_ n1_ n2_ n3_ n4_ n5_ n6_ n7_ n8_; clear hb hbox hg; have hnb21 := NB359_350.out; have hnc21 := NB350_359.out; have hcz22_0 : w20.cell? ⟨gb359, 0, none⟩ = some (.int .i64 0) := (blk_cell BK359.out 0).trans rfl; have hcz22_1 : w20.cell? ⟨gb359, 1, none⟩ = some (.slice none 0 0) := (blk_cell BK359.out 1).trans rfl; have hcz22_2 : w20.cell? ⟨gb359, 2, none⟩ = some (.int .i64 0) := (blk_cell BK359.out 2).trans rfl; have hcz22_3 : w20.cell? ⟨gb359, 3, none⟩ = some (.bool false) := (blk_cell BK359.out 3).trans rfl; have hcz22_4 : w20.cell? ⟨gb359, 4, none⟩ = some (.string (⟨#[]⟩ : ByteArray)) := (blk_cell BK359.out 4).trans rfl; have hfz22_0 := blk_frozen BK359.out 0; have hfz22_1 := blk_frozen BK359.out 1; have hfz22_2 := blk_frozen BK359.out 2; have hfz22_3 := blk_frozen BK359.out 3; have hfz22_4 := blk_frozen BK359.out 4; obtain ⟨Ao23, co23, eo23⟩ := Kd.R_slice HO354.out; subst eo23) | ((with_reducible refine gate_callee (f := 7) rfl ?_); refine goesL_ (some 23) rfl rfl Tryd.func7 (by kernel_rfl) rfl #[] rfl (by (try simp only [List.map_toArray, List.map_cons, List.map_nil]); first | done | rfl | (simp only [List.length_drop, List.length_take]; rfl)) ?_; (with_reducible refine (graftagelaw56_lives.calls  true _ (hWd.below (by repeat (first | (with_reducible first | exact HB.out | apply below_alloc | apply pw_below_drewN | apply below_drew1 | refine below_set ?_ GE350.out | refine below_set ?_ GE359.out | refine below_set ?_ GE364.out) | exact HB.out))) A7.out).mono ?_); rintro e w24 ⟨rfl, hb⟩; refine ⟨_, rfl, ?_⟩; have n0_ := Aside0.mk (Kd.R_below (by (with_reducible repeat (first | apply Kd.R_alloc | apply Kd.R_drewN | apply Kd.R_drew)); exact (Kd.R_mono (Kd.R_far (p := ⟨gb359, 4, none⟩) (Kd.R_far (p := ⟨gb359, 3, none⟩) (Kd.R_far (p := ⟨gb359, 2, none⟩) (Kd.R_far (p := ⟨gb359, 1, none⟩) (Kd.R_far (p := ⟨gb359, 0, none⟩) (Kd.R_types HO345.out BK359.out (by decide)) (fun _ hk => hk.2) (.int .i64 t351)) (fun _ hk => hk.2) (.slice Ao23 t352.length co23)) (fun _ hk => hk.2) (.int .i64 t355)) (fun _ hk => hk.2) (.bool t356)) (fun _ hk => hk.2) (.string t357)) (fun _ h_ => h_.1))) hb); have n1_ := Aside0.mk (Kd.R_below (by (with_reducible repeat (first | apply Kd.R_alloc | apply Kd.R_drewN | apply Kd.R_drew)); exact (Kd.R_mono (Kd.R_far (p := ⟨gb359, 4, none⟩) (Kd.R_far (p := ⟨gb359, 3, none⟩) (Kd.R_far (p := ⟨gb359, 2, none⟩) (Kd.R_far (p := ⟨gb359, 1, none⟩) (Kd.R_far (p := ⟨gb359, 0, none⟩) (Kd.R_types HO354.out BK359.out (by decide)) (fun _ hk => hk.2) (.int .i64 t351)) (fun _ hk => hk.2) (.slice Ao23 t352.length co23)) (fun _ hk => hk.2) (.int .i64 t355)) (fun _ hk => hk.2) (.bool t356)) (fun _ hk => hk.2) (.string t357)) (fun _ h_ => h_.1))) hb); have n2_ := Aside0.mk (blk_below (g := gb350) (o := .cells #[.int .i64 t342, .slice Ao18 t343.length co18, .int .i64 t346, .bool t347, .string t348] 24 (0, 0)) (by (with_reducible repeat (first | refine blk_drewN ?_ _ | refine blk_drew ?_ | refine blk_alloc ?_ _)); refine blk_far ?_ NB350_359.out _; (with_reducible repeat (first | refine blk_drewN ?_ _ | refine blk_drew ?_ | refine blk_alloc ?_ _)); refine blk_far ?_ NB350_359.out _; (with_reducible repeat (first | refine blk_drewN ?_ _ | refine blk_drew ?_ | refine blk_alloc ?_ _)); refine blk_far ?_ NB350_359.out _; (with_reducible repeat (first | refine blk_drewN ?_ _ | refine blk_drew ?_ | refine blk_alloc ?_ _)); refine blk_far ?_ NB350_359.out _; (with_reducible repeat (first | refine blk_drewN ?_ _ | refine blk_drew ?_ | refine blk_alloc ?_ _)); refine blk_far ?_ NB350_359.out _; (with_reducible repeat (first | refine blk_drewN ?_ _ | refine blk_drew ?_ | refine blk_alloc ?_ _)); exact BK350.out) hb); have n3_ := Aside0.mk (blk_below (g := gb359) (o := .cells #[.int .i64 t351, .slice Ao23 t352.length co23, .int .i64 t355, .bool t356, .string t357] 24 (0, 0)) (by (with_reducible repeat (first | refine blk_drewN ?_ _ | refine blk_drew ?_ | refine blk_alloc ?_ _)); refine blk_put (cs := #[.int .i64 t351, .slice Ao23 t352.length co23, .int .i64 t355, .bool t356, .string (⟨#[]⟩ : ByteArray)]) ?_ 4 _ rfl; (with_reducible repeat (first | refine blk_drewN ?_ _ | refine blk_drew ?_ | refine blk_alloc ?_ _)); refine blk_put (cs := #[.int .i64 t351, .slice Ao23 t352.length co23, .int .i64 t355, .bool false, .string (⟨#[]⟩ : ByteArray)]) ?_ 3 _ rfl; (with_reducible repeat (first | refine blk_drewN ?_ _ | refine blk_drew ?_ | refine blk_alloc ?_ _)); refine blk_put (cs := #[.int .i64 t351, .slice Ao23 t352.length co23, .int .i64 0, .bool false, .string (⟨#[]⟩ : ByteArray)]) ?_ 2 _ rfl; (with_reducible repeat (first | refine blk_drewN ?_ _ | refine blk_drew ?_ | refine blk_alloc ?_ _)); refine blk_put (cs := #[.int .i64 t351, .slice none 0 0, .int .i64 0, .bool false, .string (⟨#[]⟩ : ByteArray)]) ?_ 1 _ rfl; (with_reducible repeat (first | refine blk_drewN ?_ _ | refine blk_drew ?_ | refine blk_alloc ?_ _)); refine blk_put (cs := #[.int .i64 0, .slice none 0 0, .int .i64 0, .bool false, .string (⟨#[]⟩ : ByteArray)]) ?_ 0 _ rfl; (with_reducible repeat (first | refine blk_drewN ?_ _ | refine blk_drew ?_ | refine blk_alloc ?_ _)); exact BK359.out) hb); have n4_ := Aside0.mk (below_step (by repeat (first | (with_reducible first | exact HB.out | apply below_alloc | apply pw_below_drewN | apply below_drew1 | refine below_set ?_ GE350.out | refine below_set ?_ GE359.out) | exact HB.out)) hb); clear HO345; clear HO354; clear BK350; clear BK359; clear HB; have HO345 := n0_; have HO354 := n1_; have BK350 := n2_; have BK359 := n3_; have HB := n4_; clear n0_ n1_ n2_ n3_ n4_; (try clear hb); (try clear hb2); (try clear hk); (try clear hi); have hcz25_0 : w24.cell? ⟨gb350, 0, none⟩ = some (.int .i64 t342) := (blk_cell BK350.out 0).trans rfl; have hcz25_1 : w24.cell? ⟨gb350, 1, none⟩ = some (.slice Ao18 t343.length co18) := (blk_cell BK350.out 1).trans rfl; have hcz25_2 : w24.cell? ⟨gb350, 2, none⟩ = some (.int .i64 t346) := (blk_cell BK350.out 2).trans rfl; have hcz25_3 : w24.cell? ⟨gb350, 3, none⟩ = some (.bool t347) := (blk_cell BK350.out 3).trans rfl; have hcz25_4 : w24.cell? ⟨gb350, 4, none⟩ = some (.string t348) := (blk_cell BK350.out 4).trans rfl; have hfz25_0 := blk_frozen BK350.out 0; have hfz25_1 := blk_frozen BK350.out 1; have hfz25_2 := blk_frozen BK350.out 2; have hfz25_3 := blk_frozen BK350.out 3; have hfz25_4 := blk_frozen BK350.out 4; have hcz26_0 : w24.cell? ⟨gb359, 0, none⟩ = some (.int .i64 t351) := (blk_cell BK359.out 0).trans rfl; have hcz26_1 : w24.cell? ⟨gb359, 1, none⟩ = some (.slice Ao23 t352.length co23) := (blk_cell BK359.out 1).trans rfl; have hcz26_2 : w24.cell? ⟨gb359, 2, none⟩ = some (.int .i64 t355) := (blk_cell BK359.out 2).trans rfl; have hcz26_3 : w24.cell? ⟨gb359, 3, none⟩ = some (.bool t356) := (blk_cell BK359.out 3).trans rfl; have hcz26_4 : w24.cell? ⟨gb359, 4, none⟩ = some (.string t357) := (blk_cell BK359.out 4).trans rfl; have hfz26_0 := blk_frozen BK359.out 0; have hfz26_1 := blk_frozen BK359.out 1; have hfz26_2 := blk_frozen BK359.out 2; have hfz26_3 := blk_frozen BK359.out 3; have hfz26_4 := blk_frozen BK359.out 4) | (go_at_call 11; (with_reducible refine (graftagelaw56_same.calls k t342 _ _ t343 t346 t347 t348 t351 _ _ t352 t355 t356 t357 true _ ?side1 ?side2 ?side3 ?side4 A9.out).mono ?_); (case side1 => repeat (first | exact (Kd.R_reads' HO345.out).2.2 | (with_reducible refine Kd.C_alloc ?_ _) | (with_reducible refine Kd.C_drewN ?_ _) | (with_reducible refine Kd.C_drew ?_))); (case side2 => exact (Kd.R_reads' HO345.out).2.1); (case side3 => repeat (first | exact (Kd.R_reads' HO354.out).2.2 | (with_reducible refine Kd.C_alloc ?_ _) | (with_reducible refine Kd.C_drewN ?_ _) | (with_reducible refine Kd.C_drew ?_))); (case side4 => exact (Kd.R_reads' HO354.out).2.1); rintro e w27 ⟨rfl, hb⟩; have n0_ := Aside0.mk (Kd.R_below (by (with_reducible repeat (first | apply Kd.R_alloc | apply Kd.R_drewN | apply Kd.R_drew)); exact HO345.out) hb); have n1_ := Aside0.mk (Kd.R_below (by (with_reducible repeat (first | apply Kd.R_alloc | apply Kd.R_drewN | apply Kd.R_drew)); exact HO354.out) hb); have n2_ := Aside0.mk (blk_below (g := gb350) (o := .cells #[.int .i64 t342, .slice Ao18 t343.length co18, .int .i64 t346, .bool t347, .string t348] 24 (0, 0)) (by (with_reducible repeat (first | refine blk_drewN ?_ _ | refine blk_drew ?_ | refine blk_alloc ?_ _)); exact BK350.out) hb); have n3_ := Aside0.mk (blk_below (g := gb359) (o := .cells #[.int .i64 t351, .slice Ao23 t352.length co23, .int .i64 t355, .bool t356, .string t357] 24 (0, 0)) (by (with_reducible repeat (first | refine blk_drewN ?_ _ | refine blk_drew ?_ | refine blk_alloc ?_ _)); exact BK359.out) hb); have n4_ := Aside0.mk (below_step (by repeat (first | (with_reducible first | exact HB.out | apply below_alloc | apply pw_below_drewN | apply below_drew1 | refine below_set ?_ GE350.out | refine below_set ?_ GE359.out) | exact HB.out)) hb); clear HO345; clear HO354; clear BK350; clear BK359; clear HB; have HO345 := n0_; have HO354 := n1_; have BK350 := n2_; have BK359 := n3_; have HB := n4_; clear n0_ n1_ n2_ n3_ n4_; (try clear hb); (try clear hb2); (try clear hk); (try clear hi); have hcz28_0 : w27.cell? ⟨gb350, 0, none⟩ = some (.int .i64 t342) := (blk_cell BK350.out 0).trans rfl; have hcz28_1 : w27.cell? ⟨gb350, 1, none⟩ = some (.slice Ao18 t343.length co18) := (blk_cell BK350.out 1).trans rfl; have hcz28_2 : w27.cell? ⟨gb350, 2, none⟩ = some (.int .i64 t346) := (blk_cell BK350.out 2).trans rfl; have hcz28_3 : w27.cell? ⟨gb350, 3, none⟩ = some (.bool t347) := (blk_cell BK350.out 3).trans rfl; have hcz28_4 : w27.cell? ⟨gb350, 4, none⟩ = some (.string t348) := (blk_cell BK350.out 4).trans rfl; have hfz28_0 := blk_frozen BK350.out 0; have hfz28_1 := blk_frozen BK350.out 1; have hfz28_2 := blk_frozen BK350.out 2; have hfz28_3 := blk_frozen BK350.out 3; have hfz28_4 := blk_frozen BK350.out 4) | ((with_reducible refine gate_callee (f := 8) rfl ?_); refine goesL_ (some 38) rfl rfl Tryd.func8 (by kernel_rfl) rfl #[.agg #[.int .i64 t342, .slice Ao18 t343.length co18, .int .i64 t346, .bool t347, .string t348]] rfl (by (try simp only [List.map_toArray, List.map_cons, List.map_nil]); first | done | rfl | (simp only [List.length_drop, List.length_take]; rfl)) ?_; (with_reducible refine (script_Line.calls k t342 _ _ t343 t346 t347 t348 t362 t363 _ ?side1 ?side2 (hWd.below (by repeat (first | (with_reducible first | exact HB.out | apply below_alloc | apply pw_below_drewN | apply below_drew1 | refine below_set ?_ GE350.out | refine below_set ?_ GE359.out | refine below_set ?_ GE364.out) | exact HB.out))) A12.out).mono ?_); (case side1 => repeat (first | exact (Kd.R_reads' HO345.out).2.2 | (with_reducible refine Kd.C_alloc ?_ _) | (with_reducible refine Kd.C_drewN ?_ _) | (with_reducible refine Kd.C_drew ?_))); (case side2 => exact (Kd.R_reads' HO345.out).2.1); rintro e w29 ⟨rfl, hb⟩; refine ⟨_, rfl, ?_⟩; have n0_ := Aside0.mk (Kd.R_below (by (with_reducible repeat (first | apply Kd.R_alloc | apply Kd.R_drewN | apply Kd.R_drew)); exact HO345.out) hb); have n1_ := Aside0.mk (Kd.R_below (by (with_reducible repeat (first | apply Kd.R_alloc | apply Kd.R_drewN | apply Kd.R_drew)); exact HO354.out) hb); have n2_ := Aside0.mk (blk_below (g := gb350) (o := .cells #[.int .i64 t342, .slice Ao18 t343.length co18, .int .i64 t346, .bool t347, .string t348] 24 (0, 0)) (by (with_reducible repeat (first | refine blk_drewN ?_ _ | refine blk_drew ?_ | refine blk_alloc ?_ _)); exact BK350.out) hb); have n3_ := Aside0.mk (blk_below (g := gb359) (o := .cells #[.int .i64 t351, .slice Ao23 t352.length co23, .int .i64 t355, .bool t356, .string t357] 24 (0, 0)) (by (with_reducible repeat (first | refine blk_drewN ?_ _ | refine blk_drew ?_ | refine blk_alloc ?_ _)); exact BK359.out) hb); have n4_ := Aside0.mk (below_step (by repeat (first | (with_reducible first | exact HB.out | apply below_alloc | apply pw_below_drewN | apply below_drew1 | refine below_set ?_ GE350.out | refine below_set ?_ GE359.out) | exact HB.out)) hb); clear HO345; clear HO354; clear BK350; clear BK359; clear HB; have HO345 := n0_; have HO354 := n1_; have BK350 := n2_; have BK359 := n3_; have HB := n4_; clear n0_ n1_ n2_ n3_ n4_; (try clear hb); (try clear hb2); (try clear hk); (try clear hi)))
       go_ret
       exact ⟨by first | rfl | (simp [errW_none, errW_some] <;> rfl) | (simp [*, errW_none, errW_some] <;> rfl), by repeat (first | (with_reducible first | exact HB.out | apply below_alloc | apply pw_below_drewN | apply below_drew1 | refine below_set ?_ GE350.out | refine below_set ?_ GE359.out) | exact HB.out)⟩
      ·rw [if_neg c14] at H
       have c14b0 : (t363 == 0) = false := beq_eq_false_iff_ne.mpr c14
       have c14b1 : (t363 != 0) = true := bne_iff_ne.mpr c14
       exact absurd (H.trans (congrArg some hr)) (by decide)
     ·rw [if_neg c13] at H
      have c13b0 : (t349 == 0) = false := beq_eq_false_iff_ne.mpr c13
      have c13b1 : (t349 != 0) = true := bne_iff_ne.mpr c13
      obtain rfl := Option.some.inj H
      go_enter Tryd.func4, Tryd.ntmps4
      go_wp2_with (first | ((with_reducible refine gate_callee (f := 10) rfl ?_); refine goesL_ (some 15) rfl rfl Tryd.func10 (by kernel_rfl) rfl #[.string a0] rfl (by (try simp only [List.map_toArray, List.map_cons, List.map_nil]); first | done | rfl | (simp only [List.length_drop, List.length_take]; rfl)) ?_; (with_reducible refine (script_Read.calls a0 t342 t343 t346 t347 t348 t349 _ (hWd.below (by repeat (first | (with_reducible first | exact HB.out | apply below_alloc | apply pw_below_drewN | apply below_drew1 | refine below_set ?_ GE350.out | refine below_set ?_ GE359.out | refine below_set ?_ GE364.out) | exact HB.out))) A5.out).mono ?_); rintro e w30 ⟨v344, rfl, ho0, hb⟩; refine ⟨_, rfl, ?_⟩; have n0_ := Aside0.mk (Kd.R_lower ho0 (below_size (by repeat (first | (with_reducible first | exact HB.out | apply below_alloc | apply pw_below_drewN | apply below_drew1) | exact HB.out)))); have n1_ := Aside0.mk (below_step (by repeat (first | (with_reducible first | exact HB.out | apply below_alloc | apply pw_below_drewN | apply below_drew1) | exact HB.out)) hb); clear HB; have HO345 := n0_; have HB := n1_; clear n0_ n1_; (try clear hb); (try clear hb2); (try clear hk); (try clear hi); (try clear ho0)) | ((with_reducible refine gate_dst (N := 3) rfl ?_); refine box_event ?hg (N := 3) ?hd (cs := #[.int .i64 0, .slice none 0 0, .int .i64 0, .bool false, .string (⟨#[]⟩ : ByteArray)]) (t := 24) ?hr ?_; (case hd => rfl); (case hg => rfl); (case hr => first | (go_simp; done) | (go_simp; rfl)); intro gb350 hg w31 hbox hb; have n0_ := Aside0.mk (Kd.R_below (by (with_reducible repeat (first | apply Kd.R_alloc | apply Kd.R_drewN | apply Kd.R_drew)); exact HO345.out) hb); have n1_ := Aside0.mk (below_step (by repeat (first | (with_reducible first | exact HB.out | apply below_alloc | apply pw_below_drewN | apply below_drew1) | exact HB.out)) hb); have n2_ := Aside0.mk (hbox); have n3_ := Aside0.mk ((by rw [hg]; exact (below_size (by repeat (first | (with_reducible first | exact HB.out | apply below_alloc | apply pw_below_drewN | apply below_drew1) | exact HB.out))) : w.heap.size ≤ gb350)); have n4_ := Aside0.mk ((by rw [hg]; exact (below_size (by repeat (first | (with_reducible first | exact HB.out | apply below_alloc | apply pw_below_drewN | apply below_drew1) | exact HB.out))) : w.heap.size ≤ gb350)); clear HO345; clear HB; have HO345 := n0_; have HB := n1_; have BK350 := n2_; have GW350 := n3_; have GE350 := n4_; clear n0_ n1_ n2_ n3_ n4_; clear hb hbox hg; have hcz32_0 : w31.cell? ⟨gb350, 0, none⟩ = some (.int .i64 0) := (blk_cell BK350.out 0).trans rfl; have hcz32_1 : w31.cell? ⟨gb350, 1, none⟩ = some (.slice none 0 0) := (blk_cell BK350.out 1).trans rfl; have hcz32_2 : w31.cell? ⟨gb350, 2, none⟩ = some (.int .i64 0) := (blk_cell BK350.out 2).trans rfl; have hcz32_3 : w31.cell? ⟨gb350, 3, none⟩ = some (.bool false) := (blk_cell BK350.out 3).trans rfl; have hcz32_4 : w31.cell? ⟨gb350, 4, none⟩ = some (.string (⟨#[]⟩ : ByteArray)) := (blk_cell BK350.out 4).trans rfl; have hfz32_0 := blk_frozen BK350.out 0; have hfz32_1 := blk_frozen BK350.out 1; have hfz32_2 := blk_frozen BK350.out 2; have hfz32_3 := blk_frozen BK350.out 3; have hfz32_4 := blk_frozen BK350.out 4; obtain ⟨Ao33, co33, eo33⟩ := Kd.R_slice HO345.out; subst eo33) | ((with_reducible refine gate_callee (f := 12) rfl ?_); refine goesL_ (some 20) rfl rfl Tryd.func12 (by kernel_rfl) rfl #[.string a0] rfl (by (try simp only [List.map_toArray, List.map_cons, List.map_nil]); first | done | rfl | (simp only [List.length_drop, List.length_take]; rfl)) ?_; (with_reducible refine (graftageref56_Read.calls k a0 t351 t352 t355 t356 t357 t358 _ A6.out).mono ?_); rintro e w34 ⟨v353, rfl, ho0, hb⟩; refine ⟨_, rfl, ?_⟩; have n0_ := Aside0.mk (Kd.R_elder' (by (with_reducible repeat (first | apply Kd.R_alloc | apply Kd.R_drewN | apply Kd.R_drew)); exact (Kd.R_mono (Kd.R_far (p := ⟨gb350, 4, none⟩) (Kd.R_far (p := ⟨gb350, 3, none⟩) (Kd.R_far (p := ⟨gb350, 2, none⟩) (Kd.R_far (p := ⟨gb350, 1, none⟩) (Kd.R_far (p := ⟨gb350, 0, none⟩) (Kd.R_types HO345.out BK350.out (by decide)) (fun _ hk => hk.2) (.int .i64 t342)) (fun _ hk => hk.2) (.slice Ao33 t343.length co33)) (fun _ hk => hk.2) (.int .i64 t346)) (fun _ hk => hk.2) (.bool t347)) (fun _ hk => hk.2) (.string t348)) (fun _ h_ => h_.1))) (Kd.R_base ho0) hb); have n1_ := Aside0.mk (Kd.R_lower (Kd.R_new' ho0 (Kd.R_lt (by (with_reducible repeat (first | apply Kd.R_alloc | apply Kd.R_drewN | apply Kd.R_drew)); exact (Kd.R_mono (Kd.R_far (p := ⟨gb350, 4, none⟩) (Kd.R_far (p := ⟨gb350, 3, none⟩) (Kd.R_far (p := ⟨gb350, 2, none⟩) (Kd.R_far (p := ⟨gb350, 1, none⟩) (Kd.R_far (p := ⟨gb350, 0, none⟩) (Kd.R_types HO345.out BK350.out (by decide)) (fun _ hk => hk.2) (.int .i64 t342)) (fun _ hk => hk.2) (.slice Ao33 t343.length co33)) (fun _ hk => hk.2) (.int .i64 t346)) (fun _ hk => hk.2) (.bool t347)) (fun _ hk => hk.2) (.string t348)) (fun _ h_ => h_.1))))) (below_size (by repeat (first | (with_reducible first | exact HB.out | apply below_alloc | apply pw_below_drewN | apply below_drew1 | refine below_set ?_ GE350.out) | exact HB.out)))); have n2_ := Aside0.mk (blk_below (g := gb350) (o := .cells #[.int .i64 t342, .slice Ao33 t343.length co33, .int .i64 t346, .bool t347, .string t348] 24 (0, 0)) (by (with_reducible repeat (first | refine blk_drewN ?_ _ | refine blk_drew ?_ | refine blk_alloc ?_ _)); refine blk_put (cs := #[.int .i64 t342, .slice Ao33 t343.length co33, .int .i64 t346, .bool t347, .string (⟨#[]⟩ : ByteArray)]) ?_ 4 _ rfl; (with_reducible repeat (first | refine blk_drewN ?_ _ | refine blk_drew ?_ | refine blk_alloc ?_ _)); refine blk_put (cs := #[.int .i64 t342, .slice Ao33 t343.length co33, .int .i64 t346, .bool false, .string (⟨#[]⟩ : ByteArray)]) ?_ 3 _ rfl; (with_reducible repeat (first | refine blk_drewN ?_ _ | refine blk_drew ?_ | refine blk_alloc ?_ _)); refine blk_put (cs := #[.int .i64 t342, .slice Ao33 t343.length co33, .int .i64 0, .bool false, .string (⟨#[]⟩ : ByteArray)]) ?_ 2 _ rfl; (with_reducible repeat (first | refine blk_drewN ?_ _ | refine blk_drew ?_ | refine blk_alloc ?_ _)); refine blk_put (cs := #[.int .i64 t342, .slice none 0 0, .int .i64 0, .bool false, .string (⟨#[]⟩ : ByteArray)]) ?_ 1 _ rfl; (with_reducible repeat (first | refine blk_drewN ?_ _ | refine blk_drew ?_ | refine blk_alloc ?_ _)); refine blk_put (cs := #[.int .i64 0, .slice none 0 0, .int .i64 0, .bool false, .string (⟨#[]⟩ : ByteArray)]) ?_ 0 _ rfl; (with_reducible repeat (first | refine blk_drewN ?_ _ | refine blk_drew ?_ | refine blk_alloc ?_ _)); exact BK350.out) hb); have n3_ := Aside0.mk (below_step (by repeat (first | (with_reducible first | exact HB.out | apply below_alloc | apply pw_below_drewN | apply below_drew1 | refine below_set ?_ GE350.out) | exact HB.out)) hb); clear HO345; clear BK350; clear HB; have HO345 := n0_; have HO354 := n1_; have BK350 := n2_; have HB := n3_; clear n0_ n1_ n2_ n3_; (try clear hb); (try clear hb2); (try clear hk); (try clear hi); (try clear ho0)) | ((with_reducible refine gate_dst (N := 5) rfl ?_); refine box_event ?hg (N := 5) ?hd (cs := #[.int .i64 0, .slice none 0 0, .int .i64 0, .bool false, .string (⟨#[]⟩ : ByteArray)]) (t := 24) ?hr ?_; (case hd => rfl); (case hg => rfl); (case hr => first | (go_simp; done) | (go_simp; rfl)); intro gb359 hg w35 hbox hb; have n0_ := Aside0.mk (Kd.R_below (by (with_reducible repeat (first | apply Kd.R_alloc | apply Kd.R_drewN | apply Kd.R_drew)); exact HO345.out) hb); have n1_ := Aside0.mk (Kd.R_below (by (with_reducible repeat (first | apply Kd.R_alloc | apply Kd.R_drewN | apply Kd.R_drew)); exact HO354.out) hb); have n2_ := Aside0.mk (blk_below (g := gb350) (o := .cells #[.int .i64 t342, .slice Ao33 t343.length co33, .int .i64 t346, .bool t347, .string t348] 24 (0, 0)) (by (with_reducible repeat (first | refine blk_drewN ?_ _ | refine blk_drew ?_ | refine blk_alloc ?_ _)); exact BK350.out) hb); have n3_ := Aside0.mk (below_step (by repeat (first | (with_reducible first | exact HB.out | apply below_alloc | apply pw_below_drewN | apply below_drew1 | refine below_set ?_ GE350.out) | exact HB.out)) hb); have n4_ := Aside0.mk (hbox); have n5_ := Aside0.mk ((by rw [hg]; exact (below_size (by repeat (first | (with_reducible first | exact HB.out | apply below_alloc | apply pw_below_drewN | apply below_drew1 | refine below_set ?_ GE350.out) | exact HB.out))) : w.heap.size ≤ gb359)); have n6_ := Aside0.mk ((by rw [hg]; exact (below_size (by repeat (first | (with_reducible first | exact HB.out | apply below_alloc | apply pw_below_drewN | apply below_drew1 | refine below_set ?_ GE350.out) | exact HB.out))) : w.heap.size ≤ gb359)); have n7_ := Aside0.mk ((by rw [hg]; exact Nat.ne_of_lt (blk_lt (g := gb350) (o := .cells #[.int .i64 t342, .slice Ao33 t343.length co33, .int .i64 t346, .bool t347, .string t348] 24 (0, 0)) (by (with_reducible repeat (first | refine blk_drewN ?_ _ | refine blk_drew ?_ | refine blk_alloc ?_ _)); exact BK350.out)) : gb350 ≠ gb359)); have n8_ := Aside0.mk ((by rw [hg]; exact Nat.ne_of_gt (blk_lt (g := gb350) (o := .cells #[.int .i64 t342, .slice Ao33 t343.length co33, .int .i64 t346, .bool t347, .string t348] 24 (0, 0)) (by (with_reducible repeat (first | refine blk_drewN ?_ _ | refine blk_drew ?_ | refine blk_alloc ?_ _)); exact BK350.out)) : gb359 ≠ gb350)); clear HO345; clear HO354; clear BK350; clear HB; have HO345 := n0_; have HO354 := n1_; have BK350 := n2_; have HB := n3_; have BK359 := n4_; have GW359 := n5_; have GE359 := n6_; have NB350_359 := n7_; have NB359_350 := n8_; clear n0_ n1_ n2_ n3_ n4_ n5_ n6_ n7_ n8_; clear hb hbox hg; have hnb36 := NB359_350.out; have hnc36 := NB350_359.out; have hcz37_0 : w35.cell? ⟨gb359, 0, none⟩ = some (.int .i64 0) := (blk_cell BK359.out 0).trans rfl; have hcz37_1 : w35.cell? ⟨gb359, 1, none⟩ = some (.slice none 0 0) := (blk_cell BK359.out 1).trans rfl; have hcz37_2 : w35.cell? ⟨gb359, 2, none⟩ = some (.int .i64 0) := (blk_cell BK359.out 2).trans rfl; have hcz37_3 : w35.cell? ⟨gb359, 3, none⟩ = some (.bool false) := (blk_cell BK359.out 3).trans rfl; have hcz37_4 : w35.cell? ⟨gb359, 4, none⟩ = some (.string (⟨#[]⟩ : ByteArray)) := (blk_cell BK359.out 4).trans rfl; have hfz37_0 := blk_frozen BK359.out 0; have hfz37_1 := blk_frozen BK359.out 1; have hfz37_2 := blk_frozen BK359.out 2; have hfz37_3 := blk_frozen BK359.out 3; have hfz37_4 := blk_frozen BK359.out 4; obtain ⟨Ao38, co38, eo38⟩ := Kd.R_slice HO354.out; subst eo38) | ((with_reducible refine gate_callee (f := 7) rfl ?_); refine goesL_ (some 23) rfl rfl Tryd.func7 (by kernel_rfl) rfl #[] rfl (by (try simp only [List.map_toArray, List.map_cons, List.map_nil]); first | done | rfl | (simp only [List.length_drop, List.length_take]; rfl)) ?_; (with_reducible refine (graftagelaw56_lives.calls  true _ (hWd.below (by repeat (first | (with_reducible first | exact HB.out | apply below_alloc | apply pw_below_drewN | apply below_drew1 | refine below_set ?_ GE350.out | refine below_set ?_ GE359.out | refine below_set ?_ GE364.out) | exact HB.out))) A7.out).mono ?_); rintro e w39 ⟨rfl, hb⟩; refine ⟨_, rfl, ?_⟩; have n0_ := Aside0.mk (Kd.R_below (by (with_reducible repeat (first | apply Kd.R_alloc | apply Kd.R_drewN | apply Kd.R_drew)); exact (Kd.R_mono (Kd.R_far (p := ⟨gb359, 4, none⟩) (Kd.R_far (p := ⟨gb359, 3, none⟩) (Kd.R_far (p := ⟨gb359, 2, none⟩) (Kd.R_far (p := ⟨gb359, 1, none⟩) (Kd.R_far (p := ⟨gb359, 0, none⟩) (Kd.R_types HO345.out BK359.out (by decide)) (fun _ hk => hk.2) (.int .i64 t351)) (fun _ hk => hk.2) (.slice Ao38 t352.length co38)) (fun _ hk => hk.2) (.int .i64 t355)) (fun _ hk => hk.2) (.bool t356)) (fun _ hk => hk.2) (.string t357)) (fun _ h_ => h_.1))) hb); have n1_ := Aside0.mk (Kd.R_below (by (with_reducible repeat (first | apply Kd.R_alloc | apply Kd.R_drewN | apply Kd.R_drew)); exact (Kd.R_mono (Kd.R_far (p := ⟨gb359, 4, none⟩) (Kd.R_far (p := ⟨gb359, 3, none⟩) (Kd.R_far (p := ⟨gb359, 2, none⟩) (Kd.R_far (p := ⟨gb359, 1, none⟩) (Kd.R_far (p := ⟨gb359, 0, none⟩) (Kd.R_types HO354.out BK359.out (by decide)) (fun _ hk => hk.2) (.int .i64 t351)) (fun _ hk => hk.2) (.slice Ao38 t352.length co38)) (fun _ hk => hk.2) (.int .i64 t355)) (fun _ hk => hk.2) (.bool t356)) (fun _ hk => hk.2) (.string t357)) (fun _ h_ => h_.1))) hb); have n2_ := Aside0.mk (blk_below (g := gb350) (o := .cells #[.int .i64 t342, .slice Ao33 t343.length co33, .int .i64 t346, .bool t347, .string t348] 24 (0, 0)) (by (with_reducible repeat (first | refine blk_drewN ?_ _ | refine blk_drew ?_ | refine blk_alloc ?_ _)); refine blk_far ?_ NB350_359.out _; (with_reducible repeat (first | refine blk_drewN ?_ _ | refine blk_drew ?_ | refine blk_alloc ?_ _)); refine blk_far ?_ NB350_359.out _; (with_reducible repeat (first | refine blk_drewN ?_ _ | refine blk_drew ?_ | refine blk_alloc ?_ _)); refine blk_far ?_ NB350_359.out _; (with_reducible repeat (first | refine blk_drewN ?_ _ | refine blk_drew ?_ | refine blk_alloc ?_ _)); refine blk_far ?_ NB350_359.out _; (with_reducible repeat (first | refine blk_drewN ?_ _ | refine blk_drew ?_ | refine blk_alloc ?_ _)); refine blk_far ?_ NB350_359.out _; (with_reducible repeat (first | refine blk_drewN ?_ _ | refine blk_drew ?_ | refine blk_alloc ?_ _)); exact BK350.out) hb); have n3_ := Aside0.mk (blk_below (g := gb359) (o := .cells #[.int .i64 t351, .slice Ao38 t352.length co38, .int .i64 t355, .bool t356, .string t357] 24 (0, 0)) (by (with_reducible repeat (first | refine blk_drewN ?_ _ | refine blk_drew ?_ | refine blk_alloc ?_ _)); refine blk_put (cs := #[.int .i64 t351, .slice Ao38 t352.length co38, .int .i64 t355, .bool t356, .string (⟨#[]⟩ : ByteArray)]) ?_ 4 _ rfl; (with_reducible repeat (first | refine blk_drewN ?_ _ | refine blk_drew ?_ | refine blk_alloc ?_ _)); refine blk_put (cs := #[.int .i64 t351, .slice Ao38 t352.length co38, .int .i64 t355, .bool false, .string (⟨#[]⟩ : ByteArray)]) ?_ 3 _ rfl; (with_reducible repeat (first | refine blk_drewN ?_ _ | refine blk_drew ?_ | refine blk_alloc ?_ _)); refine blk_put (cs := #[.int .i64 t351, .slice Ao38 t352.length co38, .int .i64 0, .bool false, .string (⟨#[]⟩ : ByteArray)]) ?_ 2 _ rfl; (with_reducible repeat (first | refine blk_drewN ?_ _ | refine blk_drew ?_ | refine blk_alloc ?_ _)); refine blk_put (cs := #[.int .i64 t351, .slice none 0 0, .int .i64 0, .bool false, .string (⟨#[]⟩ : ByteArray)]) ?_ 1 _ rfl; (with_reducible repeat (first | refine blk_drewN ?_ _ | refine blk_drew ?_ | refine blk_alloc ?_ _)); refine blk_put (cs := #[.int .i64 0, .slice none 0 0, .int .i64 0, .bool false, .string (⟨#[]⟩ : ByteArray)]) ?_ 0 _ rfl; (with_reducible repeat (first | refine blk_drewN ?_ _ | refine blk_drew ?_ | refine blk_alloc ?_ _)); exact BK359.out) hb); have n4_ := Aside0.mk (below_step (by repeat (first | (with_reducible first | exact HB.out | apply below_alloc | apply pw_below_drewN | apply below_drew1 | refine below_set ?_ GE350.out | refine below_set ?_ GE359.out) | exact HB.out)) hb); clear HO345; clear HO354; clear BK350; clear BK359; clear HB; have HO345 := n0_; have HO354 := n1_; have BK350 := n2_; have BK359 := n3_; have HB := n4_; clear n0_ n1_ n2_ n3_ n4_; (try clear hb); (try clear hb2); (try clear hk); (try clear hi); have hcz40_0 : w39.cell? ⟨gb350, 0, none⟩ = some (.int .i64 t342) := (blk_cell BK350.out 0).trans rfl; have hcz40_1 : w39.cell? ⟨gb350, 1, none⟩ = some (.slice Ao33 t343.length co33) := (blk_cell BK350.out 1).trans rfl; have hcz40_2 : w39.cell? ⟨gb350, 2, none⟩ = some (.int .i64 t346) := (blk_cell BK350.out 2).trans rfl; have hcz40_3 : w39.cell? ⟨gb350, 3, none⟩ = some (.bool t347) := (blk_cell BK350.out 3).trans rfl; have hcz40_4 : w39.cell? ⟨gb350, 4, none⟩ = some (.string t348) := (blk_cell BK350.out 4).trans rfl; have hfz40_0 := blk_frozen BK350.out 0; have hfz40_1 := blk_frozen BK350.out 1; have hfz40_2 := blk_frozen BK350.out 2; have hfz40_3 := blk_frozen BK350.out 3; have hfz40_4 := blk_frozen BK350.out 4; have hcz41_0 : w39.cell? ⟨gb359, 0, none⟩ = some (.int .i64 t351) := (blk_cell BK359.out 0).trans rfl; have hcz41_1 : w39.cell? ⟨gb359, 1, none⟩ = some (.slice Ao38 t352.length co38) := (blk_cell BK359.out 1).trans rfl; have hcz41_2 : w39.cell? ⟨gb359, 2, none⟩ = some (.int .i64 t355) := (blk_cell BK359.out 2).trans rfl; have hcz41_3 : w39.cell? ⟨gb359, 3, none⟩ = some (.bool t356) := (blk_cell BK359.out 3).trans rfl; have hcz41_4 : w39.cell? ⟨gb359, 4, none⟩ = some (.string t357) := (blk_cell BK359.out 4).trans rfl; have hfz41_0 := blk_frozen BK359.out 0; have hfz41_1 := blk_frozen BK359.out 1; have hfz41_2 := blk_frozen BK359.out 2; have hfz41_3 := blk_frozen BK359.out 3; have hfz41_4 := blk_frozen BK359.out 4) | (go_at_call 11; (with_reducible refine (graftagelaw56_same.calls k t342 _ _ t343 t346 t347 t348 t351 _ _ t352 t355 t356 t357 true _ ?side1 ?side2 ?side3 ?side4 A9.out).mono ?_); (case side1 => repeat (first | exact (Kd.R_reads' HO345.out).2.2 | (with_reducible refine Kd.C_alloc ?_ _) | (with_reducible refine Kd.C_drewN ?_ _) | (with_reducible refine Kd.C_drew ?_))); (case side2 => exact (Kd.R_reads' HO345.out).2.1); (case side3 => repeat (first | exact (Kd.R_reads' HO354.out).2.2 | (with_reducible refine Kd.C_alloc ?_ _) | (with_reducible refine Kd.C_drewN ?_ _) | (with_reducible refine Kd.C_drew ?_))); (case side4 => exact (Kd.R_reads' HO354.out).2.1); rintro e w42 ⟨rfl, hb⟩; have n0_ := Aside0.mk (Kd.R_below (by (with_reducible repeat (first | apply Kd.R_alloc | apply Kd.R_drewN | apply Kd.R_drew)); exact HO345.out) hb); have n1_ := Aside0.mk (Kd.R_below (by (with_reducible repeat (first | apply Kd.R_alloc | apply Kd.R_drewN | apply Kd.R_drew)); exact HO354.out) hb); have n2_ := Aside0.mk (blk_below (g := gb350) (o := .cells #[.int .i64 t342, .slice Ao33 t343.length co33, .int .i64 t346, .bool t347, .string t348] 24 (0, 0)) (by (with_reducible repeat (first | refine blk_drewN ?_ _ | refine blk_drew ?_ | refine blk_alloc ?_ _)); exact BK350.out) hb); have n3_ := Aside0.mk (blk_below (g := gb359) (o := .cells #[.int .i64 t351, .slice Ao38 t352.length co38, .int .i64 t355, .bool t356, .string t357] 24 (0, 0)) (by (with_reducible repeat (first | refine blk_drewN ?_ _ | refine blk_drew ?_ | refine blk_alloc ?_ _)); exact BK359.out) hb); have n4_ := Aside0.mk (below_step (by repeat (first | (with_reducible first | exact HB.out | apply below_alloc | apply pw_below_drewN | apply below_drew1 | refine below_set ?_ GE350.out | refine below_set ?_ GE359.out) | exact HB.out)) hb); clear HO345; clear HO354; clear BK350; clear BK359; clear HB; have HO345 := n0_; have HO354 := n1_; have BK350 := n2_; have BK359 := n3_; have HB := n4_; clear n0_ n1_ n2_ n3_ n4_; (try clear hb); (try clear hb2); (try clear hk); (try clear hi); have hcz43_0 : w42.cell? ⟨gb350, 0, none⟩ = some (.int .i64 t342) := (blk_cell BK350.out 0).trans rfl; have hcz43_1 : w42.cell? ⟨gb350, 1, none⟩ = some (.slice Ao33 t343.length co33) := (blk_cell BK350.out 1).trans rfl; have hcz43_2 : w42.cell? ⟨gb350, 2, none⟩ = some (.int .i64 t346) := (blk_cell BK350.out 2).trans rfl; have hcz43_3 : w42.cell? ⟨gb350, 3, none⟩ = some (.bool t347) := (blk_cell BK350.out 3).trans rfl; have hcz43_4 : w42.cell? ⟨gb350, 4, none⟩ = some (.string t348) := (blk_cell BK350.out 4).trans rfl; have hfz43_0 := blk_frozen BK350.out 0; have hfz43_1 := blk_frozen BK350.out 1; have hfz43_2 := blk_frozen BK350.out 2; have hfz43_3 := blk_frozen BK350.out 3; have hfz43_4 := blk_frozen BK350.out 4) | ((with_reducible refine gate_callee (f := 8) rfl ?_); refine goesL_ (some 38) rfl rfl Tryd.func8 (by kernel_rfl) rfl #[.agg #[.int .i64 t342, .slice Ao33 t343.length co33, .int .i64 t346, .bool t347, .string t348]] rfl (by (try simp only [List.map_toArray, List.map_cons, List.map_nil]); first | done | rfl | (simp only [List.length_drop, List.length_take]; rfl)) ?_; (with_reducible refine (script_Line.calls k t342 _ _ t343 t346 t347 t348 t362 t363 _ ?side1 ?side2 (hWd.below (by repeat (first | (with_reducible first | exact HB.out | apply below_alloc | apply pw_below_drewN | apply below_drew1 | refine below_set ?_ GE350.out | refine below_set ?_ GE359.out | refine below_set ?_ GE364.out) | exact HB.out))) A12.out).mono ?_); (case side1 => repeat (first | exact (Kd.R_reads' HO345.out).2.2 | (with_reducible refine Kd.C_alloc ?_ _) | (with_reducible refine Kd.C_drewN ?_ _) | (with_reducible refine Kd.C_drew ?_))); (case side2 => exact (Kd.R_reads' HO345.out).2.1); rintro e w44 ⟨rfl, hb⟩; refine ⟨_, rfl, ?_⟩; have n0_ := Aside0.mk (Kd.R_below (by (with_reducible repeat (first | apply Kd.R_alloc | apply Kd.R_drewN | apply Kd.R_drew)); exact HO345.out) hb); have n1_ := Aside0.mk (Kd.R_below (by (with_reducible repeat (first | apply Kd.R_alloc | apply Kd.R_drewN | apply Kd.R_drew)); exact HO354.out) hb); have n2_ := Aside0.mk (blk_below (g := gb350) (o := .cells #[.int .i64 t342, .slice Ao33 t343.length co33, .int .i64 t346, .bool t347, .string t348] 24 (0, 0)) (by (with_reducible repeat (first | refine blk_drewN ?_ _ | refine blk_drew ?_ | refine blk_alloc ?_ _)); exact BK350.out) hb); have n3_ := Aside0.mk (blk_below (g := gb359) (o := .cells #[.int .i64 t351, .slice Ao38 t352.length co38, .int .i64 t355, .bool t356, .string t357] 24 (0, 0)) (by (with_reducible repeat (first | refine blk_drewN ?_ _ | refine blk_drew ?_ | refine blk_alloc ?_ _)); exact BK359.out) hb); have n4_ := Aside0.mk (below_step (by repeat (first | (with_reducible first | exact HB.out | apply below_alloc | apply pw_below_drewN | apply below_drew1 | refine below_set ?_ GE350.out | refine below_set ?_ GE359.out) | exact HB.out)) hb); clear HO345; clear HO354; clear BK350; clear BK359; clear HB; have HO345 := n0_; have HO354 := n1_; have BK350 := n2_; have BK359 := n3_; have HB := n4_; clear n0_ n1_ n2_ n3_ n4_; (try clear hb); (try clear hb2); (try clear hk); (try clear hi)))
      go_ret
      exact ⟨by first | rfl | (simp [errW_none, errW_some] <;> rfl) | (simp [*, errW_none, errW_some] <;> rfl), by repeat (first | (with_reducible first | exact HB.out | apply below_alloc | apply pw_below_drewN | apply below_drew1 | refine below_set ?_ GE350.out | refine below_set ?_ GE359.out) | exact HB.out)⟩
    ·rw [if_neg c11] at H
     have c11b0 : (t349 == t358) = false := beq_eq_false_iff_ne.mpr c11
     have c11b1 : (t349 != t358) = true := bne_iff_ne.mpr c11
     exact absurd (H.trans (congrArg some hr)) (by decide)
   ·replace c10 := Bool.eq_false_iff.mpr c10
    subst c10
    have H1 : (some false) = some r := by rw [if_neg (show ¬ (false = true) by decide)] at H; exact H
    clear H
    have H := H1
    clear H1
    exact absurd (H.trans (congrArg some hr)) (by decide)
  ·replace c8 := Bool.eq_false_iff.mpr c8
   subst c8
   have H1 : (some false) = some r := by rw [if_neg (show ¬ (false = true) by decide)] at H; exact H
   clear H
   have H := H1
   clear H1
   exact absurd (H.trans (congrArg some hr)) (by decide)
noncomputable def graftagelaw56_ScriptReads.Pure : Prop := ∀ (a0 : ByteArray), a0.size ≤ 140737488351232 → ∃ k, graftagelaw56_ScriptReads.f k a0 = some true
theorem graftagelaw56_ScriptReads.walk (P : graftagelaw56_ScriptReads.Pure) (a0 : ByteArray) (w : World) (hWd : Wds w) (w0 : a0.size ≤ 140737488351232) :
  Calls Tryd.prog 4 #[.string a0] w fun e w' => e = .returned (.bool true) ∧ Below w.heap.size w w' := by
 obtain ⟨k, h⟩ := P a0 w0
 refine (graftagelaw56_ScriptReads.calls k a0 true w hWd h rfl).mono ?_
 rintro e w' ⟨rfl, hd⟩
 exact ⟨rfl, hd⟩
end Go.Proofs.YtcmemgahgenpdaaDoor.PSc
end
section
namespace Go.Proofs.YtcmemgahgenpdaaDoor.Pure
open Go.RowKit Go.Proofs.YtcmemgahgenpdaaDoor.PSc Go.Proofs.YtcmemgahgenpdaaDoor.Hand Go.Proofs.YtcmemgahgenpdaaDoorW.PrintWords Go.Proofs.YtcmemgahgenpdaaDoorW.PrintLast
set_option linter.unusedVariables false
set_option linter.unusedSimpArgs false
theorem lives_f : graftagelaw56_lives.f = some true := rfl
theorem same_ev (k : Int) (ar : List ByteArray) (n : Int) (f : Bool) (t : ByteArray) (h : Small ar t) : Ev (fun r => graftagelaw56_same.f r k ar n f t k ar n f t) true := by
  simp only [graftagelaw56_same.f]
  exact Ev.pos (by first | trivial | rfl) (Ev.pos (by first | trivial | rfl) (Ev.pos (by first | trivial | simp) (Ev.pos (by first | trivial | rfl) (Ev.bind (same_texts ar h.len) (Ev.pure _)))))
theorem reads_ev (s : ByteArray) : Ev (fun k => graftagelaw56_ScriptReads.f k s) true := by
  simp only [graftagelaw56_ScriptReads.f, lives_f, Option.bind_some]
  by_cases c : s.size > 10000
  · exact Ev.pos (by omega) (Ev.pure _)
  · refine Ev.neg (by omega) ?_
    obtain ⟨k, ar, n, f, t, e, hq⟩ : ∃ k ar n f t e, readQ s = (k, ar, n, f, t, e) := ⟨_, _, _, _, _, _, rfl⟩
    have hr := read_ev s (by omega)
    obtain ⟨hS, hL⟩ := line_read s (by omega) hq
    simp only [script_Read.f, Option.bind_some]
    rw [hq] at hr ⊢
    refine Ev.bind hr (Ev.pos (by first | trivial | rfl) (Ev.bind (same_ev k ar n f t hS) (Ev.pos (by first | trivial | rfl) (Ev.pos (by first | trivial | rfl) (Ev.bind (line_s k ar n f t hS) ?_)))))
    by_cases c2 : e = 0
    · have h2 := hL c2
      rw [h2]
      exact Ev.pos c2 (Ev.pos (by first | trivial | rfl) (Ev.val (Ev.pure _) (by simp)))
    · exact Ev.neg c2 (Ev.pure _)
theorem ScriptReads : graftagelaw56_ScriptReads.Pure := fun s _ => by
  obtain ⟨n, h⟩ := reads_ev s
  exact ⟨n, h n (Nat.le_refl _)⟩
end Go.Proofs.YtcmemgahgenpdaaDoor.Pure
end
